/-
  A part of the proof: a map's size; its entries one by one, in whatever order; a method called through an interface; a type assertion that must hold; pointers held against nil; comparisons with nil of an interface, asserted types, results of functions that may panic. No condition of its own.
-/
import Derived.Test.YtnihidkbkhcfoaaGreatDoorM3
import Derived.Test.YtnihidkbkhcfoaaGreatDoorM5
import Derived.Test.YtnihidkbkhcfoaaGreatDoorM6
import Derived.Test.YtnihidkbkhcfoaaGreatDoorM2
import Derived.Test.YtnihidkbkhcfoaaGreatDoorM4
set_option linter.unusedVariables false
set_option linter.unusedSimpArgs false
set_option maxRecDepth 10000
namespace Go.Proofs.YtnihidkbkhcfoaaGreatDoor.V
open Go Go.Proofs
theorem Du:aP Tryz.prog 233:=aP.of Tryz.func233 (by kernel_rfl) (by kernel_rfl)
theorem x2:aP Tryz.prog 202:=aP.of Tryz.func202 (by kernel_rfl) (by kernel_rfl)
theorem WR:aP Tryz.prog 203:=aP.of Tryz.func203 (by kernel_rfl) (by kernel_rfl)
theorem Dv (w:World) (s:aa):Calls Tryz.prog 233 [S s].toArray w (bM fun u w'=>u = .tuple #[.int .i32 (((eK 4 s 0).getD 0:Nat):Int),.bool (eK 4 s 0).isSome]∧Mod [] w w'):=by
 refine enter Tryz.func233 rfl rfl rfl (l:=[(0,_)]) ⟨rfl,trivial⟩ ?_;have E:=Mod.refl [] w;refine ab fun aV=>ak 2 rfl (J aV (ax fun aL=>ab fun aX=>aG rfl (ag (br Tryz.underlying9 rfl) (ag (cL rfl rfl) (J aX ?_)))));refine aK rfl (fun km=>?_) (fun km=>?_)
 ·have hd:=rX 4 s 0 (by omega);exact ab fun bt=>ak 2 rfl (J bt (ba (aR (by simp) (cr rfl rfl rfl ⟨by rw [hd];rfl,E⟩))))
 refine b8 (au aL (ab fun bN=>aU rfl (J bN (ax fun b2=>ab fun cd=>aG rfl (ag (x3 (n:=4) Tryz.underlying9 rfl rfl (by omega)) (qg Tryz.underlying9 rfl rfl fun uN aB gu Qw Ov=>?_))))));have pb:w.heap.size≤uN:=by have:=E.size;omega
 replace E:=E.then Ov;refine J cd (eE (bX (σ:=Nat×Nat) (fun⟨p,n⟩=>[(4,.int .i32 (n:Int)),(13,.pointer (some ⟨uN,0,none⟩))]) (fun⟨p,n⟩ aB=>p≤4∧n<16 ^ p∧eK (4-p) ((s.take 4).drop p) n=eK 4 s 0∧A9 aB uN (s.take 4) p∧w.heap.size≤uN∧Mod [] w aB) (fun⟨p,n⟩=>4-p) (⟨0,0⟩) ⟨rfl,rfl,trivial⟩ (⟨by omega,by decide,zc 4 s 0,gu,pb,E⟩) ?_));rintro⟨p,n⟩ cO ⟨cn,aae,hinv,gu,pb,E⟩;have akP:(s.take 4).length=4:=by rw [List.length_take];omega
 refine ax fun cD=>?_
 by_cases fH:p<4
 rotate_left
 ·have lG:¬ p<(s.take 4).length:=by omega
  refine bP (lk rfl gu lG rfl (ag (eD rfl rfl) (J cD (ax fun fG=>?_))));refine a1 rfl (fun kn=>?_) (fun kn=>?_)
  ·cases kn
  skip
  exact bo (aR (by simp) (aR (by simp) (bU (au b2 (ab fun gU=>ak 3 rfl (J gU (ba (cr rfl rfl rfl ⟨by have akR:eK 4 s 0=some n:=(by rw [← hinv,show 4-p=0 by omega];rfl);rw [akR];rfl,E⟩))))))))
 obtain⟨b,aQ⟩:∃ b,(s.take 4)[p]? = some b:=⟨_,List.getElem?_eq_getElem (by omega)⟩;have yo:p<(s.take 4).length:=by omega
 by_cases nV:b.toNat<128
 rotate_left
 ·obtain⟨c,m,zi,fA,gB,rY⟩:=WQ aQ nV;refine bP (mD rfl gu yo zi rfl fun js qK AM Dw=>?_);replace E:=E.trans' AM (fun x ae=>.inr (by simp at ae;subst ae;exact pb));clear gu;have gu:=qK;refine ag (eD rfl rfl) (J cD (ax fun dO=>?_));refine a1 rfl (fun kn=>?_) (fun kn=>?_)
  ·skip
   refine b8 (au dO (eE (ab fun eH=>ak 2 rfl (J eH (ab fun ee=>aG rfl (ag ((pw rfl rfl).to (v':=.int .i32 ((c ||| 32:Nat):Int)) (congrArg (Value.int .i32) (Qj (by omega)))) (cQ (bE Dx rfl) (xg _ iH (c ||| 32) (by decide) (by decide) (by decide) (Ql gB) (Qm rY) (Qk fA)) fun jD R=>?_)))))));replace gu:=gu.I R;replace E:=E.then R;refine aU rfl (J ee (ax fun fE=>ab fun fT=>ak 2 rfl (iD (bd (by decide)) (ak 4 rfl (J fT (aF rfl ?_))))));have hd:eK 4 s 0=none:=tK (d4:=0) fH aQ (MA (by omega)) hinv;exact ab fun fF=>ak 2 rfl (J fF (ba (aR (by simp) (bz (by simp) (aR (by simp) (bz (by simp) (aR (by simp) (cr rfl rfl rfl ⟨by rw [hd];rfl,E⟩))))))))
  cases kn
 skip
 refine bP (mD rfl gu yo (dec_lt aQ nV) rfl fun gb qK AM Dw=>?_);replace E:=E.trans' AM (fun x ae=>.inr (by simp at ae;subst ae;exact pb));clear gu;have gu:=qK;refine ag (eD rfl rfl) (J cD (ax fun cJ=>?_));refine a1 rfl (fun kn=>?_) (fun kn=>?_);rotate_left
 ·cases kn
 skip
 refine b8 (au cJ (eE (ab fun cf=>ak 2 rfl (J cf (ab fun b1=>aG rfl (ag ((pw rfl rfl).to (v':=.int .i32 ((b.toNat ||| 32:Nat):Int)) (congrArg (Value.int .i32) (Qj (by omega)))) (cQ (bE Dx rfl) (Ft _ iH (b.toNat ||| 32) (Qn nV)) fun iu R=>?_)))))));replace gu:=gu.I R;replace E:=E.then R;refine aU rfl (J b1 (ax fun cX=>ab fun cb=>ak 2 rfl ?_));refine da (fun iC:Lib.indexByte iH (UInt8.ofNat (b.toNat ||| 32))<0=>?_) (fun iC=>?_)
 ·refine ak 4 rfl (J cb (aF rfl ?_));have hd:eK 4 s 0=none:=tK (d4:=0) fH aQ (KO nV (by omega)) hinv;exact ab fun cU=>ak 2 rfl (J cU (ba (aR (by simp) (bz (by simp) (aR (by simp) (bz (by simp) (aR (by simp) (cr rfl rfl rfl ⟨by rw [hd];rfl,E⟩))))))))
 refine ak 3 rfl ?_;refine da (fun nQ:(b.toNat:Int)<48=>?_) (fun nQ=>?_)
 ·refine ag (jA rfl rfl rfl) (J cb (aF rfl ?_));have hd:eK 4 s 0=none:=tK (d4:=0) fH aQ (KO nV (by omega)) hinv;exact ab fun dj=>ak 2 rfl (J dj (ba (aR (by simp) (bz (by simp) (aR (by simp) (bz (by simp) (aR (by simp) (cr rfl rfl rfl ⟨by rw [hd];rfl,E⟩))))))))
 refine ag (jA rfl rfl rfl) (J cb (aD rfl ?_));obtain⟨d,akQ,aaf,hid⟩:=Qt nV iC (by omega);rw [hid];have dU:=Iz fH aQ akQ hinv;have aqs:=MC aae (by omega);exact b8 (au cX (bP (aG rfl (ag ((zh rfl rfl (by omega)).to (v':=.int .i32 ((16*n:Nat):Int)) (congrArg (Value.int .i32) (abT (by omega)))) (aG rfl (ag ((sB Tryz.underlying3 Tryz.underlying21 rfl).to (v':=.int .i32 (d:Int)) (congrArg (Value.int .i32) (wrap32_in _ (by omega)))) (ag ((pw rfl rfl).to (v':=.int .i32 ((16*n+d:Nat):Int)) (congrArg (Value.int .i32) (abQ (by omega) aaf))) (aU rfl (cF (bz (by simp) (fK (σ:=Nat×Nat) (s:=⟨p,n⟩) (⟨p+1,16*n+d⟩) ⟨rfl,rfl,trivial⟩ ⟨by omega,abU aae aaf,dU,gu,pb,E⟩ (by dsimp only;omega))))))))))))
theorem MJ (w:World) (s:aa):Calls Tryz.prog 203 [S s].toArray w (bM fun u w'=>u = .tuple #[.int .i32 ((fV s).1:Int),.int .i64 ((fV s).2:Int)]∧Mod [] w w'):=by
 refine enter Tryz.func203 rfl rfl rfl (l:=[(0,_)]) ⟨rfl,trivial⟩ ?_;have E:=Mod.refl [] w;refine ab fun aV=>ak 2 rfl (J aV (ax fun aL=>ab fun aX=>aG rfl (ag (dG rfl rfl) (J aX ?_))));refine aK rfl (fun k9=>?_) (fun k9=>?_)
 ·subst k9;exact ab fun bt=>ak 2 rfl (J bt (ba (aR (by simp) (cr rfl rfl rfl ⟨rfl,E⟩))))
 obtain⟨c,r,rfl⟩:∃ c r,s=c::r:=by
  cases s with
  | nil=>exact absurd rfl k9
  | cons c r=>exact⟨c,r,rfl⟩
 refine b8 (au aL (ax fun bN=>ab fun b2=>aG rfl (ag (b6 (c:=c) Tryz.underlying9 rfl rfl (by decide) rfl) (cQ (bE sC rfl) (BJ _ KK c) fun aB R=>?_))));replace E:=E.then R;refine aU rfl (J b2 (ab fun cd=>aG rfl (ag (dq rfl rfl) (J cd ?_))));refine aK rfl (fun p6=>?_) (fun p6=>?_)
 ·obtain⟨i,d,bV,hi,aqt,dv,akS⟩:=(wc c).resolve_left (fun h=>absurd p6 (by have:=h.2;omega));rw [hi];exact ab fun cD=>aG rfl (ag (b6 (u:=aac) Tryz.underlying9 rfl rfl (by omega) (by rw [Int.toNat_natCast];exact dv)) (ag ((sB Tryz.underlying5 Tryz.underlying21 rfl).to (v':=.int .i32 (d:Int)) (congrArg (Value.int .i32) (by rw [UInt8.toNat_ofNat',wrap32_in _ (by omega)];omega))) (ak 2 rfl (J cD (ba (aR (by simp) (cr rfl rfl rfl ⟨by rw [BZ bV];rfl,E⟩)))))))
 have cj:rT c=none:=(wc c).elim (·.1) (fun⟨i,d,_,hi,_⟩=>absurd (show Lib.indexByte KK c≥0 by rw [hi];omega) p6);refine b8 (au bN (ab fun cJ=>aG rfl (ag ((cE (n:=1) Tryz.underlying9 rfl rfl (by simp)).to (v':=S r) rfl) (cQ (bE Du rfl) (Dv _ r) fun cO R=>?_))));replace E:=E.then R;refine ak 5 rfl (J cJ (ax fun cf=>eE (ab fun b1=>aG rfl (ag (b6 (c:=c) Tryz.underlying9 rfl rfl (by decide) rfl) (ag (fj rfl rfl) ?_)))));refine da (fun hu:(c.toNat:Int)≠117=>?_) (fun hu=>?_)
 ·refine ak 13 rfl (J b1 (aF rfl ?_));have hd:fV (_::r)=(0,0):=mg cj (by first | (left;intro e;subst e;exact hu rfl) | (right;left;simpa using hi) | (right;right;exact⟨n,qh,by omega,by omega⟩));exact ab fun cX=>ak 2 rfl (J cX (ba (bz (by simp) (aR (by simp) (cr rfl rfl rfl ⟨by rw [hd];rfl,E⟩)))))
 obtain rfl:c=117:=dt (by rw [Classical.not_not.1 hu];rfl);refine ak 3 rfl ?_;refine AJ (fun hi:((!(eK 4 r 0).isSome))=true=>?_) (fun hi=>?_)
 ·refine ak 10 rfl (J b1 (aF rfl ?_));have hd:fV (_::r)=(0,0):=mg cj (by first | (left;intro e;subst e;exact hu rfl) | (right;left;simpa using hi) | (right;right;exact⟨n,qh,by omega,by omega⟩));exact ab fun cb=>ak 2 rfl (J cb (ba (bz (by simp) (aR (by simp) (cr rfl rfl rfl ⟨by rw [hd];rfl,E⟩)))))
 obtain⟨n,qh⟩:∃ n,eK 4 r 0=some n:=Option.isSome_iff_exists.1 (by simpa using hi);have aoM:=uM qh;have akT:=wg qh;rw [qh,Option.getD_some];refine ak 3 rfl (aw (dq rfl rfl) ?_);refine da (fun A7:(n:Int)≥56320=>?_) (fun A7=>?_);rotate_left
 ·refine ak 6 rfl (J b1 (aD rfl (ab fun hB=>ak 2 rfl ?_)));refine da (fun wi:(n:Int)<55296=>?_) (fun wi=>?_)
  ·exact ak 5 rfl (J hB (aF rfl (ab fun ie=>ak 3 rfl (J ie (ba (bz (by simp) (aR (by simp) (cr rfl rfl rfl ⟨by rw [mW qh (by omega)];rfl,E⟩))))))))
  refine ak 2 rfl (aw (dq rfl rfl) ?_);refine da (fun qf:(n:Int)≥57344=>?_) (fun qf=>?_)
  ·exact ak 2 rfl (J hB (aF rfl (ab fun jO=>ak 3 rfl (J jO (ba (bz (by simp) (aR (by simp) (cr rfl rfl rfl ⟨by rw [mW qh (by omega)];rfl,E⟩))))))))
  refine ak 2 rfl (J hB (aD rfl (ab fun jP=>aG rfl (ag ((cE (n:=5) Tryz.underlying9 rfl rfl (by simp only [List.length_cons];omega)).to (v':=S (r.drop 4)) rfl) (cQ (bE uO rfl) (uP _ (r.drop 4) [92,117]) fun js R=>?_)))));replace E:=E.then R;refine ag (e4 rfl) ?_;refine AJ (fun zj:((!decide (([92,117]:aa).length≤(r.drop 4).length∧(r.drop 4).take ([92,117]:aa).length = [92,117])))=true=>?_) (fun zj=>?_)
  ·refine aU rfl (J jP (aF rfl ?_));have hd:=hW qh (by omega) (.inl (B0 (by rw [← oG];rw [Bool.not_eq_true'] at zj;exact zj)));exact ab fun la=>ak 2 rfl (J la (ba (bz (by simp) (aR (by simp) (cr rfl rfl rfl ⟨by rw [hd];rfl,E⟩)))))
  refine aU rfl (J jP (aD rfl ?_));have IB:List.isPrefixOf [92,117] (r.drop 4)=true:=by
   rw [← oG];cases bV:decide (([92,117]:aa).length≤(r.drop 4).length∧(r.drop 4).take ([92,117]:aa).length = [92,117])with
   | true=>rfl
   | false=>rw [bV] at zj;cases zj
  have zk:=zd IB;rw [List.drop_drop] at zk;have AZ:2≤(r.drop 4).length:=by
   rw [← oG,decide_eq_true_eq] at IB;exact IB.1
  rw [List.length_drop] at AZ;refine b8 (bz (by simp) (au cf (ab fun jc=>aG rfl (ag ((cE (n:=7) Tryz.underlying9 rfl rfl (by simp only [List.length_cons];omega)).to (v':=S (r.drop 6)) rfl) (cQ (bE Du rfl) (Dv _ (r.drop 6)) fun jD R=>?_)))));replace E:=E.then R;refine ak 5 rfl (J jc (ax fun kx=>ab fun lb=>ak 2 rfl ?_));refine AJ (fun dY:((!(eK 4 (r.drop 6) 0).isSome))=true=>?_) (fun dY=>?_)
  ·refine ak 8 rfl (J lb (aF rfl ?_));have hd:=hW qh (by omega) (by rw [zk];first | (left;simpa using dY) | (right;exact⟨m,oH,by omega⟩));exact ab fun jQ=>ak 2 rfl (J jQ (ba (aR (by simp) (cr rfl rfl rfl ⟨by rw [hd];rfl,E⟩))))
  obtain⟨m,oH⟩:∃ m,eK 4 (r.drop 6) 0=some m:=Option.isSome_iff_exists.1 (by simpa using dY);have agw:=uM oH;rw [oH,Option.getD_some];refine ak 3 rfl ?_;refine da (fun oI:(m:Int)<56320=>?_) (fun oI=>?_)
  ·refine ak 5 rfl (J lb (aF rfl ?_));have hd:=hW qh (by omega) (by rw [zk];first | (left;simpa using dY) | (right;exact⟨m,oH,by omega⟩));exact ab fun mM=>ak 2 rfl (J mM (ba (aR (by simp) (cr rfl rfl rfl ⟨by rw [hd];rfl,E⟩))))
  refine ak 3 rfl (aw (dq rfl rfl) ?_);refine da (fun Qx:(m:Int)≥57344=>?_) (fun Qx=>?_)
  ·refine ag (jA rfl rfl rfl) (J lb (aF rfl ?_));have hd:=hW qh (by omega) (by rw [zk];first | (left;simpa using dY) | (right;exact⟨m,oH,by omega⟩));exact ab fun ky=>ak 2 rfl (J ky (ba (aR (by simp) (cr rfl rfl rfl ⟨by rw [hd];rfl,E⟩))))
  refine ag (jA rfl rfl rfl) (J lb (aD rfl (b8 (au kx (ab fun lf=>aG rfl (ag ((hN rfl rfl).to (v':=.int .i32 ((n-55296:Nat):Int)) (congrArg (Value.int .i32) (by rw [wrap32_in _ (by omega)];omega))) (ag ((zh rfl rfl (by omega)).to (v':=.int .i32 ((1024*(n-55296):Nat):Int)) (congrArg (Value.int .i32) (KP (by omega)))) (ag ((oJ rfl rfl).to (v':=.int .i32 ((65536+1024*(n-55296):Nat):Int)) (congrArg (Value.int .i32) (by rw [wrap32_in _ (by omega)];omega))) (aG rfl (ag ((hN rfl rfl).to (v':=.int .i32 ((m-56320:Nat):Int)) (congrArg (Value.int .i32) (by rw [wrap32_in _ (by omega)];omega))) (ag ((oJ rfl rfl).to (v':=.int .i32 ((65536+1024*(n-55296)+(m-56320):Nat):Int)) (congrArg (Value.int .i32) (by rw [wrap32_in _ (by omega)];omega))) (ak 2 rfl ?_))))))))))));exact J lf (ba (cr rfl rfl rfl ⟨by rw [tL qh (by omega) (zk.trans oH) (by omega)];rfl,E⟩))
 refine ak 3 rfl ?_;refine da (fun AP:(n:Int)<57344=>?_) (fun AP=>?_)
 ·refine ak 3 rfl (J b1 (aF rfl ?_));have hd:fV (_::r)=(0,0):=mg cj (by first | (left;intro e;subst e;exact hu rfl) | (right;left;simpa using hi) | (right;right;exact⟨n,qh,by omega,by omega⟩));exact ab fun cU=>ak 2 rfl (J cU (ba (bz (by simp) (aR (by simp) (cr rfl rfl rfl ⟨by rw [hd];rfl,E⟩)))))
 refine ak 3 rfl (J b1 (aD rfl (ab fun dj=>ak 2 rfl ?_)));refine da (fun wi:(n:Int)<55296=>?_) (fun wi=>?_)
 ·exact ak 5 rfl (J dj (aF rfl (ab fun dO=>ak 3 rfl (J dO (ba (bz (by simp) (aR (by simp) (cr rfl rfl rfl ⟨by rw [mW qh (by omega)];rfl,E⟩))))))))
 refine ak 2 rfl (aw (dq rfl rfl) ?_);refine da (fun qf:(n:Int)≥57344=>?_) (fun qf=>?_)
 ·exact ak 2 rfl (J dj (aF rfl (ab fun eH=>ak 3 rfl (J eH (ba (bz (by simp) (aR (by simp) (cr rfl rfl rfl ⟨by rw [mW qh (by omega)];rfl,E⟩))))))))
 refine ak 2 rfl (J dj (aD rfl (ab fun ee=>aG rfl (ag ((cE (n:=5) Tryz.underlying9 rfl rfl (by simp only [List.length_cons];omega)).to (v':=S (r.drop 4)) rfl) (cQ (bE uO rfl) (uP _ (r.drop 4) [92,117]) fun gb R=>?_)))));replace E:=E.then R;refine ag (e4 rfl) ?_;refine AJ (fun zj:((!decide (([92,117]:aa).length≤(r.drop 4).length∧(r.drop 4).take ([92,117]:aa).length = [92,117])))=true=>?_) (fun zj=>?_)
 ·refine aU rfl (J ee (aF rfl ?_));have hd:=hW qh (by omega) (.inl (B0 (by rw [← oG];rw [Bool.not_eq_true'] at zj;exact zj)));exact ab fun fE=>ak 2 rfl (J fE (ba (bz (by simp) (aR (by simp) (cr rfl rfl rfl ⟨by rw [hd];rfl,E⟩)))))
 refine aU rfl (J ee (aD rfl ?_));have IB:List.isPrefixOf [92,117] (r.drop 4)=true:=by
  rw [← oG];cases bV:decide (([92,117]:aa).length≤(r.drop 4).length∧(r.drop 4).take ([92,117]:aa).length = [92,117])with
  | true=>rfl
  | false=>rw [bV] at zj;cases zj
 have zk:=zd IB;rw [List.drop_drop] at zk;have AZ:2≤(r.drop 4).length:=by
  rw [← oG,decide_eq_true_eq] at IB;exact IB.1
 rw [List.length_drop] at AZ;refine b8 (bz (by simp) (au cf (ab fun fT=>aG rfl (ag ((cE (n:=7) Tryz.underlying9 rfl rfl (by simp only [List.length_cons];omega)).to (v':=S (r.drop 6)) rfl) (cQ (bE Du rfl) (Dv _ (r.drop 6)) fun iu R=>?_)))));replace E:=E.then R;refine ak 5 rfl (J fT (ax fun fF=>ab fun fG=>ak 2 rfl ?_));refine AJ (fun dY:((!(eK 4 (r.drop 6) 0).isSome))=true=>?_) (fun dY=>?_)
 ·refine ak 8 rfl (J fG (aF rfl ?_));have hd:=hW qh (by omega) (by rw [zk];first | (left;simpa using dY) | (right;exact⟨m,oH,by omega⟩));exact ab fun gU=>ak 2 rfl (J gU (ba (aR (by simp) (cr rfl rfl rfl ⟨by rw [hd];rfl,E⟩))))
 obtain⟨m,oH⟩:∃ m,eK 4 (r.drop 6) 0=some m:=Option.isSome_iff_exists.1 (by simpa using dY);have agw:=uM oH;rw [oH,Option.getD_some];refine ak 3 rfl ?_;refine da (fun oI:(m:Int)<56320=>?_) (fun oI=>?_)
 ·refine ak 5 rfl (J fG (aF rfl ?_));have hd:=hW qh (by omega) (by rw [zk];first | (left;simpa using dY) | (right;exact⟨m,oH,by omega⟩));exact ab fun hg=>ak 2 rfl (J hg (ba (aR (by simp) (cr rfl rfl rfl ⟨by rw [hd];rfl,E⟩))))
 refine ak 3 rfl (aw (dq rfl rfl) ?_);refine da (fun Qx:(m:Int)≥57344=>?_) (fun Qx=>?_)
 ·refine ag (jA rfl rfl rfl) (J fG (aF rfl ?_));have hd:=hW qh (by omega) (by rw [zk];first | (left;simpa using dY) | (right;exact⟨m,oH,by omega⟩));exact ab fun hA=>ak 2 rfl (J hA (ba (aR (by simp) (cr rfl rfl rfl ⟨by rw [hd];rfl,E⟩))))
 refine ag (jA rfl rfl rfl) (J fG (aD rfl (b8 (au fF (ab fun hh=>aG rfl (ag ((hN rfl rfl).to (v':=.int .i32 ((n-55296:Nat):Int)) (congrArg (Value.int .i32) (by rw [wrap32_in _ (by omega)];omega))) (ag ((zh rfl rfl (by omega)).to (v':=.int .i32 ((1024*(n-55296):Nat):Int)) (congrArg (Value.int .i32) (KP (by omega)))) (ag ((oJ rfl rfl).to (v':=.int .i32 ((65536+1024*(n-55296):Nat):Int)) (congrArg (Value.int .i32) (by rw [wrap32_in _ (by omega)];omega))) (aG rfl (ag ((hN rfl rfl).to (v':=.int .i32 ((m-56320:Nat):Int)) (congrArg (Value.int .i32) (by rw [wrap32_in _ (by omega)];omega))) (ag ((oJ rfl rfl).to (v':=.int .i32 ((65536+1024*(n-55296)+(m-56320):Nat):Int)) (congrArg (Value.int .i32) (by rw [wrap32_in _ (by omega)];omega))) (ak 2 rfl ?_))))))))))));exact J hh (ba (cr rfl rfl rfl ⟨by rw [tL qh (by omega) (zk.trans oH) (by omega)];rfl,E⟩))
theorem Qy (w:World) (s:aa) (k:Nat) (bb:s.length≤200000) (iJ:xF w):Calls Tryz.prog 180 [S s,.int .i64 (k:Int)].toArray w (bM fun u w'=>u = .tuple #[S ((e9 s k).getD ([],0)).1,.int .i64 (((e9 s k).getD ([],0)).2:Int),.bool (e9 s k).isSome]∧Mod [] w w'):=by
 refine enter Tryz.func180 rfl rfl rfl (l:=[(0,_),(1,_)]) ⟨rfl,rfl,trivial⟩ ?_;have E:=Mod.refl [] w;refine ab fun aV=>ak 3 rfl (J aV (ax fun aL=>ab fun aX=>ak 2 rfl (iD (bJ (show ¬ ((k:Int)<0)by omega)) (ak 3 rfl (aw (br Tryz.underlying9 rfl) (aw (dq rfl rfl) ?_))))));refine da (fun eG:(k:Int)≥(s.length:Int)=>?_) (fun eG=>?_)
 ·refine ak 7 rfl (J aX (aF rfl ?_));have hd:(e9 s k)=none:=by
   unfold e9;rw [if_neg];intro h
   first | (have:=(List.getElem?_eq_some_iff.1 h).1;omega) | (rw [FR] at h;injection h with h;subst h;exact bY rfl)
  exact ab fun bt=>ak 3 rfl (J bt (ba (aR (by simp) (rZ rfl rfl rfl rfl ⟨by rw [hd];rfl,E⟩))))
 obtain⟨c0,FR⟩:∃ c0,s[k]? = some c0:=⟨_,List.getElem?_eq_getElem (by omega)⟩;refine ak 4 rfl (aw (b6 Tryz.underlying9 rfl rfl (by omega) (by rw [Int.toNat_natCast];exact FR)) (aw (fj rfl rfl) ?_));refine da (fun bY:(c0.toNat:Int)≠34=>?_) (fun bY=>?_)
 ·refine ag (jA rfl rfl rfl) (J aX (aF rfl ?_));have hd:(e9 s k)=none:=by
   unfold e9;rw [if_neg];intro h
   first | (have:=(List.getElem?_eq_some_iff.1 h).1;omega) | (rw [FR] at h;injection h with h;subst h;exact bY rfl)
  exact ab fun bN=>ak 3 rfl (J bN (ba (aR (by simp) (rZ rfl rfl rfl rfl ⟨by rw [hd];rfl,E⟩))))
 refine ag (jA rfl rfl rfl) (J aX (aD rfl ?_));have e2:s[k]? = some 34:=by rw [FR,dt (show(c0.toNat:Int)=(34:UInt8).toNat by rw [Classical.not_not.1 bY];rfl)]
 refine b8 (au aL (ab fun b2=>aU rfl (J b2 (ax fun cd=>ab fun cD=>aG rfl (ag (cS (r:=((k+1:Nat):Int)) rfl rfl (by rw [wrap64_in _ (by omega)];omega)) (aU rfl (J cD (eE (bX (σ:=Nat×Value×aa) (fun⟨i,v,out⟩=>[(0,S s),(7,v),(8,.int .i64 (i:Int))]) (fun⟨i,v,out⟩ aB=>(k<i∧i≤s.length∧out.length≤4*i∧∃ f,s.length-i<f∧fU f (s.drop i) i out=(e9 s k))∧hI aB v out∧(∀ x∈aY v,w.heap.size≤x)∧Mod [] w aB) (fun⟨i,v,out⟩=>s.length-i) (⟨k+1,.slice none 0 0,[]⟩) ⟨rfl,rfl,rfl,trivial⟩ (⟨⟨by omega,by omega,by simp,s.length-k,by omega,by rw [e9,if_pos e2]⟩,Own.nil w 5 1,by simp [aY],E⟩) ?_)))))))));rintro⟨i,v,out⟩ aB ⟨⟨hk,hi,WS,f,dK,hinv⟩,O,mw,E⟩;refine ax fun cJ=>ab fun cf=>ak 2 rfl (ag (br Tryz.underlying9 rfl) (ag (cL rfl rfl) (J cf ?_)));refine aK rfl (fun tM=>?_) (fun tM=>?_);rotate_left
 ·have hd:(e9 s k)=none:=by rw [← hinv,MD (by omega)]
  exact bo (aR (by simp) (aR (by simp) (bU (au cd (ab fun mM=>ak 3 rfl (J mM (ba (rZ rfl rfl rfl rfl ⟨by rw [hd];rfl,E⟩))))))))
 obtain⟨c,bh⟩:∃ c,s[i]? = some c:=⟨_,List.getElem?_eq_getElem (by omega)⟩;obtain⟨g,rfl⟩:∃ g,f=g+1:=⟨f-1,by omega⟩;refine b8 (au cJ (eE (ax fun b1=>?_)))
 by_cases dD:c=34
 ·subst dD;have tN:Utf8.decode ⟨⟨s.drop i⟩⟩ 0=(34,1):=by rw [wh (by omega) (by rw [pv bh (by decide)];simp),pv bh (by decide)];rfl
  have hd:(e9 s k)=some (out,i+1):=by rw [← hinv,FQ bh]
  refine bP (ak 2 rfl (ag (cE Tryz.underlying9 rfl rfl hi) (cQ (bE x2 rfl) (xW _ (s.drop i) (iJ.I E)) fun cO R=>?_)));replace E:=E.then R;replace O:=O.I R;rw [uF (show i<s.length by omega),tN];refine ak 5 rfl (J b1 (ax fun cX=>eE (ab fun cb=>ak 2 rfl (iD (bd (by decide)) (aU rfl (J cb (aF rfl (ab fun cU=>aG rfl (ag (oA (u:=out) Tryz.underlying65 Tryz.underlying5 Tryz.underlying9 rfl (O.same rfl (dh _))) (aG rfl ?_))))))))));exact ag (cS (r:=((i+1:Nat):Int)) rfl rfl (by rw [wrap64_in _ (by omega)];omega)) (ak 3 rfl (J cU (ba (bz (by simp) (aR (by simp) (bz (by simp) (aR (by simp) (bz (by simp) (aR (by simp) (rZ rfl rfl rfl rfl ⟨by rw [hd];rfl,E⟩))))))))))
 by_cases ef:c=92
 ·subst ef;have tN:Utf8.decode ⟨⟨s.drop i⟩⟩ 0=(92,1):=by rw [wh (by omega) (by rw [pv bh (by decide)];simp),pv bh (by decide)];rfl
  obtain⟨bk,bZ,kO⟩:=Qu (s.drop (i+1));rw [List.length_drop] at kO;have hG:=ME (f:=g) (out:=out) bh;rw [hinv] at hG;refine bP (ak 2 rfl (ag (cE Tryz.underlying9 rfl rfl hi) (cQ (bE x2 rfl) (xW _ (s.drop i) (iJ.I E)) fun gb R=>?_)));replace E:=E.then R;replace O:=O.I R;rw [uF (show i<s.length by omega),tN];refine ak 5 rfl (J b1 (ax fun dj=>eE (ab fun dO=>ak 2 rfl (iD (bJ (by decide)) (aU rfl (J dO (aD rfl (ab fun eH=>ak 2 rfl (iD (bJ (by decide)) (ak 3 rfl ?_))))))))));refine iD (bJ (by decide)) (ak 6 rfl (J eH (aD rfl (ab fun ee=>ak 2 rfl (iD (bd (by decide)) (aU rfl (J ee (aF rfl (ab fun fE=>ak 2 rfl (ag (cS (r:=((i+1:Nat):Int)) rfl rfl (by rw [wrap64_in _ (by omega)];omega)) (ag (cE (n:=i+1) Tryz.underlying9 rfl rfl (by omega)) ?_)))))))))));refine cQ (bE WR rfl) (MJ _ (s.drop (i+1))) fun iu R=>?_;replace E:=E.then R;replace O:=O.I R;refine ak 5 rfl (J fE (ax fun fT=>ab fun fF=>ak 2 rfl ?_));refine da (fun akU:((fV (s.drop (i+1))).2:Int)=0=>?_) (fun akU=>?_)
  ·refine J fF (aF rfl ?_);have Qz:(e9 s k)=none:=by rw [hG,if_pos (by omega)]
   exact ab fun fG=>ak 3 rfl (J fG (ba (aR (by simp) (bz (by simp) (aR (by simp) (bz (by simp) (aR (by simp) (bz (by simp) (aR (by simp) (rZ rfl rfl rfl rfl ⟨by rw [Qz];rfl,E⟩))))))))))
  refine J fF (aD rfl (b8 (au fT (bP (aG rfl (ag (cS (r:=(((fV (s.drop (i+1))).2+1:Nat):Int)) rfl rfl (by rw [wrap64_in _ (by omega)];omega)) (aU rfl (cF (bz (by simp) (au dj (ax fun gU=>?_)))))))))));have dU:fU g (s.drop (i+((fV (s.drop (i+1))).2+1))) (i+((fV (s.drop (i+1))).2+1)) (out++jf (fV (s.drop (i+1))).1)=(e9 s k):=by rw [hG,if_neg (by omega)]
  refine bP (ak 2 rfl (fv (bE x4 rfl) (Dy _ v out (fV (s.drop (i+1))).1 O bk bZ (by omega)) rfl fun cK js az=>?_));obtain⟨eR,pN,oI⟩:=az;have rE:∀ x∈aY cK,w.heap.size≤x:=fun x ae=>(pN x ae).elim (mw x) (Nat.le_trans E.size);replace E:=E.trans' oI (fun x ae=>.inr (mw x ae));exact aU rfl (J gU (bP (ak 2 rfl (ag (cS (r:=((i+((fV (s.drop (i+1))).2+1):Nat):Int)) rfl rfl (by rw [wrap64_in _ (by omega)];omega)) (aU rfl (cF (bz (by simp) (fK (σ:=Nat×Value×aa) (s:=⟨i,v,out⟩) (⟨i+((fV (s.drop (i+1))).2+1),cK,out++jf (fV (s.drop (i+1))).1⟩) ⟨rfl,rfl,rfl,trivial⟩ ⟨⟨by omega,by omega,by rw [List.length_append];have:=zg (fV (s.drop (i+1))).1;omega,g,by omega,dU⟩,eR,rE,E⟩ (by dsimp only;omega)))))))))
 by_cases di:(aI (s.drop i)).2=0
 ·have tN:=MF (show i<s.length by omega) di;have hd:(e9 s k)=none:=by rw [← hinv,zf bh dD ef,if_pos (.inl di)]
  refine bP (ak 2 rfl (ag (cE Tryz.underlying9 rfl rfl hi) (cQ (bE x2 rfl) (xW _ (s.drop i) (iJ.I E)) fun jD R=>?_)));replace E:=E.then R;replace O:=O.I R;rw [uF (show i<s.length by omega),tN];refine ak 5 rfl (J b1 (ax fun hg=>eE (ab fun hA=>ak 2 rfl (iD (bJ (by decide)) (aU rfl (J hA (aD rfl (ab fun hh=>ak 2 rfl (iD (bJ (by decide)) (ak 3 rfl ?_))))))))));refine iD (bd (by decide)) (ak 3 rfl (iD (bd (by decide)) (ak 3 rfl (J hh (aF rfl ?_)))));have Qz:(e9 s k)=none:=by first | exact hd | (rw [hG,if_pos (.inr (by omega))])
  exact ab fun hB=>ak 3 rfl (J hB (ba (bz (by simp) (aR (by simp) (bz (by simp) (aR (by simp) (bz (by simp) (aR (by simp) (rZ rfl rfl rfl rfl ⟨by rw [Qz];rfl,E⟩)))))))))
 have tN:=wh (show i<s.length by omega) di;obtain⟨_,_,bk,bZ⟩:=we (h' (show i<s.length by omega)) di;have kO:=j8 (s.drop i);rw [List.length_drop] at kO;have hG:=zf (f:=g) (out:=out) bh dD ef;rw [hinv] at hG;have agx:¬ (((aI (s.drop i)).1:Int)=34):=fun h=>dD (dt (by rw [← B1 bh di (by omega)];exact h));have aag:¬ (((aI (s.drop i)).1:Int)=92):=fun h=>ef (dt (by rw [← B1 bh di (by omega)];exact h));refine bP (ak 2 rfl (ag (cE Tryz.underlying9 rfl rfl hi) (cQ (bE x2 rfl) (xW _ (s.drop i) (iJ.I E)) fun iv R=>?_)));replace E:=E.then R;replace O:=O.I R;rw [uF (show i<s.length by omega),tN];refine ak 5 rfl (J b1 (ax fun ie=>eE (ab fun jO=>ak 2 rfl (iD (bJ (agx)) (aU rfl (J jO (aD rfl (ab fun jP=>ak 2 rfl ?_))))))));refine da (fun IA:((aI (s.drop i)).1:Int)<32=>?_) (fun IA=>?_)
 ·refine ak 9 rfl (J jP (aF rfl ?_));have Qz:(e9 s k)=none:=by first | exact hd | (rw [hG,if_pos (.inr (by omega))])
  exact ab fun la=>ak 3 rfl (J la (ba (bz (by simp) (aR (by simp) (bz (by simp) (aR (by simp) (bz (by simp) (aR (by simp) (rZ rfl rfl rfl rfl ⟨by rw [Qz];rfl,E⟩)))))))))
 refine ak 3 rfl ?_;refine da (fun akV:((aI (s.drop i)).1:Int)=65533=>?_) (fun akV=>?_)
 ·have lF:=MG (show i<s.length by omega) di (by omega);refine ak 3 rfl (iD (bJ (by omega)) (ak 3 rfl (J jP (aD rfl (ab fun jc=>ak 2 rfl (iD (bJ (aag)) (aU rfl (J jc (aD rfl (b8 (bz (by simp) (au ie ?_))))))))))));refine ax fun kx=>?_;have dU:fU g (s.drop (i+(aI (s.drop i)).2)) (i+(aI (s.drop i)).2) (out++jf (aI (s.drop i)).1)=(e9 s k):=by rw [hG,if_neg (by omega)]
  refine bP (ak 2 rfl (fv (bE x4 rfl) (Dy _ v out (aI (s.drop i)).1 O bk bZ (by omega)) rfl fun cK oj az=>?_));obtain⟨eR,pN,oI⟩:=az;have rE:∀ x∈aY cK,w.heap.size≤x:=fun x ae=>(pN x ae).elim (mw x) (Nat.le_trans E.size);replace E:=E.trans' oI (fun x ae=>.inr (mw x ae));exact aU rfl (J kx (bP (ak 2 rfl (ag (cS (r:=((i+(aI (s.drop i)).2:Nat):Int)) rfl rfl (by rw [wrap64_in _ (by omega)];omega)) (aU rfl (cF (bz (by simp) (fK (σ:=Nat×Value×aa) (s:=⟨i,v,out⟩) (⟨i+(aI (s.drop i)).2,cK,out++jf (aI (s.drop i)).1⟩) ⟨rfl,rfl,rfl,trivial⟩ ⟨⟨by omega,by omega,by rw [List.length_append];have:=zg (aI (s.drop i)).1;omega,g,by omega,dU⟩,eR,rE,E⟩ (by dsimp only;omega)))))))))
 refine ak 6 rfl (J jP (aD rfl (ab fun lb=>ak 2 rfl (iD (bJ (aag)) (aU rfl (J lb (aD rfl (b8 (bz (by simp) (au ie (ax fun jQ=>?_)))))))))));have dU:fU g (s.drop (i+(aI (s.drop i)).2)) (i+(aI (s.drop i)).2) (out++jf (aI (s.drop i)).1)=(e9 s k):=by rw [hG,if_neg (by omega)]
 refine bP (ak 2 rfl (fv (bE x4 rfl) (Dy _ v out (aI (s.drop i)).1 O bk bZ (by omega)) rfl fun cK l1 az=>?_));obtain⟨eR,pN,oI⟩:=az;have rE:∀ x∈aY cK,w.heap.size≤x:=fun x ae=>(pN x ae).elim (mw x) (Nat.le_trans E.size);replace E:=E.trans' oI (fun x ae=>.inr (mw x ae));exact aU rfl (J jQ (bP (ak 2 rfl (ag (cS (r:=((i+(aI (s.drop i)).2:Nat):Int)) rfl rfl (by rw [wrap64_in _ (by omega)];omega)) (aU rfl (cF (bz (by simp) (fK (σ:=Nat×Value×aa) (s:=⟨i,v,out⟩) (⟨i+(aI (s.drop i)).2,cK,out++jf (aI (s.drop i)).1⟩) ⟨rfl,rfl,rfl,trivial⟩ ⟨⟨by omega,by omega,by rw [List.length_append];have:=zg (aI (s.drop i)).1;omega,g,by omega,dU⟩,eR,rE,E⟩ (by dsimp only;omega)))))))))
set_option maxRecDepth 10000
theorem Yy:aP Tryz.prog 157:=aP.of Tryz.func157 (by kernel_rfl) (by kernel_rfl)
theorem ad4:vM Tryz.prog 124 [(0,1)]=true:=by kernel_rfl
theorem SQ:hD Tryz.prog 124 ([.int .i64 0]):=by unfold hD;kernel_rfl
theorem yf:ix Tryz.prog 83 0 0 1=true:=by kernel_rfl
theorem Lo:nL Tryz.prog 65=true:=by kernel_rfl
theorem gf:aP Tryz.prog 62:=aP.of Tryz.func62 (by kernel_rfl) (by kernel_rfl)
theorem Yz:aP Tryz.prog 159:=aP.of Tryz.func159 (by kernel_rfl) (by kernel_rfl)
theorem lQ:aP Tryz.prog 118:=aP.of Tryz.func118 (by kernel_rfl) (by kernel_rfl)
theorem SR (w:World) (v:JV) (us:List Value) (arZ:ao [] w v.D us):Calls Tryz.prog 117 [.agg us.toArray].toArray w (bM fun u w'=>u = .bool v.plain∧Mod [] w w'):=by
 refine enter Tryz.func117 rfl rfl rfl (l:=[(0,_)]) ⟨rfl,trivial⟩ ?_;have E:=Mod.refl [] w;obtain⟨al,cl,am,cm,rfl,kP,jF⟩:=JV.a' arZ;refine ab fun aV=>ep rfl rfl rfl fun g1 aB bT=>?_;have bI:=bT.le E;replace E:=E.then bT.mod;have U:=bT.aA;refine aU rfl (J aV (ab fun aL=>ag (av hz rfl) (ag (bg dN rfl (U.cell rfl)) (aU rfl (J aL (ab fun aX=>aG rfl (ag (dq rfl rfl) ?_)))))));refine da (fun eG:v.kind≥0=>?_) (fun eG=>?_);rotate_left
 ·exact ak 52 rfl (J aX (ba (ar rfl rfl ⟨congrArg Value.bool (by simp only [JV.plain];clear E arZ kP jF U;simp_all <;> omega),E⟩)))
 refine ak 3 rfl ?_;refine da (fun hle:v.kind≤5=>?_) (fun hle=>?_);rotate_left
 ·exact ak 49 rfl (J aX (ba (ar rfl rfl ⟨congrArg Value.bool (by simp only [JV.plain];clear E arZ kP jF U;simp_all <;> omega),E⟩)))
 refine ak 4 rfl ?_;refine da (fun bn:v.kind=1=>?_) (fun bn=>?_)
 ·refine ak 9 rfl (iD (bJ (by omega)) (aw (d' rfl) (aw (av kK rfl) (aw (bg dN rfl (U.cell rfl)) (aw (lS rfl rfl) ?_)))));refine da (fun SS:v.num=0=>?_) (fun SS=>?_)
  ·refine ak 5 rfl (iD (bJ (by omega)) (aw (d' rfl) (aw (av jt rfl) (aw (bg bB rfl (U.cell rfl)) (aw (dG rfl rfl) ?_)))));refine da (fun G5:v.str = []=>?_) (fun G5=>?_)
   ·refine ak 5 rfl (iD (bJ (by omega)) (aw (d' rfl) (aw (av gz rfl) (aw (bg jH rfl (U.cell rfl)) (aw (bs Tryz.underlying22 rfl) (aw (lS rfl rfl) ?_))))));refine da (fun pU:(v.list.length:Int)=0=>?_) (fun pU=>?_)
    ·refine ak 5 rfl (iD (bJ (by omega)) (aw (d' rfl) (aw (av b5 rfl) (aw (bg dz rfl (U.cell rfl)) (aw (bs Tryz.underlying23 rfl) (aw (lS rfl rfl) ?_))))));refine da (fun vp:(v.map.length:Int)=0=>?_) (fun vp=>?_)
     ·exact ak 3 rfl (J aX (ba (ar rfl rfl ⟨congrArg Value.bool (by simp only [JV.plain];clear E arZ kP jF U;simp_all <;> omega),E⟩)))
     exact ak 3 rfl (J aX (ba (ar rfl rfl ⟨congrArg Value.bool (by simp only [JV.plain];clear E arZ kP jF U;simp_all <;> omega),E⟩)))
    exact ak 13 rfl (J aX (ba (ar rfl rfl ⟨congrArg Value.bool (by simp only [JV.plain];clear E arZ kP jF U;simp_all <;> omega),E⟩)))
   exact ak 23 rfl (J aX (ba (ar rfl rfl ⟨congrArg Value.bool (by simp only [JV.plain];clear E arZ kP jF U;simp_all <;> omega),E⟩)))
  exact ak 32 rfl (J aX (ba (ar rfl rfl ⟨congrArg Value.bool (by simp only [JV.plain];clear E arZ kP jF U;simp_all <;> omega),E⟩)))
 refine aw (d' rfl) (aw (av qx rfl) (aw (bg jK rfl (U.cell rfl)) (aw (e4 rfl) ?_)));refine nk (fun anq:(!v.is)=true=>?_) (fun anq=>?_);rotate_left
 ·exact ak 41 rfl (J aX (ba (ar rfl rfl ⟨congrArg Value.bool (by simp only [JV.plain];clear E arZ kP jF U;simp_all <;> omega),E⟩)))
 refine ak 5 rfl ?_;refine da (fun bD:v.kind=2=>?_) (fun bD=>?_)
 ·refine ak 9 rfl (iD (bJ (by omega)) (aw (d' rfl) (aw (av jt rfl) (aw (bg bB rfl (U.cell rfl)) (aw (dG rfl rfl) ?_)))));refine da (fun G5:v.str = []=>?_) (fun G5=>?_)
  ·refine ak 5 rfl (iD (bJ (by omega)) (aw (d' rfl) (aw (av gz rfl) (aw (bg jH rfl (U.cell rfl)) (aw (bs Tryz.underlying22 rfl) (aw (lS rfl rfl) ?_))))));refine da (fun pU:(v.list.length:Int)=0=>?_) (fun pU=>?_)
   ·refine ak 5 rfl (iD (bJ (by omega)) (aw (d' rfl) (aw (av b5 rfl) (aw (bg dz rfl (U.cell rfl)) (aw (bs Tryz.underlying23 rfl) (aw (lS rfl rfl) ?_))))));refine da (fun vp:(v.map.length:Int)=0=>?_) (fun vp=>?_)
    ·exact ak 3 rfl (J aX (ba (ar rfl rfl ⟨congrArg Value.bool (by simp only [JV.plain];clear E arZ kP jF U;simp_all <;> omega),E⟩)))
    exact ak 3 rfl (J aX (ba (ar rfl rfl ⟨congrArg Value.bool (by simp only [JV.plain];clear E arZ kP jF U;simp_all <;> omega),E⟩)))
   exact ak 13 rfl (J aX (ba (ar rfl rfl ⟨congrArg Value.bool (by simp only [JV.plain];clear E arZ kP jF U;simp_all <;> omega),E⟩)))
  exact ak 23 rfl (J aX (ba (ar rfl rfl ⟨congrArg Value.bool (by simp only [JV.plain];clear E arZ kP jF U;simp_all <;> omega),E⟩)))
 refine aw (d' rfl) (aw (av kK rfl) (aw (bg dN rfl (U.cell rfl)) (aw (lS rfl rfl) ?_)));refine da (fun SS:v.num=0=>?_) (fun SS=>?_);rotate_left
 ·exact ak 32 rfl (J aX (ba (ar rfl rfl ⟨congrArg Value.bool (by simp only [JV.plain];clear E arZ kP jF U;simp_all <;> omega),E⟩)))
 refine ak 5 rfl ?_;refine da (fun cC:v.kind=3=>?_) (fun cC=>?_)
 ·refine ak 9 rfl (iD (bJ (by omega)) (aw (d' rfl) (aw (av gz rfl) (aw (bg jH rfl (U.cell rfl)) (aw (bs Tryz.underlying22 rfl) (aw (lS rfl rfl) ?_))))));refine da (fun pU:(v.list.length:Int)=0=>?_) (fun pU=>?_)
  ·refine ak 5 rfl (iD (bJ (by omega)) (aw (d' rfl) (aw (av b5 rfl) (aw (bg dz rfl (U.cell rfl)) (aw (bs Tryz.underlying23 rfl) (aw (lS rfl rfl) ?_))))));refine da (fun vp:(v.map.length:Int)=0=>?_) (fun vp=>?_)
   ·exact ak 3 rfl (J aX (ba (ar rfl rfl ⟨congrArg Value.bool (by simp only [JV.plain];clear E arZ kP jF U;simp_all <;> omega),E⟩)))
   exact ak 3 rfl (J aX (ba (ar rfl rfl ⟨congrArg Value.bool (by simp only [JV.plain];clear E arZ kP jF U;simp_all <;> omega),E⟩)))
  exact ak 13 rfl (J aX (ba (ar rfl rfl ⟨congrArg Value.bool (by simp only [JV.plain];clear E arZ kP jF U;simp_all <;> omega),E⟩)))
 refine aw (d' rfl) (aw (av jt rfl) (aw (bg bB rfl (U.cell rfl)) (aw (dG rfl rfl) ?_)));refine da (fun G5:v.str = []=>?_) (fun G5=>?_)
 ·refine ak 5 rfl ?_;refine da (fun cV:v.kind=4=>?_) (fun cV=>?_)
  ·refine ak 10 rfl (iD (bJ (by omega)) (aw (d' rfl) (aw (av b5 rfl) (aw (bg dz rfl (U.cell rfl)) (aw (bs Tryz.underlying23 rfl) (aw (lS rfl rfl) ?_))))));refine da (fun vp:(v.map.length:Int)=0=>?_) (fun vp=>?_)
   ·exact ak 3 rfl (J aX (ba (ar rfl rfl ⟨congrArg Value.bool (by simp only [JV.plain];clear E arZ kP jF U;simp_all <;> omega),E⟩)))
   exact ak 3 rfl (J aX (ba (ar rfl rfl ⟨congrArg Value.bool (by simp only [JV.plain];clear E arZ kP jF U;simp_all <;> omega),E⟩)))
  refine aw (d' rfl) (aw (av gz rfl) (aw (bg jH rfl (U.cell rfl)) (aw (bs Tryz.underlying22 rfl) (aw (lS rfl rfl) ?_))));refine da (fun pU:(v.list.length:Int)=0=>?_) (fun pU=>?_)
  ·refine ak 5 rfl ?_;refine da (fun ey:v.kind=5=>?_) (fun ey=>?_)
   ·exact ak 8 rfl (J aX (ba (ar rfl rfl ⟨congrArg Value.bool (by simp only [JV.plain];clear E arZ kP jF U;simp_all <;> omega),E⟩)))
   refine aw (d' rfl) (aw (av b5 rfl) (aw (bg dz rfl (U.cell rfl)) (aw (bs Tryz.underlying23 rfl) (aw (lS rfl rfl) ?_))));refine da (fun vp:(v.map.length:Int)=0=>?_) (fun vp=>?_)
   ·exact ak 3 rfl (J aX (ba (ar rfl rfl ⟨congrArg Value.bool (by simp only [JV.plain];clear E arZ kP jF U;simp_all <;> omega),E⟩)))
   exact ak 3 rfl (J aX (ba (ar rfl rfl ⟨congrArg Value.bool (by simp only [JV.plain];clear E arZ kP jF U;simp_all <;> omega),E⟩)))
  exact ak 13 rfl (J aX (ba (ar rfl rfl ⟨congrArg Value.bool (by simp only [JV.plain];clear E arZ kP jF U;simp_all <;> omega),E⟩)))
 exact ak 23 rfl (J aX (ba (ar rfl rfl ⟨congrArg Value.bool (by simp only [JV.plain];clear E arZ kP jF U;simp_all <;> omega),E⟩)))
theorem SU (w:World) (x:Bool):Calls Tryz.prog 157 [.bool x].toArray w (bM fun u w'=>u=S (if x then JV.iT else JV.gE)∧Mod [] w w'):=by
 refine enter Tryz.func157 rfl rfl rfl (l:=[(0,_)]) ⟨rfl,trivial⟩ ?_;have E:=Mod.refl [] w;refine ab fun aV=>aU rfl (J aV (ax fun aL=>ab fun aX=>aG rfl (J aX ?_)));refine a1 rfl (fun aT=>?_) (fun aT=>?_)
 ·exact ab fun bt=>aU rfl (J bt (ba (aR (by simp) (ar rfl rfl ⟨by rw [aT];rfl,E⟩))))
 exact b8 (au aL (ab fun bN=>aU rfl (J bN (ba (ar rfl rfl ⟨by rw [aT];rfl,E⟩)))))
theorem YY (w:World) (x:Bool):Calls Tryz.prog 119 [.bool x].toArray w (bM fun u w'=>u=S (if x then JV.iT else JV.gE)∧Mod [] w w'):=by
 refine enter Tryz.func119 rfl rfl rfl (l:=[(0,_)]) ⟨rfl,trivial⟩ ?_;have E:=Mod.refl [] w;refine ab fun aV=>aU rfl (J aV (ab fun aL=>aG rfl (cQ (bE Yy rfl) (SU _ _) fun aB R=>?_)));replace E:=E.then R;exact aU rfl (J aL (ba (ar rfl rfl ⟨rfl,E⟩)))
theorem eT (w:World) (e:Int):Calls Tryz.prog 62 [.int .i64 e].toArray w (anr 124 e w):=by
 exact enter Tryz.func62 rfl rfl rfl (l:=[(0,_)]) ⟨rfl,trivial⟩ (bP (aG rfl (ag (a7 (cs:=[_]) ad4 SQ rfl rfl) (ag (IL Tryz.underlying124 rfl rfl) (RP rfl (ea ⟨rfl,rfl⟩))))))
theorem lR (w:World) (g:Nat) (u:Value) (b:aa) (Ox:vq w g 83 u b) (t:aa) (cc:t.length≤1000000):Calls Tryz.prog 118 [.pointer (some ⟨g,0,none⟩),S t].toArray w (Ag w g 83 124 u (ct (b++t))):=by
 refine enter Tryz.func118 rfl rfl rfl (l:=[(0,_),(1,_)]) ⟨rfl,rfl,trivial⟩ (ax fun aV=>?_);have H:=kJ.init Ox;refine bP (ak 3 rfl (ag (av yf rfl) (ag (bg Lo rfl (H.s5.aA.cell rfl)) (aG rfl (bq cR rfl rfl H.s5.own (Src.str Tryz.underlying9 t) (by decide) (by have:=H.s5.len;omega) (by have:=H.s5.len;omega) rfl fun gj aB ez=>?_)))));have eR:hI aB gj (b++t):=ez.own.same (by simp) (by simp [dh,j2]);obtain⟨o7,c1,rfl,fA,gB⟩:=eR.form;have gM:=H.s5.aA.mod ez.mod (fun ae=>H.s5.ne _ ae rfl);refine ag (eb rfl) (ag (av yf rfl) (dZ Lo gM rfl rfl rfl (by simp) fun cO ans=>?_));have apw:=ans.aA;have aq9:=H.app ez ans.mod;refine J aV (ab fun aL=>ak 2 rfl (ag (av yf rfl) (ag (bg Lo rfl (apw.cell rfl)) (ag (bs Tryz.underlying65 rfl) (ag (gq rfl rfl) (J aL ?_))))));refine aK rfl (fun yM=>?_) (fun yM=>?_)
 ·refine bP ?_;refine fP (bE gf rfl) (eT _ 3) rfl (fun cH az=>az.elim) (fun lV gb az=>?_) fun cK gb az=>?_
  ·obtain⟨rfl,rfl⟩:=az;exact ea ⟨3,if_pos (by omega),by decide,rfl,aq9⟩
  exact az.elim
 exact b8 (kp rfl ((H.aio ez eR ans.mod apw (by omega)).fin (if_neg (by omega))))
theorem Ah (w:World) (g:Nat) (u:Value) (b:aa) (Ox:vq w g 83 u b) (s:aa):Calls Tryz.prog 121 [.pointer (some ⟨g,0,none⟩),S s].toArray w (Ag w g 83 124 u (e8 b s)):=by
 refine enter Tryz.func121 rfl rfl rfl (l:=[(0,_),(1,_)]) ⟨rfl,rfl,trivial⟩ (ax fun aV=>ax fun aL=>?_);have H:=kJ.init Ox;refine bP (aG rfl (ag (br Tryz.underlying9 rfl) (ag (gq rfl rfl) (J aL ?_))));refine aK rfl (fun kt=>?_) (fun kt=>?_)
 ·refine bP ?_;refine fP (bE gf rfl) (eT _ 3) rfl (fun cH az=>az.elim) (fun lV aB az=>?_) fun cK aB az=>?_
  ·obtain⟨rfl,rfl⟩:=az;exact aR (by simp) (ea (H.fail (if_pos (by omega))))
  exact az.elim
 refine b8 (au aV (ab fun aX=>aG rfl (cQ (bE Yz rfl) (Yu _ s (by omega)) fun cO R=>?_)));replace H:=H.I R;refine ak 5 rfl (J aX (ax fun bt=>ab fun bN=>ak 2 rfl (J bN ?_)));refine a1 rfl (fun mH=>?_) (fun mH=>?_)
 ·have bK:ck s=false:=by simpa using mH
  refine bP ?_;refine fP (bE gf rfl) (eT _ 1) rfl (fun cH az=>az.elim) (fun lV gb az=>?_) fun cK gb az=>?_
  ·obtain⟨rfl,rfl⟩:=az;exact aR (by simp) (ea (H.fail (by rw [e8,if_neg (by omega),bK];rfl)))
  exact az.elim
 have bK:ck s=true:=by simpa using mH
 refine b8 (au bt (bP (ak 2 rfl ?_)));have L6:=l8 s;have Wf:(cv s).length=(c7 s).length+2:=by simp [cv]
 rw [bK,if_pos rfl];refine fP (bE lQ rfl) (lR _ _ _ _ H.s5 (cv s) (by omega)) rfl (fun cH az=>az.elim) (fun lV iu az=>?_) fun cK iu az=>?_
 ·have cn:=H.panic (r:=e8 b s) az (fun e he=>by rw [e8,if_neg (by omega),bK];exact he);exact ea cn
 obtain⟨gj,dm,cI,H1,oI,pN⟩:=H.ret az;replace H:=H1;exact cF (kp rfl (H.fin (r:=e8 b s) (by rw [e8,if_neg (by omega),bK];exact cI)))
theorem Cy (w:World) (g:Nat) (u:Value) (b:aa) (Ox:vq w g 83 u b) (k:Nat):Calls Tryz.prog 122 [.pointer (some ⟨g,0,none⟩),.int .i64 (k:Int)].toArray w (Ag w g 83 124 u (if k=0 then .ok b else ct (b ++ [44]))):=by
 refine enter Tryz.func122 rfl rfl rfl (l:=[(0,_),(1,_)]) ⟨rfl,rfl,trivial⟩ (ax fun aV=>?_);have H:=kJ.init Ox;refine bP (ak 2 rfl (J aV ?_));refine aK rfl (fun cN=>?_) (fun cN=>?_)
 ·skip
  refine bP (aG rfl ?_);refine fP (bE lQ rfl) (lR _ _ _ _ H.s5 [44] (by simp)) rfl (fun cH az=>az.elim) (fun lV aB az=>?_) fun cK aB az=>?_
  ·have cn:=H.panic (r:=if k=0 then .ok b else ct (b ++ [44])) az (fun e he=>by rw [if_neg (by omega)];exact he);exact ea cn
  obtain⟨gj,dm,cI,H1,oI,pN⟩:=H.ret az;replace H:=H1;exact cF (kp rfl (H.fin (by rw [if_neg (by omega)];exact cI)))
 skip
 exact b8 (kp rfl (H.fin (by rw [if_pos (by omega)])))
set_option maxRecDepth 10000
theorem YZ:aP Tryz.prog 119:=aP.of Tryz.func119 (by kernel_rfl) (by kernel_rfl)
theorem Eh:aP Tryz.prog 121:=aP.of Tryz.func121 (by kernel_rfl) (by kernel_rfl)
theorem Lp:aP Tryz.prog 122:=aP.of Tryz.func122 (by kernel_rfl) (by kernel_rfl)
theorem Ei:aP Tryz.prog 66:=aP.of Tryz.func66 (by kernel_rfl) (by kernel_rfl)
theorem Y0:aP Tryz.prog 117:=aP.of Tryz.func117 (by kernel_rfl) (by kernel_rfl)
theorem Ej (N:Nat) (dF:∀ (w:World) (v:JV) (us:List Value) (deep:Nat) (b:aa) (u:Value) (g:Nat),v.sz≤N→vq w g 83 u b→ao (g::aY u) w v.D us→deep≤32→oB w→Ko∉g::aY u→Calls Tryz.prog 66 [.pointer (some ⟨g,0,none⟩),.agg us.toArray,.int .i64 (deep:Int)].toArray w (Ag w g 83 124 u (v.wr deep b))) (w:World) (v:JV) (us:List Value) (deep:Nat) (b:aa) (u:Value) (g:Nat) (h5:v.sz≤N+1) (Ox:vq w g 83 u b) (arZ:ao (g::aY u) w v.D us) (bV:deep≤32) (jR:oB w) (ns:Ko∉g::aY u):Calls Tryz.prog 66 [.pointer (some ⟨g,0,none⟩),.agg us.toArray,.int .i64 (deep:Int)].toArray w (Ag w g 83 124 u (v.wr deep b)):=by
 refine enter Tryz.func66 rfl rfl rfl (l:=[(0,_),(1,_),(2,_)]) ⟨rfl,rfl,rfl,trivial⟩ ?_;obtain⟨al,cl,am,cm,rfl,kP,jF⟩:=JV.a' arZ;have Ot:=(JV.cz kP jF).e6 (A':=[]) (by simp);refine nj fun K1 aV=>?_;have H:=kJ.init Ox;refine bP (ep rfl rfl rfl fun g1 aB bT=>?_);replace H:=H.I bT.mod;have U:=bT.aA;have K1:=vr.PD Ox U (by have:=bT.at_;omega);refine J aV (nj fun K2 aL=>?_);have J2:∀ (aB:World),v.bare=true∧(v.kind≥4→deep<32)∧kJ w aB u g 83 u b∧vr aB g u g1 25 [.int .i64 v.kind,.bool v.is,.int .i64 v.num,S v.str,.slice al v.list.length cl,.slice am v.map.length cm]→∀ a,Has 128 [] [(0,.pointer (some ⟨g,0,none⟩)),(2,.int .i64 (deep:Int)),(4,.pointer (some ⟨g1,0,none⟩))] a→K2 a aB:=by
  intro cO ox;obtain⟨oC,SV,H,K1⟩:=ox;refine aL _ _ _ _ (ab fun aX=>ag (av hz rfl) (ag (bg dN rfl (K1.aA.cell rfl)) (J aX (eE (ab fun bt=>ak 2 rfl (J bt ?_))))));refine aK rfl (fun nR=>?_) (fun nR=>?_)
  ·have bY:¬ v.bare=false:=by rw [oC];simp
   refine bP (aG rfl ?_);refine fP (bE lQ rfl) (lR _ _ _ _ H.s5 JV.jS (by simp)) rfl (fun cH az=>az.elim) (fun lV gb az=>?_) fun cK gb az=>?_
   ·have cn:=H.panic (r:=v.wr deep b) az (fun e he=>by rw [JV.dI,if_neg bY,if_pos nR];exact he);exact bz (by simp) (ea cn)
   obtain⟨gj,dm,cI,H1,oI,pN⟩:=H.ret az;replace H:=H1;exact cF (bz (by simp) (kp rfl (H.fin (r:=v.wr deep b) (by rw [JV.dI,if_neg bY,if_pos nR];exact cI))))
  have bY:¬ v.bare=false:=by rw [oC];simp
  refine ab fun bN=>ak 2 rfl (J bN ?_);refine aK rfl (fun tu=>?_) (fun tu=>?_)
  ·refine bP (aG rfl (ag (av qx rfl) (ag (bg jK rfl (K1.aA.cell rfl)) (cQ (bE YZ rfl) (YY _ _) fun iu R=>?_))));replace H:=H.I R;replace K1:=K1.I R;refine fP (bE lQ rfl) (lR _ _ _ _ H.s5 (if v.is then JV.iT else JV.gE) (by split <;> simp)) rfl (fun cH az=>az.elim) (fun lV js az=>?_) fun cK js az=>?_
   ·have cn:=H.panic (r:=v.wr deep b) az (fun e he=>by rw [JV.dI,if_neg bY,if_neg nR,if_pos tu];exact he);exact bz (by simp) (ea cn)
   obtain⟨gj,dm,cI,H1,oI,pN⟩:=H.ret az;replace H:=H1;exact cF (bz (by simp) (kp rfl (H.fin (r:=v.wr deep b) (by rw [JV.dI,if_neg bY,if_neg nR,if_pos tu];exact cI))))
  refine ab fun b2=>ak 2 rfl (J b2 ?_);refine aK rfl (fun G6=>?_) (fun G6=>?_)
  ·refine bP (aG rfl (ag (av kK rfl) (ag (bg dN rfl (K1.aA.cell rfl)) ?_)));obtain⟨abi,kU⟩:=vU oC G6;have Wh:=Lib.itoa_length_le v.num (by omega) (by omega);refine cQ (bE mz rfl) (mA _ v.num (by omega) (by omega) (jR.mod H.mod ns)) fun jD R=>?_;replace H:=H.I R;replace K1:=K1.I R;refine fP (bE lQ rfl) (lR _ _ _ _ H.s5 (Lib.itoa v.num) (by omega)) rfl (fun cH az=>az.elim) (fun lV iv az=>?_) fun cK iv az=>?_
   ·have cn:=H.panic (r:=v.wr deep b) az (fun e he=>by rw [JV.dI,if_neg bY,if_neg nR,if_neg tu,if_pos G6];exact he);exact bz (by simp) (ea cn)
   obtain⟨gj,dm,cI,H1,oI,pN⟩:=H.ret az;replace H:=H1;exact cF (bz (by simp) (kp rfl (H.fin (r:=v.wr deep b) (by rw [JV.dI,if_neg bY,if_neg nR,if_neg tu,if_pos G6];exact cI))))
  refine nj fun K7 cd=>bP (ak 2 rfl (J cd ?_));refine aK rfl (fun AV=>?_) (fun AV=>?_)
  ·refine bP (aG rfl (ag (av jt rfl) (ag (bg bB rfl (K1.aA.cell rfl)) ?_)));refine fP (bE Eh rfl) (Ah _ _ _ _ H.s5 v.str) rfl (fun cH az=>az.elim) (fun lV oj az=>?_) fun cK oj az=>?_
   ·have cn:=H.panic (r:=v.wr deep b) az (fun e he=>by rw [JV.dI,if_neg bY,if_neg nR,if_neg tu,if_neg G6,if_pos AV];exact he);exact bz (by simp) (ea cn)
   obtain⟨gj,dm,cI,H1,oI,pN⟩:=H.ret az;replace H:=H1;exact cF (bz (by simp) (kp rfl (H.fin (r:=v.wr deep b) (by rw [JV.dI,if_neg bY,if_neg nR,if_neg tu,if_neg G6,if_pos AV];exact cI))))
  refine ab fun cD=>ak 2 rfl (J cD ?_);refine aK rfl (fun E9=>?_) (fun E9=>?_)
  ·refine nj fun wx cJ=>?_;have ant:=SV (by omega);have qu:v.wr deep b=((ct (b ++ [91])).bind fun b=>JV.hJ v.list deep true b).bind fun b=>ct (b ++ [93]):=by rw [JV.dI,if_neg bY,if_neg nR,if_neg tu,if_neg G6,if_neg AV,if_neg (by omega),if_pos E9];cases ct (b ++ [91]) <;> rfl
   refine bP (aG rfl ?_);refine fP (bE lQ rfl) (lR _ _ _ _ H.s5 [91] (by simp)) rfl (fun cH az=>az.elim) (fun lV l1 az=>?_) fun cK l1 az=>?_
   ·have cn:=H.panic (r:=v.wr deep b) az (fun e he=>by rw [qu,he];rfl);exact aR (by simp) (bz (by simp) (ea cn))
   obtain⟨gj,dm,cI,H1,oI,pN⟩:=H.ret az;replace H:=H1;replace K1:=K1.step oI pN;refine J cJ (ax fun cf=>ab fun b1=>ag (av gz rfl) (ag (bg jH rfl (K1.aA.cell rfl)) (ag (bs Tryz.underlying22 rfl) (aG rfl (J b1 (eE (bX (σ:=Nat×Value×aa) (fun⟨k,jw,eI⟩=>[(0,.pointer (some ⟨g,0,none⟩)),(2,.int .i64 (deep:Int)),(4,.pointer (some ⟨g1,0,none⟩)),(65,.slice al v.list.length cl),(66,.int .i64 (v.list.length:Int)),(67,.int .i64 (k:Int))]) (fun⟨k,jw,eI⟩ aB=>k≤v.list.length∧JV.hJ (v.list.drop k) deep (decide (k=0)) eI=((ct (b ++ [91])).bind fun b=>JV.hJ v.list deep true b)∧kJ w aB u g 83 jw eI∧vr aB g jw g1 25 [.int .i64 v.kind,.bool v.is,.int .i64 v.num,S v.str,.slice al v.list.length cl,.slice am v.map.length cm]) (fun⟨k,jw,eI⟩=>v.list.length-k) (⟨0,gj,dm⟩) ⟨rfl,rfl,rfl,rfl,rfl,rfl,trivial⟩ (⟨by omega,by rw [cI];rfl,H,K1⟩) ?_)))))));rintro⟨k,jw,eI⟩ iw ⟨hk,hinv,H,K1⟩;refine ab fun cX=>ag (cL rfl rfl) (J cX (ax fun cb=>?_));refine aK rfl (fun jb=>?_) (fun jb=>?_);rotate_left
   ·have hd:((ct (b ++ [91])).bind fun b=>JV.hJ v.list deep true b) = .ok eI:=by rw [← hinv,Fh (by omega)]
    refine bo (aR (by simp) (aR (by simp) (bU (au cf (bP (aG rfl ?_))))));refine fP (bE lQ rfl) (lR _ _ _ _ H.s5 [93] (by simp)) rfl (fun cH az=>az.elim) (fun lV p7 az=>?_) fun cK p7 az=>?_
    ·have cn:=H.panic (r:=v.wr deep b) az (fun e he=>by rw [qu,hd];exact he);exact bz (by simp) (ea cn)
    obtain⟨ae3,aq',ad5,anv,Ek,Mc⟩:=H.ret az;replace H:=anv;exact cF (bz (by simp) (kp rfl (H.fin (r:=v.wr deep b) (by rw [qu,hd];exact ad5))))
   obtain⟨x,bO⟩:∃ x,v.list[k]? = some x:=⟨_,List.getElem?_eq_getElem (by omega)⟩;have abq:=JV.pM (H.rep kP);refine b8 (au cb (ax fun cU=>eE (ab fun dj=>aG rfl ?_)));obtain⟨j6,k7,dL,eg,cu⟩:=JV.yp (H.rep kP) bO;obtain⟨jI,jJ,ja,h3,rfl,k8,lz⟩:=JV.a' eg;have hy:=JV.pM (H.rep kP);cases dL;refine ag (ca ke rfl rfl (by omega)) (ag (bc aJ rfl rfl cu) ?_);have G7:=Mod.refl [] iw;refine bp cA rfl fun g2 kl cW=>?_;have Lq:=cW.le G7;replace G7:=G7.then cW.mod;have ah:=cW.aA;refine aU rfl (bm (vs:=[_,_,_,_,_,_]) aJ ah rfl rfl rfl (by simp [Value.oneCell']) (by simp) fun p3 rL=>?_);replace G7:=G7.own rL.mod Lq;replace ah:aE p3 g2 _ [_,_,_,_,_,_]:=rL.aA;have K7:=vr.PD H.s5 ah (Lq);replace H:=H.I G7;replace K1:=K1.I G7;replace eg:=eg.I G7;refine J dj (ab fun dO=>ak 2 rfl ?_);refine fP (bE Lp rfl) (Cy _ _ _ _ H.s5 k) rfl (fun cH az=>az.elim) (fun lV ov az=>?_) fun cK ov az=>?_
   ·have cn:=H.panic (r:=v.wr deep b) az (fun e he=>by rw [qu,← aaL bO hinv,he];rfl);exact aR (by simp) (bz (by simp) (aR (by simp) (aR (by simp) (bz (by simp) (aR (by simp) (bz (by simp) (ea cn)))))))
   obtain⟨M1,lq,uA,anu,yA,yQ⟩:=H.ret az;replace H:=anu;replace K1:=K1.step yA yQ;replace K7:=K7.step yA yQ;replace eg:=eg.wM yA yQ;have lB:=aaL bO hinv;rw [uA] at lB;replace lB:=tB lB;refine J dO (bP (aG rfl (ag (bc (vs:=[_,_,_,_,_,_]) aJ rfl rfl (K7.aA.cs rfl)) (aG rfl (ag (cS (r:=((deep+1:Nat):Int)) rfl rfl (by rw [wrap64_in _ (by omega)];omega)) ?_)))));refine fP (bE Ei rfl) (dF _ x _ (deep+1) _ _ _ (by have:=JV.gL (List.mem_of_getElem? bO);omega) H.s5 eg (by omega) (jR.mod H.mod ns) (fun h=>(H.zT _ h).elim ns (fun h=>by have:=jR.lt;omega))) rfl (fun cH az=>az.elim) (fun lV qB az=>?_) fun cK qB az=>?_
   ·have cn:=H.panic (r:=v.wr deep b) az (fun e he=>by rw [qu,← lB,he];rfl);exact bz (by simp) (aR (by simp) (aR (by simp) (bz (by simp) (aR (by simp) (bz (by simp) (ea cn))))))
   obtain⟨IS,Ez,Dd,aip,oH,vX⟩:=H.ret az;replace H:=aip;replace K1:=K1.step oH vX;have kq:=lB;rw [Dd] at kq;replace kq:=tB kq;exact cF (bz (by simp) (au cU (bP (ag (aO rfl rfl (by omega)) (aG rfl (cF (fK (σ:=Nat×Value×aa) (s:=⟨k,jw,eI⟩) (⟨k+1,IS,Ez⟩) ⟨rfl,rfl,rfl,rfl,rfl,rfl,trivial⟩ ⟨by omega,kq,H,K1⟩ (by dsimp only;omega))))))))
  refine ab fun eH=>ak 2 rfl (J eH ?_);refine aK rfl (fun aiq=>?_) (fun aiq=>?_);rotate_left
  ·exact absurd (show v.kind=5 by have:=JV.qI oC;omega) aiq
  refine ax fun ee=>?_;have ant:=SV (by omega);have qu:v.wr deep b=((ct (b ++ [123])).bind fun b=>JV.ff v.map deep none b).bind fun b=>ct (b ++ [125]):=by rw [JV.dI,if_neg bY,if_neg nR,if_neg tu,if_neg G6,if_neg AV,if_neg (by omega),if_neg E9];cases ct (b ++ [123]) <;> rfl
  refine bP (aG rfl ?_);refine fP (bE lQ rfl) (lR _ _ _ _ H.s5 [123] (by simp)) rfl (fun cH az=>az.elim) (fun lV rn az=>?_) fun cK rn az=>?_
  ·have cn:=H.panic (r:=v.wr deep b) az (fun e he=>by rw [qu,he];rfl);exact aR (by simp) (bz (by simp) (ea cn))
  obtain⟨gj,dm,cI,H1,oI,pN⟩:=H.ret az;replace H:=H1;replace K1:=K1.step oI pN;refine J ee (ax fun fE=>ab fun fT=>ag (av b5 rfl) (ag (bg dz rfl (K1.aA.cell rfl)) (ag (bs Tryz.underlying23 rfl) (aG rfl (J fT (eE (bX (σ:=Nat×Value×aa) (fun⟨k,jw,eI⟩=>[(0,.pointer (some ⟨g,0,none⟩)),(2,.int .i64 (deep:Int)),(4,.pointer (some ⟨g1,0,none⟩)),(88,.slice am v.map.length cm),(89,.int .i64 (v.map.length:Int)),(90,.int .i64 (k:Int))]) (fun⟨k,jw,eI⟩ aB=>k≤v.map.length∧JV.ff (v.map.drop k) deep (hS v.map k) eI=((ct (b ++ [123])).bind fun b=>JV.ff v.map deep none b)∧kJ w aB u g 83 jw eI∧vr aB g jw g1 25 [.int .i64 v.kind,.bool v.is,.int .i64 v.num,S v.str,.slice al v.list.length cl,.slice am v.map.length cm]) (fun⟨k,jw,eI⟩=>v.map.length-k) (⟨0,gj,dm⟩) ⟨rfl,rfl,rfl,rfl,rfl,rfl,trivial⟩ (⟨by omega,by rw [cI];rfl,H,K1⟩) ?_)))))));rintro⟨k,jw,eI⟩ ux ⟨hk,hinv,H,K1⟩;refine ab fun fF=>ag (cL rfl rfl) (J fF (ax fun fG=>?_));refine aK rfl (fun anw=>?_) (fun anw=>?_);rotate_left
  ·have hd:((ct (b ++ [123])).bind fun b=>JV.ff v.map deep none b) = .ok eI:=by rw [← hinv,Fm (by omega)]
   refine bo (aR (by simp) (aR (by simp) (bU (au fE (bP (aG rfl ?_))))));refine fP (bE lQ rfl) (lR _ _ _ _ H.s5 [125] (by simp)) rfl (fun cH az=>az.elim) (fun lV O1 az=>?_) fun cK O1 az=>?_
   ·have cn:=H.panic (r:=v.wr deep b) az (fun e he=>by rw [qu,hd];exact he);exact bz (by simp) (ea cn)
   obtain⟨ae3,aq',ad5,anv,Ek,Mc⟩:=H.ret az;replace H:=anv;exact cF (bz (by simp) (kp rfl (H.fin (r:=v.wr deep b) (by rw [qu,hd];exact ad5))))
  obtain⟨x,bO⟩:∃ x,v.map[k]? = some x:=⟨_,List.getElem?_eq_getElem (by omega)⟩;have abq:=JV.ho (H.rep jF);refine b8 (au fG (ax fun gU=>eE (ab fun hg=>aG rfl ?_)));obtain⟨j6,k7,dL,eg,cu⟩:=JV.kf (H.rep jF) bO;obtain⟨jI,jJ,ja,h3,rfl,k8,lz⟩:=JV.a' eg;have hy:=JV.ho (H.rep jF);cases dL;refine ag (ca cP rfl rfl (by omega)) (ag (bc jM rfl rfl cu) ?_);have G7:=Mod.refl [] ux;refine bp ev rfl fun g3 tx eP=>?_;have Lr:=eP.le G7;replace G7:=G7.then eP.mod;have bu:=eP.aA;refine aU rfl (bm (vs:=[_,_,_,_,_,_,_]) jM bu rfl rfl rfl (by simp [Value.oneCell']) (by simp) fun tz s4=>?_);replace G7:=G7.own s4.mod Lr;replace bu:aE tz g3 _ [_,_,_,_,_,_,_]:=s4.aA;have wx:=vr.PD H.s5 bu (Lr);replace H:=H.I G7;replace K1:=K1.I G7;replace eg:=eg.I G7;refine J hg (ab fun hA=>ak 2 rfl ?_);refine fP (bE Lp rfl) (Cy _ _ _ _ H.s5 k) rfl (fun cH az=>az.elim) (fun lV rQ az=>?_) fun cK rQ az=>?_
  ·have cn:=H.panic (r:=v.wr deep b) az (fun e he=>by rw [qu,← aaM bO hinv,he];rfl);exact aR (by simp) (bz (by simp) (aR (by simp) (aR (by simp) (bz (by simp) (aR (by simp) (bz (by simp) (ea cn)))))))
  obtain⟨M1,lq,uA,anu,yA,yQ⟩:=H.ret az;replace H:=anu;replace K1:=K1.step yA yQ;replace wx:=wx.step yA yQ;replace eg:=eg.wM yA yQ;have lB:=aaM bO hinv;rw [uA] at lB;replace lB:=tB lB;refine J hA (ax fun hh=>ax fun hB=>?_)
  by_cases dS:(k:Int) > 0
  rotate_left
  ·have Ai:=G9 (m:=v.map) (k:=k) (x:=x) (by omega);refine bQ wide (by kernel_rfl) (f' 3 rfl rfl (eF rfl (bJ dS) (eF rfl (bJ dS) (eF rfl (bJ dS) (eF rfl (bJ dS) (eF rfl (bJ dS) (eF rfl (bJ dS) (eF rfl (bJ dS) (eF rfl (bJ dS) (eF rfl (bJ dS) (eF rfl (bJ dS) (aj (fun R=>(jA (bJ dS) rfl rfl)) (bS rfl fun Wk R=>?_)))))))))))));replace H:=H.I R;replace K1:=K1.I R;replace eg:=eg.I R;replace wx:=wx.I R;refine au hB (aD rfl (b8 (au hh (ax fun jP=>?_))));have kq:=lB;rw [Ai] at kq;replace kq:=tB kq;refine bP (aG rfl (ag (av eA rfl) (ag (bg bB rfl (wx.aA.cell rfl)) ?_)));refine fP (bE Eh rfl) (Ah _ _ _ _ H.s5 x.1) rfl (fun cH az=>az.elim) (fun lV L8 az=>?_) fun cK L8 az=>?_
   ·have cn:=H.panic (r:=v.wr deep b) az (fun e he=>by rw [qu,← kq,he];rfl);exact aR (by simp) (bz (by simp) (aR (by simp) (aR (by simp) (bz (by simp) (aR (by simp) (bz (by simp) (ea cn)))))))
   obtain⟨IS,Ez,Dd,aip,oH,vX⟩:=H.ret az;replace H:=aip;replace K1:=K1.step oH vX;replace wx:=wx.step oH vX;replace eg:=eg.wM oH vX;have oV:=kq;rw [Dd] at oV;replace oV:=tB oV;refine J jP (ab fun la=>aG rfl ?_);refine fP (bE lQ rfl) (lR _ _ _ _ H.s5 [58] (by simp)) rfl (fun cH az=>az.elim) (fun lV O0 az=>?_) fun cK O0 az=>?_
   ·have cn:=H.panic (r:=v.wr deep b) az (fun e he=>by rw [qu,← oV,he];rfl);exact aR (by simp) (bz (by simp) (aR (by simp) (aR (by simp) (bz (by simp) (aR (by simp) (bz (by simp) (ea cn)))))))
   obtain⟨A0,al4,IM,anx,tA,yR⟩:=H.ret az;replace H:=anx;replace K1:=K1.step tA yR;replace wx:=wx.step tA yR;replace eg:=eg.wM tA yR;have oW:=oV;rw [IM] at oW;replace oW:=tB oW;refine J la (bP (aG rfl (ag (av h8 rfl) (ag (bc (vs:=[_,_,_,_,_,_]) aJ rfl rfl (wx.aA.cs rfl)) (aG rfl (ag (cS (r:=((deep+1:Nat):Int)) rfl rfl (by rw [wrap64_in _ (by omega)];omega)) ?_))))));refine fP (bE Ei rfl) (dF _ x.2 _ (deep+1) _ _ _ (by have:=JV.gp (List.mem_of_getElem? bO);omega) H.s5 eg (by omega) (jR.mod H.mod ns) (fun h=>(H.zT _ h).elim ns (fun h=>by have:=jR.lt;omega))) rfl (fun cH az=>az.elim) (fun lV L9 az=>?_) fun cK L9 az=>?_
   ·have cn:=H.panic (r:=v.wr deep b) az (fun e he=>by rw [qu,← oW,he];rfl);exact bz (by simp) (aR (by simp) (aR (by simp) (bz (by simp) (aR (by simp) (bz (by simp) (ea cn))))))
   obtain⟨AK,anz,ad6,anA,sT,A2⟩:=H.ret az;replace H:=anA;replace K1:=K1.step sT A2;have q0:=oW;rw [ad6] at q0;replace q0:=tB q0;exact cF (bz (by simp) (au gU (bP (ag (aO rfl rfl (by omega)) (aG rfl (cF (fK (σ:=Nat×Value×aa) (s:=⟨k,jw,eI⟩) (⟨k+1,AK,anz⟩) ⟨rfl,rfl,rfl,rfl,rfl,rfl,trivial⟩ ⟨by omega,q0,H,K1⟩ (by dsimp only;omega))))))))
  obtain⟨q,jx⟩:∃ q,v.map[k-1]? = some q:=⟨_,List.getElem?_eq_getElem (by omega)⟩;obtain⟨Ig,ZX,uz,O4,iW⟩:=JV.kf (H.rep jF) jx;obtain⟨O5,O6,O7,O8,rfl,ZY,afW⟩:=JV.a' O4;have Wm:=JV.ho (H.rep jF);cases uz
  by_cases yg:(!eQ q.1 x.1)=true
  ·have Ai:wN v.map k x=false:=by rw [wO jx (by omega)];simpa using yg
   refine bQ wide (by kernel_rfl) (f' 3 rfl rfl (aM (bd dS) (fun R=>(av b5 rfl)) (aM (bd dS) (fun R=>(bg dz rfl ((K1.aA.I R).cell rfl))) (aM (bd dS) (fun R=>(d' rfl)) (aM (bd dS) (fun R=>(ew (r:=((k-1:Nat):Int)) rfl rfl (by rw [wrap64_in _ (by omega)];omega))) (aM (bd dS) (fun R=>(ca cP rfl rfl (by omega))) (aM (bd dS) (fun R=>(dB eA rfl)) (aM (bd dS) (fun R=>(bg bB rfl ((iW.I R) 0 _ rfl))) (aM (bd dS) (fun R=>(av eA rfl)) (aM (bd dS) (fun R=>(bg bB rfl ((wx.aA.I R).cell rfl))) (aM (bd dS) (fun R=>(zH rfl rfl)) (aj (fun R=>(lT (bd dS) rfl rfl)) (bS rfl fun xB R=>?_)))))))))))));replace H:=H.I R;replace K1:=K1.I R;replace eg:=eg.I R;replace wx:=wx.I R;refine au hB ?_;refine a1 rfl (fun G8=>?_) (fun G8=>absurd (yg.symm.trans G8) (by decide));refine bP ?_;refine fP (bE gf rfl) (eT _ 1) rfl (fun cH az=>az.elim) (fun lV yK az=>?_) fun cK yK az=>?_
   ·obtain⟨rfl,rfl⟩:=az;exact aR (by simp) (bz (by simp) (aR (by simp) (aR (by simp) (bz (by simp) (aR (by simp) (bz (by simp) (ea (H.fail (by rw [qu,← lB,Ai];rfl)))))))))
   exact az.elim
  have Ai:wN v.map k x=true:=by rw [wO jx (by omega)];simpa using yg
  refine bQ wide (by kernel_rfl) (f' 3 rfl rfl (aM (bd dS) (fun R=>(av b5 rfl)) (aM (bd dS) (fun R=>(bg dz rfl ((K1.aA.I R).cell rfl))) (aM (bd dS) (fun R=>(d' rfl)) (aM (bd dS) (fun R=>(ew (r:=((k-1:Nat):Int)) rfl rfl (by rw [wrap64_in _ (by omega)];omega))) (aM (bd dS) (fun R=>(ca cP rfl rfl (by omega))) (aM (bd dS) (fun R=>(dB eA rfl)) (aM (bd dS) (fun R=>(bg bB rfl ((iW.I R) 0 _ rfl))) (aM (bd dS) (fun R=>(av eA rfl)) (aM (bd dS) (fun R=>(bg bB rfl ((wx.aA.I R).cell rfl))) (aM (bd dS) (fun R=>(zH rfl rfl)) (aj (fun R=>(lT (bd dS) rfl rfl)) (bS rfl fun Fb R=>?_)))))))))))));replace H:=H.I R;replace K1:=K1.I R;replace eg:=eg.I R;replace wx:=wx.I R;refine au hB (a1 rfl (fun G8=>absurd ((dM yg).symm.trans G8) (by decide)) (fun G8=>b8 (au hh (ax fun ie=>?_))));have kq:=lB;rw [Ai] at kq;replace kq:=tB kq;refine bP (aG rfl (ag (av eA rfl) (ag (bg bB rfl (wx.aA.cell rfl)) ?_)));refine fP (bE Eh rfl) (Ah _ _ _ _ H.s5 x.1) rfl (fun cH az=>az.elim) (fun lV AW az=>?_) fun cK AW az=>?_
  ·have cn:=H.panic (r:=v.wr deep b) az (fun e he=>by rw [qu,← kq,he];rfl);exact aR (by simp) (bz (by simp) (aR (by simp) (aR (by simp) (bz (by simp) (aR (by simp) (bz (by simp) (ea cn)))))))
  obtain⟨IS,Ez,Dd,aip,oH,vX⟩:=H.ret az;replace H:=aip;replace K1:=K1.step oH vX;replace wx:=wx.step oH vX;replace eg:=eg.wM oH vX;have oV:=kq;rw [Dd] at oV;replace oV:=tB oV;refine J ie (ab fun jO=>aG rfl ?_);refine fP (bE lQ rfl) (lR _ _ _ _ H.s5 [58] (by simp)) rfl (fun cH az=>az.elim) (fun lV Wj az=>?_) fun cK Wj az=>?_
  ·have cn:=H.panic (r:=v.wr deep b) az (fun e he=>by rw [qu,← oV,he];rfl);exact aR (by simp) (bz (by simp) (aR (by simp) (aR (by simp) (bz (by simp) (aR (by simp) (bz (by simp) (ea cn)))))))
  obtain⟨A0,al4,IM,anx,tA,yR⟩:=H.ret az;replace H:=anx;replace K1:=K1.step tA yR;replace wx:=wx.step tA yR;replace eg:=eg.wM tA yR;have oW:=oV;rw [IM] at oW;replace oW:=tB oW;refine J jO (bP (aG rfl (ag (av h8 rfl) (ag (bc (vs:=[_,_,_,_,_,_]) aJ rfl rfl (wx.aA.cs rfl)) (aG rfl (ag (cS (r:=((deep+1:Nat):Int)) rfl rfl (by rw [wrap64_in _ (by omega)];omega)) ?_))))));refine fP (bE Ei rfl) (dF _ x.2 _ (deep+1) _ _ _ (by have:=JV.gp (List.mem_of_getElem? bO);omega) H.s5 eg (by omega) (jR.mod H.mod ns) (fun h=>(H.zT _ h).elim ns (fun h=>by have:=jR.lt;omega))) rfl (fun cH az=>az.elim) (fun lV Ie az=>?_) fun cK Ie az=>?_
  ·have cn:=H.panic (r:=v.wr deep b) az (fun e he=>by rw [qu,← oW,he];rfl);exact bz (by simp) (aR (by simp) (aR (by simp) (bz (by simp) (aR (by simp) (bz (by simp) (ea cn))))))
  obtain⟨AK,anz,ad6,anA,sT,A2⟩:=H.ret az;replace H:=anA;replace K1:=K1.step sT A2;have q0:=oW;rw [ad6] at q0;replace q0:=tB q0;exact cF (bz (by simp) (au gU (bP (ag (aO rfl rfl (by omega)) (aG rfl (cF (fK (σ:=Nat×Value×aa) (s:=⟨k,jw,eI⟩) (⟨k+1,AK,anz⟩) ⟨rfl,rfl,rfl,rfl,rfl,rfl,trivial⟩ ⟨by omega,q0,H,K1⟩ (by dsimp only;omega))))))))
 refine eE (ab fun jc=>ag (bc (vs:=[_,_,_,_,_,_]) aJ rfl rfl (K1.aA.cs rfl)) (cQ (bE Y0 rfl) (SR _ v _ (Ot.bG bT.mod)) fun O3 R=>?_));replace H:=H.I R;replace K1:=K1.I R;refine ag (e4 rfl) ?_;refine AJ (fun jL:((!v.plain))=true=>?_) (fun jL=>?_)
 ·refine ak 11 rfl (J jc (aF rfl ?_));have C5:v.bare=false:=by
   rw [JV.pI,Bool.and_eq_false_iff]
   first | (left;simpa using jL;done) | (right;exact bJ (by omega))
  have bl:v.wr deep b = .error 1:=by rw [JV.dI,if_pos C5]
  refine bP ?_;refine fP (bE gf rfl) (eT _ 1) rfl (fun cH az=>az.elim) (fun lV Fi az=>?_) fun cK Fi az=>?_
  ·obtain⟨rfl,rfl⟩:=az;exact bz (by simp) (aR (by simp) (ea (H.fail (bl))))
  exact az.elim
 refine aG rfl (aw (av kK rfl) (aw (bg dN rfl (K1.aA.cell rfl)) (aw (gq rfl rfl) ?_)));refine da (fun ot:v.num > 9007199254740991=>?_) (fun ot=>?_)
 ·refine ak 7 rfl (J jc (aF rfl ?_));have C5:v.bare=false:=by
   rw [JV.pI,Bool.and_eq_false_iff]
   first | (left;simpa using jL;done) | (right;exact bJ (by omega))
  have bl:v.wr deep b = .error 1:=by rw [JV.dI,if_pos C5]
  refine bP ?_;refine fP (bE gf rfl) (eT _ 1) rfl (fun cH az=>az.elim) (fun lV L' az=>?_) fun cK L' az=>?_
  ·obtain⟨rfl,rfl⟩:=az;exact bz (by simp) (aR (by simp) (ea (H.fail (bl))))
  exact az.elim
 refine ak 2 rfl (aw (av kK rfl) (aw (bg dN rfl (K1.aA.cell rfl)) (aw (cL rfl rfl) ?_)));refine da (fun ys:v.num < -9007199254740991=>?_) (fun ys=>?_)
 ·refine ak 2 rfl (J jc (aF rfl ?_));have C5:v.bare=false:=by
   rw [JV.pI,Bool.and_eq_false_iff]
   first | (left;simpa using jL;done) | (right;exact bJ (by omega))
  have bl:v.wr deep b = .error 1:=by rw [JV.dI,if_pos C5]
  refine bP ?_;refine fP (bE gf rfl) (eT _ 1) rfl (fun cH az=>az.elim) (fun lV Ma az=>?_) fun cK Ma az=>?_
  ·obtain⟨rfl,rfl⟩:=az;exact bz (by simp) (aR (by simp) (ea (H.fail (bl))))
  exact az.elim
 refine ak 2 rfl (J jc (aD rfl ?_));have oC:v.bare=true:=by
  rw [JV.pI,bd (show -9007199254740991≤v.num∧v.num≤9007199254740991 by omega),Bool.and_true];simpa using jL
 refine ab fun kx=>ag (av hz rfl) (ag (bg dN rfl (K1.aA.cell rfl)) (ag (dq rfl rfl) ?_));refine da (fun yS:v.kind≥4=>?_) (fun yS=>?_)
 ·refine ak 2 rfl (aw (dq rfl rfl) ?_);refine da (fun ad7:(deep:Int)≥32=>?_) (fun ad7=>?_)
  ·refine ak 2 rfl (J kx (aF rfl ?_));have bl:v.wr deep b = .error 5:=by
    have bY:¬ v.bare=false:=by rw [oC];simp
    rw [JV.dI,if_neg bY,if_neg (by omega),if_neg (by omega),if_neg (by omega),if_neg (by omega),if_pos (by omega)]
   refine bP ?_;refine fP (bE gf rfl) (eT _ 5) rfl (fun cH az=>az.elim) (fun lV Mb az=>?_) fun cK Mb az=>?_
   ·obtain⟨rfl,rfl⟩:=az;exact bz (by simp) (aR (by simp) (ea (H.fail (bl))))
   exact az.elim
  refine ak 2 rfl (J kx (aD rfl (b8 (bz (by simp) ?_))));refine fB.sub (l':=[(0,_),(2,_),(4,_)]) ⟨rfl,rfl,rfl,trivial⟩ (dT (J2 O3 ⟨oC,by omega,H,K1⟩))
 refine ak 5 rfl (J kx (aD rfl (b8 (bz (by simp) ?_))));refine fB.sub (l':=[(0,_),(2,_),(4,_)]) ⟨rfl,rfl,rfl,trivial⟩ (dT (J2 O3 ⟨oC,by omega,H,K1⟩))
theorem Y9 (N:Nat):∀ (w:World) (v:JV) (us:List Value) (deep:Nat) (b:aa) (u:Value) (g:Nat),v.sz≤N→vq w g 83 u b→ao (g::aY u) w v.D us→deep≤32→oB w→Ko∉g::aY u→Calls Tryz.prog 66 [.pointer (some ⟨g,0,none⟩),.agg us.toArray,.int .i64 (deep:Int)].toArray w (Ag w g 83 124 u (v.wr deep b)):=by
 induction N with
 | zero=>intro w v us deep b u g h5;exact absurd (JV.oq v) (by omega)
 | succ N dF=>intro w v us deep b u g h5 Ox arZ bV jR ns;exact Ej N dF w v us deep b u g h5 Ox arZ bV jR ns
set_option maxRecDepth 10000
theorem SX:Tryz.prog.underlying 20=some (.interface (Tryz.prog.methodsAt 20)):=by kernel_rfl
theorem ad8:rF Tryz.prog 124 1=true:=by kernel_rfl
theorem SY:ix Tryz.prog 124 0 0 1=true:=by kernel_rfl
theorem oN:nL Tryz.prog 33=true:=by kernel_rfl
theorem DI:aP Tryz.prog 59:=aP.of Tryz.func59 (by kernel_rfl) (by kernel_rfl)
theorem IH:hD Tryz.prog 9 ([S []]):=by unfold hD;kernel_rfl
theorem aan:hD Tryz.prog 33 ([.int .i64 0]):=by unfold hD;kernel_rfl
theorem air:vM Tryz.prog 83 [(0,1)]=true:=by kernel_rfl
theorem ais:hD Tryz.prog 83 ([.slice none 0 0]):=by unfold hD;kernel_rfl
theorem SZ:aP Tryz.prog 65:=aP.of Tryz.func65 (by kernel_rfl) (by kernel_rfl)
theorem zy (w:World) (p:Value):Calls Tryz.prog 59 [.nilIface,p].toArray w (bM fun u w'=>True∧Mod [] w w'):=by
 refine enter Tryz.func59 rfl rfl rfl (l:=[(0,_),(1,_)]) ⟨rfl,rfl,trivial⟩ ?_;have E:=Mod.refl [] w;exact ax fun aV=>ab fun aL=>aG rfl (ag (ad9 SX rfl) (J aL (aF rfl (ba (aR (by simp) (ahp rfl ⟨trivial,E⟩))))))
theorem zz (w:World) (ge:Nat) (z:Value) (e:Int) (B:aE w ge 33 [z]):Calls Tryz.prog 59 [.iface 124 (.agg #[.int .i64 e]),.pointer (some ⟨ge,0,none⟩)].toArray w (bM fun u w'=>aE w' ge 33 [.int .i64 e]∧Mod [ge] w w'):=by
 refine enter Tryz.func59 rfl rfl rfl (l:=[(0,_),(1,_)]) ⟨rfl,rfl,trivial⟩ (ax fun aV=>ax fun aL=>?_);have E:=Mod.refl [ge] w;refine bP (aG rfl (ag (ad' SX rfl) (J aL (aD rfl (b8 (au aV (ab fun aX=>aG rfl (ag (KY Tryz.underlying124 rfl rfl) (ak 3 rfl (bp SQ rfl fun g1 aB bT=>?_))))))))));have bI:=bT.le E;have Ls:=bT.ne B;replace B:=B.I bT.mod;replace E:=E.then bT.mod;have U:=bT.aA;refine bm (vs:=[_]) ad8 U rfl rfl rfl (by simp [Value.oneCell']) (by simp) fun cO DC=>?_;replace B:=B.ne DC.mod Ls;replace E:=E.own DC.mod bI;replace U:aE cO g1 _ [_]:=DC.aA;refine aU rfl (J aX (ax fun bt=>ab fun bN=>ak 2 rfl (J bN ?_)));refine a1 rfl (fun p6=>?_) (fun p6=>?_)
 ·cases p6
 refine b8 (au bt (bP (aG rfl (ag (av SY rfl) (ag (bg oN rfl (U.cell rfl)) (ag (eb rfl) (dZ oN B rfl rfl rfl (by simp) fun gb sw=>?_)))))));replace U:=U.ne sw.mod (Ne.symm Ls);replace E:=E.trans sw.mod;replace B:aE gb ge _ [_]:=sw.aA;exact cF (QA rfl ⟨B,E⟩)
theorem S0 (w:World) (ge gs:Nat) (B:aE w ge 33 [.int .i64 0]):CallsD Tryz.prog 65 [.pointer (some ⟨ge,0,none⟩),.pointer (some ⟨gs,0,none⟩)].toArray .returning w (fun e kV w'=>(∃ v,e = .returned v)∧kV = .returning∧Mod [] w w'):=by
 refine qO Tryz.func65 rfl rfl rfl (l:=[(0,_),(1,_)]) ⟨rfl,rfl,trivial⟩ rfl rfl (.inl ⟨rfl,rfl,rfl⟩) (by rintro u w ⟨⟨v,bK⟩,_⟩;cases bK) fun K1 aV=>?_;have E:=Mod.refl [] w;refine fv (bE DI rfl) (zy _ _) rfl fun cK aB az=>?_;obtain⟨_,R⟩:=az;replace B:=B.I R;replace E:=E.then R;refine J aV (ab fun aL=>ag (bg oN rfl (B.cell rfl)) (ag (fj rfl rfl) (J aL ?_)));refine aK rfl (fun cN=>?_) (fun cN=>?_)
 ·exact absurd rfl cN
 exact b8 (kp rfl ⟨⟨_,rfl⟩,rfl,E⟩)
theorem S' (w:World) (ge gs:Nat) (z z2:Value) (e:Int) (B:aE w ge 33 [z]) (dy:aE w gs 9 [z2]) (bY:ge≠gs) (he:e≠0):CallsD Tryz.prog 65 [.pointer (some ⟨ge,0,none⟩),.pointer (some ⟨gs,0,none⟩)].toArray (.panicking (BW 124 e)) w (fun K' kV w'=>(∃ v,K' = .returned v)∧kV = .panicking [{v:=.iface 124 (.agg #[.int .i64 e]),recovered:=true}]∧aE w' ge 33 [.int .i64 e]∧aE w' gs 9 [S []]∧Mod [ge,gs] w w'):=by
 refine qO Tryz.func65 rfl rfl rfl (l:=[(0,_),(1,_)]) ⟨rfl,rfl,trivial⟩ rfl rfl (.inr ⟨rfl,rfl⟩) (by rintro u w ⟨⟨v,bK⟩,_⟩;cases bK) fun K1 aV=>?_;have E:=Mod.refl [ge,gs] w;refine fv (bE DI rfl) (zz _ ge z e B) rfl fun cK aB az=>?_;obtain⟨sD,R⟩:=az;replace E:=E.trans' R (fun x ae=>.inl (by simp at ae;simp [ae]));replace dy:=dy.mod R (by simp;exact fun h=>bY h.symm);clear B;have B:=sD;refine J aV (ab fun aL=>ag (bg oN rfl (B.cell rfl)) (ag (fj rfl rfl) (J aL ?_)));refine aK rfl (fun cN=>?_) (fun cN=>?_)
 ·refine bP (dZ bB dy rfl rfl rfl (by simp) fun l1 om=>?_);replace E:=E.trans' om.mod (fun x ae=>.inl (by simp at ae;simp [ae]));replace B:=B.mod om.mod (by simp;exact bY);replace dy:=om.aA;exact cF (kp rfl ⟨⟨_,rfl⟩,rfl,B,dy,E⟩)
 exact absurd he cN
theorem z8 (w:World) (v:JV) (us:List Value) (arZ:ao [] w v.D us) (jR:oB w):Calls Tryz.prog 27 [.agg us.toArray].toArray w (bM fun u w'=>u = .tuple #[S (iy (v.wr 0 [])),.int .i64 (fM (v.wr 0 []))]∧Mod [] w w'):=by
 refine La Tryz.func27 rfl rfl rfl (l:=[(0,_)]) ⟨rfl,trivial⟩ ?_;have E:=Mod.refl [] w;obtain⟨al,cl,am,cm,rfl,kP,jF⟩:=JV.a' arZ;refine ab fun aV=>ep rfl rfl rfl fun g1 aB bT=>?_;have bI:=bT.le E;replace E:=E.then bT.mod;have U:=bT.aA;refine bp IH rfl fun g2 cO cW=>?_;have b9:=cW.le E;have bR:=cW.ne U;replace U:=U.I cW.mod;replace E:=E.then cW.mod;have ah:=cW.aA;refine bp aan rfl fun g3 gb eP=>?_;have dE:=eP.le E;have eL:=eP.ne U;have cG:=eP.ne ah;replace U:=U.I eP.mod;replace ah:=ah.I eP.mod;replace E:=E.then eP.mod;have bu:=eP.aA;refine J aV (ab fun aL=>ag (Q8 rfl rfl) (F9 rfl (J aL (ab fun aX=>ag (a7 (cs:=[_]) air ais rfl rfl) (ep rfl rfl rfl fun g4 iu N4=>?_)))));have fL:=N4.le E;have gD:=N4.ne U;have eZ:=N4.ne ah;have dk:=N4.ne bu;replace U:=U.I N4.mod;replace ah:=ah.I N4.mod;replace bu:=bu.I N4.mod;replace E:=E.then N4.mod;have bf:=N4.aA;refine aU rfl (J aX (ax fun bt=>?_));have Ox:vq iu g4 83 (.slice none 0 0) []:=⟨bf,Own.nil _ 5 1,by simp [aY],by simp⟩;refine bP (aG rfl (ag (bc (vs:=[_,_,_,_,_,_]) aJ rfl rfl (U.cs rfl)) ?_));refine fP (bE Ei rfl) (Y9 v.sz _ v _ 0 [] _ g4 (Nat.le_refl _) Ox (ao.to E (by simp) (fun x ae=>.inr (by simp [aY] at ae;subst ae;exact fL)) _ _ arZ) (by omega) (jR.mod E (by simp)) (by simp [aY];intro h;have:=jR.lt;omega)) rfl (fun cH az=>az.elim) (fun lV js az=>?_) fun cK js az=>?_
 ·obtain⟨e,anB,ait,rfl,hm⟩:=az;have Ek:Mod [g4] iu _:=hm;replace ah:=ah.mod Ek (by simp;exact fun h=>eZ h);replace bu:=bu.mod Ek (by simp;exact fun h=>dk h);replace E:=E.own Ek fL;refine aR (by simp) (wy fun a ay=>r3 (by simp) SZ (S' _ g3 g2 _ _ e bu ah (fun h=>cG h.symm) ait) fun K' ae3 l1 k9=>?_);obtain⟨⟨v9,rfl⟩,rfl,ek,dy,AQ⟩:=k9;exact⟨v9,rfl,rfl,_,xt ay rfl bB oN rfl rfl (dy.cell rfl) (ek.cell rfl),⟨by rw [anB];simp [iy,fM,ait],E.trans' AQ (fun x ae=>.inr (by simp at ae;rcases ae with rfl | rfl <;> first | exact dE | exact b9))⟩⟩
 obtain⟨gj,dm,cI,H1,oI,pN⟩:=az;have Ek:Mod [g4] iu _:=oI;replace ah:=ah.mod Ek (by simp;exact fun h=>eZ h);replace bu:=bu.mod Ek (by simp;exact fun h=>dk h);replace E:=E.own Ek fL;refine J bt (ab fun bN=>ak 2 rfl (ag (av yf rfl) (ag (bg Lo rfl (H1.aA.cell rfl)) (ag (oA (u:=dm) Tryz.underlying65 Tryz.underlying5 Tryz.underlying9 rfl (H1.own.same rfl (dh _))) (dZ bB ah rfl rfl rfl (by simp) fun jD np=>?_)))));replace bu:=bu.ne np.mod (Ne.symm cG);replace E:=E.own np.mod b9;replace ah:aE jD g2 _ [_]:=np.aA;refine dZ oN bu rfl rfl rfl (by simp) fun iv o8=>?_;replace ah:=ah.ne o8.mod cG;replace E:=E.own o8.mod dE;replace bu:aE iv g3 _ [_]:=o8.aA;refine J bN (ba (DJ fun a ay=>r3 (by simp) SZ (S0 _ g3 g2 bu) fun K' ae3 l1 k9=>?_));obtain⟨⟨v9,rfl⟩,rfl,AQ⟩:=k9;exact⟨v9,rfl,rfl,_,xt ay rfl bB oN rfl rfl ((ah.I AQ).cell rfl) ((bu.I AQ).cell rfl),⟨by rw [cI];rfl,E.then AQ⟩⟩
end Go.Proofs.YtnihidkbkhcfoaaGreatDoor.V
namespace Go.Proofs.YtnihidkbkhcfoaaGreatDoor.V
open Go
open Go.ChangeMaps (setBlock)
structure Gy (w:World) (g b:Nat) (m:List (aa×Value)) (L:List aa) (last:Option (aa×Value)):Prop where
 at_:∃ es clock since seen c0,w.heap[g]? = some (.mapIter (some b) since seen c0)∧w.heap[b]? = some (.map es clock)∧vc es=rows m∧(∀ e∈es.toList,e.born<since)∧since≤c0∧c0=clock∧(es.toList.map (·.born)).Nodup∧
  L.map S=(leftOf es seen).toList.map (·.key)∧(∀ p,last=some p→∃ (e:MapEntry) (ahi:Array Nat),e∈es.toList∧seen=ahi.push e.born∧e.key=S p.1∧e.val=p.2)
 keys:(m.map (·.1)).Nodup
section
variable {P:Program} {w w':World} {g b:Nat} {m:List (aa×Value)} {k:aa} {M:List Nat} {L:List aa} {last:Option (aa×Value)}
variable {ops:Array Oper} {Q:Exit→Act→World→Prop} {n:Nat} {ds:List Deferred} {l:List (Nat×Value)} {rest:List Oper} {d:Nat} {ty:TypeId} {pos:String} {af:Array Edge} {dd:Option Nat} {gg:Option (Nat×Bool)} {x y z:Operand} {t RS aay:TypeId} {v:Value}
theorem Gy.lt (h:Gy w g b m L last):g<w.heap.size:=by
 obtain⟨_,_,_,_,_,h1,_⟩:=h.at_;exact(Array.getElem?_eq_some_iff.1 h1).1
theorem Gy.mod (h:Gy w g b m L last) (k:Mod M w w') (dv:g∉M) (aQ:b∉M):Gy w' g b m L last:=by
 obtain⟨es,clock,since,seen,c0,h1,aq,aT⟩:=h.at_;have ae7:=(Array.getElem?_eq_some_iff.1 h1).1;have Ow:=(Array.getElem?_eq_some_iff.1 aq).1;exact⟨⟨es,clock,since,seen,c0,(k.block g ae7 dv).trans h1,(k.block b Ow aQ).trans aq,aT⟩,h.keys⟩
theorem Gy.I (h:Gy w g b m L last) (k:Mod [] w w'):Gy w' g b m L last:=h.mod k (by simp) (by simp)
end
end Go.Proofs.YtnihidkbkhcfoaaGreatDoor.V
namespace Go.Proofs.YtnihidkbkhcfoaaGreatDoor.V
open Go
section
variable {P:Program} {ops:Array Oper} {Q:Exit→Act→World→Prop} {n:Nat} {ds:List Deferred} {l:List (Nat×Value)} {w w':World} {rest:List Oper} {d:Nat} {ty:TypeId} {pos:String} {af:Array Edge} {dd:Option Nat} {gg:Option (Nat×Bool)} {x y z:Operand} {t t' RS aay T e:TypeId} {v:Value} {f:FuncId} {name:String}
theorem QN {t0:TypeId} {d0:TypeDesc} (jR:P.underlying T=some d0) (cj:(match d0 with | .interface _=>false | _=>true)=true) (ae:a6 l x=some (.iface T v)):bF P l ⟨dd,.typeAssert x t0 T false,ty,pos,af,gg⟩ w v w:=fun ρ h=>by
 cases d0 <;> first | (simp at cj;done) | simp [execOp,Instr.typeAssert,h _ _ ae,run_underlying jR]
end
section
variable {P:Program} {ops:Array Oper} {Q:Exit→Act→World→Prop} {n:Nat} {ds:List Deferred} {l:List (Nat×Value)} {w w':World} {fn:Func} {arZ:Ending→World→Prop} {v v':Value}
variable {rest:List Oper} {d:Nat} {op:Op} {ty:TypeId} {pos:String} {af:Array Edge} {x y:Operand} {t t':TypeId} {dd:Option Nat} {gg:Option (Nat×Bool)}
theorem r0 (hi:P.underlying t=some (.interface (P.methodsAt t))) (ae:a6 l x=some .nilIface):bF P l ⟨dd,.binOp .neq t x (.const .nilIface) t',ty,pos,af,gg⟩ w (.bool false) w:=fun ρ h=>by
 have h1:ρ (.const .nilIface) = .nilIface:=h _ _ rfl;have dv:eqGuard .neq t x (.const .nilIface) .nilIface .nilIface=pure ():=by cases x <;> rfl
 simp [execOp,h _ _ ae,h1,binOp,dv,run_equal_nil_nil w t hi]
theorem QG {T:TypeId} {v:Value} (hi:P.underlying t=some (.interface (P.methodsAt t))) (ae:a6 l x=some (.iface T v)):bF P l ⟨dd,.binOp .neq t x (.const .nilIface) t',ty,pos,af,gg⟩ w (.bool true) w:=fun ρ h=>by
 have h1:ρ (.const .nilIface) = .nilIface:=h _ _ rfl;have dv:eqGuard .neq t x (.const .nilIface) (.iface T v) .nilIface=pure ():=by rfl
 simp [execOp,h _ _ ae,h1,binOp,dv,run_equal_held_nil w t _ _ hi]
theorem IK {T M9 t0:TypeId} {v z:Value} {e:TypeId} (jR:P.underlying T=some (.pointer e)) (bY:¬ M9=T) (di:(P.info? T).bind (·.zero)=some z) (ae:a6 l x=some (.iface M9 v)):bF P l ⟨dd,.typeAssert x t0 T true,ty,pos,af,gg⟩ w (.tuple #[z,.bool false]) w:=fun ρ h=>by
 simp [execOp,Instr.typeAssert,h _ _ ae,run_underlying jR,bY,Cn di]
theorem abY (bl:fn.results = #[.tmp t]) (bK:iM t l=some v) (h:arZ (.returned v) w):fB (bodyPost P fn arZ) .ret n [] l w:=fun a ay=>⟨ay.defers,_,results_tmp bl _ _ _,by rw [u7 ay bK];exact h⟩
theorem IG {ad:Addr} {vs:List Value} {T c:Nat} (bl:fn.results = #[.cell t T]) (cc:rF P T c=true) (bK:iM t l=some (.pointer (some ad))) (bh:vs.length=c) (tC:q7 w ad vs) (h:arZ (.returned (.agg vs.toArray)) w):fB (bodyPost P fn arZ) .ret n [] l w:=fun a ay=>
 ⟨ay.defers,.agg vs.toArray,by simp [results,bl,ay.get _ _ bK,asAddr,ht cc bh tC],h⟩
theorem qN {ad:Addr} {vs:List Value} {T c:Nat} (bl:fn.results = #[.cell t T,.tmp t']) (cc:rF P T c=true) (bK:iM t l=some (.pointer (some ad))) (bh:vs.length=c) (tC:q7 w ad vs) (qc:iM t' l=some v') (h:arZ (.returned (.tuple #[.agg vs.toArray,v'])) w):fB (bodyPost P fn arZ) .ret n [] l w:=fun a ay=>
 ⟨ay.defers,.tuple #[.agg vs.toArray,v'],by simp [results,bl,ay.get _ _ bK,ay.get _ _ qc,asAddr,ht cc bh tC],h⟩
end
end Go.Proofs.YtnihidkbkhcfoaaGreatDoor.V
set_option maxRecDepth 10000
namespace Go.Proofs.YtnihidkbkhcfoaaGreatDoor.V
open Go Go.Proofs
theorem Ze:aP Tryz.prog 195:=aP.of Tryz.func195 (by kernel_rfl) (by kernel_rfl)
theorem Lv:aP Tryz.prog 194:=aP.of Tryz.func194 (by kernel_rfl) (by kernel_rfl)
theorem vv:aP Tryz.prog 164:=aP.of Tryz.func164 (by kernel_rfl) (by kernel_rfl)
theorem Zf:aP Tryz.prog 169:=aP.of Tryz.func169 (by kernel_rfl) (by kernel_rfl)
theorem Lw:aP Tryz.prog 162:=aP.of Tryz.func162 (by kernel_rfl) (by kernel_rfl)
theorem El:aP Tryz.prog 163:=aP.of Tryz.func163 (by kernel_rfl) (by kernel_rfl)
theorem Zg:aP Tryz.prog 165:=aP.of Tryz.func165 (by kernel_rfl) (by kernel_rfl)
theorem Zh:aP Tryz.prog 199:=aP.of Tryz.func199 (by kernel_rfl) (by kernel_rfl)
theorem Dz:aP Tryz.prog 198:=aP.of Tryz.func198 (by kernel_rfl) (by kernel_rfl)
theorem Lx (w:World) (s:aa) (bb:s.length<4294967281) (eW:je w):Calls Tryz.prog 194 [S s,S [58]].toArray w (bM fun u w'=>u = .tuple #[S (s.take (aH s)),S (s.drop (aH s+1)),.bool (decide (aH s<s.length))]∧Mod [] w w'):=by
 have:=abv w s bb eW;rw [Hh] at this;exact this
theorem wS (w:World) (s:aa) (bb:s.length<4294967281) (eW:je w):Calls Tryz.prog 163 [S s].toArray w (bM fun u w'=>u = .bool (dw s)∧Mod [] w w'):=by
 refine enter Tryz.func163 rfl rfl rfl (l:=[(0,_)]) ⟨rfl,trivial⟩ ?_;have E:=Mod.refl [] w;refine ab fun aV=>aU rfl (J aV (ab fun aL=>aG rfl (cQ (bE Lv rfl) (Lx _ s bb (eW.I E)) fun aB R=>?_)));replace E:=E.then R;refine ak 7 rfl (J aL (ab fun aX=>aG rfl (cQ (bE vv rfl) (Ak _ (s.take (aH s)) 195 g' Ze (fun w c h1 aq=>Jw w c h1 aq) Hi) fun cO R=>?_)));replace E:=E.then R;refine aU rfl (J aX (ab fun bt=>aG rfl ?_));refine nk (fun aS:(gn g' (s.take (aH s)))=true=>?_) (fun aS=>?_)
 ·refine ak 2 rfl (aw (br Tryz.underlying9 rfl) (aw (pR rfl rfl) ?_));refine da (fun bn:(s.length:Int)≤255=>?_) (fun bn=>?_)
  ·refine ak 4 rfl ?_;refine nk (fun bD:(!decide (aH s<s.length))=true=>?_) (fun bD=>?_)
   ·exact ak 11 rfl (J bt (ba (ar rfl rfl ⟨congrArg Value.bool (by rw [dw,mr,mu,kc];simp only [aS,bd bn,bD,bZ']),E⟩)))
   refine ak 2 rfl (aw (br Tryz.underlying9 rfl) (aw (pR rfl rfl) ?_));refine da (fun cC:((s.drop (aH s+1)).length:Int)≤5=>?_) (fun cC=>?_)
   ·refine ak 2 rfl (fC (bE vv rfl) (Ak _ (s.drop (aH s+1)) 168 sO vt (fun w c h1 aq=>sf w c) aei) fun gb R=>?_);replace E:=E.then R;refine nk (fun cV:(gn sO (s.drop (aH s+1)))=true=>?_) (fun cV=>?_)
    ·exact ak 4 rfl (J bt (ba (ar rfl rfl ⟨congrArg Value.bool (by rw [dw,mr,mu,kc];simp only [aS,bd bn,dM bD,bd cC,cV,bZ']),E⟩)))
    exact ak 4 rfl (J bt (ba (ar rfl rfl ⟨congrArg Value.bool (by rw [dw,mr,mu,kc];simp only [aS,bd bn,dM bD,bd cC,dM cV,bZ']),E⟩)))
   exact ak 7 rfl (J bt (ba (ar rfl rfl ⟨congrArg Value.bool (by rw [dw,mr,mu,kc];simp only [aS,bd bn,dM bD,bJ cC,bZ']),E⟩)))
  exact ak 15 rfl (J bt (ba (ar rfl rfl ⟨congrArg Value.bool (by rw [dw,mr,mu,kc];simp only [aS,bJ bn,bZ']),E⟩)))
 exact ak 19 rfl (J bt (ba (ar rfl rfl ⟨congrArg Value.bool (by rw [dw,mr,mu,kc];simp only [dM aS,bZ']),E⟩)))
theorem Hj (w:World) (s:aa) (sign:UInt8) (bb:s.length<4294967281) (eW:je w):Calls Tryz.prog 162 [S s,.int .u8 (sign.toNat:Int)].toArray w (bM fun u w'=>(∃ a b o,u = .tuple #[S a,S b,.bool o]∧o=(nC sign s&&decide (aH (s.drop 1)<(s.drop 1).length))∧(o=true→a=(s.drop 1).take (aH (s.drop 1))∧b=(s.drop 1).drop (aH (s.drop 1)+1)))∧Mod [] w w'):=by
 refine enter Tryz.func162 rfl rfl rfl (l:=[(0,_),(1,_)]) ⟨rfl,rfl,trivial⟩ ?_;have E:=Mod.refl [] w;refine ab fun aV=>ak 3 rfl (J aV (ax fun aL=>ab fun aX=>aG rfl (ag (dG rfl rfl) ?_)));refine da (fun aS:s = []=>?_) (fun aS=>?_)
 ·refine ak 11 rfl (J aX (aF rfl ?_));have dv:nC sign s=false:=by subst aS;rfl
  exact ab fun bt=>ak 3 rfl (J bt (ba (aR (by simp) (rZ rfl rfl rfl rfl ⟨⟨[],[],false,rfl,by rw [dv];rfl,fun h=>by cases h⟩,E⟩))))
 obtain⟨b0,r,rfl⟩:∃ b r,s=b::r:=List.exists_cons_of_ne_nil aS;refine ak 2 rfl (aw (b6 Tryz.underlying9 rfl rfl (by omega) rfl) (ak 2 rfl ?_));refine da (fun bn:(b0.toNat:Int)≠(sign.toNat:Int)=>?_) (fun bn=>?_)
 ·refine ak 6 rfl (J aX (aF rfl ?_));have nV:b0≠sign:=fun h=>bn (by rw [h]);have dv:nC sign (b0::r)=false:=by simp [nC,nV]
  exact ab fun bN=>ak 3 rfl (J bN (ba (aR (by simp) (rZ rfl rfl rfl rfl ⟨⟨[],[],false,rfl,by rw [dv];rfl,fun h=>by cases h⟩,E⟩))))
 refine ak 3 rfl (aw (br Tryz.underlying9 rfl) (aw (gq rfl rfl) ?_));refine da (fun bD:((b0::r).length:Int) > 255=>?_) (fun bD=>?_)
 ·refine ag (jA rfl rfl rfl) (J aX (aF rfl ?_));have dv:nC sign (b0::r)=false:=by
   simp only [List.length_cons] at bD;simp [nC];omega
  exact ab fun b2=>ak 3 rfl (J b2 (ba (aR (by simp) (rZ rfl rfl rfl rfl ⟨⟨[],[],false,rfl,by rw [dv];rfl,fun h=>by cases h⟩,E⟩))))
 refine ag (jA rfl rfl rfl) (J aX (aD rfl ?_));have nV:b0=sign:=dt (Classical.not_not.1 bn);have dv:nC sign (b0::r)=true:=by
  simp only [List.length_cons] at bD;simp [nC,nV];omega
 refine b8 (au aL (ab fun cd=>aG rfl (ag (cE (n:=1) Tryz.underlying9 rfl rfl (by simp)) (cQ (bE Lv rfl) (Lx _ ((b0::r).drop 1) (by simp at bb ⊢;omega) (eW.I E)) fun aB R=>?_))));replace E:=E.then R;exact ak 6 rfl (J cd (ba (rZ rfl rfl rfl rfl ⟨⟨_,_,_,rfl,by rw [dv,Bool.true_and],fun _=>⟨rfl,rfl⟩⟩,E⟩)))
theorem Zi (w:World) (s:aa) (bb:s.length<4294967281) (eW:je w):Calls Tryz.prog 128 [S s].toArray w (bM fun u w'=>u = .bool (fr 64 iZ s)∧Mod [] w w'):=by
 refine enter Tryz.func128 rfl rfl rfl (l:=[(0,_)]) ⟨rfl,trivial⟩ ?_;have E:=Mod.refl [] w;refine ab fun aV=>aU rfl (J aV (ab fun aL=>aG rfl (fv (bE Lw rfl) (Hj _ s 64 bb (eW.I E)) rfl fun cK aB az=>?_)));obtain⟨⟨a,b,o,rfl,et,aej⟩,R⟩:=az;replace E:=E.then R;refine ak 7 rfl (J aL (ab fun aX=>aG rfl ?_));refine nk (fun aS:(o)=true=>?_) (fun aS=>?_)
 ·obtain⟨Jx,oZ⟩:=aej aS;subst Jx;subst oZ;refine ak 2 rfl (fC (bE El rfl) (wS _ ((s.drop 1).drop (aH (s.drop 1)+1)) (by simp only [List.length_drop];omega) (eW.I E)) fun cO R=>?_);replace E:=E.then R;refine nk (fun bn:(dw ((s.drop 1).drop (aH (s.drop 1)+1)))=true=>?_) (fun bn=>?_)
  ·refine ak 3 rfl (fC (bE vv rfl) (Ak _ ((s.drop 1).take (aH (s.drop 1))) 169 iZ Zf (fun w c h1 aq=>Th w c h1 aq) NY) fun gb R=>?_);replace E:=E.then R;refine nk (fun bD:(gn iZ ((s.drop 1).take (aH (s.drop 1))))=true=>?_) (fun bD=>?_)
   ·exact ak 2 rfl (J aX (ba (ar rfl rfl ⟨congrArg Value.bool (by rw [j0 (by decide),← et];simp only [aS,bn,bD,bZ']),E⟩)))
   exact ak 2 rfl (J aX (ba (ar rfl rfl ⟨congrArg Value.bool (by rw [j0 (by decide),← et];simp only [aS,bn,dM bD,bZ']),E⟩)))
  exact ak 6 rfl (J aX (ba (ar rfl rfl ⟨congrArg Value.bool (by rw [j0 (by decide),← et];simp only [aS,dM bn,bZ']),E⟩)))
 exact ak 9 rfl (J aX (ba (ar rfl rfl ⟨congrArg Value.bool (by rw [j0 (by decide),← et];simp only [dM aS,bZ']),E⟩)))
theorem Zj (w:World) (s:aa) (bb:s.length<4294967281) (eW:je w):Calls Tryz.prog 127 [S s].toArray w (bM fun u w'=>u = .bool (fr 33 h0 s)∧Mod [] w w'):=by
 refine enter Tryz.func127 rfl rfl rfl (l:=[(0,_)]) ⟨rfl,trivial⟩ ?_;have E:=Mod.refl [] w;refine ab fun aV=>aU rfl (J aV (ab fun aL=>aG rfl (fv (bE Lw rfl) (Hj _ s 33 bb (eW.I E)) rfl fun cK aB az=>?_)));obtain⟨⟨a,b,o,rfl,et,aej⟩,R⟩:=az;replace E:=E.then R;refine ak 7 rfl (J aL (ab fun aX=>aG rfl ?_));refine nk (fun aS:(o)=true=>?_) (fun aS=>?_)
 ·obtain⟨Jx,oZ⟩:=aej aS;subst Jx;subst oZ;refine ak 2 rfl (fC (bE El rfl) (wS _ ((s.drop 1).drop (aH (s.drop 1)+1)) (by simp only [List.length_drop];omega) (eW.I E)) fun cO R=>?_);replace E:=E.then R;refine nk (fun bn:(dw ((s.drop 1).drop (aH (s.drop 1)+1)))=true=>?_) (fun bn=>?_)
  ·refine ak 3 rfl (fC (bE vv rfl) (Ak _ ((s.drop 1).take (aH (s.drop 1))) 165 h0 Zg (fun w c h1 aq=>Ti w c h1 aq) NZ) fun gb R=>?_);replace E:=E.then R;refine nk (fun bD:(gn h0 ((s.drop 1).take (aH (s.drop 1))))=true=>?_) (fun bD=>?_)
   ·exact ak 2 rfl (J aX (ba (ar rfl rfl ⟨congrArg Value.bool (by rw [j0 (by decide),← et];simp only [aS,bn,bD,bZ']),E⟩)))
   exact ak 2 rfl (J aX (ba (ar rfl rfl ⟨congrArg Value.bool (by rw [j0 (by decide),← et];simp only [aS,bn,dM bD,bZ']),E⟩)))
  exact ak 6 rfl (J aX (ba (ar rfl rfl ⟨congrArg Value.bool (by rw [j0 (by decide),← et];simp only [aS,dM bn,bZ']),E⟩)))
 exact ak 9 rfl (J aX (ba (ar rfl rfl ⟨congrArg Value.bool (by rw [j0 (by decide),← et];simp only [dM aS,bZ']),E⟩)))
theorem aek (w:World) (s:aa):Calls Tryz.prog 173 [S s].toArray w (bM fun u w'=>u = .bool (nI s)∧Mod [] w w'):=by
 refine enter Tryz.func173 rfl rfl rfl (l:=[(0,_)]) ⟨rfl,trivial⟩ ?_;have E:=Mod.refl [] w;refine ab fun aV=>aU rfl (J aV (ab fun aL=>aG rfl (cQ (bE Dz rfl) (Di _ s Bq) fun aB R=>?_)));replace E:=E.then R;refine ak 5 rfl (J aL (ab fun aX=>aG rfl ?_));refine nk (fun aS:(Lib.hasPrefix s Bq)=true=>?_) (fun aS=>?_)
 ·refine ak 2 rfl (aw (br Tryz.underlying9 rfl) (aw (pR rfl rfl) ?_));refine da (fun bn:(s.length:Int)≤255=>?_) (fun bn=>?_)
  ·refine ak 3 rfl (fC (bE vv rfl) (Ak _ (Lib.trimPrefix s Bq) 199 nH Zh (fun w c h1 aq=>Zd w c h1 aq) Tk) fun cO R=>?_);replace E:=E.then R;refine nk (fun bD:(gn nH (Lib.trimPrefix s Bq))=true=>?_) (fun bD=>?_)
   ·exact ak 2 rfl (J aX (ba (ar rfl rfl ⟨congrArg Value.bool (by rw [vw];simp only [aS,bd bn,bD,bZ']),E⟩)))
   exact ak 2 rfl (J aX (ba (ar rfl rfl ⟨congrArg Value.bool (by rw [vw];simp only [aS,bd bn,dM bD,bZ']),E⟩)))
  exact ak 6 rfl (J aX (ba (ar rfl rfl ⟨congrArg Value.bool (by rw [vw];simp only [aS,bJ bn,bZ']),E⟩)))
 exact ak 10 rfl (J aX (ba (ar rfl rfl ⟨congrArg Value.bool (by rw [vw];simp only [dM aS,bZ']),E⟩)))
end Go.Proofs.YtnihidkbkhcfoaaGreatDoor.V
