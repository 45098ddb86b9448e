/-
  A part of the proof: a map's size; its entries one by one, in whatever order; a method called through an interface; a type assertion that must hold; pointers held against nil; comparisons with nil of an interface, asserted types, results of functions that may panic. No condition of its own.
-/
import Derived.Test.YtnihidkbkhcfoaaGreatDoorM3
import Derived.Test.YtnihidkbkhcfoaaGreatDoorM5
import Derived.Test.YtnihidkbkhcfoaaGreatDoorM6
import Derived.Test.YtnihidkbkhcfoaaGreatDoorM2
import Derived.Test.YtnihidkbkhcfoaaGreatDoorM4
set_option linter.unusedVariables false
set_option linter.unusedSimpArgs false
set_option maxRecDepth 10000
namespace Go.Proofs.YtnihidkbkhcfoaaGreatDoor.V
open Go Go.Proofs
theorem DL:aQ Tryz.prog 233:=aQ.of Tryz.func233 (by kernel_rfl) (by kernel_rfl)
theorem x8:aQ Tryz.prog 202:=aQ.of Tryz.func202 (by kernel_rfl) (by kernel_rfl)
theorem Xp:aQ Tryz.prog 203:=aQ.of Tryz.func203 (by kernel_rfl) (by kernel_rfl)
theorem DM (w:World) (s:aa):Calls Tryz.prog 233 [S s].toArray w (bL fun u w'=>u = .tuple #[.int .i32 (((eL 4 s 0).getD 0:Nat):Int),.bool (eL 4 s 0).isSome]∧Mod [] w w'):=by
 refine enter Tryz.func233 rfl rfl rfl (l:=[(0,_)]) ⟨rfl,trivial⟩ ?_;have E:=Mod.refl [] w;refine ab fun aV=>ak 2 rfl (J aV (ax fun aL=>ab fun aW=>aG rfl (ag (bw Tryz.underlying9 rfl) (ag (cI rfl rfl) (J aW ?_)))));refine aI rfl (fun kb=>?_) (fun kb=>?_)
 ·have hh:=r6 4 s 0 (by omega);exact ab fun br=>ak 2 rfl (J br (aZ (aO (by simp) (ct rfl rfl rfl ⟨by rw [hh];rfl,E⟩))))
 refine ca (aw aL (ab fun bI=>aT rfl (J bI (ax fun bW=>ab fun cb=>aG rfl (ag (x9 (n:=4) Tryz.underlying9 rfl rfl (by omega)) (qn Tryz.underlying9 rfl rfl fun uW aB gu Rc O4=>?_))))));have pn:w.heap.size≤uW:=by have:=E.size;omega
 replace E:=E.then O4;refine J cb (eB (bU (σ:=Nat×Nat) (fun⟨p,n⟩=>[(4,.int .i32 (n:Int)),(13,.pointer (some ⟨uW,0,none⟩))]) (fun⟨p,n⟩ aB=>p≤4∧n<16 ^ p∧eL (4-p) ((s.take 4).drop p) n=eL 4 s 0∧Bu aB uW (s.take 4) p∧w.heap.size≤uW∧Mod [] w aB) (fun⟨p,n⟩=>4-p) (⟨0,0⟩) ⟨rfl,rfl,trivial⟩ (⟨by omega,by decide,zk 4 s 0,gu,pn,E⟩) ?_));rintro⟨p,n⟩ cN ⟨cp,aaD,hinv,gu,pn,E⟩;have alj:(s.take 4).length=4:=by rw [List.length_take];omega
 refine ax fun cx=>?_
 by_cases fM:p<4
 rotate_left
 ·have lI:¬ p<(s.take 4).length:=by omega
  refine bQ (lr rfl gu lI rfl (ag (eH rfl rfl) (J cx (ax fun fL=>?_))));refine a7 rfl (fun ks=>?_) (fun ks=>?_)
  ·cases ks
  skip
  exact bm (aO (by simp) (aO (by simp) (bS (aw bW (ab fun gX=>ak 3 rfl (J gX (aZ (ct rfl rfl rfl ⟨by have alm:eL 4 s 0=some n:=(by rw [← hinv,show 4-p=0 by omega];rfl);rw [alm];rfl,E⟩))))))))
 obtain⟨b,aS⟩:∃ b,(s.take 4)[p]? = some b:=⟨_,List.getElem?_eq_getElem (by omega)⟩;have yu:p<(s.take 4).length:=by omega
 by_cases nX:b.toNat<128
 rotate_left
 ·obtain⟨c,m,zq,fH,gC,r7⟩:=Xo aS nX;refine bQ (mE rfl gu yu zq rfl fun jn qS A3 DN=>?_);replace E:=E.trans' A3 (fun x ae=>.inr (by simp at ae;subst ae;exact pn));clear gu;have gu:=qS;refine ag (eH rfl rfl) (J cx (ax fun dG=>?_));refine a7 rfl (fun ks=>?_) (fun ks=>?_)
  ·skip
   refine ca (aw dG (eB (ab fun eC=>ak 2 rfl (J eC (ab fun eb=>aG rfl (ag ((pC rfl rfl).to (v':=.int .i32 ((c ||| 32:Nat):Int)) (congrArg (Value.int .i32) (QU (by omega)))) (cP (bF DO rfl) (xo _ iI (c ||| 32) (by decide) (by decide) (by decide) (QW gC) (QX r7) (QV fH)) fun jC R=>?_)))))));replace gu:=gu.I R;replace E:=E.then R;refine aT rfl (J eb (ax fun fq=>ab fun fE=>ak 2 rfl (jg (bh (by decide)) (ak 4 rfl (J fE (aD rfl ?_))))));have hh:eL 4 s 0=none:=tQ (d4:=0) fM aS (M9 (by omega)) hinv;exact ab fun fa=>ak 2 rfl (J fa (aZ (aO (by simp) (bx (by simp) (aO (by simp) (bx (by simp) (aO (by simp) (ct rfl rfl rfl ⟨by rw [hh];rfl,E⟩))))))))
  cases ks
 skip
 refine bQ (mE rfl gu yu (dec_lt aS nX) rfl fun fV qS A3 DN=>?_);replace E:=E.trans' A3 (fun x ae=>.inr (by simp at ae;subst ae;exact pn));clear gu;have gu:=qS;refine ag (eH rfl rfl) (J cx (ax fun cH=>?_));refine a7 rfl (fun ks=>?_) (fun ks=>?_);rotate_left
 ·cases ks
 skip
 refine ca (aw cH (eB (ab fun b5=>ak 2 rfl (J b5 (ab fun bX=>aG rfl (ag ((pC rfl rfl).to (v':=.int .i32 ((b.toNat ||| 32:Nat):Int)) (congrArg (Value.int .i32) (QU (by omega)))) (cP (bF DO rfl) (FQ _ iI (b.toNat ||| 32) (QY nX)) fun ic R=>?_)))))));replace gu:=gu.I R;replace E:=E.then R;refine aT rfl (J bX (ax fun cU=>ab fun b7=>ak 2 rfl ?_));refine cT (fun iF:Lib.indexByte iI (UInt8.ofNat (b.toNat ||| 32))<0=>?_) (fun iF=>?_)
 ·refine ak 4 rfl (J b7 (aD rfl ?_));have hh:eL 4 s 0=none:=tQ (d4:=0) fM aS (Ls nX (by omega)) hinv;exact ab fun cS=>ak 2 rfl (J cS (aZ (aO (by simp) (bx (by simp) (aO (by simp) (bx (by simp) (aO (by simp) (ct rfl rfl rfl ⟨by rw [hh];rfl,E⟩))))))))
 refine ak 3 rfl ?_;refine cT (fun nR:(b.toNat:Int)<48=>?_) (fun nR=>?_)
 ·refine ag (ji rfl rfl rfl) (J b7 (aD rfl ?_));have hh:eL 4 s 0=none:=tQ (d4:=0) fM aS (Ls nX (by omega)) hinv;exact ab fun de=>ak 2 rfl (J de (aZ (aO (by simp) (bx (by simp) (aO (by simp) (bx (by simp) (aO (by simp) (ct rfl rfl rfl ⟨by rw [hh];rfl,E⟩))))))))
 refine ag (ji rfl rfl rfl) (J b7 (aE rfl ?_));obtain⟨d,alk,aaE,hid⟩:=Q9 nX iF (by omega);rw [hid];have dV:=IZ fM aS alk hinv;have aqW:=Na aaD (by omega);exact ca (aw cU (bQ (aG rfl (ag ((zp rfl rfl (by omega)).to (v':=.int .i32 ((16*n:Nat):Int)) (congrArg (Value.int .i32) (acm (by omega)))) (aG rfl (ag ((sK Tryz.underlying3 Tryz.underlying21 rfl).to (v':=.int .i32 (d:Int)) (congrArg (Value.int .i32) (wrap32_in _ (by omega)))) (ag ((pC rfl rfl).to (v':=.int .i32 ((16*n+d:Nat):Int)) (congrArg (Value.int .i32) (aci (by omega) aaE))) (aT rfl (cF (bx (by simp) (fJ (σ:=Nat×Nat) (s:=⟨p,n⟩) (⟨p+1,16*n+d⟩) ⟨rfl,rfl,trivial⟩ ⟨by omega,acn aaD aaE,dV,gu,pn,E⟩ (by dsimp only;omega))))))))))))
theorem Ni (w:World) (s:aa):Calls Tryz.prog 203 [S s].toArray w (bL fun u w'=>u = .tuple #[.int .i32 ((fU s).1:Int),.int .i64 ((fU s).2:Int)]∧Mod [] w w'):=by
 refine enter Tryz.func203 rfl rfl rfl (l:=[(0,_)]) ⟨rfl,trivial⟩ ?_;have E:=Mod.refl [] w;refine ab fun aV=>ak 2 rfl (J aV (ax fun aL=>ab fun aW=>aG rfl (ag (dQ rfl rfl) (J aW ?_))));refine aI rfl (fun k0=>?_) (fun k0=>?_)
 ·subst k0;exact ab fun br=>ak 2 rfl (J br (aZ (aO (by simp) (ct rfl rfl rfl ⟨rfl,E⟩))))
 obtain⟨c,r,rfl⟩:∃ c r,s=c::r:=by
  cases s with
  | nil=>exact absurd rfl k0
  | cons c r=>exact⟨c,r,rfl⟩
 refine ca (aw aL (ax fun bI=>ab fun bW=>aG rfl (ag (b' (c:=c) Tryz.underlying9 rfl rfl (by decide) rfl) (cP (bF sL rfl) (B4 _ Lq c) fun aB R=>?_))));replace E:=E.then R;refine aT rfl (J bW (ab fun cb=>aG rfl (ag (dr rfl rfl) (J cb ?_))));refine aI rfl (fun pf=>?_) (fun pf=>?_)
 ·obtain⟨i,d,bY,hi,aqX,dA,aln⟩:=(wk c).resolve_left (fun h=>absurd pf (by have:=h.2;omega));rw [hi];exact ab fun cx=>aG rfl (ag (b' (u:=aaB) Tryz.underlying9 rfl rfl (by omega) (by rw [Int.toNat_natCast];exact dA)) (ag ((sK Tryz.underlying5 Tryz.underlying21 rfl).to (v':=.int .i32 (d:Int)) (congrArg (Value.int .i32) (by rw [UInt8.toNat_ofNat',wrap32_in _ (by omega)];omega))) (ak 2 rfl (J cx (aZ (aO (by simp) (ct rfl rfl rfl ⟨by rw [Ci bY];rfl,E⟩)))))))
 have ck:r2 c=none:=(wk c).elim (·.1) (fun⟨i,d,_,hi,_⟩=>absurd (show Lib.indexByte Lq c≥0 by rw [hi];omega) pf);refine ca (aw bI (ab fun cH=>aG rfl (ag ((cG (n:=1) Tryz.underlying9 rfl rfl (by simp)).to (v':=S r) rfl) (cP (bF DL rfl) (DM _ r) fun cN R=>?_))));replace E:=E.then R;refine ak 5 rfl (J cH (ax fun b5=>eB (ab fun bX=>aG rfl (ag (b' (c:=c) Tryz.underlying9 rfl rfl (by decide) rfl) (ag (eU rfl rfl) ?_)))));refine cT (fun hu:(c.toNat:Int)≠117=>?_) (fun hu=>?_)
 ·refine ak 13 rfl (J bX (aD rfl ?_));have hh:fU (_::r)=(0,0):=mf ck (by first | (left;intro e;subst e;exact hu rfl) | (right;left;simpa using hi) | (right;right;exact⟨n,qo,by omega,by omega⟩));exact ab fun cU=>ak 2 rfl (J cU (aZ (bx (by simp) (aO (by simp) (ct rfl rfl rfl ⟨by rw [hh];rfl,E⟩)))))
 obtain rfl:c=117:=du (by rw [Classical.not_not.1 hu];rfl);refine ak 3 rfl ?_;refine w8 (fun hi:((!(eL 4 r 0).isSome))=true=>?_) (fun hi=>?_)
 ·refine ak 10 rfl (J bX (aD rfl ?_));have hh:fU (_::r)=(0,0):=mf ck (by first | (left;intro e;subst e;exact hu rfl) | (right;left;simpa using hi) | (right;right;exact⟨n,qo,by omega,by omega⟩));exact ab fun b7=>ak 2 rfl (J b7 (aZ (bx (by simp) (aO (by simp) (ct rfl rfl rfl ⟨by rw [hh];rfl,E⟩)))))
 obtain⟨n,qo⟩:∃ n,eL 4 r 0=some n:=Option.isSome_iff_exists.1 (by simpa using hi);have apd:=uV qo;have alo:=wo qo;rw [qo,Option.getD_some];refine ak 3 rfl (ar (dr rfl rfl) ?_);refine cT (fun wi:(n:Int)≥56320=>?_) (fun wi=>?_);rotate_left
 ·refine ak 6 rfl (J bX (aE rfl (ab fun hE=>ak 2 rfl ?_)));refine cT (fun wu:(n:Int)<55296=>?_) (fun wu=>?_)
  ·exact ak 5 rfl (J hE (aD rfl (ab fun ij=>ak 3 rfl (J ij (aZ (bx (by simp) (aO (by simp) (ct rfl rfl rfl ⟨by rw [m' qo (by omega)];rfl,E⟩))))))))
  refine ak 2 rfl (ar (dr rfl rfl) ?_);refine cT (fun qm:(n:Int)≥57344=>?_) (fun qm=>?_)
  ·exact ak 2 rfl (J hE (aD rfl (ab fun jS=>ak 3 rfl (J jS (aZ (bx (by simp) (aO (by simp) (ct rfl rfl rfl ⟨by rw [m' qo (by omega)];rfl,E⟩))))))))
  refine ak 2 rfl (J hE (aE rfl (ab fun jT=>aG rfl (ag ((cG (n:=5) Tryz.underlying9 rfl rfl (by simp only [List.length_cons];omega)).to (v':=S (r.drop 4)) rfl) (cP (bF uX rfl) (uY _ (r.drop 4) [92,117]) fun jn R=>?_)))));replace E:=E.then R;refine ag (ff rfl) ?_;refine w8 (fun zr:((!decide (([92,117]:aa).length≤(r.drop 4).length∧(r.drop 4).take ([92,117]:aa).length = [92,117])))=true=>?_) (fun zr=>?_)
  ·refine aT rfl (J jT (aD rfl ?_));have hh:=hW qo (by omega) (.inl (Cj (by rw [← oM];rw [Bool.not_eq_true'] at zr;exact zr)));exact ab fun lj=>ak 2 rfl (J lj (aZ (bx (by simp) (aO (by simp) (ct rfl rfl rfl ⟨by rw [hh];rfl,E⟩)))))
  refine aT rfl (J jT (aE rfl ?_));have I1:List.isPrefixOf [92,117] (r.drop 4)=true:=by
   rw [← oM];cases bY:decide (([92,117]:aa).length≤(r.drop 4).length∧(r.drop 4).take ([92,117]:aa).length = [92,117])with
   | true=>rfl
   | false=>rw [bY] at zr;cases zr
  have zs:=zl I1;rw [List.drop_drop] at zs;have Bl:2≤(r.drop 4).length:=by
   rw [← oM,decide_eq_true_eq] at I1;exact I1.1
  rw [List.length_drop] at Bl;refine ca (bx (by simp) (aw b5 (ab fun jd=>aG rfl (ag ((cG (n:=7) Tryz.underlying9 rfl rfl (by simp only [List.length_cons];omega)).to (v':=S (r.drop 6)) rfl) (cP (bF DL rfl) (DM _ (r.drop 6)) fun jC R=>?_)))));replace E:=E.then R;refine ak 5 rfl (J jd (ax fun kC=>ab fun lk=>ak 2 rfl ?_));refine w8 (fun d':((!(eL 4 (r.drop 6) 0).isSome))=true=>?_) (fun d'=>?_)
  ·refine ak 8 rfl (J lk (aD rfl ?_));have hh:=hW qo (by omega) (by rw [zs];first | (left;simpa using d') | (right;exact⟨m,oN,by omega⟩));exact ab fun jU=>ak 2 rfl (J jU (aZ (aO (by simp) (ct rfl rfl rfl ⟨by rw [hh];rfl,E⟩))))
  obtain⟨m,oN⟩:∃ m,eL 4 (r.drop 6) 0=some m:=Option.isSome_iff_exists.1 (by simpa using d');have ag3:=uV oN;rw [oN,Option.getD_some];refine ak 3 rfl ?_;refine cT (fun nu:(m:Int)<56320=>?_) (fun nu=>?_)
  ·refine ak 5 rfl (J lk (aD rfl ?_));have hh:=hW qo (by omega) (by rw [zs];first | (left;simpa using d') | (right;exact⟨m,oN,by omega⟩));exact ab fun mQ=>ak 2 rfl (J mQ (aZ (aO (by simp) (ct rfl rfl rfl ⟨by rw [hh];rfl,E⟩))))
  refine ak 3 rfl (ar (dr rfl rfl) ?_);refine cT (fun Re:(m:Int)≥57344=>?_) (fun Re=>?_)
  ·refine ag (ji rfl rfl rfl) (J lk (aD rfl ?_));have hh:=hW qo (by omega) (by rw [zs];first | (left;simpa using d') | (right;exact⟨m,oN,by omega⟩));exact ab fun kD=>ak 2 rfl (J kD (aZ (aO (by simp) (ct rfl rfl rfl ⟨by rw [hh];rfl,E⟩))))
  refine ag (ji rfl rfl rfl) (J lk (aE rfl (ca (aw kC (ab fun ll=>aG rfl (ag ((hN rfl rfl).to (v':=.int .i32 ((n-55296:Nat):Int)) (congrArg (Value.int .i32) (by rw [wrap32_in _ (by omega)];omega))) (ag ((zp rfl rfl (by omega)).to (v':=.int .i32 ((1024*(n-55296):Nat):Int)) (congrArg (Value.int .i32) (Lt (by omega)))) (ag ((oO rfl rfl).to (v':=.int .i32 ((65536+1024*(n-55296):Nat):Int)) (congrArg (Value.int .i32) (by rw [wrap32_in _ (by omega)];omega))) (aG rfl (ag ((hN rfl rfl).to (v':=.int .i32 ((m-56320:Nat):Int)) (congrArg (Value.int .i32) (by rw [wrap32_in _ (by omega)];omega))) (ag ((oO rfl rfl).to (v':=.int .i32 ((65536+1024*(n-55296)+(m-56320):Nat):Int)) (congrArg (Value.int .i32) (by rw [wrap32_in _ (by omega)];omega))) (ak 2 rfl ?_))))))))))));exact J ll (aZ (ct rfl rfl rfl ⟨by rw [tR qo (by omega) (zs.trans oN) (by omega)];rfl,E⟩))
 refine ak 3 rfl ?_;refine cT (fun vW:(n:Int)<57344=>?_) (fun vW=>?_)
 ·refine ak 3 rfl (J bX (aD rfl ?_));have hh:fU (_::r)=(0,0):=mf ck (by first | (left;intro e;subst e;exact hu rfl) | (right;left;simpa using hi) | (right;right;exact⟨n,qo,by omega,by omega⟩));exact ab fun cS=>ak 2 rfl (J cS (aZ (bx (by simp) (aO (by simp) (ct rfl rfl rfl ⟨by rw [hh];rfl,E⟩)))))
 refine ak 3 rfl (J bX (aE rfl (ab fun de=>ak 2 rfl ?_)));refine cT (fun wu:(n:Int)<55296=>?_) (fun wu=>?_)
 ·exact ak 5 rfl (J de (aD rfl (ab fun dG=>ak 3 rfl (J dG (aZ (bx (by simp) (aO (by simp) (ct rfl rfl rfl ⟨by rw [m' qo (by omega)];rfl,E⟩))))))))
 refine ak 2 rfl (ar (dr rfl rfl) ?_);refine cT (fun qm:(n:Int)≥57344=>?_) (fun qm=>?_)
 ·exact ak 2 rfl (J de (aD rfl (ab fun eC=>ak 3 rfl (J eC (aZ (bx (by simp) (aO (by simp) (ct rfl rfl rfl ⟨by rw [m' qo (by omega)];rfl,E⟩))))))))
 refine ak 2 rfl (J de (aE rfl (ab fun eb=>aG rfl (ag ((cG (n:=5) Tryz.underlying9 rfl rfl (by simp only [List.length_cons];omega)).to (v':=S (r.drop 4)) rfl) (cP (bF uX rfl) (uY _ (r.drop 4) [92,117]) fun fV R=>?_)))));replace E:=E.then R;refine ag (ff rfl) ?_;refine w8 (fun zr:((!decide (([92,117]:aa).length≤(r.drop 4).length∧(r.drop 4).take ([92,117]:aa).length = [92,117])))=true=>?_) (fun zr=>?_)
 ·refine aT rfl (J eb (aD rfl ?_));have hh:=hW qo (by omega) (.inl (Cj (by rw [← oM];rw [Bool.not_eq_true'] at zr;exact zr)));exact ab fun fq=>ak 2 rfl (J fq (aZ (bx (by simp) (aO (by simp) (ct rfl rfl rfl ⟨by rw [hh];rfl,E⟩)))))
 refine aT rfl (J eb (aE rfl ?_));have I1:List.isPrefixOf [92,117] (r.drop 4)=true:=by
  rw [← oM];cases bY:decide (([92,117]:aa).length≤(r.drop 4).length∧(r.drop 4).take ([92,117]:aa).length = [92,117])with
  | true=>rfl
  | false=>rw [bY] at zr;cases zr
 have zs:=zl I1;rw [List.drop_drop] at zs;have Bl:2≤(r.drop 4).length:=by
  rw [← oM,decide_eq_true_eq] at I1;exact I1.1
 rw [List.length_drop] at Bl;refine ca (bx (by simp) (aw b5 (ab fun fE=>aG rfl (ag ((cG (n:=7) Tryz.underlying9 rfl rfl (by simp only [List.length_cons];omega)).to (v':=S (r.drop 6)) rfl) (cP (bF DL rfl) (DM _ (r.drop 6)) fun ic R=>?_)))));replace E:=E.then R;refine ak 5 rfl (J fE (ax fun fa=>ab fun fL=>ak 2 rfl ?_));refine w8 (fun d':((!(eL 4 (r.drop 6) 0).isSome))=true=>?_) (fun d'=>?_)
 ·refine ak 8 rfl (J fL (aD rfl ?_));have hh:=hW qo (by omega) (by rw [zs];first | (left;simpa using d') | (right;exact⟨m,oN,by omega⟩));exact ab fun gX=>ak 2 rfl (J gX (aZ (aO (by simp) (ct rfl rfl rfl ⟨by rw [hh];rfl,E⟩))))
 obtain⟨m,oN⟩:∃ m,eL 4 (r.drop 6) 0=some m:=Option.isSome_iff_exists.1 (by simpa using d');have ag3:=uV oN;rw [oN,Option.getD_some];refine ak 3 rfl ?_;refine cT (fun nu:(m:Int)<56320=>?_) (fun nu=>?_)
 ·refine ak 5 rfl (J fL (aD rfl ?_));have hh:=hW qo (by omega) (by rw [zs];first | (left;simpa using d') | (right;exact⟨m,oN,by omega⟩));exact ab fun hn=>ak 2 rfl (J hn (aZ (aO (by simp) (ct rfl rfl rfl ⟨by rw [hh];rfl,E⟩))))
 refine ak 3 rfl (ar (dr rfl rfl) ?_);refine cT (fun Re:(m:Int)≥57344=>?_) (fun Re=>?_)
 ·refine ag (ji rfl rfl rfl) (J fL (aD rfl ?_));have hh:=hW qo (by omega) (by rw [zs];first | (left;simpa using d') | (right;exact⟨m,oN,by omega⟩));exact ab fun hD=>ak 2 rfl (J hD (aZ (aO (by simp) (ct rfl rfl rfl ⟨by rw [hh];rfl,E⟩))))
 refine ag (ji rfl rfl rfl) (J fL (aE rfl (ca (aw fa (ab fun ho=>aG rfl (ag ((hN rfl rfl).to (v':=.int .i32 ((n-55296:Nat):Int)) (congrArg (Value.int .i32) (by rw [wrap32_in _ (by omega)];omega))) (ag ((zp rfl rfl (by omega)).to (v':=.int .i32 ((1024*(n-55296):Nat):Int)) (congrArg (Value.int .i32) (Lt (by omega)))) (ag ((oO rfl rfl).to (v':=.int .i32 ((65536+1024*(n-55296):Nat):Int)) (congrArg (Value.int .i32) (by rw [wrap32_in _ (by omega)];omega))) (aG rfl (ag ((hN rfl rfl).to (v':=.int .i32 ((m-56320:Nat):Int)) (congrArg (Value.int .i32) (by rw [wrap32_in _ (by omega)];omega))) (ag ((oO rfl rfl).to (v':=.int .i32 ((65536+1024*(n-55296)+(m-56320):Nat):Int)) (congrArg (Value.int .i32) (by rw [wrap32_in _ (by omega)];omega))) (ak 2 rfl ?_))))))))))));exact J ho (aZ (ct rfl rfl rfl ⟨by rw [tR qo (by omega) (zs.trans oN) (by omega)];rfl,E⟩))
theorem Rf (w:World) (s:aa) (k:Nat) (bf:s.length≤200000) (je:xM w):Calls Tryz.prog 180 [S s,.int .i64 (k:Int)].toArray w (bL fun u w'=>u = .tuple #[S ((fc s k).getD ([],0)).1,.int .i64 (((fc s k).getD ([],0)).2:Int),.bool (fc s k).isSome]∧Mod [] w w'):=by
 refine enter Tryz.func180 rfl rfl rfl (l:=[(0,_),(1,_)]) ⟨rfl,rfl,trivial⟩ ?_;have E:=Mod.refl [] w;refine ab fun aV=>ak 3 rfl (J aV (ax fun aL=>ab fun aW=>ak 2 rfl (jg (bN (show ¬ ((k:Int)<0)by omega)) (ak 3 rfl (ar (bw Tryz.underlying9 rfl) (ar (dr rfl rfl) ?_))))));refine cT (fun eI:(k:Int)≥(s.length:Int)=>?_) (fun eI=>?_)
 ·refine ak 7 rfl (J aW (aD rfl ?_));have hh:(fc s k)=none:=by
   unfold fc;rw [if_neg];intro h
   first | (have:=(List.getElem?_eq_some_iff.1 h).1;omega) | (rw [Ge] at h;injection h with h;subst h;exact b1 rfl)
  exact ab fun br=>ak 3 rfl (J br (aZ (aO (by simp) (r8 rfl rfl rfl rfl ⟨by rw [hh];rfl,E⟩))))
 obtain⟨c0,Ge⟩:∃ c0,s[k]? = some c0:=⟨_,List.getElem?_eq_getElem (by omega)⟩;refine ak 4 rfl (ar (b' Tryz.underlying9 rfl rfl (by omega) (by rw [Int.toNat_natCast];exact Ge)) (ar (eU rfl rfl) ?_));refine cT (fun b1:(c0.toNat:Int)≠34=>?_) (fun b1=>?_)
 ·refine ag (ji rfl rfl rfl) (J aW (aD rfl ?_));have hh:(fc s k)=none:=by
   unfold fc;rw [if_neg];intro h
   first | (have:=(List.getElem?_eq_some_iff.1 h).1;omega) | (rw [Ge] at h;injection h with h;subst h;exact b1 rfl)
  exact ab fun bI=>ak 3 rfl (J bI (aZ (aO (by simp) (r8 rfl rfl rfl rfl ⟨by rw [hh];rfl,E⟩))))
 refine ag (ji rfl rfl rfl) (J aW (aE rfl ?_));have e5:s[k]? = some 34:=by rw [Ge,du (show(c0.toNat:Int)=(34:UInt8).toNat by rw [Classical.not_not.1 b1];rfl)]
 refine ca (aw aL (ab fun bW=>aT rfl (J bW (ax fun cb=>ab fun cx=>aG rfl (ag (cW (r:=((k+1:Nat):Int)) rfl rfl (by rw [wrap64_in _ (by omega)];omega)) (aT rfl (J cx (eB (bU (σ:=Nat×Value×aa) (fun⟨i,v,out⟩=>[(0,S s),(7,v),(8,.int .i64 (i:Int))]) (fun⟨i,v,out⟩ aB=>(k<i∧i≤s.length∧out.length≤4*i∧∃ f,s.length-i<f∧fT f (s.drop i) i out=(fc s k))∧hK aB v out∧(∀ x∈a1 v,w.heap.size≤x)∧Mod [] w aB) (fun⟨i,v,out⟩=>s.length-i) (⟨k+1,.slice none 0 0,[]⟩) ⟨rfl,rfl,rfl,trivial⟩ (⟨⟨by omega,by omega,by simp,s.length-k,by omega,by rw [fc,if_pos e5]⟩,Own.nil w 5 1,by simp [a1],E⟩) ?_)))))))));rintro⟨i,v,out⟩ aB ⟨⟨hk,hi,Xq,f,dI,hinv⟩,O,my,E⟩;refine ax fun cH=>ab fun b5=>ak 2 rfl (ag (bw Tryz.underlying9 rfl) (ag (cI rfl rfl) (J b5 ?_)));refine aI rfl (fun tS=>?_) (fun tS=>?_);rotate_left
 ·have hh:(fc s k)=none:=by rw [← hinv,Nb (by omega)]
  exact bm (aO (by simp) (aO (by simp) (bS (aw cb (ab fun mQ=>ak 3 rfl (J mQ (aZ (r8 rfl rfl rfl rfl ⟨by rw [hh];rfl,E⟩))))))))
 obtain⟨c,bj⟩:∃ c,s[i]? = some c:=⟨_,List.getElem?_eq_getElem (by omega)⟩;obtain⟨g,rfl⟩:∃ g,f=g+1:=⟨f-1,by omega⟩;refine ca (aw cH (eB (ax fun bX=>?_)))
 by_cases dF:c=34
 ·subst dF;have tT:Utf8.decode ⟨⟨s.drop i⟩⟩ 0=(34,1):=by rw [wq (by omega) (by rw [pB bj (by decide)];simp),pB bj (by decide)];rfl
  have hh:(fc s k)=some (out,i+1):=by rw [← hinv,Gd bj]
  refine bQ (ak 2 rfl (ag (cG Tryz.underlying9 rfl rfl hi) (cP (bF x8 rfl) (x2 _ (s.drop i) (je.I E)) fun cN R=>?_)));replace E:=E.then R;replace O:=O.I R;rw [uO (show i<s.length by omega),tT];refine ak 5 rfl (J bX (ax fun cU=>eB (ab fun b7=>ak 2 rfl (jg (bh (by decide)) (aT rfl (J b7 (aD rfl (ab fun cS=>aG rfl (ag (oH (u:=out) Tryz.underlying65 Tryz.underlying5 Tryz.underlying9 rfl (O.same rfl (dj _))) (aG rfl ?_))))))))));exact ag (cW (r:=((i+1:Nat):Int)) rfl rfl (by rw [wrap64_in _ (by omega)];omega)) (ak 3 rfl (J cS (aZ (bx (by simp) (aO (by simp) (bx (by simp) (aO (by simp) (bx (by simp) (aO (by simp) (r8 rfl rfl rfl rfl ⟨by rw [hh];rfl,E⟩))))))))))
 by_cases eh:c=92
 ·subst eh;have tT:Utf8.decode ⟨⟨s.drop i⟩⟩ 0=(92,1):=by rw [wq (by omega) (by rw [pB bj (by decide)];simp),pB bj (by decide)];rfl
  obtain⟨bk,b2,kV⟩:=Ra (s.drop (i+1));rw [List.length_drop] at kV;have hJ:=Nc (f:=g) (out:=out) bj;rw [hinv] at hJ;refine bQ (ak 2 rfl (ag (cG Tryz.underlying9 rfl rfl hi) (cP (bF x8 rfl) (x2 _ (s.drop i) (je.I E)) fun fV R=>?_)));replace E:=E.then R;replace O:=O.I R;rw [uO (show i<s.length by omega),tT];refine ak 5 rfl (J bX (ax fun de=>eB (ab fun dG=>ak 2 rfl (jg (bN (by decide)) (aT rfl (J dG (aE rfl (ab fun eC=>ak 2 rfl (jg (bN (by decide)) (ak 3 rfl ?_))))))))));refine jg (bN (by decide)) (ak 6 rfl (J eC (aE rfl (ab fun eb=>ak 2 rfl (jg (bh (by decide)) (aT rfl (J eb (aD rfl (ab fun fq=>ak 2 rfl (ag (cW (r:=((i+1:Nat):Int)) rfl rfl (by rw [wrap64_in _ (by omega)];omega)) (ag (cG (n:=i+1) Tryz.underlying9 rfl rfl (by omega)) ?_)))))))))));refine cP (bF Xp rfl) (Ni _ (s.drop (i+1))) fun ic R=>?_;replace E:=E.then R;replace O:=O.I R;refine ak 5 rfl (J fq (ax fun fE=>ab fun fa=>ak 2 rfl ?_));refine cT (fun alp:((fU (s.drop (i+1))).2:Int)=0=>?_) (fun alp=>?_)
  ·refine J fa (aD rfl ?_);have Rg:(fc s k)=none:=by rw [hJ,if_pos (by omega)]
   exact ab fun fL=>ak 3 rfl (J fL (aZ (aO (by simp) (bx (by simp) (aO (by simp) (bx (by simp) (aO (by simp) (bx (by simp) (aO (by simp) (r8 rfl rfl rfl rfl ⟨by rw [Rg];rfl,E⟩))))))))))
  refine J fa (aE rfl (ca (aw fE (bQ (aG rfl (ag (cW (r:=(((fU (s.drop (i+1))).2+1:Nat):Int)) rfl rfl (by rw [wrap64_in _ (by omega)];omega)) (aT rfl (cF (bx (by simp) (aw de (ax fun gX=>?_)))))))))));have dV:fT g (s.drop (i+((fU (s.drop (i+1))).2+1))) (i+((fU (s.drop (i+1))).2+1)) (out++jf (fU (s.drop (i+1))).1)=(fc s k):=by rw [hJ,if_neg (by omega)]
  refine bQ (ak 2 rfl (fA (bF x' rfl) (DP _ v out (fU (s.drop (i+1))).1 O bk b2 (by omega)) rfl fun cO jn aA=>?_));obtain⟨eS,pj,nu⟩:=aA;have rN:∀ x∈a1 cO,w.heap.size≤x:=fun x ae=>(pj x ae).elim (my x) (Nat.le_trans E.size);replace E:=E.trans' nu (fun x ae=>.inr (my x ae));exact aT rfl (J gX (bQ (ak 2 rfl (ag (cW (r:=((i+((fU (s.drop (i+1))).2+1):Nat):Int)) rfl rfl (by rw [wrap64_in _ (by omega)];omega)) (aT rfl (cF (bx (by simp) (fJ (σ:=Nat×Value×aa) (s:=⟨i,v,out⟩) (⟨i+((fU (s.drop (i+1))).2+1),cO,out++jf (fU (s.drop (i+1))).1⟩) ⟨rfl,rfl,rfl,trivial⟩ ⟨⟨by omega,by omega,by rw [List.length_append];have:=zo (fU (s.drop (i+1))).1;omega,g,by omega,dV⟩,eS,rN,E⟩ (by dsimp only;omega)))))))))
 by_cases dk:(aJ (s.drop i)).2=0
 ·have tT:=Nd (show i<s.length by omega) dk;have hh:(fc s k)=none:=by rw [← hinv,zn bj dF eh,if_pos (.inl dk)]
  refine bQ (ak 2 rfl (ag (cG Tryz.underlying9 rfl rfl hi) (cP (bF x8 rfl) (x2 _ (s.drop i) (je.I E)) fun jC R=>?_)));replace E:=E.then R;replace O:=O.I R;rw [uO (show i<s.length by omega),tT];refine ak 5 rfl (J bX (ax fun hn=>eB (ab fun hD=>ak 2 rfl (jg (bN (by decide)) (aT rfl (J hD (aE rfl (ab fun ho=>ak 2 rfl (jg (bN (by decide)) (ak 3 rfl ?_))))))))));refine jg (bh (by decide)) (ak 3 rfl (jg (bh (by decide)) (ak 3 rfl (J ho (aD rfl ?_)))));have Rg:(fc s k)=none:=by first | exact hh | (rw [hJ,if_pos (.inr (by omega))])
  exact ab fun hE=>ak 3 rfl (J hE (aZ (bx (by simp) (aO (by simp) (bx (by simp) (aO (by simp) (bx (by simp) (aO (by simp) (r8 rfl rfl rfl rfl ⟨by rw [Rg];rfl,E⟩)))))))))
 have tT:=wq (show i<s.length by omega) dk;obtain⟨_,_,bk,b2⟩:=wm (ib (show i<s.length by omega)) dk;have kV:=kd (s.drop i);rw [List.length_drop] at kV;have hJ:=zn (f:=g) (out:=out) bj dF eh;rw [hinv] at hJ;have ag4:¬ (((aJ (s.drop i)).1:Int)=34):=fun h=>dF (du (by rw [← Ck bj dk (by omega)];exact h));have aaF:¬ (((aJ (s.drop i)).1:Int)=92):=fun h=>eh (du (by rw [← Ck bj dk (by omega)];exact h));refine bQ (ak 2 rfl (ag (cG Tryz.underlying9 rfl rfl hi) (cP (bF x8 rfl) (x2 _ (s.drop i) (je.I E)) fun iw R=>?_)));replace E:=E.then R;replace O:=O.I R;rw [uO (show i<s.length by omega),tT];refine ak 5 rfl (J bX (ax fun ij=>eB (ab fun jS=>ak 2 rfl (jg (bN (ag4)) (aT rfl (J jS (aE rfl (ab fun jT=>ak 2 rfl ?_))))))));refine cT (fun I0:((aJ (s.drop i)).1:Int)<32=>?_) (fun I0=>?_)
 ·refine ak 9 rfl (J jT (aD rfl ?_));have Rg:(fc s k)=none:=by first | exact hh | (rw [hJ,if_pos (.inr (by omega))])
  exact ab fun lj=>ak 3 rfl (J lj (aZ (bx (by simp) (aO (by simp) (bx (by simp) (aO (by simp) (bx (by simp) (aO (by simp) (r8 rfl rfl rfl rfl ⟨by rw [Rg];rfl,E⟩)))))))))
 refine ak 3 rfl ?_;refine cT (fun alq:((aJ (s.drop i)).1:Int)=65533=>?_) (fun alq=>?_)
 ·have iD:=Nf (show i<s.length by omega) dk (by omega);refine ak 3 rfl (jg (bN (by omega)) (ak 3 rfl (J jT (aE rfl (ab fun jd=>ak 2 rfl (jg (bN (aaF)) (aT rfl (J jd (aE rfl (ca (bx (by simp) (aw ij ?_))))))))))));refine ax fun kC=>?_;have dV:fT g (s.drop (i+(aJ (s.drop i)).2)) (i+(aJ (s.drop i)).2) (out++jf (aJ (s.drop i)).1)=(fc s k):=by rw [hJ,if_neg (by omega)]
  refine bQ (ak 2 rfl (fA (bF x' rfl) (DP _ v out (aJ (s.drop i)).1 O bk b2 (by omega)) rfl fun cO n' aA=>?_));obtain⟨eS,pj,nu⟩:=aA;have rN:∀ x∈a1 cO,w.heap.size≤x:=fun x ae=>(pj x ae).elim (my x) (Nat.le_trans E.size);replace E:=E.trans' nu (fun x ae=>.inr (my x ae));exact aT rfl (J kC (bQ (ak 2 rfl (ag (cW (r:=((i+(aJ (s.drop i)).2:Nat):Int)) rfl rfl (by rw [wrap64_in _ (by omega)];omega)) (aT rfl (cF (bx (by simp) (fJ (σ:=Nat×Value×aa) (s:=⟨i,v,out⟩) (⟨i+(aJ (s.drop i)).2,cO,out++jf (aJ (s.drop i)).1⟩) ⟨rfl,rfl,rfl,trivial⟩ ⟨⟨by omega,by omega,by rw [List.length_append];have:=zo (aJ (s.drop i)).1;omega,g,by omega,dV⟩,eS,rN,E⟩ (by dsimp only;omega)))))))))
 refine ak 6 rfl (J jT (aE rfl (ab fun lk=>ak 2 rfl (jg (bN (aaF)) (aT rfl (J lk (aE rfl (ca (bx (by simp) (aw ij (ax fun jU=>?_)))))))))));have dV:fT g (s.drop (i+(aJ (s.drop i)).2)) (i+(aJ (s.drop i)).2) (out++jf (aJ (s.drop i)).1)=(fc s k):=by rw [hJ,if_neg (by omega)]
 refine bQ (ak 2 rfl (fA (bF x' rfl) (DP _ v out (aJ (s.drop i)).1 O bk b2 (by omega)) rfl fun cO lY aA=>?_));obtain⟨eS,pj,nu⟩:=aA;have rN:∀ x∈a1 cO,w.heap.size≤x:=fun x ae=>(pj x ae).elim (my x) (Nat.le_trans E.size);replace E:=E.trans' nu (fun x ae=>.inr (my x ae));exact aT rfl (J jU (bQ (ak 2 rfl (ag (cW (r:=((i+(aJ (s.drop i)).2:Nat):Int)) rfl rfl (by rw [wrap64_in _ (by omega)];omega)) (aT rfl (cF (bx (by simp) (fJ (σ:=Nat×Value×aa) (s:=⟨i,v,out⟩) (⟨i+(aJ (s.drop i)).2,cO,out++jf (aJ (s.drop i)).1⟩) ⟨rfl,rfl,rfl,trivial⟩ ⟨⟨by omega,by omega,by rw [List.length_append];have:=zo (aJ (s.drop i)).1;omega,g,by omega,dV⟩,eS,rN,E⟩ (by dsimp only;omega)))))))))
set_option maxRecDepth 10000
theorem Zv:aQ Tryz.prog 157:=aQ.of Tryz.func157 (by kernel_rfl) (by kernel_rfl)
theorem aez:vT Tryz.prog 124 [(0,1)]=true:=by kernel_rfl
theorem Tz:hG Tryz.prog 124 ([.int .i64 0]):=by unfold hG;kernel_rfl
theorem yl:iz Tryz.prog 83 0 0 1=true:=by kernel_rfl
theorem L2:nM Tryz.prog 65=true:=by kernel_rfl
theorem gf:aQ Tryz.prog 62:=aQ.of Tryz.func62 (by kernel_rfl) (by kernel_rfl)
theorem Zw:aQ Tryz.prog 159:=aQ.of Tryz.func159 (by kernel_rfl) (by kernel_rfl)
theorem lR:aQ Tryz.prog 118:=aQ.of Tryz.func118 (by kernel_rfl) (by kernel_rfl)
theorem TE (w:World) (v:JV) (us:List Value) (asp:ao [] w v.D us):Calls Tryz.prog 117 [.agg us.toArray].toArray w (bL fun u w'=>u = .bool v.plain∧Mod [] w w'):=by
 refine enter Tryz.func117 rfl rfl rfl (l:=[(0,_)]) ⟨rfl,trivial⟩ ?_;have E:=Mod.refl [] w;obtain⟨al,cl,am,cm,rfl,kW,jJ⟩:=JV.bb asp;refine ab fun aV=>dP rfl rfl rfl fun g1 aB bR=>?_;have bH:=bR.le E;replace E:=E.then bR.mod;have U:=bR.az;refine aT rfl (J aV (ab fun aL=>ag (av hC rfl) (ag (bc dE rfl (U.cell rfl)) (aT rfl (J aL (ab fun aW=>aG rfl (ag (dr rfl rfl) ?_)))))));refine cT (fun eI:v.kind≥0=>?_) (fun eI=>?_);rotate_left
 ·exact ak 52 rfl (J aW (aZ (au rfl rfl ⟨congrArg Value.bool (by simp only [JV.plain];clear E asp kW jJ U;simp_all <;> omega),E⟩)))
 refine ak 3 rfl ?_;refine cT (fun hle:v.kind≤5=>?_) (fun hle=>?_);rotate_left
 ·exact ak 49 rfl (J aW (aZ (au rfl rfl ⟨congrArg Value.bool (by simp only [JV.plain];clear E asp kW jJ U;simp_all <;> omega),E⟩)))
 refine ak 4 rfl ?_;refine cT (fun bp:v.kind=1=>?_) (fun bp=>?_)
 ·refine ak 9 rfl (jg (bN (by omega)) (ar (ec rfl) (ar (av kP rfl) (ar (bc dE rfl (U.cell rfl)) (ar (lT rfl rfl) ?_)))));refine cT (fun TF:v.num=0=>?_) (fun TF=>?_)
  ·refine ak 5 rfl (jg (bN (by omega)) (ar (ec rfl) (ar (av ju rfl) (ar (bc bs rfl (U.cell rfl)) (ar (dQ rfl rfl) ?_)))));refine cT (fun Hs:v.str = []=>?_) (fun Hs=>?_)
   ·refine ak 5 rfl (jg (bN (by omega)) (ar (ec rfl) (ar (av gA rfl) (ar (bc jL rfl (U.cell rfl)) (ar (bl Tryz.underlying22 rfl) (ar (lT rfl rfl) ?_))))));refine cT (fun p0:(v.list.length:Int)=0=>?_) (fun p0=>?_)
    ·refine ak 5 rfl (jg (bN (by omega)) (ar (ec rfl) (ar (av b9 rfl) (ar (bc dB rfl (U.cell rfl)) (ar (bl Tryz.underlying23 rfl) (ar (lT rfl rfl) ?_))))));refine cT (fun vy:(v.map.length:Int)=0=>?_) (fun vy=>?_)
     ·exact ak 3 rfl (J aW (aZ (au rfl rfl ⟨congrArg Value.bool (by simp only [JV.plain];clear E asp kW jJ U;simp_all <;> omega),E⟩)))
     exact ak 3 rfl (J aW (aZ (au rfl rfl ⟨congrArg Value.bool (by simp only [JV.plain];clear E asp kW jJ U;simp_all <;> omega),E⟩)))
    exact ak 13 rfl (J aW (aZ (au rfl rfl ⟨congrArg Value.bool (by simp only [JV.plain];clear E asp kW jJ U;simp_all <;> omega),E⟩)))
   exact ak 23 rfl (J aW (aZ (au rfl rfl ⟨congrArg Value.bool (by simp only [JV.plain];clear E asp kW jJ U;simp_all <;> omega),E⟩)))
  exact ak 32 rfl (J aW (aZ (au rfl rfl ⟨congrArg Value.bool (by simp only [JV.plain];clear E asp kW jJ U;simp_all <;> omega),E⟩)))
 refine ar (ec rfl) (ar (av qF rfl) (ar (bc jr rfl (U.cell rfl)) (ar (ff rfl) ?_)));refine mT (fun anY:(!v.is)=true=>?_) (fun anY=>?_);rotate_left
 ·exact ak 41 rfl (J aW (aZ (au rfl rfl ⟨congrArg Value.bool (by simp only [JV.plain];clear E asp kW jJ U;simp_all <;> omega),E⟩)))
 refine ak 5 rfl ?_;refine cT (fun bE:v.kind=2=>?_) (fun bE=>?_)
 ·refine ak 9 rfl (jg (bN (by omega)) (ar (ec rfl) (ar (av ju rfl) (ar (bc bs rfl (U.cell rfl)) (ar (dQ rfl rfl) ?_)))));refine cT (fun Hs:v.str = []=>?_) (fun Hs=>?_)
  ·refine ak 5 rfl (jg (bN (by omega)) (ar (ec rfl) (ar (av gA rfl) (ar (bc jL rfl (U.cell rfl)) (ar (bl Tryz.underlying22 rfl) (ar (lT rfl rfl) ?_))))));refine cT (fun p0:(v.list.length:Int)=0=>?_) (fun p0=>?_)
   ·refine ak 5 rfl (jg (bN (by omega)) (ar (ec rfl) (ar (av b9 rfl) (ar (bc dB rfl (U.cell rfl)) (ar (bl Tryz.underlying23 rfl) (ar (lT rfl rfl) ?_))))));refine cT (fun vy:(v.map.length:Int)=0=>?_) (fun vy=>?_)
    ·exact ak 3 rfl (J aW (aZ (au rfl rfl ⟨congrArg Value.bool (by simp only [JV.plain];clear E asp kW jJ U;simp_all <;> omega),E⟩)))
    exact ak 3 rfl (J aW (aZ (au rfl rfl ⟨congrArg Value.bool (by simp only [JV.plain];clear E asp kW jJ U;simp_all <;> omega),E⟩)))
   exact ak 13 rfl (J aW (aZ (au rfl rfl ⟨congrArg Value.bool (by simp only [JV.plain];clear E asp kW jJ U;simp_all <;> omega),E⟩)))
  exact ak 23 rfl (J aW (aZ (au rfl rfl ⟨congrArg Value.bool (by simp only [JV.plain];clear E asp kW jJ U;simp_all <;> omega),E⟩)))
 refine ar (ec rfl) (ar (av kP rfl) (ar (bc dE rfl (U.cell rfl)) (ar (lT rfl rfl) ?_)));refine cT (fun TF:v.num=0=>?_) (fun TF=>?_);rotate_left
 ·exact ak 32 rfl (J aW (aZ (au rfl rfl ⟨congrArg Value.bool (by simp only [JV.plain];clear E asp kW jJ U;simp_all <;> omega),E⟩)))
 refine ak 5 rfl ?_;refine cT (fun cE:v.kind=3=>?_) (fun cE=>?_)
 ·refine ak 9 rfl (jg (bN (by omega)) (ar (ec rfl) (ar (av gA rfl) (ar (bc jL rfl (U.cell rfl)) (ar (bl Tryz.underlying22 rfl) (ar (lT rfl rfl) ?_))))));refine cT (fun p0:(v.list.length:Int)=0=>?_) (fun p0=>?_)
  ·refine ak 5 rfl (jg (bN (by omega)) (ar (ec rfl) (ar (av b9 rfl) (ar (bc dB rfl (U.cell rfl)) (ar (bl Tryz.underlying23 rfl) (ar (lT rfl rfl) ?_))))));refine cT (fun vy:(v.map.length:Int)=0=>?_) (fun vy=>?_)
   ·exact ak 3 rfl (J aW (aZ (au rfl rfl ⟨congrArg Value.bool (by simp only [JV.plain];clear E asp kW jJ U;simp_all <;> omega),E⟩)))
   exact ak 3 rfl (J aW (aZ (au rfl rfl ⟨congrArg Value.bool (by simp only [JV.plain];clear E asp kW jJ U;simp_all <;> omega),E⟩)))
  exact ak 13 rfl (J aW (aZ (au rfl rfl ⟨congrArg Value.bool (by simp only [JV.plain];clear E asp kW jJ U;simp_all <;> omega),E⟩)))
 refine ar (ec rfl) (ar (av ju rfl) (ar (bc bs rfl (U.cell rfl)) (ar (dQ rfl rfl) ?_)));refine cT (fun Hs:v.str = []=>?_) (fun Hs=>?_)
 ·refine ak 5 rfl ?_;refine cT (fun cY:v.kind=4=>?_) (fun cY=>?_)
  ·refine ak 10 rfl (jg (bN (by omega)) (ar (ec rfl) (ar (av b9 rfl) (ar (bc dB rfl (U.cell rfl)) (ar (bl Tryz.underlying23 rfl) (ar (lT rfl rfl) ?_))))));refine cT (fun vy:(v.map.length:Int)=0=>?_) (fun vy=>?_)
   ·exact ak 3 rfl (J aW (aZ (au rfl rfl ⟨congrArg Value.bool (by simp only [JV.plain];clear E asp kW jJ U;simp_all <;> omega),E⟩)))
   exact ak 3 rfl (J aW (aZ (au rfl rfl ⟨congrArg Value.bool (by simp only [JV.plain];clear E asp kW jJ U;simp_all <;> omega),E⟩)))
  refine ar (ec rfl) (ar (av gA rfl) (ar (bc jL rfl (U.cell rfl)) (ar (bl Tryz.underlying22 rfl) (ar (lT rfl rfl) ?_))));refine cT (fun p0:(v.list.length:Int)=0=>?_) (fun p0=>?_)
  ·refine ak 5 rfl ?_;refine cT (fun eA:v.kind=5=>?_) (fun eA=>?_)
   ·exact ak 8 rfl (J aW (aZ (au rfl rfl ⟨congrArg Value.bool (by simp only [JV.plain];clear E asp kW jJ U;simp_all <;> omega),E⟩)))
   refine ar (ec rfl) (ar (av b9 rfl) (ar (bc dB rfl (U.cell rfl)) (ar (bl Tryz.underlying23 rfl) (ar (lT rfl rfl) ?_))));refine cT (fun vy:(v.map.length:Int)=0=>?_) (fun vy=>?_)
   ·exact ak 3 rfl (J aW (aZ (au rfl rfl ⟨congrArg Value.bool (by simp only [JV.plain];clear E asp kW jJ U;simp_all <;> omega),E⟩)))
   exact ak 3 rfl (J aW (aZ (au rfl rfl ⟨congrArg Value.bool (by simp only [JV.plain];clear E asp kW jJ U;simp_all <;> omega),E⟩)))
  exact ak 13 rfl (J aW (aZ (au rfl rfl ⟨congrArg Value.bool (by simp only [JV.plain];clear E asp kW jJ U;simp_all <;> omega),E⟩)))
 exact ak 23 rfl (J aW (aZ (au rfl rfl ⟨congrArg Value.bool (by simp only [JV.plain];clear E asp kW jJ U;simp_all <;> omega),E⟩)))
theorem TG (w:World) (x:Bool):Calls Tryz.prog 157 [.bool x].toArray w (bL fun u w'=>u=S (if x then JV.iT else JV.gF)∧Mod [] w w'):=by
 refine enter Tryz.func157 rfl rfl rfl (l:=[(0,_)]) ⟨rfl,trivial⟩ ?_;have E:=Mod.refl [] w;refine ab fun aV=>aT rfl (J aV (ax fun aL=>ab fun aW=>aG rfl (J aW ?_)));refine a7 rfl (fun aU=>?_) (fun aU=>?_)
 ·exact ab fun br=>aT rfl (J br (aZ (aO (by simp) (au rfl rfl ⟨by rw [aU];rfl,E⟩))))
 exact ca (aw aL (ab fun bI=>aT rfl (J bI (aZ (au rfl rfl ⟨by rw [aU];rfl,E⟩)))))
theorem Zx (w:World) (x:Bool):Calls Tryz.prog 119 [.bool x].toArray w (bL fun u w'=>u=S (if x then JV.iT else JV.gF)∧Mod [] w w'):=by
 refine enter Tryz.func119 rfl rfl rfl (l:=[(0,_)]) ⟨rfl,trivial⟩ ?_;have E:=Mod.refl [] w;refine ab fun aV=>aT rfl (J aV (ab fun aL=>aG rfl (cP (bF Zv rfl) (TG _ _) fun aB R=>?_)));replace E:=E.then R;exact aT rfl (J aL (aZ (au rfl rfl ⟨rfl,E⟩)))
theorem eX (w:World) (e:Int):Calls Tryz.prog 62 [.int .i64 e].toArray w (anZ 124 e w):=by
 exact enter Tryz.func62 rfl rfl rfl (l:=[(0,_)]) ⟨rfl,trivial⟩ (bQ (aG rfl (ag (a' (cs:=[_]) aez Tz rfl rfl) (ag (I' Tryz.underlying124 rfl rfl) (Sm rfl (ed ⟨rfl,rfl⟩))))))
theorem lS (w:World) (g:Nat) (u:Value) (b:aa) (O6:vz w g 83 u b) (t:aa) (cf:t.length≤1000000):Calls Tryz.prog 118 [.pointer (some ⟨g,0,none⟩),S t].toArray w (AA w g 83 124 u (cu (b++t))):=by
 refine enter Tryz.func118 rfl rfl rfl (l:=[(0,_),(1,_)]) ⟨rfl,rfl,trivial⟩ (ax fun aV=>?_);have H:=kO.init O6;refine bQ (ak 3 rfl (ag (av yl rfl) (ag (bc L2 rfl (H.s9.az.cell rfl)) (aG rfl (bu cV rfl rfl H.s9.own (Src.str Tryz.underlying9 t) (by decide) (by have:=H.s9.len;omega) (by have:=H.s9.len;omega) rfl fun gi aB eD=>?_)))));have eS:hK aB gi (b++t):=eD.own.same (by simp) (by simp [dj,j8]);obtain⟨pd,c1,rfl,fH,gC⟩:=eS.form;have gP:=H.s9.az.mod eD.mod (fun ae=>H.s9.ne _ ae rfl);refine ag (ee rfl) (ag (av yl rfl) (ea L2 gP rfl rfl rfl (by simp) fun cN an0=>?_));have ap0:=an0.az;have arD:=H.app eD an0.mod;refine J aV (ab fun aL=>ak 2 rfl (ag (av yl rfl) (ag (bc L2 rfl (ap0.cell rfl)) (ag (bl Tryz.underlying65 rfl) (ag (gq rfl rfl) (J aL ?_))))));refine aI rfl (fun yS=>?_) (fun yS=>?_)
 ·refine bQ ?_;refine fQ (bF gf rfl) (eX _ 3) rfl (fun cQ aA=>aA.elim) (fun lW fV aA=>?_) fun cO fV aA=>?_
  ·obtain⟨rfl,rfl⟩:=aA;exact ed ⟨3,if_pos (by omega),by decide,rfl,arD⟩
  exact aA.elim
 exact ca (ku rfl ((H.aiV eD eS an0.mod ap0 (by omega)).fin (if_neg (by omega))))
theorem AB (w:World) (g:Nat) (u:Value) (b:aa) (O6:vz w g 83 u b) (s:aa):Calls Tryz.prog 121 [.pointer (some ⟨g,0,none⟩),S s].toArray w (AA w g 83 124 u (fb b s)):=by
 refine enter Tryz.func121 rfl rfl rfl (l:=[(0,_),(1,_)]) ⟨rfl,rfl,trivial⟩ (ax fun aV=>ax fun aL=>?_);have H:=kO.init O6;refine bQ (aG rfl (ag (bw Tryz.underlying9 rfl) (ag (gq rfl rfl) (J aL ?_))));refine aI rfl (fun kq=>?_) (fun kq=>?_)
 ·refine bQ ?_;refine fQ (bF gf rfl) (eX _ 3) rfl (fun cQ aA=>aA.elim) (fun lW aB aA=>?_) fun cO aB aA=>?_
  ·obtain⟨rfl,rfl⟩:=aA;exact aO (by simp) (ed (H.fail (if_pos (by omega))))
  exact aA.elim
 refine ca (aw aV (ab fun aW=>aG rfl (cP (bF Zw rfl) (Zr _ s (by omega)) fun cN R=>?_)));replace H:=H.I R;refine ak 5 rfl (J aW (ax fun br=>ab fun bI=>ak 2 rfl (J bI ?_)));refine a7 rfl (fun mK=>?_) (fun mK=>?_)
 ·have bK:cn s=false:=by simpa using mK
  refine bQ ?_;refine fQ (bF gf rfl) (eX _ 1) rfl (fun cQ aA=>aA.elim) (fun lW fV aA=>?_) fun cO fV aA=>?_
  ·obtain⟨rfl,rfl⟩:=aA;exact aO (by simp) (ed (H.fail (by rw [fb,if_neg (by omega),bK];rfl)))
  exact aA.elim
 have bK:cn s=true:=by simpa using mK
 refine ca (aw br (bQ (ak 2 rfl ?_)));have MC:=l7 s;have WK:(cw s).length=(db s).length+2:=by simp [cw]
 rw [bK,if_pos rfl];refine fQ (bF lR rfl) (lS _ _ _ _ H.s9 (cw s) (by omega)) rfl (fun cQ aA=>aA.elim) (fun lW ic aA=>?_) fun cO ic aA=>?_
 ·have cp:=H.panic (r:=fb b s) aA (fun e he=>by rw [fb,if_neg (by omega),bK];exact he);exact ed cp
 obtain⟨gi,dn,cC,H1,nu,pj⟩:=H.ret aA;replace H:=H1;exact cF (ku rfl (H.fin (r:=fb b s) (by rw [fb,if_neg (by omega),bK];exact cC)))
theorem CR (w:World) (g:Nat) (u:Value) (b:aa) (O6:vz w g 83 u b) (k:Nat):Calls Tryz.prog 122 [.pointer (some ⟨g,0,none⟩),.int .i64 (k:Int)].toArray w (AA w g 83 124 u (if k=0 then .ok b else cu (b ++ [44]))):=by
 refine enter Tryz.func122 rfl rfl rfl (l:=[(0,_),(1,_)]) ⟨rfl,rfl,trivial⟩ (ax fun aV=>?_);have H:=kO.init O6;refine bQ (ak 2 rfl (J aV ?_));refine aI rfl (fun cL=>?_) (fun cL=>?_)
 ·skip
  refine bQ (aG rfl ?_);refine fQ (bF lR rfl) (lS _ _ _ _ H.s9 [44] (by simp)) rfl (fun cQ aA=>aA.elim) (fun lW aB aA=>?_) fun cO aB aA=>?_
  ·have cp:=H.panic (r:=if k=0 then .ok b else cu (b ++ [44])) aA (fun e he=>by rw [if_neg (by omega)];exact he);exact ed cp
  obtain⟨gi,dn,cC,H1,nu,pj⟩:=H.ret aA;replace H:=H1;exact cF (ku rfl (H.fin (by rw [if_neg (by omega)];exact cC)))
 skip
 exact ca (ku rfl (H.fin (by rw [if_pos (by omega)])))
set_option maxRecDepth 10000
theorem Zy:aQ Tryz.prog 119:=aQ.of Tryz.func119 (by kernel_rfl) (by kernel_rfl)
theorem EB:aQ Tryz.prog 121:=aQ.of Tryz.func121 (by kernel_rfl) (by kernel_rfl)
theorem L3:aQ Tryz.prog 122:=aQ.of Tryz.func122 (by kernel_rfl) (by kernel_rfl)
theorem EC:aQ Tryz.prog 66:=aQ.of Tryz.func66 (by kernel_rfl) (by kernel_rfl)
theorem Zz:aQ Tryz.prog 117:=aQ.of Tryz.func117 (by kernel_rfl) (by kernel_rfl)
theorem ED (N:Nat) (dK:∀ (w:World) (v:JV) (us:List Value) (deep:Nat) (b:aa) (u:Value) (g:Nat),v.sz≤N→vz w g 83 u b→ao (g::a1 u) w v.D us→deep≤32→nT w→K0∉g::a1 u→Calls Tryz.prog 66 [.pointer (some ⟨g,0,none⟩),.agg us.toArray,.int .i64 (deep:Int)].toArray w (AA w g 83 124 u (v.wr deep b))) (w:World) (v:JV) (us:List Value) (deep:Nat) (b:aa) (u:Value) (g:Nat) (h7:v.sz≤N+1) (O6:vz w g 83 u b) (asp:ao (g::a1 u) w v.D us) (bY:deep≤32) (jG:nT w) (nt:K0∉g::a1 u):Calls Tryz.prog 66 [.pointer (some ⟨g,0,none⟩),.agg us.toArray,.int .i64 (deep:Int)].toArray w (AA w g 83 124 u (v.wr deep b)):=by
 refine enter Tryz.func66 rfl rfl rfl (l:=[(0,_),(1,_),(2,_)]) ⟨rfl,rfl,rfl,trivial⟩ ?_;obtain⟨al,cl,am,cm,rfl,kW,jJ⟩:=JV.bb asp;have O3:=(JV.cv kW jJ).e9 (A':=[]) (by simp);refine nm fun K1 aV=>?_;have H:=kO.init O6;refine bQ (dP rfl rfl rfl fun g1 aB bR=>?_);replace H:=H.I bR.mod;have U:=bR.az;have K1:=vA.Qd O6 U (by have:=bR.at_;omega);refine J aV (nm fun K2 aL=>?_);have J2:∀ (aB:World),v.bare=true∧(v.kind≥4→deep<32)∧kO w aB u g 83 u b∧vA aB g u g1 25 [.int .i64 v.kind,.bool v.is,.int .i64 v.num,S v.str,.slice al v.list.length cl,.slice am v.map.length cm]→∀ a,Has 128 [] [(0,.pointer (some ⟨g,0,none⟩)),(2,.int .i64 (deep:Int)),(4,.pointer (some ⟨g1,0,none⟩))] a→K2 a aB:=by
  intro cN oE;obtain⟨oI,TH,H,K1⟩:=oE;refine aL _ _ _ _ (ab fun aW=>ag (av hC rfl) (ag (bc dE rfl (K1.az.cell rfl)) (J aW (eB (ab fun br=>ak 2 rfl (J br ?_))))));refine aI rfl (fun nS=>?_) (fun nS=>?_)
  ·have b1:¬ v.bare=false:=by rw [oI];simp
   refine bQ (aG rfl ?_);refine fQ (bF lR rfl) (lS _ _ _ _ H.s9 JV.jV (by simp)) rfl (fun cQ aA=>aA.elim) (fun lW fV aA=>?_) fun cO fV aA=>?_
   ·have cp:=H.panic (r:=v.wr deep b) aA (fun e he=>by rw [JV.dM,if_neg b1,if_pos nS];exact he);exact bx (by simp) (ed cp)
   obtain⟨gi,dn,cC,H1,nu,pj⟩:=H.ret aA;replace H:=H1;exact cF (bx (by simp) (ku rfl (H.fin (r:=v.wr deep b) (by rw [JV.dM,if_neg b1,if_pos nS];exact cC))))
  have b1:¬ v.bare=false:=by rw [oI];simp
  refine ab fun bI=>ak 2 rfl (J bI ?_);refine aI rfl (fun tA=>?_) (fun tA=>?_)
  ·refine bQ (aG rfl (ag (av qF rfl) (ag (bc jr rfl (K1.az.cell rfl)) (cP (bF Zy rfl) (Zx _ _) fun ic R=>?_))));replace H:=H.I R;replace K1:=K1.I R;refine fQ (bF lR rfl) (lS _ _ _ _ H.s9 (if v.is then JV.iT else JV.gF) (by split <;> simp)) rfl (fun cQ aA=>aA.elim) (fun lW jn aA=>?_) fun cO jn aA=>?_
   ·have cp:=H.panic (r:=v.wr deep b) aA (fun e he=>by rw [JV.dM,if_neg b1,if_neg nS,if_pos tA];exact he);exact bx (by simp) (ed cp)
   obtain⟨gi,dn,cC,H1,nu,pj⟩:=H.ret aA;replace H:=H1;exact cF (bx (by simp) (ku rfl (H.fin (r:=v.wr deep b) (by rw [JV.dM,if_neg b1,if_neg nS,if_pos tA];exact cC))))
  refine ab fun bW=>ak 2 rfl (J bW ?_);refine aI rfl (fun Ht=>?_) (fun Ht=>?_)
  ·refine bQ (aG rfl (ag (av kP rfl) (ag (bc dE rfl (K1.az.cell rfl)) ?_)));obtain⟨abK,hs⟩:=v7 oI Ht;have WM:=Lib.itoa_length_le v.num (by omega) (by omega);refine cP (bF mA rfl) (mB _ v.num (by omega) (by omega) (jG.mod H.mod nt)) fun jC R=>?_;replace H:=H.I R;replace K1:=K1.I R;refine fQ (bF lR rfl) (lS _ _ _ _ H.s9 (Lib.itoa v.num) (by omega)) rfl (fun cQ aA=>aA.elim) (fun lW iw aA=>?_) fun cO iw aA=>?_
   ·have cp:=H.panic (r:=v.wr deep b) aA (fun e he=>by rw [JV.dM,if_neg b1,if_neg nS,if_neg tA,if_pos Ht];exact he);exact bx (by simp) (ed cp)
   obtain⟨gi,dn,cC,H1,nu,pj⟩:=H.ret aA;replace H:=H1;exact cF (bx (by simp) (ku rfl (H.fin (r:=v.wr deep b) (by rw [JV.dM,if_neg b1,if_neg nS,if_neg tA,if_pos Ht];exact cC))))
  refine nm fun K7 cb=>bQ (ak 2 rfl (J cb ?_));refine aI rfl (fun Bh=>?_) (fun Bh=>?_)
  ·refine bQ (aG rfl (ag (av ju rfl) (ag (bc bs rfl (K1.az.cell rfl)) ?_)));refine fQ (bF EB rfl) (AB _ _ _ _ H.s9 v.str) rfl (fun cQ aA=>aA.elim) (fun lW n' aA=>?_) fun cO n' aA=>?_
   ·have cp:=H.panic (r:=v.wr deep b) aA (fun e he=>by rw [JV.dM,if_neg b1,if_neg nS,if_neg tA,if_neg Ht,if_pos Bh];exact he);exact bx (by simp) (ed cp)
   obtain⟨gi,dn,cC,H1,nu,pj⟩:=H.ret aA;replace H:=H1;exact cF (bx (by simp) (ku rfl (H.fin (r:=v.wr deep b) (by rw [JV.dM,if_neg b1,if_neg nS,if_neg tA,if_neg Ht,if_pos Bh];exact cC))))
  refine ab fun cx=>ak 2 rfl (J cx ?_);refine aI rfl (fun Fw=>?_) (fun Fw=>?_)
  ·refine nm fun wD cH=>?_;have an1:=TH (by omega);have qC:v.wr deep b=((cu (b ++ [91])).bind fun b=>JV.hL v.list deep true b).bind fun b=>cu (b ++ [93]):=by rw [JV.dM,if_neg b1,if_neg nS,if_neg tA,if_neg Ht,if_neg Bh,if_neg (by omega),if_pos Fw];cases cu (b ++ [91]) <;> rfl
   refine bQ (aG rfl ?_);refine fQ (bF lR rfl) (lS _ _ _ _ H.s9 [91] (by simp)) rfl (fun cQ aA=>aA.elim) (fun lW lY aA=>?_) fun cO lY aA=>?_
   ·have cp:=H.panic (r:=v.wr deep b) aA (fun e he=>by rw [qC,he];rfl);exact aO (by simp) (bx (by simp) (ed cp))
   obtain⟨gi,dn,cC,H1,nu,pj⟩:=H.ret aA;replace H:=H1;replace K1:=K1.step nu pj;refine J cH (ax fun b5=>ab fun bX=>ag (av gA rfl) (ag (bc jL rfl (K1.az.cell rfl)) (ag (bl Tryz.underlying22 rfl) (aG rfl (J bX (eB (bU (σ:=Nat×Value×aa) (fun⟨k,jx,eJ⟩=>[(0,.pointer (some ⟨g,0,none⟩)),(2,.int .i64 (deep:Int)),(4,.pointer (some ⟨g1,0,none⟩)),(65,.slice al v.list.length cl),(66,.int .i64 (v.list.length:Int)),(67,.int .i64 (k:Int))]) (fun⟨k,jx,eJ⟩ aB=>k≤v.list.length∧JV.hL (v.list.drop k) deep (decide (k=0)) eJ=((cu (b ++ [91])).bind fun b=>JV.hL v.list deep true b)∧kO w aB u g 83 jx eJ∧vA aB g jx g1 25 [.int .i64 v.kind,.bool v.is,.int .i64 v.num,S v.str,.slice al v.list.length cl,.slice am v.map.length cm]) (fun⟨k,jx,eJ⟩=>v.list.length-k) (⟨0,gi,dn⟩) ⟨rfl,rfl,rfl,rfl,rfl,rfl,trivial⟩ (⟨by omega,by rw [cC];rfl,H,K1⟩) ?_)))))));rintro⟨k,jx,eJ⟩ iy ⟨hk,hinv,H,K1⟩;refine ab fun cU=>ag (cI rfl rfl) (J cU (ax fun b7=>?_));refine aI rfl (fun jc=>?_) (fun jc=>?_);rotate_left
   ·have hh:((cu (b ++ [91])).bind fun b=>JV.hL v.list deep true b) = .ok eJ:=by rw [← hinv,FE (by omega)]
    refine bm (aO (by simp) (aO (by simp) (bS (aw b5 (bQ (aG rfl ?_))))));refine fQ (bF lR rfl) (lS _ _ _ _ H.s9 [93] (by simp)) rfl (fun cQ aA=>aA.elim) (fun lW qd aA=>?_) fun cO qd aA=>?_
    ·have cp:=H.panic (r:=v.wr deep b) aA (fun e he=>by rw [qC,hh];exact he);exact bx (by simp) (ed cp)
    obtain⟨afy,arE,aeA,an3,EE,FL⟩:=H.ret aA;replace H:=an3;exact cF (bx (by simp) (ku rfl (H.fin (r:=v.wr deep b) (by rw [qC,hh];exact aeA))))
   obtain⟨x,bO⟩:∃ x,v.list[k]? = some x:=⟨_,List.getElem?_eq_getElem (by omega)⟩;have abS:=JV.pR (H.rep kW);refine ca (aw b7 (ax fun cS=>eB (ab fun de=>aG rfl ?_)));obtain⟨jD,lf,dv,ei,cj⟩:=JV.yv (H.rep kW) bO;obtain⟨jM,jN,jb,h3,rfl,lg,lD⟩:=JV.bb ei;have hB:=JV.pR (H.rep kW);cases dv;refine ag (b6 kk rfl rfl (by omega)) (ag (a8 aK rfl rfl cj) ?_);have Hu:=Mod.refl [] iy;refine bt cB rfl fun g2 kr cK=>?_;have L4:=cK.le Hu;replace Hu:=Hu.then cK.mod;have ah:=cK.az;refine aT rfl (bo (vs:=[_,_,_,_,_,_]) aK ah rfl rfl rfl (by simp [Value.oneCell']) (by simp) fun qa rU=>?_);replace Hu:=Hu.own rU.mod L4;replace ah:aF qa g2 _ [_,_,_,_,_,_]:=rU.az;have K7:=vA.Qd H.s9 ah (L4);replace H:=H.I Hu;replace K1:=K1.I Hu;replace ei:=ei.I Hu;refine J de (ab fun dG=>ak 2 rfl ?_);refine fQ (bF L3 rfl) (CR _ _ _ _ H.s9 k) rfl (fun cQ aA=>aA.elim) (fun lW oC aA=>?_) fun cO oC aA=>?_
   ·have cp:=H.panic (r:=v.wr deep b) aA (fun e he=>by rw [qC,← abd bO hinv,he];rfl);exact aO (by simp) (bx (by simp) (aO (by simp) (aO (by simp) (bx (by simp) (aO (by simp) (bx (by simp) (ed cp)))))))
   obtain⟨NC,lx,uI,an2,yG,xK⟩:=H.ret aA;replace H:=an2;replace K1:=K1.step yG xK;replace K7:=K7.step yG xK;replace ei:=ei.wS yG xK;have lF:=abd bO hinv;rw [uI] at lF;replace lF:=tH lF;refine J dG (bQ (aG rfl (ag (a8 (vs:=[_,_,_,_,_,_]) aK rfl rfl (K7.az.cs rfl)) (aG rfl (ag (cW (r:=((deep+1:Nat):Int)) rfl rfl (by rw [wrap64_in _ (by omega)];omega)) ?_)))));refine fQ (bF EC rfl) (dK _ x _ (deep+1) _ _ _ (by have:=JV.gN (List.mem_of_getElem? bO);omega) H.s9 ei (by omega) (jG.mod H.mod nt) (fun h=>(H.z8 _ h).elim nt (fun h=>by have:=jG.lt;omega))) rfl (fun cQ aA=>aA.elim) (fun lW qJ aA=>?_) fun cO qJ aA=>?_
   ·have cp:=H.panic (r:=v.wr deep b) aA (fun e he=>by rw [qC,← lF,he];rfl);exact bx (by simp) (aO (by simp) (aO (by simp) (bx (by simp) (aO (by simp) (bx (by simp) (ed cp))))))
   obtain⟨Je,EU,Dx,aiW,oN,uL⟩:=H.ret aA;replace H:=aiW;replace K1:=K1.step oN uL;have kv:=lF;rw [Dx] at kv;replace kv:=tH kv;exact cF (bx (by simp) (aw cS (bQ (ag (aN rfl rfl (by omega)) (aG rfl (cF (fJ (σ:=Nat×Value×aa) (s:=⟨k,jx,eJ⟩) (⟨k+1,Je,EU⟩) ⟨rfl,rfl,rfl,rfl,rfl,rfl,trivial⟩ ⟨by omega,kv,H,K1⟩ (by dsimp only;omega))))))))
  refine ab fun eC=>ak 2 rfl (J eC ?_);refine aI rfl (fun aiX=>?_) (fun aiX=>?_);rotate_left
  ·exact absurd (show v.kind=5 by have:=JV.qQ oI;omega) aiX
  refine ax fun eb=>?_;have an1:=TH (by omega);have qC:v.wr deep b=((cu (b ++ [123])).bind fun b=>JV.fk v.map deep none b).bind fun b=>cu (b ++ [125]):=by rw [JV.dM,if_neg b1,if_neg nS,if_neg tA,if_neg Ht,if_neg Bh,if_neg (by omega),if_neg Fw];cases cu (b ++ [123]) <;> rfl
  refine bQ (aG rfl ?_);refine fQ (bF lR rfl) (lS _ _ _ _ H.s9 [123] (by simp)) rfl (fun cQ aA=>aA.elim) (fun lW rz aA=>?_) fun cO rz aA=>?_
  ·have cp:=H.panic (r:=v.wr deep b) aA (fun e he=>by rw [qC,he];rfl);exact aO (by simp) (bx (by simp) (ed cp))
  obtain⟨gi,dn,cC,H1,nu,pj⟩:=H.ret aA;replace H:=H1;replace K1:=K1.step nu pj;refine J eb (ax fun fq=>ab fun fE=>ag (av b9 rfl) (ag (bc dB rfl (K1.az.cell rfl)) (ag (bl Tryz.underlying23 rfl) (aG rfl (J fE (eB (bU (σ:=Nat×Value×aa) (fun⟨k,jx,eJ⟩=>[(0,.pointer (some ⟨g,0,none⟩)),(2,.int .i64 (deep:Int)),(4,.pointer (some ⟨g1,0,none⟩)),(88,.slice am v.map.length cm),(89,.int .i64 (v.map.length:Int)),(90,.int .i64 (k:Int))]) (fun⟨k,jx,eJ⟩ aB=>k≤v.map.length∧JV.fk (v.map.drop k) deep (hS v.map k) eJ=((cu (b ++ [123])).bind fun b=>JV.fk v.map deep none b)∧kO w aB u g 83 jx eJ∧vA aB g jx g1 25 [.int .i64 v.kind,.bool v.is,.int .i64 v.num,S v.str,.slice al v.list.length cl,.slice am v.map.length cm]) (fun⟨k,jx,eJ⟩=>v.map.length-k) (⟨0,gi,dn⟩) ⟨rfl,rfl,rfl,rfl,rfl,rfl,trivial⟩ (⟨by omega,by rw [cC];rfl,H,K1⟩) ?_)))))));rintro⟨k,jx,eJ⟩ uE ⟨hk,hinv,H,K1⟩;refine ab fun fa=>ag (cI rfl rfl) (J fa (ax fun fL=>?_));refine aI rfl (fun an4=>?_) (fun an4=>?_);rotate_left
  ·have hh:((cu (b ++ [123])).bind fun b=>JV.fk v.map deep none b) = .ok eJ:=by rw [← hinv,FJ (by omega)]
   refine bm (aO (by simp) (aO (by simp) (bS (aw fq (bQ (aG rfl ?_))))));refine fQ (bF lR rfl) (lS _ _ _ _ H.s9 [125] (by simp)) rfl (fun cQ aA=>aA.elim) (fun lW PB aA=>?_) fun cO PB aA=>?_
   ·have cp:=H.panic (r:=v.wr deep b) aA (fun e he=>by rw [qC,hh];exact he);exact bx (by simp) (ed cp)
   obtain⟨afy,arE,aeA,an3,EE,FL⟩:=H.ret aA;replace H:=an3;exact cF (bx (by simp) (ku rfl (H.fin (r:=v.wr deep b) (by rw [qC,hh];exact aeA))))
  obtain⟨x,bO⟩:∃ x,v.map[k]? = some x:=⟨_,List.getElem?_eq_getElem (by omega)⟩;have abS:=JV.hq (H.rep jJ);refine ca (aw fL (ax fun gX=>eB (ab fun hn=>aG rfl ?_)));obtain⟨jD,lf,dv,ei,cj⟩:=JV.kl (H.rep jJ) bO;obtain⟨jM,jN,jb,h3,rfl,lg,lD⟩:=JV.bb ei;have hB:=JV.hq (H.rep jJ);cases dv;refine ag (b6 cR rfl rfl (by omega)) (ag (a8 jP rfl rfl cj) ?_);have Hu:=Mod.refl [] uE;refine bt ey rfl fun g3 tD eQ=>?_;have L5:=eQ.le Hu;replace Hu:=Hu.then eQ.mod;have bz:=eQ.az;refine aT rfl (bo (vs:=[_,_,_,_,_,_,_]) jP bz rfl rfl rfl (by simp [Value.oneCell']) (by simp) fun tE s8=>?_);replace Hu:=Hu.own s8.mod L5;replace bz:aF tE g3 _ [_,_,_,_,_,_,_]:=s8.az;have wD:=vA.Qd H.s9 bz (L5);replace H:=H.I Hu;replace K1:=K1.I Hu;replace ei:=ei.I Hu;refine J hn (ab fun hD=>ak 2 rfl ?_);refine fQ (bF L3 rfl) (CR _ _ _ _ H.s9 k) rfl (fun cQ aA=>aA.elim) (fun lW rZ aA=>?_) fun cO rZ aA=>?_
  ·have cp:=H.panic (r:=v.wr deep b) aA (fun e he=>by rw [qC,← abe bO hinv,he];rfl);exact aO (by simp) (bx (by simp) (aO (by simp) (aO (by simp) (bx (by simp) (aO (by simp) (bx (by simp) (ed cp)))))))
  obtain⟨NC,lx,uI,an2,yG,xK⟩:=H.ret aA;replace H:=an2;replace K1:=K1.step yG xK;replace wD:=wD.step yG xK;replace ei:=ei.wS yG xK;have lF:=abe bO hinv;rw [uI] at lF;replace lF:=tH lF;refine J hD (ax fun ho=>ax fun hE=>?_)
  by_cases dT:(k:Int) > 0
  rotate_left
  ·have AD:=Hw (m:=v.map) (k:=k) (x:=x) (by omega);refine bT wide (by kernel_rfl) (f' 3 rfl rfl (eV rfl (bN dT) (eV rfl (bN dT) (eV rfl (bN dT) (eV rfl (bN dT) (eV rfl (bN dT) (eV rfl (bN dT) (eV rfl (bN dT) (eV rfl (bN dT) (eV rfl (bN dT) (eV rfl (bN dT) (ai (fun R=>(ji (bN dT) rfl rfl)) (bV rfl fun WQ R=>?_)))))))))))));replace H:=H.I R;replace K1:=K1.I R;replace ei:=ei.I R;replace wD:=wD.I R;refine aw hE (aE rfl (ca (aw ho (ax fun jT=>?_))));have kv:=lF;rw [AD] at kv;replace kv:=tH kv;refine bQ (aG rfl (ag (av eF rfl) (ag (bc bs rfl (wD.az.cell rfl)) ?_)));refine fQ (bF EB rfl) (AB _ _ _ _ H.s9 x.1) rfl (fun cQ aA=>aA.elim) (fun lW ME aA=>?_) fun cO ME aA=>?_
   ·have cp:=H.panic (r:=v.wr deep b) aA (fun e he=>by rw [qC,← kv,he];rfl);exact aO (by simp) (bx (by simp) (aO (by simp) (aO (by simp) (bx (by simp) (aO (by simp) (bx (by simp) (ed cp)))))))
   obtain⟨Je,EU,Dx,aiW,oN,uL⟩:=H.ret aA;replace H:=aiW;replace K1:=K1.step oN uL;replace wD:=wD.step oN uL;replace ei:=ei.wS oN uL;have o0:=kv;rw [Dx] at o0;replace o0:=tH o0;refine J jT (ab fun lj=>aG rfl ?_);refine fQ (bF lR rfl) (lS _ _ _ _ H.s9 [58] (by simp)) rfl (fun cQ aA=>aA.elim) (fun lW PA aA=>?_) fun cO PA aA=>?_
   ·have cp:=H.panic (r:=v.wr deep b) aA (fun e he=>by rw [qC,← o0,he];rfl);exact aO (by simp) (bx (by simp) (aO (by simp) (aO (by simp) (bx (by simp) (aO (by simp) (bx (by simp) (ed cp)))))))
   obtain⟨Bm,amw,Ja,an5,tG,xL⟩:=H.ret aA;replace H:=an5;replace K1:=K1.step tG xL;replace wD:=wD.step tG xL;replace ei:=ei.wS tG xL;have o1:=o0;rw [Ja] at o1;replace o1:=tH o1;refine J lj (bQ (aG rfl (ag (av h' rfl) (ag (a8 (vs:=[_,_,_,_,_,_]) aK rfl rfl (wD.az.cs rfl)) (aG rfl (ag (cW (r:=((deep+1:Nat):Int)) rfl rfl (by rw [wrap64_in _ (by omega)];omega)) ?_))))));refine fQ (bF EC rfl) (dK _ x.2 _ (deep+1) _ _ _ (by have:=JV.gp (List.mem_of_getElem? bO);omega) H.s9 ei (by omega) (jG.mod H.mod nt) (fun h=>(H.z8 _ h).elim nt (fun h=>by have:=jG.lt;omega))) rfl (fun cQ aA=>aA.elim) (fun lW MF aA=>?_) fun cO MF aA=>?_
   ·have cp:=H.panic (r:=v.wr deep b) aA (fun e he=>by rw [qC,← o1,he];rfl);exact bx (by simp) (aO (by simp) (aO (by simp) (bx (by simp) (aO (by simp) (bx (by simp) (ed cp))))))
   obtain⟨A1,an6,aeB,an7,s3,yY⟩:=H.ret aA;replace H:=an7;replace K1:=K1.step s3 yY;have q8:=o1;rw [aeB] at q8;replace q8:=tH q8;exact cF (bx (by simp) (aw gX (bQ (ag (aN rfl rfl (by omega)) (aG rfl (cF (fJ (σ:=Nat×Value×aa) (s:=⟨k,jx,eJ⟩) (⟨k+1,A1,an6⟩) ⟨rfl,rfl,rfl,rfl,rfl,rfl,trivial⟩ ⟨by omega,q8,H,K1⟩ (by dsimp only;omega))))))))
  obtain⟨q,jy⟩:∃ q,v.map[k-1]? = some q:=⟨_,List.getElem?_eq_getElem (by omega)⟩;obtain⟨IG,aau,uH,PE,iW⟩:=JV.kl (H.rep jJ) jy;obtain⟨PF,PG,PH,PI,rfl,aav,ags⟩:=JV.bb PE;have WS:=JV.hq (H.rep jJ);cases uH
  by_cases ym:(!eR q.1 x.1)=true
  ·have AD:wT v.map k x=false:=by rw [wU jy (by omega)];simpa using ym
   refine bT wide (by kernel_rfl) (f' 3 rfl rfl (aM (bh dT) (fun R=>(av b9 rfl)) (aM (bh dT) (fun R=>(bc dB rfl ((K1.az.I R).cell rfl))) (aM (bh dT) (fun R=>(ec rfl)) (aM (bh dT) (fun R=>(ez (r:=((k-1:Nat):Int)) rfl rfl (by rw [wrap64_in _ (by omega)];omega))) (aM (bh dT) (fun R=>(b6 cR rfl rfl (by omega))) (aM (bh dT) (fun R=>(dD eF rfl)) (aM (bh dT) (fun R=>(bc bs rfl ((iW.I R) 0 _ rfl))) (aM (bh dT) (fun R=>(av eF rfl)) (aM (bh dT) (fun R=>(bc bs rfl ((wD.az.I R).cell rfl))) (aM (bh dT) (fun R=>(zQ rfl rfl)) (ai (fun R=>(lU (bh dT) rfl rfl)) (bV rfl fun xG R=>?_)))))))))))));replace H:=H.I R;replace K1:=K1.I R;replace ei:=ei.I R;replace wD:=wD.I R;refine aw hE ?_;refine a7 rfl (fun Hv=>?_) (fun Hv=>absurd (ym.symm.trans Hv) (by decide));refine bQ ?_;refine fQ (bF gf rfl) (eX _ 1) rfl (fun cQ aA=>aA.elim) (fun lW yQ aA=>?_) fun cO yQ aA=>?_
   ·obtain⟨rfl,rfl⟩:=aA;exact aO (by simp) (bx (by simp) (aO (by simp) (aO (by simp) (bx (by simp) (aO (by simp) (bx (by simp) (ed (H.fail (by rw [qC,← lF,AD];rfl)))))))))
   exact aA.elim
  have AD:wT v.map k x=true:=by rw [wU jy (by omega)];simpa using ym
  refine bT wide (by kernel_rfl) (f' 3 rfl rfl (aM (bh dT) (fun R=>(av b9 rfl)) (aM (bh dT) (fun R=>(bc dB rfl ((K1.az.I R).cell rfl))) (aM (bh dT) (fun R=>(ec rfl)) (aM (bh dT) (fun R=>(ez (r:=((k-1:Nat):Int)) rfl rfl (by rw [wrap64_in _ (by omega)];omega))) (aM (bh dT) (fun R=>(b6 cR rfl rfl (by omega))) (aM (bh dT) (fun R=>(dD eF rfl)) (aM (bh dT) (fun R=>(bc bs rfl ((iW.I R) 0 _ rfl))) (aM (bh dT) (fun R=>(av eF rfl)) (aM (bh dT) (fun R=>(bc bs rfl ((wD.az.I R).cell rfl))) (aM (bh dT) (fun R=>(zQ rfl rfl)) (ai (fun R=>(lU (bh dT) rfl rfl)) (bV rfl fun Fz R=>?_)))))))))))));replace H:=H.I R;replace K1:=K1.I R;replace ei:=ei.I R;replace wD:=wD.I R;refine aw hE (a7 rfl (fun Hv=>absurd ((dO ym).symm.trans Hv) (by decide)) (fun Hv=>ca (aw ho (ax fun ij=>?_))));have kv:=lF;rw [AD] at kv;replace kv:=tH kv;refine bQ (aG rfl (ag (av eF rfl) (ag (bc bs rfl (wD.az.cell rfl)) ?_)));refine fQ (bF EB rfl) (AB _ _ _ _ H.s9 x.1) rfl (fun cQ aA=>aA.elim) (fun lW Bi aA=>?_) fun cO Bi aA=>?_
  ·have cp:=H.panic (r:=v.wr deep b) aA (fun e he=>by rw [qC,← kv,he];rfl);exact aO (by simp) (bx (by simp) (aO (by simp) (aO (by simp) (bx (by simp) (aO (by simp) (bx (by simp) (ed cp)))))))
  obtain⟨Je,EU,Dx,aiW,oN,uL⟩:=H.ret aA;replace H:=aiW;replace K1:=K1.step oN uL;replace wD:=wD.step oN uL;replace ei:=ei.wS oN uL;have o0:=kv;rw [Dx] at o0;replace o0:=tH o0;refine J ij (ab fun jS=>aG rfl ?_);refine fQ (bF lR rfl) (lS _ _ _ _ H.s9 [58] (by simp)) rfl (fun cQ aA=>aA.elim) (fun lW WO aA=>?_) fun cO WO aA=>?_
  ·have cp:=H.panic (r:=v.wr deep b) aA (fun e he=>by rw [qC,← o0,he];rfl);exact aO (by simp) (bx (by simp) (aO (by simp) (aO (by simp) (bx (by simp) (aO (by simp) (bx (by simp) (ed cp)))))))
  obtain⟨Bm,amw,Ja,an5,tG,xL⟩:=H.ret aA;replace H:=an5;replace K1:=K1.step tG xL;replace wD:=wD.step tG xL;replace ei:=ei.wS tG xL;have o1:=o0;rw [Ja] at o1;replace o1:=tH o1;refine J jS (bQ (aG rfl (ag (av h' rfl) (ag (a8 (vs:=[_,_,_,_,_,_]) aK rfl rfl (wD.az.cs rfl)) (aG rfl (ag (cW (r:=((deep+1:Nat):Int)) rfl rfl (by rw [wrap64_in _ (by omega)];omega)) ?_))))));refine fQ (bF EC rfl) (dK _ x.2 _ (deep+1) _ _ _ (by have:=JV.gp (List.mem_of_getElem? bO);omega) H.s9 ei (by omega) (jG.mod H.mod nt) (fun h=>(H.z8 _ h).elim nt (fun h=>by have:=jG.lt;omega))) rfl (fun cQ aA=>aA.elim) (fun lW IF aA=>?_) fun cO IF aA=>?_
  ·have cp:=H.panic (r:=v.wr deep b) aA (fun e he=>by rw [qC,← o1,he];rfl);exact bx (by simp) (aO (by simp) (aO (by simp) (bx (by simp) (aO (by simp) (bx (by simp) (ed cp))))))
  obtain⟨A1,an6,aeB,an7,s3,yY⟩:=H.ret aA;replace H:=an7;replace K1:=K1.step s3 yY;have q8:=o1;rw [aeB] at q8;replace q8:=tH q8;exact cF (bx (by simp) (aw gX (bQ (ag (aN rfl rfl (by omega)) (aG rfl (cF (fJ (σ:=Nat×Value×aa) (s:=⟨k,jx,eJ⟩) (⟨k+1,A1,an6⟩) ⟨rfl,rfl,rfl,rfl,rfl,rfl,trivial⟩ ⟨by omega,q8,H,K1⟩ (by dsimp only;omega))))))))
 refine eB (ab fun jd=>ag (a8 (vs:=[_,_,_,_,_,_]) aK rfl rfl (K1.az.cs rfl)) (cP (bF Zz rfl) (TE _ v _ (O3.bB bR.mod)) fun PD R=>?_));replace H:=H.I R;replace K1:=K1.I R;refine ag (ff rfl) ?_;refine w8 (fun jO:((!v.plain))=true=>?_) (fun jO=>?_)
 ·refine ak 11 rfl (J jd (aD rfl ?_));have Dp:v.bare=false:=by
   rw [JV.pN,Bool.and_eq_false_iff]
   first | (left;simpa using jO;done) | (right;exact bN (by omega))
  have bq:v.wr deep b = .error 1:=by rw [JV.dM,if_pos Dp]
  refine bQ ?_;refine fQ (bF gf rfl) (eX _ 1) rfl (fun cQ aA=>aA.elim) (fun lW FF aA=>?_) fun cO FF aA=>?_
  ·obtain⟨rfl,rfl⟩:=aA;exact bx (by simp) (aO (by simp) (ed (H.fail (bq))))
  exact aA.elim
 refine aG rfl (ar (av kP rfl) (ar (bc dE rfl (K1.az.cell rfl)) (ar (gq rfl rfl) ?_)));refine cT (fun oA:v.num > 9007199254740991=>?_) (fun oA=>?_)
 ·refine ak 7 rfl (J jd (aD rfl ?_));have Dp:v.bare=false:=by
   rw [JV.pN,Bool.and_eq_false_iff]
   first | (left;simpa using jO;done) | (right;exact bN (by omega))
  have bq:v.wr deep b = .error 1:=by rw [JV.dM,if_pos Dp]
  refine bQ ?_;refine fQ (bF gf rfl) (eX _ 1) rfl (fun cQ aA=>aA.elim) (fun lW MG aA=>?_) fun cO MG aA=>?_
  ·obtain⟨rfl,rfl⟩:=aA;exact bx (by simp) (aO (by simp) (ed (H.fail (bq))))
  exact aA.elim
 refine ak 2 rfl (ar (av kP rfl) (ar (bc dE rfl (K1.az.cell rfl)) (ar (cI rfl rfl) ?_)));refine cT (fun yy:v.num < -9007199254740991=>?_) (fun yy=>?_)
 ·refine ak 2 rfl (J jd (aD rfl ?_));have Dp:v.bare=false:=by
   rw [JV.pN,Bool.and_eq_false_iff]
   first | (left;simpa using jO;done) | (right;exact bN (by omega))
  have bq:v.wr deep b = .error 1:=by rw [JV.dM,if_pos Dp]
  refine bQ ?_;refine fQ (bF gf rfl) (eX _ 1) rfl (fun cQ aA=>aA.elim) (fun lW MH aA=>?_) fun cO MH aA=>?_
  ·obtain⟨rfl,rfl⟩:=aA;exact bx (by simp) (aO (by simp) (ed (H.fail (bq))))
  exact aA.elim
 refine ak 2 rfl (J jd (aE rfl ?_));have oI:v.bare=true:=by
  rw [JV.pN,bh (show -9007199254740991≤v.num∧v.num≤9007199254740991 by omega),Bool.and_true];simpa using jO
 refine ab fun kC=>ag (av hC rfl) (ag (bc dE rfl (K1.az.cell rfl)) (ag (dr rfl rfl) ?_));refine cT (fun y0:v.kind≥4=>?_) (fun y0=>?_)
 ·refine ak 2 rfl (ar (dr rfl rfl) ?_);refine cT (fun aeC:(deep:Int)≥32=>?_) (fun aeC=>?_)
  ·refine ak 2 rfl (J kC (aD rfl ?_));have bq:v.wr deep b = .error 5:=by
    have b1:¬ v.bare=false:=by rw [oI];simp
    rw [JV.dM,if_neg b1,if_neg (by omega),if_neg (by omega),if_neg (by omega),if_neg (by omega),if_pos (by omega)]
   refine bQ ?_;refine fQ (bF gf rfl) (eX _ 5) rfl (fun cQ aA=>aA.elim) (fun lW MI aA=>?_) fun cO MI aA=>?_
   ·obtain⟨rfl,rfl⟩:=aA;exact bx (by simp) (aO (by simp) (ed (H.fail (bq))))
   exact aA.elim
  refine ak 2 rfl (J kC (aE rfl (ca (bx (by simp) ?_))));refine fI.sub (l':=[(0,_),(2,_),(4,_)]) ⟨rfl,rfl,rfl,trivial⟩ (dU (J2 PD ⟨oI,by omega,H,K1⟩))
 refine ak 5 rfl (J kC (aE rfl (ca (bx (by simp) ?_))));refine fI.sub (l':=[(0,_),(2,_),(4,_)]) ⟨rfl,rfl,rfl,trivial⟩ (dU (J2 PD ⟨oI,by omega,H,K1⟩))
theorem ZE (N:Nat):∀ (w:World) (v:JV) (us:List Value) (deep:Nat) (b:aa) (u:Value) (g:Nat),v.sz≤N→vz w g 83 u b→ao (g::a1 u) w v.D us→deep≤32→nT w→K0∉g::a1 u→Calls Tryz.prog 66 [.pointer (some ⟨g,0,none⟩),.agg us.toArray,.int .i64 (deep:Int)].toArray w (AA w g 83 124 u (v.wr deep b)):=by
 induction N with
 | zero=>intro w v us deep b u g h7;exact absurd (JV.oz v) (by omega)
 | succ N dK=>intro w v us deep b u g h7 O6 asp bY jG nt;exact ED N dK w v us deep b u g h7 O6 asp bY jG nt
set_option maxRecDepth 10000
theorem TI:Tryz.prog.underlying 20=some (.interface (Tryz.prog.methodsAt 20)):=by kernel_rfl
theorem aeD:rO Tryz.prog 124 1=true:=by kernel_rfl
theorem TJ:iz Tryz.prog 124 0 0 1=true:=by kernel_rfl
theorem oS:nM Tryz.prog 33=true:=by kernel_rfl
theorem DZ:aQ Tryz.prog 59:=aQ.of Tryz.func59 (by kernel_rfl) (by kernel_rfl)
theorem I6:hG Tryz.prog 9 ([S []]):=by unfold hG;kernel_rfl
theorem aaM:hG Tryz.prog 33 ([.int .i64 0]):=by unfold hG;kernel_rfl
theorem aiY:vT Tryz.prog 83 [(0,1)]=true:=by kernel_rfl
theorem aiZ:hG Tryz.prog 83 ([.slice none 0 0]):=by unfold hG;kernel_rfl
theorem TK:aQ Tryz.prog 65:=aQ.of Tryz.func65 (by kernel_rfl) (by kernel_rfl)
theorem zH (w:World) (p:Value):Calls Tryz.prog 59 [.nilIface,p].toArray w (bL fun u w'=>True∧Mod [] w w'):=by
 refine enter Tryz.func59 rfl rfl rfl (l:=[(0,_),(1,_)]) ⟨rfl,rfl,trivial⟩ ?_;have E:=Mod.refl [] w;exact ax fun aV=>ab fun aL=>aG rfl (ag (aeE TI rfl) (J aL (aD rfl (aZ (aO (by simp) (ahY rfl ⟨trivial,E⟩))))))
theorem zI (w:World) (ge:Nat) (z:Value) (e:Int) (B:aF w ge 33 [z]):Calls Tryz.prog 59 [.iface 124 (.agg #[.int .i64 e]),.pointer (some ⟨ge,0,none⟩)].toArray w (bL fun u w'=>aF w' ge 33 [.int .i64 e]∧Mod [ge] w w'):=by
 refine enter Tryz.func59 rfl rfl rfl (l:=[(0,_),(1,_)]) ⟨rfl,rfl,trivial⟩ (ax fun aV=>ax fun aL=>?_);have E:=Mod.refl [ge] w;refine bQ (aG rfl (ag (aeF TI rfl) (J aL (aE rfl (ca (aw aV (ab fun aW=>aG rfl (ag (LC Tryz.underlying124 rfl rfl) (ak 3 rfl (bt Tz rfl fun g1 aB bR=>?_))))))))));have bH:=bR.le E;have L6:=bR.ne B;replace B:=B.I bR.mod;replace E:=E.then bR.mod;have U:=bR.az;refine bo (vs:=[_]) aeD U rfl rfl rfl (by simp [Value.oneCell']) (by simp) fun cN DT=>?_;replace B:=B.ne DT.mod L6;replace E:=E.own DT.mod bH;replace U:aF cN g1 _ [_]:=DT.az;refine aT rfl (J aW (ax fun br=>ab fun bI=>ak 2 rfl (J bI ?_)));refine a7 rfl (fun pf=>?_) (fun pf=>?_)
 ·cases pf
 refine ca (aw br (bQ (aG rfl (ag (av TJ rfl) (ag (bc oS rfl (U.cell rfl)) (ag (ee rfl) (ea oS B rfl rfl rfl (by simp) fun fV sF=>?_)))))));replace U:=U.ne sF.mod (Ne.symm L6);replace E:=E.trans sF.mod;replace B:aF fV ge _ [_]:=sF.az;exact cF (Rh rfl ⟨B,E⟩)
theorem TL (w:World) (ge gs:Nat) (B:aF w ge 33 [.int .i64 0]):CallsD Tryz.prog 65 [.pointer (some ⟨ge,0,none⟩),.pointer (some ⟨gs,0,none⟩)].toArray .returning w (fun e mU w'=>(∃ v,e = .returned v)∧mU = .returning∧Mod [] w w'):=by
 refine qW Tryz.func65 rfl rfl rfl (l:=[(0,_),(1,_)]) ⟨rfl,rfl,trivial⟩ rfl rfl (.inl ⟨rfl,rfl,rfl⟩) (by rintro u w ⟨⟨v,bK⟩,_⟩;cases bK) fun K1 aV=>?_;have E:=Mod.refl [] w;refine fA (bF DZ rfl) (zH _ _) rfl fun cO aB aA=>?_;obtain⟨_,R⟩:=aA;replace B:=B.I R;replace E:=E.then R;refine J aV (ab fun aL=>ag (bc oS rfl (B.cell rfl)) (ag (eU rfl rfl) (J aL ?_)));refine aI rfl (fun cL=>?_) (fun cL=>?_)
 ·exact absurd rfl cL
 exact ca (ku rfl ⟨⟨_,rfl⟩,rfl,E⟩)
theorem TM (w:World) (ge gs:Nat) (z z2:Value) (e:Int) (B:aF w ge 33 [z]) (dz:aF w gs 9 [z2]) (b1:ge≠gs) (he:e≠0):CallsD Tryz.prog 65 [.pointer (some ⟨ge,0,none⟩),.pointer (some ⟨gs,0,none⟩)].toArray (.panicking (Cf 124 e)) w (fun LJ mU w'=>(∃ v,LJ = .returned v)∧mU = .panicking [{v:=.iface 124 (.agg #[.int .i64 e]),recovered:=true}]∧aF w' ge 33 [.int .i64 e]∧aF w' gs 9 [S []]∧Mod [ge,gs] w w'):=by
 refine qW Tryz.func65 rfl rfl rfl (l:=[(0,_),(1,_)]) ⟨rfl,rfl,trivial⟩ rfl rfl (.inr ⟨rfl,rfl⟩) (by rintro u w ⟨⟨v,bK⟩,_⟩;cases bK) fun K1 aV=>?_;have E:=Mod.refl [ge,gs] w;refine fA (bF DZ rfl) (zI _ ge z e B) rfl fun cO aB aA=>?_;obtain⟨sM,R⟩:=aA;replace E:=E.trans' R (fun x ae=>.inl (by simp at ae;simp [ae]));replace dz:=dz.mod R (by simp;exact fun h=>b1 h.symm);clear B;have B:=sM;refine J aV (ab fun aL=>ag (bc oS rfl (B.cell rfl)) (ag (eU rfl rfl) (J aL ?_)));refine aI rfl (fun cL=>?_) (fun cL=>?_)
 ·refine bQ (ea bs dz rfl rfl rfl (by simp) fun lY ox=>?_);replace E:=E.trans' ox.mod (fun x ae=>.inl (by simp at ae;simp [ae]));replace B:=B.mod ox.mod (by simp;exact b1);replace dz:=ox.az;exact cF (ku rfl ⟨⟨_,rfl⟩,rfl,B,dz,E⟩)
 exact absurd he cL
theorem Ai (w:World) (v:JV) (us:List Value) (asp:ao [] w v.D us) (jG:nT w):Calls Tryz.prog 27 [.agg us.toArray].toArray w (bL fun u w'=>u = .tuple #[S (iA (v.wr 0 [])),.int .i64 (e7 (v.wr 0 []))]∧Mod [] w w'):=by
 refine LK Tryz.func27 rfl rfl rfl (l:=[(0,_)]) ⟨rfl,trivial⟩ ?_;have E:=Mod.refl [] w;obtain⟨al,cl,am,cm,rfl,kW,jJ⟩:=JV.bb asp;refine ab fun aV=>dP rfl rfl rfl fun g1 aB bR=>?_;have bH:=bR.le E;replace E:=E.then bR.mod;have U:=bR.az;refine bt I6 rfl fun g2 cN cK=>?_;have b4:=cK.le E;have bP:=cK.ne U;replace U:=U.I cK.mod;replace E:=E.then cK.mod;have ah:=cK.az;refine bt aaM rfl fun g3 fV eQ=>?_;have dJ:=eQ.le E;have eM:=eQ.ne U;have cJ:=eQ.ne ah;replace U:=U.I eQ.mod;replace ah:=ah.I eQ.mod;replace E:=E.then eQ.mod;have bz:=eQ.az;refine J aV (ab fun aL=>ag (RY rfl rfl) (Gw rfl (J aL (ab fun aW=>ag (a' (cs:=[_]) aiY aiZ rfl rfl) (dP rfl rfl rfl fun g4 ic N4=>?_)))));have fO:=N4.le E;have gE:=N4.ne U;have e2:=N4.ne ah;have dm:=N4.ne bz;replace U:=U.I N4.mod;replace ah:=ah.I N4.mod;replace bz:=bz.I N4.mod;replace E:=E.then N4.mod;have bg:=N4.az;refine aT rfl (J aW (ax fun br=>?_));have O6:vz ic g4 83 (.slice none 0 0) []:=⟨bg,Own.nil _ 5 1,by simp [a1],by simp⟩;refine bQ (aG rfl (ag (a8 (vs:=[_,_,_,_,_,_]) aK rfl rfl (U.cs rfl)) ?_));refine fQ (bF EC rfl) (ZE v.sz _ v _ 0 [] _ g4 (Nat.le_refl _) O6 (ao.to E (by simp) (fun x ae=>.inr (by simp [a1] at ae;subst ae;exact fO)) _ _ asp) (by omega) (jG.mod E (by simp)) (by simp [a1];intro h;have:=jG.lt;omega)) rfl (fun cQ aA=>aA.elim) (fun lW jn aA=>?_) fun cO jn aA=>?_
 ·obtain⟨e,an8,ai0,rfl,hm⟩:=aA;have EE:Mod [g4] ic _:=hm;replace ah:=ah.mod EE (by simp;exact fun h=>e2 h);replace bz:=bz.mod EE (by simp;exact fun h=>dm h);replace E:=E.own EE fO;refine aO (by simp) (wE fun a ay=>sa (by simp) TK (TM _ g3 g2 _ _ e bz ah (fun h=>cJ h.symm) ai0) fun LJ afy lY k0=>?_);obtain⟨⟨v9,rfl⟩,rfl,ep,dz,Bb⟩:=k0;exact⟨v9,rfl,rfl,_,xz ay rfl bs oS rfl rfl (dz.cell rfl) (ep.cell rfl),⟨by rw [an8];simp [iA,e7,ai0],E.trans' Bb (fun x ae=>.inr (by simp at ae;rcases ae with rfl | rfl <;> first | exact dJ | exact b4))⟩⟩
 obtain⟨gi,dn,cC,H1,nu,pj⟩:=aA;have EE:Mod [g4] ic _:=nu;replace ah:=ah.mod EE (by simp;exact fun h=>e2 h);replace bz:=bz.mod EE (by simp;exact fun h=>dm h);replace E:=E.own EE fO;refine J br (ab fun bI=>ak 2 rfl (ag (av yl rfl) (ag (bc L2 rfl (H1.az.cell rfl)) (ag (oH (u:=dn) Tryz.underlying65 Tryz.underlying5 Tryz.underlying9 rfl (H1.own.same rfl (dj _))) (ea bs ah rfl rfl rfl (by simp) fun jC nq=>?_)))));replace bz:=bz.ne nq.mod (Ne.symm cJ);replace E:=E.own nq.mod b4;replace ah:aF jC g2 _ [_]:=nq.az;refine ea oS bz rfl rfl rfl (by simp) fun iw pe=>?_;replace ah:=ah.ne pe.mod cJ;replace E:=E.own pe.mod dJ;replace bz:aF iw g3 _ [_]:=pe.az;refine J bI (aZ (D0 fun a ay=>sa (by simp) TK (TL _ g3 g2 bz) fun LJ afy lY k0=>?_));obtain⟨⟨v9,rfl⟩,rfl,Bb⟩:=k0;exact⟨v9,rfl,rfl,_,xz ay rfl bs oS rfl rfl ((ah.I Bb).cell rfl) ((bz.I Bb).cell rfl),⟨by rw [cC];rfl,E.then Bb⟩⟩
end Go.Proofs.YtnihidkbkhcfoaaGreatDoor.V
namespace Go.Proofs.YtnihidkbkhcfoaaGreatDoor.V
open Go
open Go.ChangeMaps (setBlock)
structure GW (w:World) (g b:Nat) (m:List (aa×Value)) (L:List aa) (last:Option (aa×Value)):Prop where
 at_:∃ es clock since seen c0,w.heap[g]? = some (.mapIter (some b) since seen c0)∧w.heap[b]? = some (.map es clock)∧vl es=rows m∧(∀ e∈es.toList,e.born<since)∧since≤c0∧c0=clock∧(es.toList.map (·.born)).Nodup∧
  L.map S=(leftOf es seen).toList.map (·.key)∧(∀ p,last=some p→∃ (e:MapEntry) (ahQ:Array Nat),e∈es.toList∧seen=ahQ.push e.born∧e.key=S p.1∧e.val=p.2)
 keys:(m.map (·.1)).Nodup
section
variable {P:Program} {w w':World} {g b:Nat} {m:List (aa×Value)} {k:aa} {M:List Nat} {L:List aa} {last:Option (aa×Value)}
variable {ops:Array Oper} {Q:Exit→Act→World→Prop} {n:Nat} {ds:List Deferred} {l:List (Nat×Value)} {rest:List Oper} {d:Nat} {ty:TypeId} {pos:String} {af:Array Edge} {dd:Option Nat} {gg:Option (Nat×Bool)} {x y z:Operand} {t Sq aaX:TypeId} {v:Value}
theorem GW.lt (h:GW w g b m L last):g<w.heap.size:=by
 obtain⟨_,_,_,_,_,h1,_⟩:=h.at_;exact(Array.getElem?_eq_some_iff.1 h1).1
theorem GW.mod (h:GW w g b m L last) (k:Mod M w w') (dA:g∉M) (aS:b∉M):GW w' g b m L last:=by
 obtain⟨es,clock,since,seen,c0,h1,aq,aU⟩:=h.at_;have afC:=(Array.getElem?_eq_some_iff.1 h1).1;have O5:=(Array.getElem?_eq_some_iff.1 aq).1;exact⟨⟨es,clock,since,seen,c0,(k.block g afC dA).trans h1,(k.block b O5 aS).trans aq,aU⟩,h.keys⟩
theorem GW.I (h:GW w g b m L last) (k:Mod [] w w'):GW w' g b m L last:=h.mod k (by simp) (by simp)
end
end Go.Proofs.YtnihidkbkhcfoaaGreatDoor.V
namespace Go.Proofs.YtnihidkbkhcfoaaGreatDoor.V
open Go
section
variable {P:Program} {ops:Array Oper} {Q:Exit→Act→World→Prop} {n:Nat} {ds:List Deferred} {l:List (Nat×Value)} {w w':World} {rest:List Oper} {d:Nat} {ty:TypeId} {pos:String} {af:Array Edge} {dd:Option Nat} {gg:Option (Nat×Bool)} {x y z:Operand} {t t' Sq aaX T e:TypeId} {v:Value} {f:FuncId} {name:String}
theorem Ru {t0:TypeId} {d0:TypeDesc} (jG:P.underlying T=some d0) (ck:(match d0 with | .interface _=>false | _=>true)=true) (ae:a6 l x=some (.iface T v)):bG P l ⟨dd,.typeAssert x t0 T false,ty,pos,af,gg⟩ w v w:=fun ρ h=>by
 cases d0 <;> first | (simp at ck;done) | simp [execOp,Instr.typeAssert,h _ _ ae,run_underlying jG]
end
section
variable {P:Program} {ops:Array Oper} {Q:Exit→Act→World→Prop} {n:Nat} {ds:List Deferred} {l:List (Nat×Value)} {w w':World} {fn:Func} {asp:Ending→World→Prop} {v v':Value}
variable {rest:List Oper} {d:Nat} {op:Op} {ty:TypeId} {pos:String} {af:Array Edge} {x y:Operand} {t t':TypeId} {dd:Option Nat} {gg:Option (Nat×Bool)}
theorem r9 (hi:P.underlying t=some (.interface (P.methodsAt t))) (ae:a6 l x=some .nilIface):bG P l ⟨dd,.binOp .neq t x (.const .nilIface) t',ty,pos,af,gg⟩ w (.bool false) w:=fun ρ h=>by
 have h1:ρ (.const .nilIface) = .nilIface:=h _ _ rfl;have dA:eqGuard .neq t x (.const .nilIface) .nilIface .nilIface=pure ():=by cases x <;> rfl
 simp [execOp,h _ _ ae,h1,binOp,dA,run_equal_nil_nil w t hi]
theorem Rn {T:TypeId} {v:Value} (hi:P.underlying t=some (.interface (P.methodsAt t))) (ae:a6 l x=some (.iface T v)):bG P l ⟨dd,.binOp .neq t x (.const .nilIface) t',ty,pos,af,gg⟩ w (.bool true) w:=fun ρ h=>by
 have h1:ρ (.const .nilIface) = .nilIface:=h _ _ rfl;have dA:eqGuard .neq t x (.const .nilIface) (.iface T v) .nilIface=pure ():=by rfl
 simp [execOp,h _ _ ae,h1,binOp,dA,run_equal_held_nil w t _ _ hi]
theorem I9 {T NK t0:TypeId} {v z:Value} {e:TypeId} (jG:P.underlying T=some (.pointer e)) (b1:¬ NK=T) (dk:(P.info? T).bind (·.zero)=some z) (ae:a6 l x=some (.iface NK v)):bG P l ⟨dd,.typeAssert x t0 T true,ty,pos,af,gg⟩ w (.tuple #[z,.bool false]) w:=fun ρ h=>by
 simp [execOp,Instr.typeAssert,h _ _ ae,run_underlying jG,b1,CH dk]
theorem acr (bq:fn.results = #[.tmp t]) (bK:i' t l=some v) (h:asp (.returned v) w):fI (bodyPost P fn asp) .ret n [] l w:=fun a ay=>⟨ay.defers,_,results_tmp bq _ _ _,by rw [vg ay bK];exact h⟩
theorem I5 {ad:Addr} {vs:List Value} {T c:Nat} (bq:fn.results = #[.cell t T]) (cf:rO P T c=true) (bK:i' t l=some (.pointer (some ad))) (bj:vs.length=c) (tI:ri w ad vs) (h:asp (.returned (.agg vs.toArray)) w):fI (bodyPost P fn asp) .ret n [] l w:=fun a ay=>
 ⟨ay.defers,.agg vs.toArray,by simp [results,bq,ay.get _ _ bK,asAddr,hy cf bj tI],h⟩
theorem qV {ad:Addr} {vs:List Value} {T c:Nat} (bq:fn.results = #[.cell t T,.tmp t']) (cf:rO P T c=true) (bK:i' t l=some (.pointer (some ad))) (bj:vs.length=c) (tI:ri w ad vs) (qj:i' t' l=some v') (h:asp (.returned (.tuple #[.agg vs.toArray,v'])) w):fI (bodyPost P fn asp) .ret n [] l w:=fun a ay=>
 ⟨ay.defers,.tuple #[.agg vs.toArray,v'],by simp [results,bq,ay.get _ _ bK,ay.get _ _ qj,asAddr,hy cf bj tI],h⟩
end
end Go.Proofs.YtnihidkbkhcfoaaGreatDoor.V
set_option maxRecDepth 10000
namespace Go.Proofs.YtnihidkbkhcfoaaGreatDoor.V
open Go Go.Proofs
theorem ZK:aQ Tryz.prog 195:=aQ.of Tryz.func195 (by kernel_rfl) (by kernel_rfl)
theorem L9:aQ Tryz.prog 194:=aQ.of Tryz.func194 (by kernel_rfl) (by kernel_rfl)
theorem vD:aQ Tryz.prog 164:=aQ.of Tryz.func164 (by kernel_rfl) (by kernel_rfl)
theorem ZL:aQ Tryz.prog 169:=aQ.of Tryz.func169 (by kernel_rfl) (by kernel_rfl)
theorem L':aQ Tryz.prog 162:=aQ.of Tryz.func162 (by kernel_rfl) (by kernel_rfl)
theorem EF:aQ Tryz.prog 163:=aQ.of Tryz.func163 (by kernel_rfl) (by kernel_rfl)
theorem ZM:aQ Tryz.prog 165:=aQ.of Tryz.func165 (by kernel_rfl) (by kernel_rfl)
theorem ZN:aQ Tryz.prog 199:=aQ.of Tryz.func199 (by kernel_rfl) (by kernel_rfl)
theorem DQ:aQ Tryz.prog 198:=aQ.of Tryz.func198 (by kernel_rfl) (by kernel_rfl)
theorem Ma (w:World) (s:aa) (bf:s.length<4294967281) (eY:iK w):Calls Tryz.prog 194 [S s,S [58]].toArray w (bL fun u w'=>u = .tuple #[S (s.take (aH s)),S (s.drop (aH s+1)),.bool (decide (aH s<s.length))]∧Mod [] w w'):=by
 have:=abW w s bf eY;rw [HF] at this;exact this
theorem wY (w:World) (s:aa) (bf:s.length<4294967281) (eY:iK w):Calls Tryz.prog 163 [S s].toArray w (bL fun u w'=>u = .bool (dx s)∧Mod [] w w'):=by
 refine enter Tryz.func163 rfl rfl rfl (l:=[(0,_)]) ⟨rfl,trivial⟩ ?_;have E:=Mod.refl [] w;refine ab fun aV=>aT rfl (J aV (ab fun aL=>aG rfl (cP (bF L9 rfl) (Ma _ s bf (eY.I E)) fun aB R=>?_)));replace E:=E.then R;refine ak 7 rfl (J aL (ab fun aW=>aG rfl (cP (bF vD rfl) (AF _ (s.take (aH s)) 195 hc ZK (fun w c h1 aq=>Kf w c h1 aq) HG) fun cN R=>?_)));replace E:=E.then R;refine aT rfl (J aW (ab fun br=>aG rfl ?_));refine mT (fun aR:(gn hc (s.take (aH s)))=true=>?_) (fun aR=>?_)
 ·refine ak 2 rfl (ar (bw Tryz.underlying9 rfl) (ar (pX rfl rfl) ?_));refine cT (fun bp:(s.length:Int)≤255=>?_) (fun bp=>?_)
  ·refine ak 4 rfl ?_;refine mT (fun bE:(!decide (aH s<s.length))=true=>?_) (fun bE=>?_)
   ·exact ak 11 rfl (J br (aZ (au rfl rfl ⟨congrArg Value.bool (by rw [dx,mu,mv,ki];simp only [aR,bh bp,bE,bZ']),E⟩)))
   refine ak 2 rfl (ar (bw Tryz.underlying9 rfl) (ar (pX rfl rfl) ?_));refine cT (fun cE:((s.drop (aH s+1)).length:Int)≤5=>?_) (fun cE=>?_)
   ·refine ak 2 rfl (fD (bF vD rfl) (AF _ (s.drop (aH s+1)) 168 sW vB (fun w c h1 aq=>sr w c) aeO) fun fV R=>?_);replace E:=E.then R;refine mT (fun cY:(gn sW (s.drop (aH s+1)))=true=>?_) (fun cY=>?_)
    ·exact ak 4 rfl (J br (aZ (au rfl rfl ⟨congrArg Value.bool (by rw [dx,mu,mv,ki];simp only [aR,bh bp,dO bE,bh cE,cY,bZ']),E⟩)))
    exact ak 4 rfl (J br (aZ (au rfl rfl ⟨congrArg Value.bool (by rw [dx,mu,mv,ki];simp only [aR,bh bp,dO bE,bh cE,dO cY,bZ']),E⟩)))
   exact ak 7 rfl (J br (aZ (au rfl rfl ⟨congrArg Value.bool (by rw [dx,mu,mv,ki];simp only [aR,bh bp,dO bE,bN cE,bZ']),E⟩)))
  exact ak 15 rfl (J br (aZ (au rfl rfl ⟨congrArg Value.bool (by rw [dx,mu,mv,ki];simp only [aR,bN bp,bZ']),E⟩)))
 exact ak 19 rfl (J br (aZ (au rfl rfl ⟨congrArg Value.bool (by rw [dx,mu,mv,ki];simp only [dO aR,bZ']),E⟩)))
theorem HH (w:World) (s:aa) (sign:UInt8) (bf:s.length<4294967281) (eY:iK w):Calls Tryz.prog 162 [S s,.int .u8 (sign.toNat:Int)].toArray w (bL fun u w'=>(∃ a b o,u = .tuple #[S a,S b,.bool o]∧o=(nD sign s&&decide (aH (s.drop 1)<(s.drop 1).length))∧(o=true→a=(s.drop 1).take (aH (s.drop 1))∧b=(s.drop 1).drop (aH (s.drop 1)+1)))∧Mod [] w w'):=by
 refine enter Tryz.func162 rfl rfl rfl (l:=[(0,_),(1,_)]) ⟨rfl,rfl,trivial⟩ ?_;have E:=Mod.refl [] w;refine ab fun aV=>ak 3 rfl (J aV (ax fun aL=>ab fun aW=>aG rfl (ag (dQ rfl rfl) ?_)));refine cT (fun aR:s = []=>?_) (fun aR=>?_)
 ·refine ak 11 rfl (J aW (aD rfl ?_));have dA:nD sign s=false:=by subst aR;rfl
  exact ab fun br=>ak 3 rfl (J br (aZ (aO (by simp) (r8 rfl rfl rfl rfl ⟨⟨[],[],false,rfl,by rw [dA];rfl,fun h=>by cases h⟩,E⟩))))
 obtain⟨b0,r,rfl⟩:∃ b r,s=b::r:=List.exists_cons_of_ne_nil aR;refine ak 2 rfl (ar (b' Tryz.underlying9 rfl rfl (by omega) rfl) (ak 2 rfl ?_));refine cT (fun bp:(b0.toNat:Int)≠(sign.toNat:Int)=>?_) (fun bp=>?_)
 ·refine ak 6 rfl (J aW (aD rfl ?_));have nX:b0≠sign:=fun h=>bp (by rw [h]);have dA:nD sign (b0::r)=false:=by simp [nD,nX]
  exact ab fun bI=>ak 3 rfl (J bI (aZ (aO (by simp) (r8 rfl rfl rfl rfl ⟨⟨[],[],false,rfl,by rw [dA];rfl,fun h=>by cases h⟩,E⟩))))
 refine ak 3 rfl (ar (bw Tryz.underlying9 rfl) (ar (gq rfl rfl) ?_));refine cT (fun bE:((b0::r).length:Int) > 255=>?_) (fun bE=>?_)
 ·refine ag (ji rfl rfl rfl) (J aW (aD rfl ?_));have dA:nD sign (b0::r)=false:=by
   simp only [List.length_cons] at bE;simp [nD];omega
  exact ab fun bW=>ak 3 rfl (J bW (aZ (aO (by simp) (r8 rfl rfl rfl rfl ⟨⟨[],[],false,rfl,by rw [dA];rfl,fun h=>by cases h⟩,E⟩))))
 refine ag (ji rfl rfl rfl) (J aW (aE rfl ?_));have nX:b0=sign:=du (Classical.not_not.1 bp);have dA:nD sign (b0::r)=true:=by
  simp only [List.length_cons] at bE;simp [nD,nX];omega
 refine ca (aw aL (ab fun cb=>aG rfl (ag (cG (n:=1) Tryz.underlying9 rfl rfl (by simp)) (cP (bF L9 rfl) (Ma _ ((b0::r).drop 1) (by simp at bf ⊢;omega) (eY.I E)) fun aB R=>?_))));replace E:=E.then R;exact ak 6 rfl (J cb (aZ (r8 rfl rfl rfl rfl ⟨⟨_,_,_,rfl,by rw [dA,Bool.true_and],fun _=>⟨rfl,rfl⟩⟩,E⟩)))
theorem ZO (w:World) (s:aa) (bf:s.length<4294967281) (eY:iK w):Calls Tryz.prog 128 [S s].toArray w (bL fun u w'=>u = .bool (fw 64 iZ s)∧Mod [] w w'):=by
 refine enter Tryz.func128 rfl rfl rfl (l:=[(0,_)]) ⟨rfl,trivial⟩ ?_;have E:=Mod.refl [] w;refine ab fun aV=>aT rfl (J aV (ab fun aL=>aG rfl (fA (bF L' rfl) (HH _ s 64 bf (eY.I E)) rfl fun cO aB aA=>?_)));obtain⟨⟨a,b,o,rfl,eo,aeP⟩,R⟩:=aA;replace E:=E.then R;refine ak 7 rfl (J aL (ab fun aW=>aG rfl ?_));refine mT (fun aR:(o)=true=>?_) (fun aR=>?_)
 ·obtain⟨Kg,o4⟩:=aeP aR;subst Kg;subst o4;refine ak 2 rfl (fD (bF EF rfl) (wY _ ((s.drop 1).drop (aH (s.drop 1)+1)) (by simp only [List.length_drop];omega) (eY.I E)) fun cN R=>?_);replace E:=E.then R;refine mT (fun bp:(dx ((s.drop 1).drop (aH (s.drop 1)+1)))=true=>?_) (fun bp=>?_)
  ·refine ak 3 rfl (fD (bF vD rfl) (AF _ ((s.drop 1).take (aH (s.drop 1))) 169 iZ ZL (fun w c h1 aq=>T2 w c h1 aq) OD) fun fV R=>?_);replace E:=E.then R;refine mT (fun bE:(gn iZ ((s.drop 1).take (aH (s.drop 1))))=true=>?_) (fun bE=>?_)
   ·exact ak 2 rfl (J aW (aZ (au rfl rfl ⟨congrArg Value.bool (by rw [j6 (by decide),← eo];simp only [aR,bp,bE,bZ']),E⟩)))
   exact ak 2 rfl (J aW (aZ (au rfl rfl ⟨congrArg Value.bool (by rw [j6 (by decide),← eo];simp only [aR,bp,dO bE,bZ']),E⟩)))
  exact ak 6 rfl (J aW (aZ (au rfl rfl ⟨congrArg Value.bool (by rw [j6 (by decide),← eo];simp only [aR,dO bp,bZ']),E⟩)))
 exact ak 9 rfl (J aW (aZ (au rfl rfl ⟨congrArg Value.bool (by rw [j6 (by decide),← eo];simp only [dO aR,bZ']),E⟩)))
theorem ZP (w:World) (s:aa) (bf:s.length<4294967281) (eY:iK w):Calls Tryz.prog 127 [S s].toArray w (bL fun u w'=>u = .bool (fw 33 h0 s)∧Mod [] w w'):=by
 refine enter Tryz.func127 rfl rfl rfl (l:=[(0,_)]) ⟨rfl,trivial⟩ ?_;have E:=Mod.refl [] w;refine ab fun aV=>aT rfl (J aV (ab fun aL=>aG rfl (fA (bF L' rfl) (HH _ s 33 bf (eY.I E)) rfl fun cO aB aA=>?_)));obtain⟨⟨a,b,o,rfl,eo,aeP⟩,R⟩:=aA;replace E:=E.then R;refine ak 7 rfl (J aL (ab fun aW=>aG rfl ?_));refine mT (fun aR:(o)=true=>?_) (fun aR=>?_)
 ·obtain⟨Kg,o4⟩:=aeP aR;subst Kg;subst o4;refine ak 2 rfl (fD (bF EF rfl) (wY _ ((s.drop 1).drop (aH (s.drop 1)+1)) (by simp only [List.length_drop];omega) (eY.I E)) fun cN R=>?_);replace E:=E.then R;refine mT (fun bp:(dx ((s.drop 1).drop (aH (s.drop 1)+1)))=true=>?_) (fun bp=>?_)
  ·refine ak 3 rfl (fD (bF vD rfl) (AF _ ((s.drop 1).take (aH (s.drop 1))) 165 h0 ZM (fun w c h1 aq=>T3 w c h1 aq) OE) fun fV R=>?_);replace E:=E.then R;refine mT (fun bE:(gn h0 ((s.drop 1).take (aH (s.drop 1))))=true=>?_) (fun bE=>?_)
   ·exact ak 2 rfl (J aW (aZ (au rfl rfl ⟨congrArg Value.bool (by rw [j6 (by decide),← eo];simp only [aR,bp,bE,bZ']),E⟩)))
   exact ak 2 rfl (J aW (aZ (au rfl rfl ⟨congrArg Value.bool (by rw [j6 (by decide),← eo];simp only [aR,bp,dO bE,bZ']),E⟩)))
  exact ak 6 rfl (J aW (aZ (au rfl rfl ⟨congrArg Value.bool (by rw [j6 (by decide),← eo];simp only [aR,dO bp,bZ']),E⟩)))
 exact ak 9 rfl (J aW (aZ (au rfl rfl ⟨congrArg Value.bool (by rw [j6 (by decide),← eo];simp only [dO aR,bZ']),E⟩)))
theorem aeQ (w:World) (s:aa):Calls Tryz.prog 173 [S s].toArray w (bL fun u w'=>u = .bool (nJ s)∧Mod [] w w'):=by
 refine enter Tryz.func173 rfl rfl rfl (l:=[(0,_)]) ⟨rfl,trivial⟩ ?_;have E:=Mod.refl [] w;refine ab fun aV=>aT rfl (J aV (ab fun aL=>aG rfl (cP (bF DQ rfl) (DC _ s BL) fun aB R=>?_)));replace E:=E.then R;refine ak 5 rfl (J aL (ab fun aW=>aG rfl ?_));refine mT (fun aR:(Lib.hasPrefix s BL)=true=>?_) (fun aR=>?_)
 ·refine ak 2 rfl (ar (bw Tryz.underlying9 rfl) (ar (pX rfl rfl) ?_));refine cT (fun bp:(s.length:Int)≤255=>?_) (fun bp=>?_)
  ·refine ak 3 rfl (fD (bF vD rfl) (AF _ (Lib.trimPrefix s BL) 199 nI ZN (fun w c h1 aq=>ZJ w c h1 aq) T5) fun cN R=>?_);replace E:=E.then R;refine mT (fun bE:(gn nI (Lib.trimPrefix s BL))=true=>?_) (fun bE=>?_)
   ·exact ak 2 rfl (J aW (aZ (au rfl rfl ⟨congrArg Value.bool (by rw [vE];simp only [aR,bh bp,bE,bZ']),E⟩)))
   exact ak 2 rfl (J aW (aZ (au rfl rfl ⟨congrArg Value.bool (by rw [vE];simp only [aR,bh bp,dO bE,bZ']),E⟩)))
  exact ak 6 rfl (J aW (aZ (au rfl rfl ⟨congrArg Value.bool (by rw [vE];simp only [aR,bN bp,bZ']),E⟩)))
 exact ak 10 rfl (J aW (aZ (au rfl rfl ⟨congrArg Value.bool (by rw [vE];simp only [dO aR,bZ']),E⟩)))
end Go.Proofs.YtnihidkbkhcfoaaGreatDoor.V
