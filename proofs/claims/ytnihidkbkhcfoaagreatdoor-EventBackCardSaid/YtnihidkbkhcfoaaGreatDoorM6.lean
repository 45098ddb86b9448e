/-
  A part of the proof: a map's size; its entries one by one, in whatever order; a method called through an interface; a type assertion that must hold; pointers held against nil; comparisons with nil of an interface, asserted types, results of functions that may panic. No condition of its own.
-/
import Derived.Test.YtnihidkbkhcfoaaGreatDoorM3
import Derived.Test.YtnihidkbkhcfoaaGreatDoorM4
import Derived.Test.YtnihidkbkhcfoaaGreatDoorM5
import Derived.Test.YtnihidkbkhcfoaaGreatDoorM2
set_option linter.unusedVariables false
set_option linter.unusedSimpArgs false
set_option maxRecDepth 10000
namespace Go.Proofs.YtnihidkbkhcfoaaGreatDoor.V
open Go Go.Proofs
theorem Ax:aP Tryz.prog 233:=aP.of Tryz.func233 (by kernel_rfl) (by kernel_rfl)
theorem vB:aP Tryz.prog 202:=aP.of Tryz.func202 (by kernel_rfl) (by kernel_rfl)
theorem Qx:aP Tryz.prog 203:=aP.of Tryz.func203 (by kernel_rfl) (by kernel_rfl)
theorem Ay (w:World) (s:U):Calls Tryz.prog 233 [S s].toArray w (bI fun u w'=>u = .tuple #[.int .i32 (((dX 4 s 0).getD 0:Nat):Int),.bool (dX 4 s 0).isSome]∧Mod [] w w'):=by
 refine enter Tryz.func233 rfl rfl rfl (l:=[(0,_)]) ⟨rfl,trivial⟩ ?_;have E:=Mod.refl [] w;refine ae fun aX=>aq 2 rfl (R aX (ay fun aM=>ae fun a7=>aQ rfl (ao (bF Tryz.underlying9 rfl) (ao (dK rfl rfl) (R a7 ?_)))));refine bm rfl (fun mw=>?_) (fun mw=>?_)
 ·have hp:=p0 4 s 0 (by omega);exact ae fun bC=>aq 2 rfl (R bC (bg (a1 (by simp) (ei rfl rfl rfl ⟨by rw [hp];rfl,E⟩))))
 refine cJ (az aM (ae fun bU=>bb rfl (R bU (ay fun ca=>ae fun cA=>aQ rfl (ao (G2 (n:=4) Tryz.underlying9 rfl rfl (by omega)) (oh Tryz.underlying9 rfl rfl fun sA aE fx Mf KA=>?_))))));have nc:w.heap.size≤sA:=by have:=E.size;omega
 replace E:=E.then KA;refine R cA (fU (cz (σ:=Nat×Nat) (fun⟨p,n⟩=>[(4,.int .i32 (n:Int)),(13,.pointer (some ⟨sA,0,none⟩))]) (fun⟨p,n⟩ aE=>p≤4∧n<16 ^ p∧dX (4-p) ((s.take 4).drop p) n=dX 4 s 0∧yq aE sA (s.take 4) p∧w.heap.size≤sA∧Mod [] w aE) (fun⟨p,n⟩=>4-p) (⟨0,0⟩) ⟨rfl,rfl,trivial⟩ (⟨by omega,by decide,wJ 4 s 0,fx,nc,E⟩) ?_));rintro⟨p,n⟩ cY ⟨bJ,Ti,hinv,fx,nc,E⟩;have ahn:(s.take 4).length=4:=by rw [List.length_take];omega
 refine ay fun cM=>?_
 by_cases e1:p<4
 rotate_left
 ·have j9:¬ p<(s.take 4).length:=by omega
  refine b8 (jJ rfl fx j9 rfl (ao (dU rfl rfl) (R cM (ay fun gz=>?_))));refine aU rfl (fun mD=>?_) (fun mD=>?_)
  ·cases mD
  skip
  exact bV (a1 (by simp) (a1 (by simp) (cr (az ca (ae fun hJ=>aq 3 rfl (R hJ (bg (ei rfl rfl rfl ⟨by have ahp:dX 4 s 0=some n:=(by rw [← hinv,show 4-p=0 by omega];rfl);rw [ahp];rfl,E⟩))))))))
 obtain⟨b,aH⟩:∃ b,(s.take 4)[p]? = some b:=⟨_,List.getElem?_eq_getElem (by omega)⟩;have vT:p<(s.take 4).length:=by omega
 by_cases oi:b.toNat<128
 rotate_left
 ·obtain⟨c,m,wP,fi,gA,qZ⟩:=Qw aH oi;refine b8 (kY rfl fx vT wP rfl fun jO oV ya Az=>?_);replace E:=E.trans' ya (fun x ab=>.inr (by simp at ab;subst ab;exact nc));clear fx;have fx:=oV;refine ao (dU rfl rfl) (R cM (ay fun eD=>?_));refine aU rfl (fun mD=>?_) (fun mD=>?_)
  ·skip
   refine cJ (az eD (fU (ae fun fl=>aq 2 rfl (R fl (ae fun e0=>aQ rfl (ao ((pk rfl rfl).to (v':=.int .i32 ((c ||| 32:Nat):Int)) (congrArg (Value.int .i32) (L3 (by omega)))) (cD (bt AA rfl) (uV _ hM (c ||| 32) (by decide) (by decide) (by decide) (L5 gA) (L6 qZ) (L4 fi)) fun jV J=>?_)))))));replace fx:=fx.I J;replace E:=E.then J;refine bb rfl (R e0 (ay fun gW=>ae fun hx=>aq 2 rfl (jZ (bB (by decide)) (aq 4 rfl (R hx (aO rfl ?_))))));have hp:dX 4 s 0=none:=rL (d4:=0) e1 aH (Iz (by omega)) hinv;exact ae fun gy=>aq 2 rfl (R gy (bg (a1 (by simp) (b5 (by simp) (a1 (by simp) (b5 (by simp) (a1 (by simp) (ei rfl rfl rfl ⟨by rw [hp];rfl,E⟩))))))))
  cases mD
 skip
 refine b8 (kY rfl fx vT (dec_lt aH oi) rfl fun gv oV ya Az=>?_);replace E:=E.trans' ya (fun x ab=>.inr (by simp at ab;subst ab;exact nc));clear fx;have fx:=oV;refine ao (dU rfl rfl) (R cM (ay fun db=>?_));refine aU rfl (fun mD=>?_) (fun mD=>?_);rotate_left
 ·cases mD
 skip
 refine cJ (az db (fU (ae fun cq=>aq 2 rfl (R cq (ae fun cj=>aQ rfl (ao ((pk rfl rfl).to (v':=.int .i32 ((b.toNat ||| 32:Nat):Int)) (congrArg (Value.int .i32) (L3 (by omega)))) (cD (bt AA rfl) (B1 _ hM (b.toNat ||| 32) (L7 oi)) fun iH J=>?_)))))));replace fx:=fx.I J;replace E:=E.then J;refine bb rfl (R cj (ay fun dH=>ae fun cL=>aq 2 rfl ?_));refine dR (fun hs:Lib.indexByte hM (UInt8.ofNat (b.toNat ||| 32))<0=>?_) (fun hs=>?_)
 ·refine aq 4 rfl (R cL (aO rfl ?_));have hp:dX 4 s 0=none:=rL (d4:=0) e1 aH (G0 oi (by omega)) hinv;exact ae fun dz=>aq 2 rfl (R dz (bg (a1 (by simp) (b5 (by simp) (a1 (by simp) (b5 (by simp) (a1 (by simp) (ei rfl rfl rfl ⟨by rw [hp];rfl,E⟩))))))))
 refine aq 3 rfl ?_;refine dR (fun mE:(b.toNat:Int)<48=>?_) (fun mE=>?_)
 ·refine ao (ky rfl rfl rfl) (R cL (aO rfl ?_));have hp:dX 4 s 0=none:=rL (d4:=0) e1 aH (G0 oi (by omega)) hinv;exact ae fun dS=>aq 2 rfl (R dS (bg (a1 (by simp) (b5 (by simp) (a1 (by simp) (b5 (by simp) (a1 (by simp) (ei rfl rfl rfl ⟨by rw [hp];rfl,E⟩))))))))
 refine ao (ky rfl rfl rfl) (R cL (aJ rfl ?_));obtain⟨d,aho,Tj,hid⟩:=Mc oi hs (by omega);rw [hid];have rN:=Fe e1 aH aho hinv;have anw:=IB Ti (by omega);exact cJ (az dH (b8 (aQ rfl (ao ((wO rfl rfl (by omega)).to (v':=.int .i32 ((16*n:Nat):Int)) (congrArg (Value.int .i32) (Vl (by omega)))) (aQ rfl (ao ((qC Tryz.underlying3 Tryz.underlying21 rfl).to (v':=.int .i32 (d:Int)) (congrArg (Value.int .i32) (wrap32_in _ (by omega)))) (ao ((pk rfl rfl).to (v':=.int .i32 ((16*n+d:Nat):Int)) (congrArg (Value.int .i32) (Vi (by omega) Tj))) (bb rfl (eG (b5 (by simp) (jW (σ:=Nat×Nat) (s:=⟨p,n⟩) (⟨p+1,16*n+d⟩) ⟨rfl,rfl,trivial⟩ ⟨by omega,Vm Ti Tj,rN,fx,nc,E⟩ (by dsimp only;omega))))))))))))
theorem II (w:World) (s:U):Calls Tryz.prog 203 [S s].toArray w (bI fun u w'=>u = .tuple #[.int .i32 ((e7 s).1:Int),.int .i64 ((e7 s).2:Int)]∧Mod [] w w'):=by
 refine enter Tryz.func203 rfl rfl rfl (l:=[(0,_)]) ⟨rfl,trivial⟩ ?_;have E:=Mod.refl [] w;refine ae fun aX=>aq 2 rfl (R aX (ay fun aM=>ae fun a7=>aQ rfl (ao (dM rfl rfl) (R a7 ?_))));refine bm rfl (fun lQ=>?_) (fun lQ=>?_)
 ·subst lQ;exact ae fun bC=>aq 2 rfl (R bC (bg (a1 (by simp) (ei rfl rfl rfl ⟨rfl,E⟩))))
 obtain⟨c,r,rfl⟩:∃ c r,s=c::r:=by
  cases s with
  | nil=>exact absurd rfl lQ
  | cons c r=>exact⟨c,r,rfl⟩
 refine cJ (az aM (ay fun bU=>ae fun ca=>aQ rfl (ao (c8 (c:=c) Tryz.underlying9 rfl rfl (by decide) rfl) (cD (bt qD rfl) (yR _ GY c) fun aE J=>?_))));replace E:=E.then J;refine bb rfl (R ca (ae fun cA=>aQ rfl (ao (et rfl rfl) (R cA ?_))));refine bm rfl (fun pw=>?_) (fun pw=>?_)
 ·obtain⟨i,d,bL,hi,anx,cN,ahq⟩:=(tN c).resolve_left (fun h=>absurd pw (by have:=h.2;omega));rw [hi];exact ae fun cM=>aQ rfl (ao (c8 (u:=Tg) Tryz.underlying9 rfl rfl (by omega) (by rw [Int.toNat_natCast];exact cN)) (ao ((qC Tryz.underlying5 Tryz.underlying21 rfl).to (v':=.int .i32 (d:Int)) (congrArg (Value.int .i32) (by rw [UInt8.toNat_ofNat',wrap32_in _ (by omega)];omega))) (aq 2 rfl (R cM (bg (a1 (by simp) (ei rfl rfl rfl ⟨by rw [zb bL];rfl,E⟩)))))))
 have bW:pW c=none:=(tN c).elim (·.1) (fun⟨i,d,_,hi,_⟩=>absurd (show Lib.indexByte GY c≥0 by rw [hi];omega) pw);refine cJ (az bU (ae fun db=>aQ rfl (ao ((cv (n:=1) Tryz.underlying9 rfl rfl (by simp)).to (v':=S r) rfl) (cD (bt Ax rfl) (Ay _ r) fun cY J=>?_))));replace E:=E.then J;refine aq 5 rfl (R db (ay fun cq=>fU (ae fun cj=>aQ rfl (ao (c8 (c:=c) Tryz.underlying9 rfl rfl (by decide) rfl) (ao (fE rfl rfl) ?_)))));refine dR (fun hu:(c.toNat:Int)≠117=>?_) (fun hu=>?_)
 ·refine aq 13 rfl (R cj (aO rfl ?_));have hp:e7 (_::r)=(0,0):=kK bW (by first | (left;intro e;subst e;exact hu rfl) | (right;left;simpa using hi) | (right;right;exact⟨n,oj,by omega,by omega⟩));exact ae fun dH=>aq 2 rfl (R dH (bg (b5 (by simp) (a1 (by simp) (ei rfl rfl rfl ⟨by rw [hp];rfl,E⟩)))))
 obtain rfl:c=117:=cQ (by rw [Classical.not_not.1 hu];rfl);refine aq 3 rfl ?_;refine vX (fun hi:((!(dX 4 r 0).isSome))=true=>?_) (fun hi=>?_)
 ·refine aq 10 rfl (R cj (aO rfl ?_));have hp:e7 (_::r)=(0,0):=kK bW (by first | (left;intro e;subst e;exact hu rfl) | (right;left;simpa using hi) | (right;right;exact⟨n,oj,by omega,by omega⟩));exact ae fun cL=>aq 2 rfl (R cL (bg (b5 (by simp) (a1 (by simp) (ei rfl rfl rfl ⟨by rw [hp];rfl,E⟩)))))
 obtain⟨n,oj⟩:∃ n,dX 4 r 0=some n:=Option.isSome_iff_exists.1 (by simpa using hi);have alw:=sy oj;have ahr:=tP oj;rw [oj,Option.getD_some];refine aq 3 rfl (aw (et rfl rfl) ?_);refine dR (fun tL:(n:Int)≥56320=>?_) (fun tL=>?_);rotate_left
 ·refine aq 6 rfl (R cj (aJ rfl (ae fun iK=>aq 2 rfl ?_)));refine dR (fun rO:(n:Int)<55296=>?_) (fun rO=>?_)
  ·exact aq 5 rfl (R iK (aO rfl (ae fun k7=>aq 3 rfl (R k7 (bg (b5 (by simp) (a1 (by simp) (ei rfl rfl rfl ⟨by rw [lb oj (by omega)];rfl,E⟩))))))))
  refine aq 2 rfl (aw (et rfl rfl) ?_);refine dR (fun nb:(n:Int)≥57344=>?_) (fun nb=>?_)
  ·exact aq 2 rfl (R iK (aO rfl (ae fun pR=>aq 3 rfl (R pR (bg (b5 (by simp) (a1 (by simp) (ei rfl rfl rfl ⟨by rw [lb oj (by omega)];rfl,E⟩))))))))
  refine aq 2 rfl (R iK (aJ rfl (ae fun mz=>aQ rfl (ao ((cv (n:=5) Tryz.underlying9 rfl rfl (by simp only [List.length_cons];omega)).to (v':=S (r.drop 4)) rfl) (cD (bt sB rfl) (sC _ (r.drop 4) [92,117]) fun jO J=>?_)))));replace E:=E.then J;refine ao (gJ rfl) ?_;refine vX (fun wQ:((!decide (([92,117]:U).length≤(r.drop 4).length∧(r.drop 4).take ([92,117]:U).length = [92,117])))=true=>?_) (fun wQ=>?_)
  ·refine bb rfl (R mz (aO rfl ?_));have hp:=gM oj (by omega) (.inl (zc (by rw [← mC];rw [Bool.not_eq_true'] at wQ;exact wQ)));exact ae fun pS=>aq 2 rfl (R pS (bg (b5 (by simp) (a1 (by simp) (ei rfl rfl rfl ⟨by rw [hp];rfl,E⟩)))))
  refine bb rfl (R mz (aJ rfl ?_));have Fg:List.isPrefixOf [92,117] (r.drop 4)=true:=by
   rw [← mC];cases bL:decide (([92,117]:U).length≤(r.drop 4).length∧(r.drop 4).take ([92,117]:U).length = [92,117])with
   | true=>rfl
   | false=>rw [bL] at wQ;cases wQ
  have wR:=wK Fg;rw [List.drop_drop] at wR;have Vo:2≤(r.drop 4).length:=by
   rw [← mC,decide_eq_true_eq] at Fg;exact Fg.1
  rw [List.length_drop] at Vo;refine cJ (b5 (by simp) (az cq (ae fun mA=>aQ rfl (ao ((cv (n:=7) Tryz.underlying9 rfl rfl (by simp only [List.length_cons];omega)).to (v':=S (r.drop 6)) rfl) (cD (bt Ax rfl) (Ay _ (r.drop 6)) fun jV J=>?_)))));replace E:=E.then J;refine aq 5 rfl (R mA (ay fun n'=>ae fun pg=>aq 2 rfl ?_));refine vX (fun dG:((!(dX 4 (r.drop 6) 0).isSome))=true=>?_) (fun dG=>?_)
  ·refine aq 8 rfl (R pg (aO rfl ?_));have hp:=gM oj (by omega) (by rw [wR];first | (left;simpa using dG) | (right;exact⟨m,mF,by omega⟩));exact ae fun q2=>aq 2 rfl (R q2 (bg (a1 (by simp) (ei rfl rfl rfl ⟨by rw [hp];rfl,E⟩))))
  obtain⟨m,mF⟩:∃ m,dX 4 (r.drop 6) 0=some m:=Option.isSome_iff_exists.1 (by simpa using dG);have aby:=sy mF;rw [mF,Option.getD_some];refine aq 3 rfl ?_;refine dR (fun lz:(m:Int)<56320=>?_) (fun lz=>?_)
  ·refine aq 5 rfl (R pg (aO rfl ?_));have hp:=gM oj (by omega) (by rw [wR];first | (left;simpa using dG) | (right;exact⟨m,mF,by omega⟩));exact ae fun sh=>aq 2 rfl (R sh (bg (a1 (by simp) (ei rfl rfl rfl ⟨by rw [hp];rfl,E⟩))))
  refine aq 3 rfl (aw (et rfl rfl) ?_);refine dR (fun Mg:(m:Int)≥57344=>?_) (fun Mg=>?_)
  ·refine ao (ky rfl rfl rfl) (R pg (aO rfl ?_));have hp:=gM oj (by omega) (by rw [wR];first | (left;simpa using dG) | (right;exact⟨m,mF,by omega⟩));exact ae fun oa=>aq 2 rfl (R oa (bg (a1 (by simp) (ei rfl rfl rfl ⟨by rw [hp];rfl,E⟩))))
  refine ao (ky rfl rfl rfl) (R pg (aJ rfl (cJ (az n' (ae fun q3=>aQ rfl (ao ((ia rfl rfl).to (v':=.int .i32 ((n-55296:Nat):Int)) (congrArg (Value.int .i32) (by rw [wrap32_in _ (by omega)];omega))) (ao ((wO rfl rfl (by omega)).to (v':=.int .i32 ((1024*(n-55296):Nat):Int)) (congrArg (Value.int .i32) (G1 (by omega)))) (ao ((p1 rfl rfl).to (v':=.int .i32 ((65536+1024*(n-55296):Nat):Int)) (congrArg (Value.int .i32) (by rw [wrap32_in _ (by omega)];omega))) (aQ rfl (ao ((ia rfl rfl).to (v':=.int .i32 ((m-56320:Nat):Int)) (congrArg (Value.int .i32) (by rw [wrap32_in _ (by omega)];omega))) (ao ((p1 rfl rfl).to (v':=.int .i32 ((65536+1024*(n-55296)+(m-56320):Nat):Int)) (congrArg (Value.int .i32) (by rw [wrap32_in _ (by omega)];omega))) (aq 2 rfl ?_))))))))))));exact R q3 (bg (ei rfl rfl rfl ⟨by rw [rM oj (by omega) (wR.trans mF) (by omega)];rfl,E⟩))
 refine aq 3 rfl ?_;refine dR (fun yf:(n:Int)<57344=>?_) (fun yf=>?_)
 ·refine aq 3 rfl (R cj (aO rfl ?_));have hp:e7 (_::r)=(0,0):=kK bW (by first | (left;intro e;subst e;exact hu rfl) | (right;left;simpa using hi) | (right;right;exact⟨n,oj,by omega,by omega⟩));exact ae fun dz=>aq 2 rfl (R dz (bg (b5 (by simp) (a1 (by simp) (ei rfl rfl rfl ⟨by rw [hp];rfl,E⟩)))))
 refine aq 3 rfl (R cj (aJ rfl (ae fun dS=>aq 2 rfl ?_)));refine dR (fun rO:(n:Int)<55296=>?_) (fun rO=>?_)
 ·exact aq 5 rfl (R dS (aO rfl (ae fun eD=>aq 3 rfl (R eD (bg (b5 (by simp) (a1 (by simp) (ei rfl rfl rfl ⟨by rw [lb oj (by omega)];rfl,E⟩))))))))
 refine aq 2 rfl (aw (et rfl rfl) ?_);refine dR (fun nb:(n:Int)≥57344=>?_) (fun nb=>?_)
 ·exact aq 2 rfl (R dS (aO rfl (ae fun fl=>aq 3 rfl (R fl (bg (b5 (by simp) (a1 (by simp) (ei rfl rfl rfl ⟨by rw [lb oj (by omega)];rfl,E⟩))))))))
 refine aq 2 rfl (R dS (aJ rfl (ae fun e0=>aQ rfl (ao ((cv (n:=5) Tryz.underlying9 rfl rfl (by simp only [List.length_cons];omega)).to (v':=S (r.drop 4)) rfl) (cD (bt sB rfl) (sC _ (r.drop 4) [92,117]) fun gv J=>?_)))));replace E:=E.then J;refine ao (gJ rfl) ?_;refine vX (fun wQ:((!decide (([92,117]:U).length≤(r.drop 4).length∧(r.drop 4).take ([92,117]:U).length = [92,117])))=true=>?_) (fun wQ=>?_)
 ·refine bb rfl (R e0 (aO rfl ?_));have hp:=gM oj (by omega) (.inl (zc (by rw [← mC];rw [Bool.not_eq_true'] at wQ;exact wQ)));exact ae fun gW=>aq 2 rfl (R gW (bg (b5 (by simp) (a1 (by simp) (ei rfl rfl rfl ⟨by rw [hp];rfl,E⟩)))))
 refine bb rfl (R e0 (aJ rfl ?_));have Fg:List.isPrefixOf [92,117] (r.drop 4)=true:=by
  rw [← mC];cases bL:decide (([92,117]:U).length≤(r.drop 4).length∧(r.drop 4).take ([92,117]:U).length = [92,117])with
  | true=>rfl
  | false=>rw [bL] at wQ;cases wQ
 have wR:=wK Fg;rw [List.drop_drop] at wR;have Vo:2≤(r.drop 4).length:=by
  rw [← mC,decide_eq_true_eq] at Fg;exact Fg.1
 rw [List.length_drop] at Vo;refine cJ (b5 (by simp) (az cq (ae fun hx=>aQ rfl (ao ((cv (n:=7) Tryz.underlying9 rfl rfl (by simp only [List.length_cons];omega)).to (v':=S (r.drop 6)) rfl) (cD (bt Ax rfl) (Ay _ (r.drop 6)) fun iH J=>?_)))));replace E:=E.then J;refine aq 5 rfl (R hx (ay fun gy=>ae fun gz=>aq 2 rfl ?_));refine vX (fun dG:((!(dX 4 (r.drop 6) 0).isSome))=true=>?_) (fun dG=>?_)
 ·refine aq 8 rfl (R gz (aO rfl ?_));have hp:=gM oj (by omega) (by rw [wR];first | (left;simpa using dG) | (right;exact⟨m,mF,by omega⟩));exact ae fun hJ=>aq 2 rfl (R hJ (bg (a1 (by simp) (ei rfl rfl rfl ⟨by rw [hp];rfl,E⟩))))
 obtain⟨m,mF⟩:∃ m,dX 4 (r.drop 6) 0=some m:=Option.isSome_iff_exists.1 (by simpa using dG);have aby:=sy mF;rw [mF,Option.getD_some];refine aq 3 rfl ?_;refine dR (fun lz:(m:Int)<56320=>?_) (fun lz=>?_)
 ·refine aq 5 rfl (R gz (aO rfl ?_));have hp:=gM oj (by omega) (by rw [wR];first | (left;simpa using dG) | (right;exact⟨m,mF,by omega⟩));exact ae fun ib=>aq 2 rfl (R ib (bg (a1 (by simp) (ei rfl rfl rfl ⟨by rw [hp];rfl,E⟩))))
 refine aq 3 rfl (aw (et rfl rfl) ?_);refine dR (fun Mg:(m:Int)≥57344=>?_) (fun Mg=>?_)
 ·refine ao (ky rfl rfl rfl) (R gz (aO rfl ?_));have hp:=gM oj (by omega) (by rw [wR];first | (left;simpa using dG) | (right;exact⟨m,mF,by omega⟩));exact ae fun iJ=>aq 2 rfl (R iJ (bg (a1 (by simp) (ei rfl rfl rfl ⟨by rw [hp];rfl,E⟩))))
 refine ao (ky rfl rfl rfl) (R gz (aJ rfl (cJ (az gy (ae fun j3=>aQ rfl (ao ((ia rfl rfl).to (v':=.int .i32 ((n-55296:Nat):Int)) (congrArg (Value.int .i32) (by rw [wrap32_in _ (by omega)];omega))) (ao ((wO rfl rfl (by omega)).to (v':=.int .i32 ((1024*(n-55296):Nat):Int)) (congrArg (Value.int .i32) (G1 (by omega)))) (ao ((p1 rfl rfl).to (v':=.int .i32 ((65536+1024*(n-55296):Nat):Int)) (congrArg (Value.int .i32) (by rw [wrap32_in _ (by omega)];omega))) (aQ rfl (ao ((ia rfl rfl).to (v':=.int .i32 ((m-56320:Nat):Int)) (congrArg (Value.int .i32) (by rw [wrap32_in _ (by omega)];omega))) (ao ((p1 rfl rfl).to (v':=.int .i32 ((65536+1024*(n-55296)+(m-56320):Nat):Int)) (congrArg (Value.int .i32) (by rw [wrap32_in _ (by omega)];omega))) (aq 2 rfl ?_))))))))))));exact R j3 (bg (ei rfl rfl rfl ⟨by rw [rM oj (by omega) (wR.trans mF) (by omega)];rfl,E⟩))
theorem Mh (w:World) (s:U) (k:Nat) (aN:s.length≤200000) (hZ:ve w):Calls Tryz.prog 180 [S s,.int .i64 (k:Int)].toArray w (bI fun u w'=>u = .tuple #[S ((ew s k).getD ([],0)).1,.int .i64 (((ew s k).getD ([],0)).2:Int),.bool (ew s k).isSome]∧Mod [] w w'):=by
 refine enter Tryz.func180 rfl rfl rfl (l:=[(0,_),(1,_)]) ⟨rfl,rfl,trivial⟩ ?_;have E:=Mod.refl [] w;refine ae fun aX=>aq 3 rfl (R aX (ay fun aM=>ae fun a7=>aq 2 rfl (jZ (bX (show ¬ ((k:Int)<0)by omega)) (aq 3 rfl (aw (bF Tryz.underlying9 rfl) (aw (et rfl rfl) ?_))))));refine dR (fun eH:(k:Int)≥(s.length:Int)=>?_) (fun eH=>?_)
 ·refine aq 7 rfl (R a7 (aO rfl ?_));have hp:(ew s k)=none:=by
   unfold ew;rw [if_neg];intro h
   first | (have:=(List.getElem?_eq_some_iff.1 h).1;omega) | (rw [Cr] at h;injection h with h;subst h;exact bS rfl)
  exact ae fun bC=>aq 3 rfl (R bC (bg (a1 (by simp) (p2 rfl rfl rfl rfl ⟨by rw [hp];rfl,E⟩))))
 obtain⟨c0,Cr⟩:∃ c0,s[k]? = some c0:=⟨_,List.getElem?_eq_getElem (by omega)⟩;refine aq 4 rfl (aw (c8 Tryz.underlying9 rfl rfl (by omega) (by rw [Int.toNat_natCast];exact Cr)) (aw (fE rfl rfl) ?_));refine dR (fun bS:(c0.toNat:Int)≠34=>?_) (fun bS=>?_)
 ·refine ao (ky rfl rfl rfl) (R a7 (aO rfl ?_));have hp:(ew s k)=none:=by
   unfold ew;rw [if_neg];intro h
   first | (have:=(List.getElem?_eq_some_iff.1 h).1;omega) | (rw [Cr] at h;injection h with h;subst h;exact bS rfl)
  exact ae fun bU=>aq 3 rfl (R bU (bg (a1 (by simp) (p2 rfl rfl rfl rfl ⟨by rw [hp];rfl,E⟩))))
 refine ao (ky rfl rfl rfl) (R a7 (aJ rfl ?_));have eE:s[k]? = some 34:=by rw [Cr,cQ (show(c0.toNat:Int)=(34:UInt8).toNat by rw [Classical.not_not.1 bS];rfl)]
 refine cJ (az aM (ae fun ca=>bb rfl (R ca (ay fun cA=>ae fun cM=>aQ rfl (ao (c7 (r:=((k+1:Nat):Int)) rfl rfl (by rw [wrap64_in _ (by omega)];omega)) (bb rfl (R cM (fU (cz (σ:=Nat×Value×U) (fun⟨i,v,out⟩=>[(0,S s),(7,v),(8,.int .i64 (i:Int))]) (fun⟨i,v,out⟩ aE=>(k<i∧i≤s.length∧out.length≤4*i∧∃ f,s.length-i<f∧e6 f (s.drop i) i out=(ew s k))∧l0 aE v out∧(∀ x∈aL v,w.heap.size≤x)∧Mod [] w aE) (fun⟨i,v,out⟩=>s.length-i) (⟨k+1,.slice none 0 0,[]⟩) ⟨rfl,rfl,rfl,trivial⟩ (⟨⟨by omega,by omega,by simp,s.length-k,by omega,by rw [ew,if_pos eE]⟩,Own.nil w 5 1,by simp [aL],E⟩) ?_)))))))));rintro⟨i,v,out⟩ aE ⟨⟨hk,hi,Qy,f,dm,hinv⟩,O,yb,E⟩;refine ay fun db=>ae fun cq=>aq 2 rfl (ao (bF Tryz.underlying9 rfl) (ao (dK rfl rfl) (R cq ?_)));refine bm rfl (fun rP=>?_) (fun rP=>?_);rotate_left
 ·have hp:(ew s k)=none:=by rw [← hinv,IC (by omega)]
  exact bV (a1 (by simp) (a1 (by simp) (cr (az cA (ae fun sh=>aq 3 rfl (R sh (bg (p2 rfl rfl rfl rfl ⟨by rw [hp];rfl,E⟩))))))))
 obtain⟨c,a6⟩:∃ c,s[i]? = some c:=⟨_,List.getElem?_eq_getElem (by omega)⟩;obtain⟨g,rfl⟩:∃ g,f=g+1:=⟨f-1,by omega⟩;refine cJ (az db (fU (ay fun cj=>?_)))
 by_cases du:c=34
 ·subst du;have rQ:Utf8.decode ⟨⟨s.drop i⟩⟩ 0=(34,1):=by rw [tQ (by omega) (by rw [nu a6 (by decide)];simp),nu a6 (by decide)];rfl
  have hp:(ew s k)=some (out,i+1):=by rw [← hinv,Cq a6]
  refine b8 (aq 2 rfl (ao (cv Tryz.underlying9 rfl rfl hi) (cD (bt vB rfl) (vu _ (s.drop i) (hZ.I E)) fun cY J=>?_)));replace E:=E.then J;replace O:=O.I J;rw [sn (show i<s.length by omega),rQ];refine aq 5 rfl (R cj (ay fun dH=>fU (ae fun cL=>aq 2 rfl (jZ (bB (by decide)) (bb rfl (R cL (aO rfl (ae fun dz=>aQ rfl (ao (rR (u:=out) Tryz.underlying65 Tryz.underlying5 Tryz.underlying9 rfl (O.same rfl (kG _))) (aQ rfl ?_))))))))));exact ao (c7 (r:=((i+1:Nat):Int)) rfl rfl (by rw [wrap64_in _ (by omega)];omega)) (aq 3 rfl (R dz (bg (b5 (by simp) (a1 (by simp) (b5 (by simp) (a1 (by simp) (b5 (by simp) (a1 (by simp) (p2 rfl rfl rfl rfl ⟨by rw [hp];rfl,E⟩))))))))))
 by_cases dT:c=92
 ·subst dT;have rQ:Utf8.decode ⟨⟨s.drop i⟩⟩ 0=(92,1):=by rw [tQ (by omega) (by rw [nu a6 (by decide)];simp),nu a6 (by decide)];rfl
  obtain⟨aV,bs,kk⟩:=Md (s.drop (i+1));rw [List.length_drop] at kk;have hc:=ID (f:=g) (out:=out) a6;rw [hinv] at hc;refine b8 (aq 2 rfl (ao (cv Tryz.underlying9 rfl rfl hi) (cD (bt vB rfl) (vu _ (s.drop i) (hZ.I E)) fun gv J=>?_)));replace E:=E.then J;replace O:=O.I J;rw [sn (show i<s.length by omega),rQ];refine aq 5 rfl (R cj (ay fun dS=>fU (ae fun eD=>aq 2 rfl (jZ (bX (by decide)) (bb rfl (R eD (aJ rfl (ae fun fl=>aq 2 rfl (jZ (bX (by decide)) (aq 3 rfl ?_))))))))));refine jZ (bX (by decide)) (aq 6 rfl (R fl (aJ rfl (ae fun e0=>aq 2 rfl (jZ (bB (by decide)) (bb rfl (R e0 (aO rfl (ae fun gW=>aq 2 rfl (ao (c7 (r:=((i+1:Nat):Int)) rfl rfl (by rw [wrap64_in _ (by omega)];omega)) (ao (cv (n:=i+1) Tryz.underlying9 rfl rfl (by omega)) ?_)))))))))));refine cD (bt Qx rfl) (II _ (s.drop (i+1))) fun iH J=>?_;replace E:=E.then J;replace O:=O.I J;refine aq 5 rfl (R gW (ay fun hx=>ae fun gy=>aq 2 rfl ?_));refine dR (fun ahs:((e7 (s.drop (i+1))).2:Int)=0=>?_) (fun ahs=>?_)
  ·refine R gy (aO rfl ?_);have Mi:(ew s k)=none:=by rw [hc,if_pos (by omega)]
   exact ae fun gz=>aq 3 rfl (R gz (bg (a1 (by simp) (b5 (by simp) (a1 (by simp) (b5 (by simp) (a1 (by simp) (b5 (by simp) (a1 (by simp) (p2 rfl rfl rfl rfl ⟨by rw [Mi];rfl,E⟩))))))))))
  refine R gy (aJ rfl (cJ (az hx (b8 (aQ rfl (ao (c7 (r:=(((e7 (s.drop (i+1))).2+1:Nat):Int)) rfl rfl (by rw [wrap64_in _ (by omega)];omega)) (bb rfl (eG (b5 (by simp) (az dS (ay fun hJ=>?_)))))))))));have rN:e6 g (s.drop (i+((e7 (s.drop (i+1))).2+1))) (i+((e7 (s.drop (i+1))).2+1)) (out++hQ (e7 (s.drop (i+1))).1)=(ew s k):=by rw [hc,if_neg (by omega)]
  refine b8 (aq 2 rfl (fP (bt vC rfl) (AB _ v out (e7 (s.drop (i+1))).1 O aV bs (by omega)) rfl fun cC jO aB=>?_));obtain⟨gG,oL,lz⟩:=aB;have pI:∀ x∈aL cC,w.heap.size≤x:=fun x ab=>(oL x ab).elim (yb x) (Nat.le_trans E.size);replace E:=E.trans' lz (fun x ab=>.inr (yb x ab));exact bb rfl (R hJ (b8 (aq 2 rfl (ao (c7 (r:=((i+((e7 (s.drop (i+1))).2+1):Nat):Int)) rfl rfl (by rw [wrap64_in _ (by omega)];omega)) (bb rfl (eG (b5 (by simp) (jW (σ:=Nat×Value×U) (s:=⟨i,v,out⟩) (⟨i+((e7 (s.drop (i+1))).2+1),cC,out++hQ (e7 (s.drop (i+1))).1⟩) ⟨rfl,rfl,rfl,trivial⟩ ⟨⟨by omega,by omega,by rw [List.length_append];have:=wN (e7 (s.drop (i+1))).1;omega,g,by omega,rN⟩,gG,pI,E⟩ (by dsimp only;omega)))))))))
 by_cases cO:(aC (s.drop i)).2=0
 ·have rQ:=IE (show i<s.length by omega) cO;have hp:(ew s k)=none:=by rw [← hinv,wM a6 du dT,if_pos (.inl cO)]
  refine b8 (aq 2 rfl (ao (cv Tryz.underlying9 rfl rfl hi) (cD (bt vB rfl) (vu _ (s.drop i) (hZ.I E)) fun jV J=>?_)));replace E:=E.then J;replace O:=O.I J;rw [sn (show i<s.length by omega),rQ];refine aq 5 rfl (R cj (ay fun ib=>fU (ae fun iJ=>aq 2 rfl (jZ (bX (by decide)) (bb rfl (R iJ (aJ rfl (ae fun j3=>aq 2 rfl (jZ (bX (by decide)) (aq 3 rfl ?_))))))))));refine jZ (bB (by decide)) (aq 3 rfl (jZ (bB (by decide)) (aq 3 rfl (R j3 (aO rfl ?_)))));have Mi:(ew s k)=none:=by first | exact hp | (rw [hc,if_pos (.inr (by omega))])
  exact ae fun iK=>aq 3 rfl (R iK (bg (b5 (by simp) (a1 (by simp) (b5 (by simp) (a1 (by simp) (b5 (by simp) (a1 (by simp) (p2 rfl rfl rfl rfl ⟨by rw [Mi];rfl,E⟩)))))))))
 have rQ:=tQ (show i<s.length by omega) cO;obtain⟨_,_,aV,bs⟩:=tO (gT (show i<s.length by omega)) cO;have kk:=kD (s.drop i);rw [List.length_drop] at kk;have hc:=wM (f:=g) (out:=out) a6 du dT;rw [hinv] at hc;have abz:¬ (((aC (s.drop i)).1:Int)=34):=fun h=>du (cQ (by rw [← zd a6 cO (by omega)];exact h));have Tk:¬ (((aC (s.drop i)).1:Int)=92):=fun h=>dT (cQ (by rw [← zd a6 cO (by omega)];exact h));refine b8 (aq 2 rfl (ao (cv Tryz.underlying9 rfl rfl hi) (cD (bt vB rfl) (vu _ (s.drop i) (hZ.I E)) fun ix J=>?_)));replace E:=E.then J;replace O:=O.I J;rw [sn (show i<s.length by omega),rQ];refine aq 5 rfl (R cj (ay fun k7=>fU (ae fun pR=>aq 2 rfl (jZ (bX (abz)) (bb rfl (R pR (aJ rfl (ae fun mz=>aq 2 rfl ?_))))))));refine dR (fun Ff:((aC (s.drop i)).1:Int)<32=>?_) (fun Ff=>?_)
 ·refine aq 9 rfl (R mz (aO rfl ?_));have Mi:(ew s k)=none:=by first | exact hp | (rw [hc,if_pos (.inr (by omega))])
  exact ae fun pS=>aq 3 rfl (R pS (bg (b5 (by simp) (a1 (by simp) (b5 (by simp) (a1 (by simp) (b5 (by simp) (a1 (by simp) (p2 rfl rfl rfl rfl ⟨by rw [Mi];rfl,E⟩)))))))))
 refine aq 3 rfl ?_;refine dR (fun aht:((aC (s.drop i)).1:Int)=65533=>?_) (fun aht=>?_)
 ·have j8:=IF (show i<s.length by omega) cO (by omega);refine aq 3 rfl (jZ (bX (by omega)) (aq 3 rfl (R mz (aJ rfl (ae fun mA=>aq 2 rfl (jZ (bX (Tk)) (bb rfl (R mA (aJ rfl (cJ (b5 (by simp) (az k7 ?_))))))))))));refine ay fun n'=>?_;have rN:e6 g (s.drop (i+(aC (s.drop i)).2)) (i+(aC (s.drop i)).2) (out++hQ (aC (s.drop i)).1)=(ew s k):=by rw [hc,if_neg (by omega)]
  refine b8 (aq 2 rfl (fP (bt vC rfl) (AB _ v out (aC (s.drop i)).1 O aV bs (by omega)) rfl fun cC pD aB=>?_));obtain⟨gG,oL,lz⟩:=aB;have pI:∀ x∈aL cC,w.heap.size≤x:=fun x ab=>(oL x ab).elim (yb x) (Nat.le_trans E.size);replace E:=E.trans' lz (fun x ab=>.inr (yb x ab));exact bb rfl (R n' (b8 (aq 2 rfl (ao (c7 (r:=((i+(aC (s.drop i)).2:Nat):Int)) rfl rfl (by rw [wrap64_in _ (by omega)];omega)) (bb rfl (eG (b5 (by simp) (jW (σ:=Nat×Value×U) (s:=⟨i,v,out⟩) (⟨i+(aC (s.drop i)).2,cC,out++hQ (aC (s.drop i)).1⟩) ⟨rfl,rfl,rfl,trivial⟩ ⟨⟨by omega,by omega,by rw [List.length_append];have:=wN (aC (s.drop i)).1;omega,g,by omega,rN⟩,gG,pI,E⟩ (by dsimp only;omega)))))))))
 refine aq 6 rfl (R mz (aJ rfl (ae fun pg=>aq 2 rfl (jZ (bX (Tk)) (bb rfl (R pg (aJ rfl (cJ (b5 (by simp) (az k7 (ay fun q2=>?_)))))))))));have rN:e6 g (s.drop (i+(aC (s.drop i)).2)) (i+(aC (s.drop i)).2) (out++hQ (aC (s.drop i)).1)=(ew s k):=by rw [hc,if_neg (by omega)]
 refine b8 (aq 2 rfl (fP (bt vC rfl) (AB _ v out (aC (s.drop i)).1 O aV bs (by omega)) rfl fun cC lL aB=>?_));obtain⟨gG,oL,lz⟩:=aB;have pI:∀ x∈aL cC,w.heap.size≤x:=fun x ab=>(oL x ab).elim (yb x) (Nat.le_trans E.size);replace E:=E.trans' lz (fun x ab=>.inr (yb x ab));exact bb rfl (R q2 (b8 (aq 2 rfl (ao (c7 (r:=((i+(aC (s.drop i)).2:Nat):Int)) rfl rfl (by rw [wrap64_in _ (by omega)];omega)) (bb rfl (eG (b5 (by simp) (jW (σ:=Nat×Value×U) (s:=⟨i,v,out⟩) (⟨i+(aC (s.drop i)).2,cC,out++hQ (aC (s.drop i)).1⟩) ⟨rfl,rfl,rfl,trivial⟩ ⟨⟨by omega,by omega,by rw [List.length_append];have:=wN (aC (s.drop i)).1;omega,g,by omega,rN⟩,gG,pI,E⟩ (by dsimp only;omega)))))))))
set_option maxRecDepth 10000
theorem Sa:aP Tryz.prog 157:=aP.of Tryz.func157 (by kernel_rfl) (by kernel_rfl)
theorem Zm:tC Tryz.prog 124 [(0,1)]=true:=by kernel_rfl
theorem ON:hq Tryz.prog 124 ([.int .i64 0]):=by unfold hq;kernel_rfl
theorem vM:ho Tryz.prog 83 0 0 1=true:=by kernel_rfl
theorem HA:mY Tryz.prog 65=true:=by kernel_rfl
theorem fg:aP Tryz.prog 62:=aP.of Tryz.func62 (by kernel_rfl) (by kernel_rfl)
theorem Sb:aP Tryz.prog 159:=aP.of Tryz.func159 (by kernel_rfl) (by kernel_rfl)
theorem kh:aP Tryz.prog 118:=aP.of Tryz.func118 (by kernel_rfl) (by kernel_rfl)
theorem OO (w:World) (v:JV) (us:List Value) (apv:ak [] w v.D us):Calls Tryz.prog 117 [.agg us.toArray].toArray w (bI fun u w'=>u = .bool v.plain∧Mod [] w w'):=by
 refine enter Tryz.func117 rfl rfl rfl (l:=[(0,_)]) ⟨rfl,trivial⟩ ?_;have E:=Mod.refl [] w;obtain⟨al,cl,am,cm,rfl,kq,jh⟩:=JV.bc apv;refine ae fun aX=>ef rfl rfl rfl fun g1 aE bO=>?_;have bR:=bO.le E;replace E:=E.then bO.mod;have aa:=bO.aA;refine bb rfl (R aX (ae fun aM=>ao (au jj rfl) (ao (bh dY rfl (aa.cell rfl)) (bb rfl (R aM (ae fun a7=>aQ rfl (ao (et rfl rfl) ?_)))))));refine dR (fun eH:v.kind≥0=>?_) (fun eH=>?_);rotate_left
 ·exact aq 52 rfl (R a7 (bg (ar rfl rfl ⟨congrArg Value.bool (by simp only [JV.plain];clear E apv kq jh aa;simp_all <;> omega),E⟩)))
 refine aq 3 rfl ?_;refine dR (fun hle:v.kind≤5=>?_) (fun hle=>?_);rotate_left
 ·exact aq 49 rfl (R a7 (bg (ar rfl rfl ⟨congrArg Value.bool (by simp only [JV.plain];clear E apv kq jh aa;simp_all <;> omega),E⟩)))
 refine aq 4 rfl ?_;refine dR (fun bY:v.kind=1=>?_) (fun bY=>?_)
 ·refine aq 9 rfl (jZ (bX (by omega)) (aw (dQ rfl) (aw (au oF rfl) (aw (bh dY rfl (aa.cell rfl)) (aw (oC rfl rfl) ?_)))));refine dR (fun OP:v.num=0=>?_) (fun OP=>?_)
  ·refine aq 5 rfl (jZ (bX (by omega)) (aw (dQ rfl) (aw (au j2 rfl) (aw (bh bH rfl (aa.cell rfl)) (aw (dM rfl rfl) ?_)))));refine dR (fun Dz:v.str = []=>?_) (fun Dz=>?_)
   ·refine aq 5 rfl (jZ (bX (by omega)) (aw (dQ rfl) (aw (au ji rfl) (aw (bh lM rfl (aa.cell rfl)) (aw (bx Tryz.underlying22 rfl) (aw (oC rfl rfl) ?_))))));refine dR (fun nT:(v.list.length:Int)=0=>?_) (fun nT=>?_)
    ·refine aq 5 rfl (jZ (bX (by omega)) (aw (dQ rfl) (aw (au cw rfl) (aw (bh eg rfl (aa.cell rfl)) (aw (bx Tryz.underlying23 rfl) (aw (oC rfl rfl) ?_))))));refine dR (fun th:(v.map.length:Int)=0=>?_) (fun th=>?_)
     ·exact aq 3 rfl (R a7 (bg (ar rfl rfl ⟨congrArg Value.bool (by simp only [JV.plain];clear E apv kq jh aa;simp_all <;> omega),E⟩)))
     exact aq 3 rfl (R a7 (bg (ar rfl rfl ⟨congrArg Value.bool (by simp only [JV.plain];clear E apv kq jh aa;simp_all <;> omega),E⟩)))
    exact aq 13 rfl (R a7 (bg (ar rfl rfl ⟨congrArg Value.bool (by simp only [JV.plain];clear E apv kq jh aa;simp_all <;> omega),E⟩)))
   exact aq 23 rfl (R a7 (bg (ar rfl rfl ⟨congrArg Value.bool (by simp only [JV.plain];clear E apv kq jh aa;simp_all <;> omega),E⟩)))
  exact aq 32 rfl (R a7 (bg (ar rfl rfl ⟨congrArg Value.bool (by simp only [JV.plain];clear E apv kq jh aa;simp_all <;> omega),E⟩)))
 refine aw (dQ rfl) (aw (au vr rfl) (aw (bh jQ rfl (aa.cell rfl)) (aw (gJ rfl) ?_)));refine rb (fun aj7:(!v.is)=true=>?_) (fun aj7=>?_);rotate_left
 ·exact aq 41 rfl (R a7 (bg (ar rfl rfl ⟨congrArg Value.bool (by simp only [JV.plain];clear E apv kq jh aa;simp_all <;> omega),E⟩)))
 refine aq 5 rfl ?_;refine dR (fun bP:v.kind=2=>?_) (fun bP=>?_)
 ·refine aq 9 rfl (jZ (bX (by omega)) (aw (dQ rfl) (aw (au j2 rfl) (aw (bh bH rfl (aa.cell rfl)) (aw (dM rfl rfl) ?_)))));refine dR (fun Dz:v.str = []=>?_) (fun Dz=>?_)
  ·refine aq 5 rfl (jZ (bX (by omega)) (aw (dQ rfl) (aw (au ji rfl) (aw (bh lM rfl (aa.cell rfl)) (aw (bx Tryz.underlying22 rfl) (aw (oC rfl rfl) ?_))))));refine dR (fun nT:(v.list.length:Int)=0=>?_) (fun nT=>?_)
   ·refine aq 5 rfl (jZ (bX (by omega)) (aw (dQ rfl) (aw (au cw rfl) (aw (bh eg rfl (aa.cell rfl)) (aw (bx Tryz.underlying23 rfl) (aw (oC rfl rfl) ?_))))));refine dR (fun th:(v.map.length:Int)=0=>?_) (fun th=>?_)
    ·exact aq 3 rfl (R a7 (bg (ar rfl rfl ⟨congrArg Value.bool (by simp only [JV.plain];clear E apv kq jh aa;simp_all <;> omega),E⟩)))
    exact aq 3 rfl (R a7 (bg (ar rfl rfl ⟨congrArg Value.bool (by simp only [JV.plain];clear E apv kq jh aa;simp_all <;> omega),E⟩)))
   exact aq 13 rfl (R a7 (bg (ar rfl rfl ⟨congrArg Value.bool (by simp only [JV.plain];clear E apv kq jh aa;simp_all <;> omega),E⟩)))
  exact aq 23 rfl (R a7 (bg (ar rfl rfl ⟨congrArg Value.bool (by simp only [JV.plain];clear E apv kq jh aa;simp_all <;> omega),E⟩)))
 refine aw (dQ rfl) (aw (au oF rfl) (aw (bh dY rfl (aa.cell rfl)) (aw (oC rfl rfl) ?_)));refine dR (fun OP:v.num=0=>?_) (fun OP=>?_);rotate_left
 ·exact aq 32 rfl (R a7 (bg (ar rfl rfl ⟨congrArg Value.bool (by simp only [JV.plain];clear E apv kq jh aa;simp_all <;> omega),E⟩)))
 refine aq 5 rfl ?_;refine dR (fun cT:v.kind=3=>?_) (fun cT=>?_)
 ·refine aq 9 rfl (jZ (bX (by omega)) (aw (dQ rfl) (aw (au ji rfl) (aw (bh lM rfl (aa.cell rfl)) (aw (bx Tryz.underlying22 rfl) (aw (oC rfl rfl) ?_))))));refine dR (fun nT:(v.list.length:Int)=0=>?_) (fun nT=>?_)
  ·refine aq 5 rfl (jZ (bX (by omega)) (aw (dQ rfl) (aw (au cw rfl) (aw (bh eg rfl (aa.cell rfl)) (aw (bx Tryz.underlying23 rfl) (aw (oC rfl rfl) ?_))))));refine dR (fun th:(v.map.length:Int)=0=>?_) (fun th=>?_)
   ·exact aq 3 rfl (R a7 (bg (ar rfl rfl ⟨congrArg Value.bool (by simp only [JV.plain];clear E apv kq jh aa;simp_all <;> omega),E⟩)))
   exact aq 3 rfl (R a7 (bg (ar rfl rfl ⟨congrArg Value.bool (by simp only [JV.plain];clear E apv kq jh aa;simp_all <;> omega),E⟩)))
  exact aq 13 rfl (R a7 (bg (ar rfl rfl ⟨congrArg Value.bool (by simp only [JV.plain];clear E apv kq jh aa;simp_all <;> omega),E⟩)))
 refine aw (dQ rfl) (aw (au j2 rfl) (aw (bh bH rfl (aa.cell rfl)) (aw (dM rfl rfl) ?_)));refine dR (fun Dz:v.str = []=>?_) (fun Dz=>?_)
 ·refine aq 5 rfl ?_;refine dR (fun dP:v.kind=4=>?_) (fun dP=>?_)
  ·refine aq 10 rfl (jZ (bX (by omega)) (aw (dQ rfl) (aw (au cw rfl) (aw (bh eg rfl (aa.cell rfl)) (aw (bx Tryz.underlying23 rfl) (aw (oC rfl rfl) ?_))))));refine dR (fun th:(v.map.length:Int)=0=>?_) (fun th=>?_)
   ·exact aq 3 rfl (R a7 (bg (ar rfl rfl ⟨congrArg Value.bool (by simp only [JV.plain];clear E apv kq jh aa;simp_all <;> omega),E⟩)))
   exact aq 3 rfl (R a7 (bg (ar rfl rfl ⟨congrArg Value.bool (by simp only [JV.plain];clear E apv kq jh aa;simp_all <;> omega),E⟩)))
  refine aw (dQ rfl) (aw (au ji rfl) (aw (bh lM rfl (aa.cell rfl)) (aw (bx Tryz.underlying22 rfl) (aw (oC rfl rfl) ?_))));refine dR (fun nT:(v.list.length:Int)=0=>?_) (fun nT=>?_)
  ·refine aq 5 rfl ?_;refine dR (fun fj:v.kind=5=>?_) (fun fj=>?_)
   ·exact aq 8 rfl (R a7 (bg (ar rfl rfl ⟨congrArg Value.bool (by simp only [JV.plain];clear E apv kq jh aa;simp_all <;> omega),E⟩)))
   refine aw (dQ rfl) (aw (au cw rfl) (aw (bh eg rfl (aa.cell rfl)) (aw (bx Tryz.underlying23 rfl) (aw (oC rfl rfl) ?_))));refine dR (fun th:(v.map.length:Int)=0=>?_) (fun th=>?_)
   ·exact aq 3 rfl (R a7 (bg (ar rfl rfl ⟨congrArg Value.bool (by simp only [JV.plain];clear E apv kq jh aa;simp_all <;> omega),E⟩)))
   exact aq 3 rfl (R a7 (bg (ar rfl rfl ⟨congrArg Value.bool (by simp only [JV.plain];clear E apv kq jh aa;simp_all <;> omega),E⟩)))
  exact aq 13 rfl (R a7 (bg (ar rfl rfl ⟨congrArg Value.bool (by simp only [JV.plain];clear E apv kq jh aa;simp_all <;> omega),E⟩)))
 exact aq 23 rfl (R a7 (bg (ar rfl rfl ⟨congrArg Value.bool (by simp only [JV.plain];clear E apv kq jh aa;simp_all <;> omega),E⟩)))
theorem OQ (w:World) (x:Bool):Calls Tryz.prog 157 [.bool x].toArray w (bI fun u w'=>u=S (if x then JV.jo else JV.hD)∧Mod [] w w'):=by
 refine enter Tryz.func157 rfl rfl rfl (l:=[(0,_)]) ⟨rfl,trivial⟩ ?_;have E:=Mod.refl [] w;refine ae fun aX=>bb rfl (R aX (ay fun aM=>ae fun a7=>aQ rfl (R a7 ?_)));refine aU rfl (fun aF=>?_) (fun aF=>?_)
 ·exact ae fun bC=>bb rfl (R bC (bg (a1 (by simp) (ar rfl rfl ⟨by rw [aF];rfl,E⟩))))
 exact cJ (az aM (ae fun bU=>bb rfl (R bU (bg (ar rfl rfl ⟨by rw [aF];rfl,E⟩)))))
theorem Sc (w:World) (x:Bool):Calls Tryz.prog 119 [.bool x].toArray w (bI fun u w'=>u=S (if x then JV.jo else JV.hD)∧Mod [] w w'):=by
 refine enter Tryz.func119 rfl rfl rfl (l:=[(0,_)]) ⟨rfl,trivial⟩ ?_;have E:=Mod.refl [] w;refine ae fun aX=>bb rfl (R aX (ae fun aM=>aQ rfl (cD (bt Sa rfl) (OQ _ _) fun aE J=>?_)));replace E:=E.then J;exact bb rfl (R aM (bg (ar rfl rfl ⟨rfl,E⟩)))
theorem ee (w:World) (e:Int):Calls Tryz.prog 62 [.int .i64 e].toArray w (aj8 124 e w):=by
 exact enter Tryz.func62 rfl rfl rfl (l:=[(0,_)]) ⟨rfl,trivial⟩ (b8 (aQ rfl (ao (bj (cs:=[_]) Zm ON rfl rfl) (ao (Ft Tryz.underlying124 rfl rfl) (Ns rfl (dt ⟨rfl,rfl⟩))))))
theorem ki (w:World) (g:Nat) (u:Value) (b:U) (KC:ti w g 83 u b) (t:U) (bQ:t.length≤1000000):Calls Tryz.prog 118 [.pointer (some ⟨g,0,none⟩),S t].toArray w (xP w g 83 124 u (dw (b++t))):=by
 refine enter Tryz.func118 rfl rfl rfl (l:=[(0,_),(1,_)]) ⟨rfl,rfl,trivial⟩ (ay fun aX=>?_);have H:=jg.init KC;refine b8 (aq 3 rfl (ao (au vM rfl) (ao (bh HA rfl (H.q1.aA.cell rfl)) (aQ rfl (cV jD rfl rfl H.q1.own (Src.str Tryz.underlying9 t) (by decide) (by have:=H.q1.len;omega) (by have:=H.q1.len;omega) rfl fun h7 aE gi=>?_)))));have gG:l0 aE h7 (b++t):=gi.own.same (by simp) (by simp [kG,qW]);obtain⟨nX,c1,rfl,fi,gA⟩:=gG.form;have fO:=H.q1.aA.mod gi.mod (fun ab=>H.q1.ne _ ab rfl);refine ao (dx rfl) (ao (au vM rfl) (ea HA fO rfl rfl rfl (by simp) fun cY aj9=>?_));have amG:=aj9.aA;have aon:=H.app gi aj9.mod;refine R aX (ae fun aM=>aq 2 rfl (ao (au vM rfl) (ao (bh HA rfl (amG.cell rfl)) (ao (bx Tryz.underlying65 rfl) (ao (hY rfl rfl) (R aM ?_))))));refine bm rfl (fun aj'=>?_) (fun aj'=>?_)
 ·refine b8 ?_;refine e4 (bt fg rfl) (ee _ 3) rfl (fun di aB=>aB.elim) (fun kZ gv aB=>?_) fun cC gv aB=>?_
  ·obtain⟨rfl,rfl⟩:=aB;exact dt ⟨3,if_pos (by omega),by decide,rfl,aon⟩
  exact aB.elim
 exact cJ (iQ rfl ((H.aeC gi gG aj9.mod amG (by omega)).fin (if_neg (by omega))))
theorem xQ (w:World) (g:Nat) (u:Value) (b:U) (KC:ti w g 83 u b) (s:U):Calls Tryz.prog 121 [.pointer (some ⟨g,0,none⟩),S s].toArray w (xP w g 83 124 u (gC b s)):=by
 refine enter Tryz.func121 rfl rfl rfl (l:=[(0,_),(1,_)]) ⟨rfl,rfl,trivial⟩ (ay fun aX=>ay fun aM=>?_);have H:=jg.init KC;refine b8 (aQ rfl (ao (bF Tryz.underlying9 rfl) (ao (hY rfl rfl) (R aM ?_))));refine bm rfl (fun j0=>?_) (fun j0=>?_)
 ·refine b8 ?_;refine e4 (bt fg rfl) (ee _ 3) rfl (fun di aB=>aB.elim) (fun kZ aE aB=>?_) fun cC aE aB=>?_
  ·obtain⟨rfl,rfl⟩:=aB;exact a1 (by simp) (dt (H.fail (if_pos (by omega))))
  exact aB.elim
 refine cJ (az aX (ae fun a7=>aQ rfl (cD (bt Sb rfl) (R7 _ s (by omega)) fun cY J=>?_)));replace H:=H.I J;refine aq 5 rfl (R a7 (ay fun bC=>ae fun bU=>aq 2 rfl (R bU ?_)));refine aU rfl (fun k3=>?_) (fun k3=>?_)
 ·have bw:ck s=false:=by simpa using k3
  refine b8 ?_;refine e4 (bt fg rfl) (ee _ 1) rfl (fun di aB=>aB.elim) (fun kZ gv aB=>?_) fun cC gv aB=>?_
  ·obtain⟨rfl,rfl⟩:=aB;exact a1 (by simp) (dt (H.fail (by rw [gC,if_neg (by omega),bw];rfl)))
  exact aB.elim
 have bw:ck s=true:=by simpa using k3
 refine cJ (az bC (b8 (aq 2 rfl ?_)));have Vr:=qA s;have WR:(b7 s).length=(cW s).length+2:=by simp [b7]
 rw [bw,if_pos rfl];refine e4 (bt kh rfl) (ki _ _ _ _ H.q1 (b7 s) (by omega)) rfl (fun di aB=>aB.elim) (fun kZ iH aB=>?_) fun cC iH aB=>?_
 ·have bJ:=H.panic (r:=gC b s) aB (fun e he=>by rw [gC,if_neg (by omega),bw];exact he);exact dt bJ
 obtain⟨h7,ev,b9,H1,lz,oL⟩:=H.ret aB;replace H:=H1;exact eG (iQ rfl (H.fin (r:=gC b s) (by rw [gC,if_neg (by omega),bw];exact b9)))
theorem zI (w:World) (g:Nat) (u:Value) (b:U) (KC:ti w g 83 u b) (k:Nat):Calls Tryz.prog 122 [.pointer (some ⟨g,0,none⟩),.int .i64 (k:Int)].toArray w (xP w g 83 124 u (if k=0 then .ok b else dw (b ++ [44]))):=by
 refine enter Tryz.func122 rfl rfl rfl (l:=[(0,_),(1,_)]) ⟨rfl,rfl,trivial⟩ (ay fun aX=>?_);have H:=jg.init KC;refine b8 (aq 2 rfl (R aX ?_));refine bm rfl (fun ch=>?_) (fun ch=>?_)
 ·skip
  refine b8 (aQ rfl ?_);refine e4 (bt kh rfl) (ki _ _ _ _ H.q1 [44] (by simp)) rfl (fun di aB=>aB.elim) (fun kZ aE aB=>?_) fun cC aE aB=>?_
  ·have bJ:=H.panic (r:=if k=0 then .ok b else dw (b ++ [44])) aB (fun e he=>by rw [if_neg (by omega)];exact he);exact dt bJ
  obtain⟨h7,ev,b9,H1,lz,oL⟩:=H.ret aB;replace H:=H1;exact eG (iQ rfl (H.fin (by rw [if_neg (by omega)];exact b9)))
 skip
 exact cJ (iQ rfl (H.fin (by rw [if_pos (by omega)])))
set_option maxRecDepth 10000
theorem Sd:aP Tryz.prog 119:=aP.of Tryz.func119 (by kernel_rfl) (by kernel_rfl)
theorem Bn:aP Tryz.prog 121:=aP.of Tryz.func121 (by kernel_rfl) (by kernel_rfl)
theorem HB:aP Tryz.prog 122:=aP.of Tryz.func122 (by kernel_rfl) (by kernel_rfl)
theorem Bo:aP Tryz.prog 66:=aP.of Tryz.func66 (by kernel_rfl) (by kernel_rfl)
theorem Se:aP Tryz.prog 117:=aP.of Tryz.func117 (by kernel_rfl) (by kernel_rfl)
theorem Bp (N:Nat) (dh:∀ (w:World) (v:JV) (us:List Value) (deep:Nat) (b:U) (u:Value) (g:Nat),v.sz≤N→ti w g 83 u b→ak (g::aL u) w v.D us→deep≤32→oN w→K'∉g::aL u→Calls Tryz.prog 66 [.pointer (some ⟨g,0,none⟩),.agg us.toArray,.int .i64 (deep:Int)].toArray w (xP w g 83 124 u (v.wr deep b))) (w:World) (v:JV) (us:List Value) (deep:Nat) (b:U) (u:Value) (g:Nat) (hj:v.sz≤N+1) (KC:ti w g 83 u b) (apv:ak (g::aL u) w v.D us) (bL:deep≤32) (jY:oN w) (tR:K'∉g::aL u):Calls Tryz.prog 66 [.pointer (some ⟨g,0,none⟩),.agg us.toArray,.int .i64 (deep:Int)].toArray w (xP w g 83 124 u (v.wr deep b)):=by
 refine enter Tryz.func66 rfl rfl rfl (l:=[(0,_),(1,_),(2,_)]) ⟨rfl,rfl,rfl,trivial⟩ ?_;obtain⟨al,cl,am,cm,rfl,kq,jh⟩:=JV.bc apv;have Wi:=(JV.b6 kq jh).fN (A':=[]) (by simp);refine l7 fun K1 aX=>?_;have H:=jg.init KC;refine b8 (ef rfl rfl rfl fun g1 aE bO=>?_);replace H:=H.I bO.mod;have aa:=bO.aA;have K1:=tj.Lf KC aa (by have:=bO.at_;omega);refine R aX (l7 fun K2 aM=>?_);have J2:∀ (aE:World),v.bare=true∧(v.kind≥4→deep<32)∧jg w aE u g 83 u b∧tj aE g u g1 25 [.int .i64 v.kind,.bool v.is,.int .i64 v.num,S v.str,.slice al v.list.length cl,.slice am v.map.length cm]→∀ a,Has 128 [] [(0,.pointer (some ⟨g,0,none⟩)),(2,.int .i64 (deep:Int)),(4,.pointer (some ⟨g1,0,none⟩))] a→K2 a aE:=by
  intro cY pF;obtain⟨qi,OR,H,K1⟩:=pF;refine aM _ _ _ _ (ae fun a7=>ao (au jj rfl) (ao (bh dY rfl (K1.aA.cell rfl)) (R a7 (fU (ae fun bC=>aq 2 rfl (R bC ?_))))));refine bm rfl (fun uu=>?_) (fun uu=>?_)
  ·have bS:¬ v.bare=false:=by rw [qi];simp
   refine b8 (aQ rfl ?_);refine e4 (bt kh rfl) (ki _ _ _ _ H.q1 JV.kF (by simp)) rfl (fun di aB=>aB.elim) (fun kZ gv aB=>?_) fun cC gv aB=>?_
   ·have bJ:=H.panic (r:=v.wr deep b) aB (fun e he=>by rw [JV.dZ,if_neg bS,if_pos uu];exact he);exact b5 (by simp) (dt bJ)
   obtain⟨h7,ev,b9,H1,lz,oL⟩:=H.ret aB;replace H:=H1;exact eG (b5 (by simp) (iQ rfl (H.fin (r:=v.wr deep b) (by rw [JV.dZ,if_neg bS,if_pos uu];exact b9))))
  have bS:¬ v.bare=false:=by rw [qi];simp
  refine ae fun bU=>aq 2 rfl (R bU ?_);refine bm rfl (fun Bq=>?_) (fun Bq=>?_)
  ·refine b8 (aQ rfl (ao (au vr rfl) (ao (bh jQ rfl (K1.aA.cell rfl)) (cD (bt Sd rfl) (Sc _ _) fun iH J=>?_))));replace H:=H.I J;replace K1:=K1.I J;refine e4 (bt kh rfl) (ki _ _ _ _ H.q1 (if v.is then JV.jo else JV.hD) (by split <;> simp)) rfl (fun di aB=>aB.elim) (fun kZ jO aB=>?_) fun cC jO aB=>?_
   ·have bJ:=H.panic (r:=v.wr deep b) aB (fun e he=>by rw [JV.dZ,if_neg bS,if_neg uu,if_pos Bq];exact he);exact b5 (by simp) (dt bJ)
   obtain⟨h7,ev,b9,H1,lz,oL⟩:=H.ret aB;replace H:=H1;exact eG (b5 (by simp) (iQ rfl (H.fin (r:=v.wr deep b) (by rw [JV.dZ,if_neg bS,if_neg uu,if_pos Bq];exact b9))))
  refine ae fun ca=>aq 2 rfl (R ca ?_);refine bm rfl (fun DA=>?_) (fun DA=>?_)
  ·refine b8 (aQ rfl (ao (au oF rfl) (ao (bh dY rfl (K1.aA.cell rfl)) ?_)));obtain⟨aoo,jR⟩:=yU qi DA;have aop:=Lib.itoa_length_le v.num (by omega) (by omega);refine cD (bt lY rfl) (lZ _ v.num (by omega) (by omega) (jY.mod H.mod tR)) fun jV J=>?_;replace H:=H.I J;replace K1:=K1.I J;refine e4 (bt kh rfl) (ki _ _ _ _ H.q1 (Lib.itoa v.num) (by omega)) rfl (fun di aB=>aB.elim) (fun kZ ix aB=>?_) fun cC ix aB=>?_
   ·have bJ:=H.panic (r:=v.wr deep b) aB (fun e he=>by rw [JV.dZ,if_neg bS,if_neg uu,if_neg Bq,if_pos DA];exact he);exact b5 (by simp) (dt bJ)
   obtain⟨h7,ev,b9,H1,lz,oL⟩:=H.ret aB;replace H:=H1;exact eG (b5 (by simp) (iQ rfl (H.fin (r:=v.wr deep b) (by rw [JV.dZ,if_neg bS,if_neg uu,if_neg Bq,if_pos DA];exact b9))))
  refine l7 fun K7 cA=>b8 (aq 2 rfl (R cA ?_));refine bm rfl (fun OS=>?_) (fun OS=>?_)
  ·refine b8 (aQ rfl (ao (au j2 rfl) (ao (bh bH rfl (K1.aA.cell rfl)) ?_)));refine e4 (bt Bn rfl) (xQ _ _ _ _ H.q1 v.str) rfl (fun di aB=>aB.elim) (fun kZ pD aB=>?_) fun cC pD aB=>?_
   ·have bJ:=H.panic (r:=v.wr deep b) aB (fun e he=>by rw [JV.dZ,if_neg bS,if_neg uu,if_neg Bq,if_neg DA,if_pos OS];exact he);exact b5 (by simp) (dt bJ)
   obtain⟨h7,ev,b9,H1,lz,oL⟩:=H.ret aB;replace H:=H1;exact eG (b5 (by simp) (iQ rfl (H.fin (r:=v.wr deep b) (by rw [JV.dZ,if_neg bS,if_neg uu,if_neg Bq,if_neg DA,if_pos OS];exact b9))))
  refine ae fun cM=>aq 2 rfl (R cM ?_);refine bm rfl (fun Zn=>?_) (fun Zn=>?_)
  ·refine l7 fun tZ db=>?_;have aka:=OR (by omega);have qj:v.wr deep b=((dw (b ++ [91])).bind fun b=>JV.h9 v.list deep true b).bind fun b=>dw (b ++ [93]):=by rw [JV.dZ,if_neg bS,if_neg uu,if_neg Bq,if_neg DA,if_neg OS,if_neg (by omega),if_pos Zn];cases dw (b ++ [91]) <;> rfl
   refine b8 (aQ rfl ?_);refine e4 (bt kh rfl) (ki _ _ _ _ H.q1 [91] (by simp)) rfl (fun di aB=>aB.elim) (fun kZ lL aB=>?_) fun cC lL aB=>?_
   ·have bJ:=H.panic (r:=v.wr deep b) aB (fun e he=>by rw [qj,he];rfl);exact a1 (by simp) (b5 (by simp) (dt bJ))
   obtain⟨h7,ev,b9,H1,lz,oL⟩:=H.ret aB;replace H:=H1;replace K1:=K1.step lz oL;refine R db (ay fun cq=>ae fun cj=>ao (au ji rfl) (ao (bh lM rfl (K1.aA.cell rfl)) (ao (bx Tryz.underlying22 rfl) (aQ rfl (R cj (fU (cz (σ:=Nat×Value×U) (fun⟨k,ly,eW⟩=>[(0,.pointer (some ⟨g,0,none⟩)),(2,.int .i64 (deep:Int)),(4,.pointer (some ⟨g1,0,none⟩)),(65,.slice al v.list.length cl),(66,.int .i64 (v.list.length:Int)),(67,.int .i64 (k:Int))]) (fun⟨k,ly,eW⟩ aE=>k≤v.list.length∧JV.h9 (v.list.drop k) deep (decide (k=0)) eW=((dw (b ++ [91])).bind fun b=>JV.h9 v.list deep true b)∧jg w aE u g 83 ly eW∧tj aE g ly g1 25 [.int .i64 v.kind,.bool v.is,.int .i64 v.num,S v.str,.slice al v.list.length cl,.slice am v.map.length cm]) (fun⟨k,ly,eW⟩=>v.list.length-k) (⟨0,h7,ev⟩) ⟨rfl,rfl,rfl,rfl,rfl,rfl,trivial⟩ (⟨by omega,by rw [b9];rfl,H,K1⟩) ?_)))))));rintro⟨k,ly,eW⟩ iy ⟨hk,hinv,H,K1⟩;refine ae fun dH=>ao (dK rfl rfl) (R dH (ay fun cL=>?_));refine bm rfl (fun hK=>?_) (fun hK=>?_);rotate_left
   ·have hp:((dw (b ++ [91])).bind fun b=>JV.h9 v.list deep true b) = .ok eW:=by rw [← hinv,LB (by omega)]
    refine bV (a1 (by simp) (a1 (by simp) (cr (az cq (b8 (aQ rfl ?_))))));refine e4 (bt kh rfl) (ki _ _ _ _ H.q1 [93] (by simp)) rfl (fun di aB=>aB.elim) (fun kZ tE aB=>?_) fun cC tE aB=>?_
    ·have bJ:=H.panic (r:=v.wr deep b) aB (fun e he=>by rw [qj,hp];exact he);exact b5 (by simp) (dt bJ)
    obtain⟨aax,aoq,Zo,akd,Br,KZ⟩:=H.ret aB;replace H:=akd;exact eG (b5 (by simp) (iQ rfl (H.fin (r:=v.wr deep b) (by rw [qj,hp];exact Zo))))
   obtain⟨x,b'⟩:∃ x,v.list[k]? = some x:=⟨_,List.getElem?_eq_getElem (by omega)⟩;have akb:=JV.rp (H.rep kq);refine cJ (az cL (ay fun dz=>fU (ae fun dS=>aQ rfl ?_)));obtain⟨mn,pe,fc,eV,dv⟩:=JV.BI (H.rep kq) b';obtain⟨mo,mq,k4,jC,rfl,pf,pK⟩:=JV.bc eV;have lV:=JV.rp (H.rep kq);cases fc;refine ao (cf ks rfl rfl (by omega)) (ao (a8 aK rfl rfl dv) ?_);have DB:=Mod.refl [] iy;refine bl cK rfl fun g2 j1 cU=>?_;have HC:=cU.le DB;replace DB:=DB.then cU.mod;have ai:=cU.aA;refine bb rfl (bd (vs:=[_,_,_,_,_,_]) aK ai rfl rfl rfl (by simp [Value.oneCell']) (by simp) fun rv EE=>?_);replace DB:=DB.own EE.mod HC;replace ai:aD rv g2 _ [_,_,_,_,_,_]:=EE.aA;have K7:=tj.Lf H.q1 ai (HC);replace H:=H.I DB;replace K1:=K1.I DB;replace eV:=eV.I DB;refine R dS (ae fun eD=>aq 2 rfl ?_);refine e4 (bt HB rfl) (zI _ _ _ _ H.q1 k) rfl (fun di aB=>aB.elim) (fun kZ pP aB=>?_) fun cC pP aB=>?_
   ·have bJ:=H.panic (r:=v.wr deep b) aB (fun e he=>by rw [qj,← T6 b' hinv,he];rfl);exact a1 (by simp) (b5 (by simp) (a1 (by simp) (a1 (by simp) (b5 (by simp) (a1 (by simp) (b5 (by simp) (dt bJ)))))))
   obtain⟨I7,tz,ys,akc,wh,yh⟩:=H.ret aB;replace H:=akc;replace K1:=K1.step wh yh;replace K7:=K7.step wh yh;replace eV:=eV.uv wh yh;have lH:=T6 b' hinv;rw [ys] at lH;replace lH:=wx lH;refine R eD (b8 (aQ rfl (ao (a8 (vs:=[_,_,_,_,_,_]) aK rfl rfl (K7.aA.cs rfl)) (aQ rfl (ao (c7 (r:=((deep+1:Nat):Int)) rfl rfl (by rw [wrap64_in _ (by omega)];omega)) ?_)))));refine e4 (bt Bo rfl) (dh _ x _ (deep+1) _ _ _ (by have:=JV.hv (List.mem_of_getElem? b');omega) H.q1 eV (by omega) (jY.mod H.mod tR) (fun h=>(H.xw _ h).elim tR (fun h=>by have:=jY.lt;omega))) rfl (fun di aB=>aB.elim) (fun kZ si aB=>?_) fun cC si aB=>?_
   ·have bJ:=H.panic (r:=v.wr deep b) aB (fun e he=>by rw [qj,← lH,he];rfl);exact b5 (by simp) (a1 (by simp) (a1 (by simp) (b5 (by simp) (a1 (by simp) (b5 (by simp) (dt bJ))))))
   obtain⟨Fz,Xq,OT,aeD,mF,vb⟩:=H.ret aB;replace H:=aeD;replace K1:=K1.step mF vb;have iT:=lH;rw [OT] at iT;replace iT:=wx iT;exact eG (b5 (by simp) (az dz (b8 (ao (bT rfl rfl (by omega)) (aQ rfl (eG (jW (σ:=Nat×Value×U) (s:=⟨k,ly,eW⟩) (⟨k+1,Fz,Xq⟩) ⟨rfl,rfl,rfl,rfl,rfl,rfl,trivial⟩ ⟨by omega,iT,H,K1⟩ (by dsimp only;omega))))))))
  refine ae fun fl=>aq 2 rfl (R fl ?_);refine bm rfl (fun aeE=>?_) (fun aeE=>?_);rotate_left
  ·exact absurd (show v.kind=5 by have:=JV.oT qi;omega) aeE
  refine ay fun e0=>?_;have aka:=OR (by omega);have qj:v.wr deep b=((dw (b ++ [123])).bind fun b=>JV.fk v.map deep none b).bind fun b=>dw (b ++ [125]):=by rw [JV.dZ,if_neg bS,if_neg uu,if_neg Bq,if_neg DA,if_neg OS,if_neg (by omega),if_neg Zn];cases dw (b ++ [123]) <;> rfl
  refine b8 (aQ rfl ?_);refine e4 (bt kh rfl) (ki _ _ _ _ H.q1 [123] (by simp)) rfl (fun di aB=>aB.elim) (fun kZ rz aB=>?_) fun cC rz aB=>?_
  ·have bJ:=H.panic (r:=v.wr deep b) aB (fun e he=>by rw [qj,he];rfl);exact a1 (by simp) (b5 (by simp) (dt bJ))
  obtain⟨h7,ev,b9,H1,lz,oL⟩:=H.ret aB;replace H:=H1;replace K1:=K1.step lz oL;refine R e0 (ay fun gW=>ae fun hx=>ao (au cw rfl) (ao (bh eg rfl (K1.aA.cell rfl)) (ao (bx Tryz.underlying23 rfl) (aQ rfl (R hx (fU (cz (σ:=Nat×Value×U) (fun⟨k,ly,eW⟩=>[(0,.pointer (some ⟨g,0,none⟩)),(2,.int .i64 (deep:Int)),(4,.pointer (some ⟨g1,0,none⟩)),(88,.slice am v.map.length cm),(89,.int .i64 (v.map.length:Int)),(90,.int .i64 (k:Int))]) (fun⟨k,ly,eW⟩ aE=>k≤v.map.length∧JV.fk (v.map.drop k) deep (hE v.map k) eW=((dw (b ++ [123])).bind fun b=>JV.fk v.map deep none b)∧jg w aE u g 83 ly eW∧tj aE g ly g1 25 [.int .i64 v.kind,.bool v.is,.int .i64 v.num,S v.str,.slice al v.list.length cl,.slice am v.map.length cm]) (fun⟨k,ly,eW⟩=>v.map.length-k) (⟨0,h7,ev⟩) ⟨rfl,rfl,rfl,rfl,rfl,rfl,trivial⟩ (⟨by omega,by rw [b9];rfl,H,K1⟩) ?_)))))));rintro⟨k,ly,eW⟩ vc ⟨hk,hinv,H,K1⟩;refine ae fun gy=>ao (dK rfl rfl) (R gy (ay fun gz=>?_));refine bm rfl (fun ake=>?_) (fun ake=>?_);rotate_left
  ·have hp:((dw (b ++ [123])).bind fun b=>JV.fk v.map deep none b) = .ok eW:=by rw [← hinv,LC (by omega)]
   refine bV (a1 (by simp) (a1 (by simp) (cr (az gW (b8 (aQ rfl ?_))))));refine e4 (bt kh rfl) (ki _ _ _ _ H.q1 [125] (by simp)) rfl (fun di aB=>aB.elim) (fun kZ QC aB=>?_) fun cC QC aB=>?_
   ·have bJ:=H.panic (r:=v.wr deep b) aB (fun e he=>by rw [qj,hp];exact he);exact b5 (by simp) (dt bJ)
   obtain⟨aax,aoq,Zo,akd,Br,KZ⟩:=H.ret aB;replace H:=akd;exact eG (b5 (by simp) (iQ rfl (H.fin (r:=v.wr deep b) (by rw [qj,hp];exact Zo))))
  obtain⟨x,b'⟩:∃ x,v.map[k]? = some x:=⟨_,List.getElem?_eq_getElem (by omega)⟩;have akb:=JV.lv (H.rep jh);refine cJ (az gz (ay fun hJ=>fU (ae fun ib=>aQ rfl ?_)));obtain⟨mn,pe,fc,eV,dv⟩:=JV.nZ (H.rep jh) b';obtain⟨mo,mq,k4,jC,rfl,pf,pK⟩:=JV.bc eV;have lV:=JV.lv (H.rep jh);cases fc;refine ao (cf dn rfl rfl (by omega)) (ao (a8 nj rfl rfl dv) ?_);have DB:=Mod.refl [] vc;refine bl gV rfl fun g3 EM eT=>?_;have HD:=eT.le DB;replace DB:=DB.then eT.mod;have bq:=eT.aA;refine bb rfl (bd (vs:=[_,_,_,_,_,_,_]) nj bq rfl rfl rfl (by simp [Value.oneCell']) (by simp) fun vd q0=>?_);replace DB:=DB.own q0.mod HD;replace bq:aD vd g3 _ [_,_,_,_,_,_,_]:=q0.aA;have tZ:=tj.Lf H.q1 bq (HD);replace H:=H.I DB;replace K1:=K1.I DB;replace eV:=eV.I DB;refine R ib (ae fun iJ=>aq 2 rfl ?_);refine e4 (bt HB rfl) (zI _ _ _ _ H.q1 k) rfl (fun di aB=>aB.elim) (fun kZ yj aB=>?_) fun cC yj aB=>?_
  ·have bJ:=H.panic (r:=v.wr deep b) aB (fun e he=>by rw [qj,← T7 b' hinv,he];rfl);exact a1 (by simp) (b5 (by simp) (a1 (by simp) (a1 (by simp) (b5 (by simp) (a1 (by simp) (b5 (by simp) (dt bJ)))))))
  obtain⟨I7,tz,ys,akc,wh,yh⟩:=H.ret aB;replace H:=akc;replace K1:=K1.step wh yh;replace tZ:=tZ.step wh yh;replace eV:=eV.uv wh yh;have lH:=T7 b' hinv;rw [ys] at lH;replace lH:=wx lH;refine R iJ (ay fun j3=>ay fun iK=>?_)
  by_cases da:(k:Int) > 0
  rotate_left
  ·have xR:=DD (m:=v.map) (k:=k) (x:=x) (by omega);refine bK wide (by kernel_rfl) (fM 3 rfl rfl (eX rfl (bX da) (eX rfl (bX da) (eX rfl (bX da) (eX rfl (bX da) (eX rfl (bX da) (eX rfl (bX da) (eX rfl (bX da) (eX rfl (bX da) (eX rfl (bX da) (eX rfl (bX da) (ah (fun J=>(ky (bX da) rfl rfl)) (bN rfl fun Mx J=>?_)))))))))))));replace H:=H.I J;replace K1:=K1.I J;replace eV:=eV.I J;replace tZ:=tZ.I J;refine az iK (aJ rfl (cJ (az j3 (ay fun mz=>?_))));have iT:=lH;rw [xR] at iT;replace iT:=wx iT;refine b8 (aQ rfl (ao (au gw rfl) (ao (bh bH rfl (tZ.aA.cell rfl)) ?_)));refine e4 (bt Bn rfl) (xQ _ _ _ _ H.q1 x.1) rfl (fun di aB=>aB.elim) (fun kZ IM aB=>?_) fun cC IM aB=>?_
   ·have bJ:=H.panic (r:=v.wr deep b) aB (fun e he=>by rw [qj,← iT,he];rfl);exact a1 (by simp) (b5 (by simp) (a1 (by simp) (a1 (by simp) (b5 (by simp) (a1 (by simp) (b5 (by simp) (dt bJ)))))))
   obtain⟨Fz,Xq,OT,aeD,mF,vb⟩:=H.ret aB;replace H:=aeD;replace K1:=K1.step mF vb;replace tZ:=tZ.step mF vb;replace eV:=eV.uv mF vb;have mR:=iT;rw [OT] at mR;replace mR:=wx mR;refine R mz (ae fun pS=>aQ rfl ?_);refine e4 (bt kh rfl) (ki _ _ _ _ H.q1 [58] (by simp)) rfl (fun di aB=>aB.elim) (fun kZ My aB=>?_) fun cC My aB=>?_
   ·have bJ:=H.panic (r:=v.wr deep b) aB (fun e he=>by rw [qj,← mR,he];rfl);exact a1 (by simp) (b5 (by simp) (a1 (by simp) (a1 (by simp) (b5 (by simp) (a1 (by simp) (b5 (by simp) (dt bJ)))))))
   obtain⟨I8,aiB,Fv,akf,Gh,yi⟩:=H.ret aB;replace H:=akf;replace K1:=K1.step Gh yi;replace tZ:=tZ.step Gh yi;replace eV:=eV.uv Gh yi;have mS:=mR;rw [Fv] at mS;replace mS:=wx mS;refine R pS (b8 (aQ rfl (ao (au iz rfl) (ao (a8 (vs:=[_,_,_,_,_,_]) aK rfl rfl (tZ.aA.cs rfl)) (aQ rfl (ao (c7 (r:=((deep+1:Nat):Int)) rfl rfl (by rw [wrap64_in _ (by omega)];omega)) ?_))))));refine e4 (bt Bo rfl) (dh _ x.2 _ (deep+1) _ _ _ (by have:=JV.gI (List.mem_of_getElem? b');omega) H.q1 eV (by omega) (jY.mod H.mod tR) (fun h=>(H.xw _ h).elim tR (fun h=>by have:=jY.lt;omega))) rfl (fun di aB=>aB.elim) (fun kZ IN aB=>?_) fun cC IN aB=>?_
   ·have bJ:=H.panic (r:=v.wr deep b) aB (fun e he=>by rw [qj,← mS,he];rfl);exact b5 (by simp) (a1 (by simp) (a1 (by simp) (b5 (by simp) (a1 (by simp) (b5 (by simp) (dt bJ))))))
   obtain⟨FA,akg,Zp,akh,Cw,BX⟩:=H.ret aB;replace H:=akh;replace K1:=K1.step Cw BX;have o':=mS;rw [Zp] at o';replace o':=wx o';exact eG (b5 (by simp) (az hJ (b8 (ao (bT rfl rfl (by omega)) (aQ rfl (eG (jW (σ:=Nat×Value×U) (s:=⟨k,ly,eW⟩) (⟨k+1,FA,akg⟩) ⟨rfl,rfl,rfl,rfl,rfl,rfl,trivial⟩ ⟨by omega,o',H,K1⟩ (by dsimp only;omega))))))))
  obtain⟨q,nC⟩:∃ q,v.map[k-1]? = some q:=⟨_,List.getElem?_eq_getElem (by omega)⟩;obtain⟨NP,adu,Dj,XY,kg⟩:=JV.nZ (H.rep jh) nC;obtain⟨TR,TT,T1,T2,rfl,adv,amH⟩:=JV.bc XY;have af':=JV.lv (H.rep jh);cases Dj
  by_cases vN:(!fA q.1 x.1)=true
  ·have xR:uw v.map k x=false:=by rw [ux nC (by omega)];simpa using vN
   refine bK wide (by kernel_rfl) (fM 3 rfl rfl (aI (bB da) (fun J=>(au cw rfl)) (aI (bB da) (fun J=>(bh eg rfl ((K1.aA.I J).cell rfl))) (aI (bB da) (fun J=>(dQ rfl)) (aI (bB da) (fun J=>(eL (r:=((k-1:Nat):Int)) rfl rfl (by rw [wrap64_in _ (by omega)];omega))) (aI (bB da) (fun J=>(cf dn rfl rfl (by omega))) (aI (bB da) (fun J=>(dL gw rfl)) (aI (bB da) (fun J=>(bh bH rfl ((kg.I J) 0 _ rfl))) (aI (bB da) (fun J=>(au gw rfl)) (aI (bB da) (fun J=>(bh bH rfl ((tZ.aA.I J).cell rfl))) (aI (bB da) (fun J=>(AU rfl rfl)) (ah (fun J=>(lU (bB da) rfl rfl)) (bN rfl fun AF J=>?_)))))))))))));replace H:=H.I J;replace K1:=K1.I J;replace eV:=eV.I J;replace tZ:=tZ.I J;refine az iK ?_;refine aU rfl (fun DC=>?_) (fun DC=>absurd (vN.symm.trans DC) (by decide));refine b8 ?_;refine e4 (bt fg rfl) (ee _ 1) rfl (fun di aB=>aB.elim) (fun kZ Mt aB=>?_) fun cC Mt aB=>?_
   ·obtain⟨rfl,rfl⟩:=aB;exact a1 (by simp) (b5 (by simp) (a1 (by simp) (a1 (by simp) (b5 (by simp) (a1 (by simp) (b5 (by simp) (dt (H.fail (by rw [qj,← lH,xR];rfl)))))))))
   exact aB.elim
  have xR:uw v.map k x=true:=by rw [ux nC (by omega)];simpa using vN
  refine bK wide (by kernel_rfl) (fM 3 rfl rfl (aI (bB da) (fun J=>(au cw rfl)) (aI (bB da) (fun J=>(bh eg rfl ((K1.aA.I J).cell rfl))) (aI (bB da) (fun J=>(dQ rfl)) (aI (bB da) (fun J=>(eL (r:=((k-1:Nat):Int)) rfl rfl (by rw [wrap64_in _ (by omega)];omega))) (aI (bB da) (fun J=>(cf dn rfl rfl (by omega))) (aI (bB da) (fun J=>(dL gw rfl)) (aI (bB da) (fun J=>(bh bH rfl ((kg.I J) 0 _ rfl))) (aI (bB da) (fun J=>(au gw rfl)) (aI (bB da) (fun J=>(bh bH rfl ((tZ.aA.I J).cell rfl))) (aI (bB da) (fun J=>(AU rfl rfl)) (ah (fun J=>(lU (bB da) rfl rfl)) (bN rfl fun Mv J=>?_)))))))))))));replace H:=H.I J;replace K1:=K1.I J;replace eV:=eV.I J;replace tZ:=tZ.I J;refine az iK (aU rfl (fun DC=>absurd ((eo vN).symm.trans DC) (by decide)) (fun DC=>cJ (az j3 (ay fun k7=>?_))));have iT:=lH;rw [xR] at iT;replace iT:=wx iT;refine b8 (aQ rfl (ao (au gw rfl) (ao (bh bH rfl (tZ.aA.cell rfl)) ?_)));refine e4 (bt Bn rfl) (xQ _ _ _ _ H.q1 x.1) rfl (fun di aB=>aB.elim) (fun kZ Fm aB=>?_) fun cC Fm aB=>?_
  ·have bJ:=H.panic (r:=v.wr deep b) aB (fun e he=>by rw [qj,← iT,he];rfl);exact a1 (by simp) (b5 (by simp) (a1 (by simp) (a1 (by simp) (b5 (by simp) (a1 (by simp) (b5 (by simp) (dt bJ)))))))
  obtain⟨Fz,Xq,OT,aeD,mF,vb⟩:=H.ret aB;replace H:=aeD;replace K1:=K1.step mF vb;replace tZ:=tZ.step mF vb;replace eV:=eV.uv mF vb;have mR:=iT;rw [OT] at mR;replace mR:=wx mR;refine R k7 (ae fun pR=>aQ rfl ?_);refine e4 (bt kh rfl) (ki _ _ _ _ H.q1 [58] (by simp)) rfl (fun di aB=>aB.elim) (fun kZ Mw aB=>?_) fun cC Mw aB=>?_
  ·have bJ:=H.panic (r:=v.wr deep b) aB (fun e he=>by rw [qj,← mR,he];rfl);exact a1 (by simp) (b5 (by simp) (a1 (by simp) (a1 (by simp) (b5 (by simp) (a1 (by simp) (b5 (by simp) (dt bJ)))))))
  obtain⟨I8,aiB,Fv,akf,Gh,yi⟩:=H.ret aB;replace H:=akf;replace K1:=K1.step Gh yi;replace tZ:=tZ.step Gh yi;replace eV:=eV.uv Gh yi;have mS:=mR;rw [Fv] at mS;replace mS:=wx mS;refine R pR (b8 (aQ rfl (ao (au iz rfl) (ao (a8 (vs:=[_,_,_,_,_,_]) aK rfl rfl (tZ.aA.cs rfl)) (aQ rfl (ao (c7 (r:=((deep+1:Nat):Int)) rfl rfl (by rw [wrap64_in _ (by omega)];omega)) ?_))))));refine e4 (bt Bo rfl) (dh _ x.2 _ (deep+1) _ _ _ (by have:=JV.gI (List.mem_of_getElem? b');omega) H.q1 eV (by omega) (jY.mod H.mod tR) (fun h=>(H.xw _ h).elim tR (fun h=>by have:=jY.lt;omega))) rfl (fun di aB=>aB.elim) (fun kZ IL aB=>?_) fun cC IL aB=>?_
  ·have bJ:=H.panic (r:=v.wr deep b) aB (fun e he=>by rw [qj,← mS,he];rfl);exact b5 (by simp) (a1 (by simp) (a1 (by simp) (b5 (by simp) (a1 (by simp) (b5 (by simp) (dt bJ))))))
  obtain⟨FA,akg,Zp,akh,Cw,BX⟩:=H.ret aB;replace H:=akh;replace K1:=K1.step Cw BX;have o':=mS;rw [Zp] at o';replace o':=wx o';exact eG (b5 (by simp) (az hJ (b8 (ao (bT rfl rfl (by omega)) (aQ rfl (eG (jW (σ:=Nat×Value×U) (s:=⟨k,ly,eW⟩) (⟨k+1,FA,akg⟩) ⟨rfl,rfl,rfl,rfl,rfl,rfl,trivial⟩ ⟨by omega,o',H,K1⟩ (by dsimp only;omega))))))))
 refine fU (ae fun mA=>ao (a8 (vs:=[_,_,_,_,_,_]) aK rfl rfl (K1.aA.cs rfl)) (cD (bt Se rfl) (OO _ v _ (Wi.bE bO.mod)) fun QD J=>?_));replace H:=H.I J;replace K1:=K1.I J;refine ao (gJ rfl) ?_;refine vX (fun ic:((!v.plain))=true=>?_) (fun ic=>?_)
 ·refine aq 11 rfl (R mA (aO rfl ?_));have OU:v.bare=false:=by
   rw [JV.nF,Bool.and_eq_false_iff]
   first | (left;simpa using ic;done) | (right;exact bX (by omega))
  have bf:v.wr deep b = .error 1:=by rw [JV.dZ,if_pos OU]
  refine b8 ?_;refine e4 (bt fg rfl) (ee _ 1) rfl (fun di aB=>aB.elim) (fun kZ IP aB=>?_) fun cC IP aB=>?_
  ·obtain⟨rfl,rfl⟩:=aB;exact b5 (by simp) (a1 (by simp) (dt (H.fail (bf))))
  exact aB.elim
 refine aQ rfl (aw (au oF rfl) (aw (bh dY rfl (K1.aA.cell rfl)) (aw (hY rfl rfl) ?_)));refine dR (fun mr:v.num > 9007199254740991=>?_) (fun mr=>?_)
 ·refine aq 7 rfl (R mA (aO rfl ?_));have OU:v.bare=false:=by
   rw [JV.nF,Bool.and_eq_false_iff]
   first | (left;simpa using ic;done) | (right;exact bX (by omega))
  have bf:v.wr deep b = .error 1:=by rw [JV.dZ,if_pos OU]
  refine b8 ?_;refine e4 (bt fg rfl) (ee _ 1) rfl (fun di aB=>aB.elim) (fun kZ Mz aB=>?_) fun cC Mz aB=>?_
  ·obtain⟨rfl,rfl⟩:=aB;exact b5 (by simp) (a1 (by simp) (dt (H.fail (bf))))
  exact aB.elim
 refine aq 2 rfl (aw (au oF rfl) (aw (bh dY rfl (K1.aA.cell rfl)) (aw (dK rfl rfl) ?_)));refine dR (fun vY:v.num < -9007199254740991=>?_) (fun vY=>?_)
 ·refine aq 2 rfl (R mA (aO rfl ?_));have OU:v.bare=false:=by
   rw [JV.nF,Bool.and_eq_false_iff]
   first | (left;simpa using ic;done) | (right;exact bX (by omega))
  have bf:v.wr deep b = .error 1:=by rw [JV.dZ,if_pos OU]
  refine b8 ?_;refine e4 (bt fg rfl) (ee _ 1) rfl (fun di aB=>aB.elim) (fun kZ NT aB=>?_) fun cC NT aB=>?_
  ·obtain⟨rfl,rfl⟩:=aB;exact b5 (by simp) (a1 (by simp) (dt (H.fail (bf))))
  exact aB.elim
 refine aq 2 rfl (R mA (aJ rfl ?_));have qi:v.bare=true:=by
  rw [JV.nF,bB (show -9007199254740991≤v.num∧v.num≤9007199254740991 by omega),Bool.and_true];simpa using ic
 refine ae fun n'=>ao (au jj rfl) (ao (bh dY rfl (K1.aA.cell rfl)) (ao (et rfl rfl) ?_));refine dR (fun wj:v.kind≥4=>?_) (fun wj=>?_)
 ·refine aq 2 rfl (aw (et rfl rfl) ?_);refine dR (fun Zq:(deep:Int)≥32=>?_) (fun Zq=>?_)
  ·refine aq 2 rfl (R n' (aO rfl ?_));have bf:v.wr deep b = .error 5:=by
    have bS:¬ v.bare=false:=by rw [qi];simp
    rw [JV.dZ,if_neg bS,if_neg (by omega),if_neg (by omega),if_neg (by omega),if_neg (by omega),if_pos (by omega)]
   refine b8 ?_;refine e4 (bt fg rfl) (ee _ 5) rfl (fun di aB=>aB.elim) (fun kZ NU aB=>?_) fun cC NU aB=>?_
   ·obtain⟨rfl,rfl⟩:=aB;exact b5 (by simp) (a1 (by simp) (dt (H.fail (bf))))
   exact aB.elim
  refine aq 2 rfl (R n' (aJ rfl (cJ (b5 (by simp) ?_))));refine hd.sub (l':=[(0,_),(2,_),(4,_)]) ⟨rfl,rfl,rfl,trivial⟩ (fv (J2 QD ⟨qi,by omega,H,K1⟩))
 refine aq 5 rfl (R n' (aJ rfl (cJ (b5 (by simp) ?_))));refine hd.sub (l':=[(0,_),(2,_),(4,_)]) ⟨rfl,rfl,rfl,trivial⟩ (fv (J2 QD ⟨qi,by omega,H,K1⟩))
theorem Sf (N:Nat):∀ (w:World) (v:JV) (us:List Value) (deep:Nat) (b:U) (u:Value) (g:Nat),v.sz≤N→ti w g 83 u b→ak (g::aL u) w v.D us→deep≤32→oN w→K'∉g::aL u→Calls Tryz.prog 66 [.pointer (some ⟨g,0,none⟩),.agg us.toArray,.int .i64 (deep:Int)].toArray w (xP w g 83 124 u (v.wr deep b)):=by
 induction N with
 | zero=>intro w v us deep b u g hj;exact absurd (JV.nI v) (by omega)
 | succ N dh=>intro w v us deep b u g hj KC apv bL jY tR;exact Bp N dh w v us deep b u g hj KC apv bL jY tR
set_option maxRecDepth 10000
theorem OV:Tryz.prog.underlying 20=some (.interface (Tryz.prog.methodsAt 20)):=by kernel_rfl
theorem Zr:pJ Tryz.prog 124 1=true:=by kernel_rfl
theorem OW:ho Tryz.prog 124 0 0 1=true:=by kernel_rfl
theorem mJ:mY Tryz.prog 33=true:=by kernel_rfl
theorem AL:aP Tryz.prog 59:=aP.of Tryz.func59 (by kernel_rfl) (by kernel_rfl)
theorem Fo:hq Tryz.prog 9 ([S []]):=by unfold hq;kernel_rfl
theorem Tt:hq Tryz.prog 33 ([.int .i64 0]):=by unfold hq;kernel_rfl
theorem aeF:tC Tryz.prog 83 [(0,1)]=true:=by kernel_rfl
theorem aeG:hq Tryz.prog 83 ([.slice none 0 0]):=by unfold hq;kernel_rfl
theorem OX:aP Tryz.prog 65:=aP.of Tryz.func65 (by kernel_rfl) (by kernel_rfl)
theorem w8 (w:World) (p:Value):Calls Tryz.prog 59 [.nilIface,p].toArray w (bI fun u w'=>True∧Mod [] w w'):=by
 refine enter Tryz.func59 rfl rfl rfl (l:=[(0,_),(1,_)]) ⟨rfl,rfl,trivial⟩ ?_;have E:=Mod.refl [] w;exact ay fun aX=>ae fun aM=>aQ rfl (ao (Zs OV rfl) (R aM (aO rfl (bg (a1 (by simp) (ac2 rfl ⟨trivial,E⟩))))))
theorem w9 (w:World) (ge:Nat) (z:Value) (e:Int) (B:aD w ge 33 [z]):Calls Tryz.prog 59 [.iface 124 (.agg #[.int .i64 e]),.pointer (some ⟨ge,0,none⟩)].toArray w (bI fun u w'=>aD w' ge 33 [.int .i64 e]∧Mod [ge] w w'):=by
 refine enter Tryz.func59 rfl rfl rfl (l:=[(0,_),(1,_)]) ⟨rfl,rfl,trivial⟩ (ay fun aX=>ay fun aM=>?_);have E:=Mod.refl [ge] w;refine b8 (aQ rfl (ao (Zt OV rfl) (R aM (aJ rfl (cJ (az aX (ae fun a7=>aQ rfl (ao (Hc Tryz.underlying124 rfl rfl) (aq 3 rfl (bl ON rfl fun g1 aE bO=>?_))))))))));have bR:=bO.le E;have HE:=bO.ne B;replace B:=B.I bO.mod;replace E:=E.then bO.mod;have aa:=bO.aA;refine bd (vs:=[_]) Zr aa rfl rfl rfl (by simp [Value.oneCell']) (by simp) fun cY Eh=>?_;replace B:=B.ne Eh.mod HE;replace E:=E.own Eh.mod bR;replace aa:aD cY g1 _ [_]:=Eh.aA;refine bb rfl (R a7 (ay fun bC=>ae fun bU=>aq 2 rfl (R bU ?_)));refine aU rfl (fun pw=>?_) (fun pw=>?_)
 ·cases pw
 refine cJ (az bC (b8 (aQ rfl (ao (au OW rfl) (ao (bh mJ rfl (aa.cell rfl)) (ao (dx rfl) (ea mJ B rfl rfl rfl (by simp) fun gv uG=>?_)))))));replace aa:=aa.ne uG.mod (Ne.symm HE);replace E:=E.trans uG.mod;replace B:aD gv ge _ [_]:=uG.aA;exact eG (Mk rfl ⟨B,E⟩)
theorem OY (w:World) (ge gs:Nat) (B:aD w ge 33 [.int .i64 0]):CallsD Tryz.prog 65 [.pointer (some ⟨ge,0,none⟩),.pointer (some ⟨gs,0,none⟩)].toArray .returning w (fun e m' w'=>(∃ v,e = .returned v)∧m' = .returning∧Mod [] w w'):=by
 refine oX Tryz.func65 rfl rfl rfl (l:=[(0,_),(1,_)]) ⟨rfl,rfl,trivial⟩ rfl rfl (.inl ⟨rfl,rfl,rfl⟩) (by rintro u w ⟨⟨v,bw⟩,_⟩;cases bw) fun K1 aX=>?_;have E:=Mod.refl [] w;refine fP (bt AL rfl) (w8 _ _) rfl fun cC aE aB=>?_;obtain⟨_,J⟩:=aB;replace B:=B.I J;replace E:=E.then J;refine R aX (ae fun aM=>ao (bh mJ rfl (B.cell rfl)) (ao (fE rfl rfl) (R aM ?_)));refine bm rfl (fun ch=>?_) (fun ch=>?_)
 ·exact absurd rfl ch
 exact cJ (iQ rfl ⟨⟨_,rfl⟩,rfl,E⟩)
theorem OZ (w:World) (ge gs:Nat) (z z2:Value) (e:Int) (B:aD w ge 33 [z]) (cH:aD w gs 9 [z2]) (bS:ge≠gs) (he:e≠0):CallsD Tryz.prog 65 [.pointer (some ⟨ge,0,none⟩),.pointer (some ⟨gs,0,none⟩)].toArray (.panicking (y9 124 e)) w (fun MY m' w'=>(∃ v,MY = .returned v)∧m' = .panicking [{v:=.iface 124 (.agg #[.int .i64 e]),recovered:=true}]∧aD w' ge 33 [.int .i64 e]∧aD w' gs 9 [S []]∧Mod [ge,gs] w w'):=by
 refine oX Tryz.func65 rfl rfl rfl (l:=[(0,_),(1,_)]) ⟨rfl,rfl,trivial⟩ rfl rfl (.inr ⟨rfl,rfl⟩) (by rintro u w ⟨⟨v,bw⟩,_⟩;cases bw) fun K1 aX=>?_;have E:=Mod.refl [ge,gs] w;refine fP (bt AL rfl) (w9 _ ge z e B) rfl fun cC aE aB=>?_;obtain⟨qE,J⟩:=aB;replace E:=E.trans' J (fun x ab=>.inl (by simp at ab;simp [ab]));replace cH:=cH.mod J (by simp;exact fun h=>bS h.symm);clear B;have B:=qE;refine R aX (ae fun aM=>ao (bh mJ rfl (B.cell rfl)) (ao (fE rfl rfl) (R aM ?_)));refine bm rfl (fun ch=>?_) (fun ch=>?_)
 ·refine b8 (ea bH cH rfl rfl rfl (by simp) fun lL nH=>?_);replace E:=E.trans' nH.mod (fun x ab=>.inl (by simp at ab;simp [ab]));replace B:=B.mod nH.mod (by simp;exact bS);replace cH:=nH.aA;exact eG (iQ rfl ⟨⟨_,rfl⟩,rfl,B,cH,E⟩)
 exact absurd he ch
theorem xH (w:World) (v:JV) (us:List Value) (apv:ak [] w v.D us) (jY:oN w):Calls Tryz.prog 27 [.agg us.toArray].toArray w (bI fun u w'=>u = .tuple #[S (mZ (v.wr 0 [])),.int .i64 (fW (v.wr 0 []))]∧Mod [] w w'):=by
 refine Hh Tryz.func27 rfl rfl rfl (l:=[(0,_)]) ⟨rfl,trivial⟩ ?_;have E:=Mod.refl [] w;obtain⟨al,cl,am,cm,rfl,kq,jh⟩:=JV.bc apv;refine ae fun aX=>ef rfl rfl rfl fun g1 aE bO=>?_;have bR:=bO.le E;replace E:=E.then bO.mod;have aa:=bO.aA;refine bl Fo rfl fun g2 cY cU=>?_;have cp:=cU.le E;have cb:=cU.ne aa;replace aa:=aa.I cU.mod;replace E:=E.then cU.mod;have ai:=cU.aA;refine bl Tt rfl fun g3 gv eT=>?_;have dA:=eT.le E;have eJ:=eT.ne aa;have cc:=eT.ne ai;replace aa:=aa.I eT.mod;replace ai:=ai.I eT.mod;replace E:=E.then eT.mod;have bq:=eT.aA;refine R aX (ae fun aM=>ao (M0 rfl rfl) (CJ rfl (R aM (ae fun a7=>ao (bj (cs:=[_]) aeF aeG rfl rfl) (ef rfl rfl rfl fun g4 iH N4=>?_)))));have fu:=N4.le E;have gd:=N4.ne aa;have ep:=N4.ne ai;have cE:=N4.ne bq;replace aa:=aa.I N4.mod;replace ai:=ai.I N4.mod;replace bq:=bq.I N4.mod;replace E:=E.then N4.mod;have aW:=N4.aA;refine bb rfl (R a7 (ay fun bC=>?_));have KC:ti iH g4 83 (.slice none 0 0) []:=⟨aW,Own.nil _ 5 1,by simp [aL],by simp⟩;refine b8 (aQ rfl (ao (a8 (vs:=[_,_,_,_,_,_]) aK rfl rfl (aa.cs rfl)) ?_));refine e4 (bt Bo rfl) (Sf v.sz _ v _ 0 [] _ g4 (Nat.le_refl _) KC (ak.to E (by simp) (fun x ab=>.inr (by simp [aL] at ab;subst ab;exact fu)) _ _ apv) (by omega) (jY.mod E (by simp)) (by simp [aL];intro h;have:=jY.lt;omega)) rfl (fun di aB=>aB.elim) (fun kZ jO aB=>?_) fun cC jO aB=>?_
 ·obtain⟨e,aki,aeH,rfl,hm⟩:=aB;have Br:Mod [g4] iH _:=hm;replace ai:=ai.mod Br (by simp;exact fun h=>ep h);replace bq:=bq.mod Br (by simp;exact fun h=>cE h);replace E:=E.own Br fu;refine a1 (by simp) (ua fun a ax=>p5 (by simp) OX (OZ _ g3 g2 _ _ e bq ai (fun h=>cc h.symm) aeH) fun MY aax lL lQ=>?_);obtain⟨⟨v9,rfl⟩,rfl,dD,cH,By⟩:=lQ;exact⟨v9,rfl,rfl,_,u5 ax rfl bH mJ rfl rfl (cH.cell rfl) (dD.cell rfl),⟨by rw [aki];simp [mZ,fW,aeH],E.trans' By (fun x ab=>.inr (by simp at ab;rcases ab with rfl | rfl <;> first | exact dA | exact cp))⟩⟩
 obtain⟨h7,ev,b9,H1,lz,oL⟩:=aB;have Br:Mod [g4] iH _:=lz;replace ai:=ai.mod Br (by simp;exact fun h=>ep h);replace bq:=bq.mod Br (by simp;exact fun h=>cE h);replace E:=E.own Br fu;refine R bC (ae fun bU=>aq 2 rfl (ao (au vM rfl) (ao (bh HA rfl (H1.aA.cell rfl)) (ao (rR (u:=ev) Tryz.underlying65 Tryz.underlying5 Tryz.underlying9 rfl (H1.own.same rfl (kG _))) (ea bH ai rfl rfl rfl (by simp) fun jV ni=>?_)))));replace bq:=bq.ne ni.mod (Ne.symm cc);replace E:=E.own ni.mod cp;replace ai:aD jV g2 _ [_]:=ni.aA;refine ea mJ bq rfl rfl rfl (by simp) fun ix qu=>?_;replace ai:=ai.ne qu.mod cc;replace E:=E.own qu.mod dA;replace bq:aD ix g3 _ [_]:=qu.aA;refine R bU (bg (AM fun a ax=>p5 (by simp) OX (OY _ g3 g2 bq) fun MY aax lL lQ=>?_));obtain⟨⟨v9,rfl⟩,rfl,By⟩:=lQ;exact⟨v9,rfl,rfl,_,u5 ax rfl bH mJ rfl rfl ((ai.I By).cell rfl) ((bq.I By).cell rfl),⟨by rw [b9];rfl,E.then By⟩⟩
end Go.Proofs.YtnihidkbkhcfoaaGreatDoor.V
namespace Go.Proofs.YtnihidkbkhcfoaaGreatDoor.V
open Go
open Go.ChangeMaps (setBlock)
structure C3 (w:World) (g b:Nat) (m:List (U×Value)) (L:List U) (last:Option (U×Value)):Prop where
 at_:∃ es clock since seen c0,w.heap[g]? = some (.mapIter (some b) since seen c0)∧w.heap[b]? = some (.map es clock)∧s5 es=rows m∧(∀ e∈es.toList,e.born<since)∧since≤c0∧c0=clock∧(es.toList.map (·.born)).Nodup∧
  L.map S=(leftOf es seen).toList.map (·.key)∧(∀ p,last=some p→∃ (e:MapEntry) (acU:Array Nat),e∈es.toList∧seen=acU.push e.born∧e.key=S p.1∧e.val=p.2)
 keys:(m.map (·.1)).Nodup
section
variable {P:Program} {w w':World} {g b:Nat} {m:List (U×Value)} {k:U} {M:List Nat} {L:List U} {last:Option (U×Value)}
variable {ops:Array Oper} {Q:Exit→Act→World→Prop} {n:Nat} {ds:List Deferred} {l:List (Nat×Value)} {rest:List Oper} {d:Nat} {ty:TypeId} {pos:String} {af:Array Edge} {dd:Option Nat} {gg:Option (Nat×Bool)} {x y z:Operand} {t Nt TH:TypeId} {v:Value}
theorem C3.lt (h:C3 w g b m L last):g<w.heap.size:=by
 obtain⟨_,_,_,_,_,h1,_⟩:=h.at_;exact(Array.getElem?_eq_some_iff.1 h1).1
theorem C3.mod (h:C3 w g b m L last) (k:Mod M w w') (cN:g∉M) (aH:b∉M):C3 w' g b m L last:=by
 obtain⟨es,clock,since,seen,c0,h1,aj,aF⟩:=h.at_;have aaC:=(Array.getElem?_eq_some_iff.1 h1).1;have KB:=(Array.getElem?_eq_some_iff.1 aj).1;exact⟨⟨es,clock,since,seen,c0,(k.block g aaC cN).trans h1,(k.block b KB aH).trans aj,aF⟩,h.keys⟩
theorem C3.I (h:C3 w g b m L last) (k:Mod [] w w'):C3 w' g b m L last:=h.mod k (by simp) (by simp)
end
end Go.Proofs.YtnihidkbkhcfoaaGreatDoor.V
namespace Go.Proofs.YtnihidkbkhcfoaaGreatDoor.V
open Go
section
variable {P:Program} {ops:Array Oper} {Q:Exit→Act→World→Prop} {n:Nat} {ds:List Deferred} {l:List (Nat×Value)} {w w':World} {rest:List Oper} {d:Nat} {ty:TypeId} {pos:String} {af:Array Edge} {dd:Option Nat} {gg:Option (Nat×Bool)} {x y z:Operand} {t t' Nt TH T e:TypeId} {v:Value} {f:FuncId} {name:String}
theorem MH {t0:TypeId} {d0:TypeDesc} (jY:P.underlying T=some d0) (bW:(match d0 with | .interface _=>false | _=>true)=true) (ab:aT l x=some (.iface T v)):bo P l ⟨dd,.typeAssert x t0 T false,ty,pos,af,gg⟩ w v w:=fun ρ h=>by
 cases d0 <;> first | (simp at bW;done) | simp [execOp,Instr.typeAssert,h _ _ ab,run_underlying jY]
end
section
variable {P:Program} {ops:Array Oper} {Q:Exit→Act→World→Prop} {n:Nat} {ds:List Deferred} {l:List (Nat×Value)} {w w':World} {fn:Func} {apv:Ending→World→Prop} {v v':Value}
variable {rest:List Oper} {d:Nat} {op:Op} {ty:TypeId} {pos:String} {af:Array Edge} {x y:Operand} {t t':TypeId} {dd:Option Nat} {gg:Option (Nat×Bool)}
theorem p3 (hi:P.underlying t=some (.interface (P.methodsAt t))) (ab:aT l x=some .nilIface):bo P l ⟨dd,.binOp .neq t x (.const .nilIface) t',ty,pos,af,gg⟩ w (.bool false) w:=fun ρ h=>by
 have h1:ρ (.const .nilIface) = .nilIface:=h _ _ rfl;have cN:eqGuard .neq t x (.const .nilIface) .nilIface .nilIface=pure ():=by cases x <;> rfl
 simp [execOp,h _ _ ab,h1,binOp,cN,run_equal_nil_nil w t hi]
theorem Mu {T:TypeId} {v:Value} (hi:P.underlying t=some (.interface (P.methodsAt t))) (ab:aT l x=some (.iface T v)):bo P l ⟨dd,.binOp .neq t x (.const .nilIface) t',ty,pos,af,gg⟩ w (.bool true) w:=fun ρ h=>by
 have h1:ρ (.const .nilIface) = .nilIface:=h _ _ rfl;have cN:eqGuard .neq t x (.const .nilIface) (.iface T v) .nilIface=pure ():=by rfl
 simp [execOp,h _ _ ab,h1,binOp,cN,run_equal_held_nil w t _ _ hi]
theorem Fs {T PO t0:TypeId} {v z:Value} {e:TypeId} (jY:P.underlying T=some (.pointer e)) (bS:¬ PO=T) (cO:(P.info? T).bind (·.zero)=some z) (ab:aT l x=some (.iface PO v)):bo P l ⟨dd,.typeAssert x t0 T true,ty,pos,af,gg⟩ w (.tuple #[z,.bool false]) w:=fun ρ h=>by
 simp [execOp,Instr.typeAssert,h _ _ ab,run_underlying jY,bS,zy cO]
theorem Vs (bf:fn.results = #[.tmp t]) (bw:iN t l=some v) (h:apv (.returned v) w):hd (bodyPost P fn apv) .ret n [] l w:=fun a ax=>⟨ax.defers,_,results_tmp bf _ _ _,by rw [sY ax bw];exact h⟩
theorem Fl {ad:Addr} {vs:List Value} {T c:Nat} (bf:fn.results = #[.cell t T]) (bQ:pJ P T c=true) (bw:iN t l=some (.pointer (some ad))) (a6:vs.length=c) (rB:pd w ad vs) (h:apv (.returned (.agg vs.toArray)) w):hd (bodyPost P fn apv) .ret n [] l w:=fun a ax=>
 ⟨ax.defers,.agg vs.toArray,by simp [results,bf,ax.get _ _ bw,asAddr,gq bQ a6 rB],h⟩
theorem oW {ad:Addr} {vs:List Value} {T c:Nat} (bf:fn.results = #[.cell t T,.tmp t']) (bQ:pJ P T c=true) (bw:iN t l=some (.pointer (some ad))) (a6:vs.length=c) (rB:pd w ad vs) (od:iN t' l=some v') (h:apv (.returned (.tuple #[.agg vs.toArray,v'])) w):hd (bodyPost P fn apv) .ret n [] l w:=fun a ax=>
 ⟨ax.defers,.tuple #[.agg vs.toArray,v'],by simp [results,bf,ax.get _ _ bw,ax.get _ _ od,asAddr,gq bQ a6 rB],h⟩
end
end Go.Proofs.YtnihidkbkhcfoaaGreatDoor.V
set_option maxRecDepth 10000
namespace Go.Proofs.YtnihidkbkhcfoaaGreatDoor.V
open Go Go.Proofs
theorem Sl:aP Tryz.prog 195:=aP.of Tryz.func195 (by kernel_rfl) (by kernel_rfl)
theorem HH:aP Tryz.prog 194:=aP.of Tryz.func194 (by kernel_rfl) (by kernel_rfl)
theorem tn:aP Tryz.prog 164:=aP.of Tryz.func164 (by kernel_rfl) (by kernel_rfl)
theorem Sm:aP Tryz.prog 169:=aP.of Tryz.func169 (by kernel_rfl) (by kernel_rfl)
theorem HI:aP Tryz.prog 162:=aP.of Tryz.func162 (by kernel_rfl) (by kernel_rfl)
theorem Bs:aP Tryz.prog 163:=aP.of Tryz.func163 (by kernel_rfl) (by kernel_rfl)
theorem Sn:aP Tryz.prog 165:=aP.of Tryz.func165 (by kernel_rfl) (by kernel_rfl)
theorem Sp:aP Tryz.prog 199:=aP.of Tryz.func199 (by kernel_rfl) (by kernel_rfl)
theorem AD:aP Tryz.prog 198:=aP.of Tryz.func198 (by kernel_rfl) (by kernel_rfl)
theorem HJ (w:World) (s:U) (aN:s.length<4294967281) (eb:g' w):Calls Tryz.prog 194 [S s,S [58]].toArray w (bI fun u w'=>u = .tuple #[S (s.take (aZ s)),S (s.drop (aZ s+1)),.bool (decide (aZ s<s.length))]∧Mod [] w w'):=by
 have:=UD w s aN eb;rw [DM] at this;exact this
theorem uA (w:World) (s:U) (aN:s.length<4294967281) (eb:g' w):Calls Tryz.prog 163 [S s].toArray w (bI fun u w'=>u = .bool (fD s)∧Mod [] w w'):=by
 refine enter Tryz.func163 rfl rfl rfl (l:=[(0,_)]) ⟨rfl,trivial⟩ ?_;have E:=Mod.refl [] w;refine ae fun aX=>bb rfl (R aX (ae fun aM=>aQ rfl (cD (bt HH rfl) (HJ _ s aN (eb.I E)) fun aE J=>?_)));replace E:=E.then J;refine aq 7 rfl (R aM (ae fun a7=>aQ rfl (cD (bt tn rfl) (xU _ (s.take (aZ s)) 195 ir Sl (fun w c h1 aj=>Gj w c h1 aj) DN) fun cY J=>?_)));replace E:=E.then J;refine bb rfl (R a7 (ae fun bC=>aQ rfl ?_));refine rb (fun bA:(jM ir (s.take (aZ s)))=true=>?_) (fun bA=>?_)
 ·refine aq 2 rfl (aw (bF Tryz.underlying9 rfl) (aw (uf rfl rfl) ?_));refine dR (fun bY:(s.length:Int)≤255=>?_) (fun bY=>?_)
  ·refine aq 4 rfl ?_;refine rb (fun bP:(!decide (aZ s<s.length))=true=>?_) (fun bP=>?_)
   ·exact aq 11 rfl (R bC (bg (ar rfl rfl ⟨congrArg Value.bool (by rw [fD,kS,kT,pa];simp only [bA,bB bY,bP,bZ']),E⟩)))
   refine aq 2 rfl (aw (bF Tryz.underlying9 rfl) (aw (uf rfl rfl) ?_));refine dR (fun cT:((s.drop (aZ s+1)).length:Int)≤5=>?_) (fun cT=>?_)
   ·refine aq 2 rfl (fF (bt tn rfl) (xU _ (s.drop (aZ s+1)) 168 qU tk (fun w c h1 aj=>qk w c) ZG) fun gv J=>?_);replace E:=E.then J;refine rb (fun dP:(jM qU (s.drop (aZ s+1)))=true=>?_) (fun dP=>?_)
    ·exact aq 4 rfl (R bC (bg (ar rfl rfl ⟨congrArg Value.bool (by rw [fD,kS,kT,pa];simp only [bA,bB bY,eo bP,bB cT,dP,bZ']),E⟩)))
    exact aq 4 rfl (R bC (bg (ar rfl rfl ⟨congrArg Value.bool (by rw [fD,kS,kT,pa];simp only [bA,bB bY,eo bP,bB cT,eo dP,bZ']),E⟩)))
   exact aq 7 rfl (R bC (bg (ar rfl rfl ⟨congrArg Value.bool (by rw [fD,kS,kT,pa];simp only [bA,bB bY,eo bP,bX cT,bZ']),E⟩)))
  exact aq 15 rfl (R bC (bg (ar rfl rfl ⟨congrArg Value.bool (by rw [fD,kS,kT,pa];simp only [bA,bX bY,bZ']),E⟩)))
 exact aq 19 rfl (R bC (bg (ar rfl rfl ⟨congrArg Value.bool (by rw [fD,kS,kT,pa];simp only [eo bA,bZ']),E⟩)))
theorem DO (w:World) (s:U) (sign:UInt8) (aN:s.length<4294967281) (eb:g' w):Calls Tryz.prog 162 [S s,.int .u8 (sign.toNat:Int)].toArray w (bI fun u w'=>(∃ a b o,u = .tuple #[S a,S b,.bool o]∧o=(lI sign s&&decide (aZ (s.drop 1)<(s.drop 1).length))∧(o=true→a=(s.drop 1).take (aZ (s.drop 1))∧b=(s.drop 1).drop (aZ (s.drop 1)+1)))∧Mod [] w w'):=by
 refine enter Tryz.func162 rfl rfl rfl (l:=[(0,_),(1,_)]) ⟨rfl,rfl,trivial⟩ ?_;have E:=Mod.refl [] w;refine ae fun aX=>aq 3 rfl (R aX (ay fun aM=>ae fun a7=>aQ rfl (ao (dM rfl rfl) ?_)));refine dR (fun bA:s = []=>?_) (fun bA=>?_)
 ·refine aq 11 rfl (R a7 (aO rfl ?_));have cN:lI sign s=false:=by subst bA;rfl
  exact ae fun bC=>aq 3 rfl (R bC (bg (a1 (by simp) (p2 rfl rfl rfl rfl ⟨⟨[],[],false,rfl,by rw [cN];rfl,fun h=>by cases h⟩,E⟩))))
 obtain⟨dc,r,rfl⟩:∃ b r,s=b::r:=List.exists_cons_of_ne_nil bA;refine aq 2 rfl (aw (c8 Tryz.underlying9 rfl rfl (by omega) rfl) (aq 2 rfl ?_));refine dR (fun bY:(dc.toNat:Int)≠(sign.toNat:Int)=>?_) (fun bY=>?_)
 ·refine aq 6 rfl (R a7 (aO rfl ?_));have oi:dc≠sign:=fun h=>bY (by rw [h]);have cN:lI sign (dc::r)=false:=by simp [lI,oi]
  exact ae fun bU=>aq 3 rfl (R bU (bg (a1 (by simp) (p2 rfl rfl rfl rfl ⟨⟨[],[],false,rfl,by rw [cN];rfl,fun h=>by cases h⟩,E⟩))))
 refine aq 3 rfl (aw (bF Tryz.underlying9 rfl) (aw (hY rfl rfl) ?_));refine dR (fun bP:((dc::r).length:Int) > 255=>?_) (fun bP=>?_)
 ·refine ao (ky rfl rfl rfl) (R a7 (aO rfl ?_));have cN:lI sign (dc::r)=false:=by
   simp only [List.length_cons] at bP;simp [lI];omega
  exact ae fun ca=>aq 3 rfl (R ca (bg (a1 (by simp) (p2 rfl rfl rfl rfl ⟨⟨[],[],false,rfl,by rw [cN];rfl,fun h=>by cases h⟩,E⟩))))
 refine ao (ky rfl rfl rfl) (R a7 (aJ rfl ?_));have oi:dc=sign:=cQ (Classical.not_not.1 bY);have cN:lI sign (dc::r)=true:=by
  simp only [List.length_cons] at bP;simp [lI,oi];omega
 refine cJ (az aM (ae fun cA=>aQ rfl (ao (cv (n:=1) Tryz.underlying9 rfl rfl (by simp)) (cD (bt HH rfl) (HJ _ ((dc::r).drop 1) (by simp at aN ⊢;omega) (eb.I E)) fun aE J=>?_))));replace E:=E.then J;exact aq 6 rfl (R cA (bg (p2 rfl rfl rfl rfl ⟨⟨_,_,_,rfl,by rw [cN,Bool.true_and],fun _=>⟨rfl,rfl⟩⟩,E⟩)))
theorem Sq (w:World) (s:U) (aN:s.length<4294967281) (eb:g' w):Calls Tryz.prog 128 [S s].toArray w (bI fun u w'=>u = .bool (gU 64 jA s)∧Mod [] w w'):=by
 refine enter Tryz.func128 rfl rfl rfl (l:=[(0,_)]) ⟨rfl,trivial⟩ ?_;have E:=Mod.refl [] w;refine ae fun aX=>bb rfl (R aX (ae fun aM=>aQ rfl (fP (bt HI rfl) (DO _ s 64 aN (eb.I E)) rfl fun cC aE aB=>?_)));obtain⟨⟨a,b,o,rfl,dV,ZH⟩,J⟩:=aB;replace E:=E.then J;refine aq 7 rfl (R aM (ae fun a7=>aQ rfl ?_));refine rb (fun bA:(o)=true=>?_) (fun bA=>?_)
 ·obtain⟨O',uB⟩:=ZH bA;subst O';subst uB;refine aq 2 rfl (fF (bt Bs rfl) (uA _ ((s.drop 1).drop (aZ (s.drop 1)+1)) (by simp only [List.length_drop];omega) (eb.I E)) fun cY J=>?_);replace E:=E.then J;refine rb (fun bY:(fD ((s.drop 1).drop (aZ (s.drop 1)+1)))=true=>?_) (fun bY=>?_)
  ·refine aq 3 rfl (fF (bt tn rfl) (xU _ ((s.drop 1).take (aZ (s.drop 1))) 169 jA Sm (fun w c h1 aj=>O7 w c h1 aj) Kh) fun gv J=>?_);replace E:=E.then J;refine rb (fun bP:(jM jA ((s.drop 1).take (aZ (s.drop 1))))=true=>?_) (fun bP=>?_)
   ·exact aq 2 rfl (R a7 (bg (ar rfl rfl ⟨congrArg Value.bool (by rw [iv (by decide),← dV];simp only [bA,bY,bP,bZ']),E⟩)))
   exact aq 2 rfl (R a7 (bg (ar rfl rfl ⟨congrArg Value.bool (by rw [iv (by decide),← dV];simp only [bA,bY,eo bP,bZ']),E⟩)))
  exact aq 6 rfl (R a7 (bg (ar rfl rfl ⟨congrArg Value.bool (by rw [iv (by decide),← dV];simp only [bA,eo bY,bZ']),E⟩)))
 exact aq 9 rfl (R a7 (bg (ar rfl rfl ⟨congrArg Value.bool (by rw [iv (by decide),← dV];simp only [eo bA,bZ']),E⟩)))
theorem Sr (w:World) (s:U) (aN:s.length<4294967281) (eb:g' w):Calls Tryz.prog 127 [S s].toArray w (bI fun u w'=>u = .bool (gU 33 iu s)∧Mod [] w w'):=by
 refine enter Tryz.func127 rfl rfl rfl (l:=[(0,_)]) ⟨rfl,trivial⟩ ?_;have E:=Mod.refl [] w;refine ae fun aX=>bb rfl (R aX (ae fun aM=>aQ rfl (fP (bt HI rfl) (DO _ s 33 aN (eb.I E)) rfl fun cC aE aB=>?_)));obtain⟨⟨a,b,o,rfl,dV,ZH⟩,J⟩:=aB;replace E:=E.then J;refine aq 7 rfl (R aM (ae fun a7=>aQ rfl ?_));refine rb (fun bA:(o)=true=>?_) (fun bA=>?_)
 ·obtain⟨O',uB⟩:=ZH bA;subst O';subst uB;refine aq 2 rfl (fF (bt Bs rfl) (uA _ ((s.drop 1).drop (aZ (s.drop 1)+1)) (by simp only [List.length_drop];omega) (eb.I E)) fun cY J=>?_);replace E:=E.then J;refine rb (fun bY:(fD ((s.drop 1).drop (aZ (s.drop 1)+1)))=true=>?_) (fun bY=>?_)
  ·refine aq 3 rfl (fF (bt tn rfl) (xU _ ((s.drop 1).take (aZ (s.drop 1))) 165 iu Sn (fun w c h1 aj=>O8 w c h1 aj) Ki) fun gv J=>?_);replace E:=E.then J;refine rb (fun bP:(jM iu ((s.drop 1).take (aZ (s.drop 1))))=true=>?_) (fun bP=>?_)
   ·exact aq 2 rfl (R a7 (bg (ar rfl rfl ⟨congrArg Value.bool (by rw [iv (by decide),← dV];simp only [bA,bY,bP,bZ']),E⟩)))
   exact aq 2 rfl (R a7 (bg (ar rfl rfl ⟨congrArg Value.bool (by rw [iv (by decide),← dV];simp only [bA,bY,eo bP,bZ']),E⟩)))
  exact aq 6 rfl (R a7 (bg (ar rfl rfl ⟨congrArg Value.bool (by rw [iv (by decide),← dV];simp only [bA,eo bY,bZ']),E⟩)))
 exact aq 9 rfl (R a7 (bg (ar rfl rfl ⟨congrArg Value.bool (by rw [iv (by decide),← dV];simp only [eo bA,bZ']),E⟩)))
theorem ZI (w:World) (s:U):Calls Tryz.prog 173 [S s].toArray w (bI fun u w'=>u = .bool (xW s)∧Mod [] w w'):=by
 refine enter Tryz.func173 rfl rfl rfl (l:=[(0,_)]) ⟨rfl,trivial⟩ ?_;have E:=Mod.refl [] w;refine ae fun aX=>bb rfl (R aX (ae fun aM=>aQ rfl (cD (bt AD rfl) (Ak _ s Bt) fun aE J=>?_)));replace E:=E.then J;refine aq 5 rfl (R aM (ae fun a7=>aQ rfl ?_));refine rb (fun bA:(Lib.hasPrefix s Bt)=true=>?_) (fun bA=>?_)
 ·refine aq 2 rfl (aw (bF Tryz.underlying9 rfl) (aw (uf rfl rfl) ?_));refine dR (fun bY:(s.length:Int)≤255=>?_) (fun bY=>?_)
  ·refine aq 3 rfl (fF (bt tn rfl) (xU _ (Lib.trimPrefix s Bt) 199 oB Sp (fun w c h1 aj=>Sk w c h1 aj) Pa) fun cY J=>?_);replace E:=E.then J;refine rb (fun bP:(jM oB (Lib.trimPrefix s Bt))=true=>?_) (fun bP=>?_)
   ·exact aq 2 rfl (R a7 (bg (ar rfl rfl ⟨congrArg Value.bool (by rw [tp];simp only [bA,bB bY,bP,bZ']),E⟩)))
   exact aq 2 rfl (R a7 (bg (ar rfl rfl ⟨congrArg Value.bool (by rw [tp];simp only [bA,bB bY,eo bP,bZ']),E⟩)))
  exact aq 6 rfl (R a7 (bg (ar rfl rfl ⟨congrArg Value.bool (by rw [tp];simp only [bA,bX bY,bZ']),E⟩)))
 exact aq 10 rfl (R a7 (bg (ar rfl rfl ⟨congrArg Value.bool (by rw [tp];simp only [eo bA,bZ']),E⟩)))
set_option maxRecDepth 10000
end Go.Proofs.YtnihidkbkhcfoaaGreatDoor.V
