/-
  A part of the proof: members' rows as the library's sort sees them: rows of seven cells; the sorted row is the map. No condition of its own.
-/
import Derived.Test.YtnihidkbkhcfoaaGreatDoorM7
import Derived.Test.YtnihidkbkhcfoaaGreatDoorM10
import Derived.Test.YtnihidkbkhcfoaaGreatDoorM3
import Derived.Test.YtnihidkbkhcfoaaGreatDoorM6
import Derived.Shelf.SlSortCmp.WholeK
set_option linter.unusedVariables false
set_option linter.unusedSimpArgs false
set_option maxRecDepth 10000
namespace Go.Proofs.YtnihidkbkhcfoaaGreatDoor.V
open Go Go.Proofs
theorem c6:ix Tryz.prog 75 1 1 1=true:=by kernel_rfl
theorem fo:ix Tryz.prog 75 0 0 1=true:=by kernel_rfl
theorem abW:aP Tryz.prog 61:=aP.of Tryz.func61 (by kernel_rfl) (by kernel_rfl)
theorem WT:aP Tryz.prog 180:=aP.of Tryz.func180 (by kernel_rfl) (by kernel_rfl)
theorem WU:aP Tryz.prog 235:=aP.of Tryz.func235 (by kernel_rfl) (by kernel_rfl)
def MK:Nat:=6
/-- what the reading asks of the program's variables -/
structure Env (w:World):Prop where
 xI:oB w
 abX:xF w
 err:Fs w
 sz:MK<w.heap.size
theorem Env.mod {w w':World} {M:List Nat} (h:Env w) (k:Mod M w w') (eW:∀ x∈M,MK<x):Env w':=
 ⟨h.xI.mod k (fun ae=>by have:=eW _ ae;simp only [MK,Ko] at this;omega),h.abX.mod k (fun x ae=>by have:=eW x ae;simp only [MK] at this;omega),h.err.mod k (fun x ae=>by have:=eW x ae;simp only [MK] at this;omega),Nat.lt_of_lt_of_le h.sz k.size⟩
theorem Env.I {w w':World} (h:Env w) (k:Mod [] w w'):Env w':=h.mod k (by simp)
theorem Env.oK {w w':World} {g:Nat} (h:Env w) (dv:MK<g) (k:Mod [g] w w'):Env w':=h.mod k (fun x ae=>by rw [List.mem_singleton.1 ae];exact dv)
theorem uQ (w:World) (g:Nat) (s:aa) (k:Nat) (sk:Value) (B:aE w g 75 [S s,.int .i64 (k:Int),sk]) (bb:s.length≤65536) (hk:k≤s.length):Calls Tryz.prog 61 [.pointer (some ⟨g,0,none⟩)].toArray w (bM fun u w'=>aE w' g 75 [S s,.int .i64 (ai aW s k:Int),sk]∧Mod [g] w w'):=by
 refine enter Tryz.func61 rfl rfl rfl (l:=[(0,_)]) ⟨rfl,trivial⟩ ?_;have E:=Mod.refl [g] w;refine eE (bX (σ:=Nat) (fun p=>[(0,.pointer (some ⟨g,0,none⟩))]) (fun p aB=>(k≤p∧p≤s.length∧ai aW s p=ai aW s k)∧aE aB g 75 [S s,.int .i64 (p:Int),sk]∧Mod [g] w aB) (fun p=>s.length-p) (k) ⟨rfl,trivial⟩ (⟨⟨Nat.le_refl _,hk,rfl⟩,B,E⟩) ?_);rintro p aB ⟨⟨akW,cn,za⟩,B,E⟩;refine ax fun aV=>ax fun aL=>?_
 by_cases bH:(p:Int)<(s.length:Int)
 rotate_left
 ·refine bQ wide (by kernel_rfl) (f' 2 rfl rfl (aj (fun R=>(av c6 rfl)) (aj (fun R=>(bg dN rfl ((B.I R).cell rfl))) (f' 2 rfl rfl (aj (fun R=>(av fo rfl)) (aj (fun R=>(bg bB rfl ((B.I R).cell rfl))) (aj (fun R=>(br Tryz.underlying9 rfl)) (f' 2 rfl rfl (eF rfl (bJ bH) (eF rfl (bJ bH) (eF rfl (bJ bH) (eF rfl (bJ bH) (eF rfl (bJ bH) ?_)))))))))))));refine eF rfl (bJ bH) (eF rfl (bJ bH) (eF rfl (bJ bH) (eF rfl (bJ bH) (eF rfl (bJ bH) (eF rfl (bJ bH) (aj (fun R=>(jA (bJ bH) rfl rfl)) (bS rfl fun js R=>?_)))))));replace B:=B.I R;replace E:=E.then R;refine au aL (aD rfl ?_);have tO:p=ai aW s k:=by
   rw [← za]
   first | exact(kW (by omega)).symm | exact(lj bh nT).symm
  exact bo (aR (by simp) (aR (by simp) (bU (QA rfl ⟨by rw [← tO];exact B,E⟩))))
 obtain⟨c,bh⟩:∃ c,s[p]? = some c:=⟨_,List.getElem?_eq_getElem (by omega)⟩;rcases nT:aW c with _ | _
 ·refine bQ wide (by kernel_rfl) (f' 2 rfl rfl (aj (fun R=>(av c6 rfl)) (aj (fun R=>(bg dN rfl ((B.I R).cell rfl))) (f' 2 rfl rfl (aj (fun R=>(av fo rfl)) (aj (fun R=>(bg bB rfl ((B.I R).cell rfl))) (aj (fun R=>(br Tryz.underlying9 rfl)) (f' 2 rfl rfl (aM (bd bH) (fun R=>(d' rfl)) (aM (bd bH) (fun R=>(eb rfl)) (aM (bd bH) (fun R=>(av fo rfl)) (aM (bd bH) (fun R=>(bg bB rfl ((B.I R).cell rfl))) (aM (bd bH) (fun R=>(d' rfl)) ?_)))))))))))));refine aM (bd bH) (fun R=>(eb rfl)) (aM (bd bH) (fun R=>(av c6 rfl)) (aM (bd bH) (fun R=>(bg dN rfl ((B.I R).cell rfl))) (aM (bd bH) (fun R=>(b6 Tryz.underlying9 rfl rfl (by omega) (by rw [Int.toNat_natCast];exact bh))) (EI rfl (bd bH) (fun cH R=>bE sC rfl) (fun cH R=>BJ _ [32,9,10,13] c) rfl rfl (aM (bd bH) (fun R=>(dq rfl rfl)) (aj (fun R=>(lT (bd bH) rfl rfl)) (bS rfl fun cO R=>?_)))))));replace B:=B.I R;replace E:=E.then R;refine au aL (a1 rfl (fun IC=>absurd (((Qq c).trans nT).symm.trans IC) (by decide)) (fun IC=>?_));have tO:p=ai aW s k:=by
   rw [← za]
   first | exact(kW (by omega)).symm | exact(lj bh nT).symm
  exact bo (aR (by simp) (aR (by simp) (bU (QA rfl ⟨by rw [← tO];exact B,E⟩))))
 refine bQ wide (by kernel_rfl) (f' 2 rfl rfl (aj (fun R=>(av c6 rfl)) (aj (fun R=>(bg dN rfl ((B.I R).cell rfl))) (f' 2 rfl rfl (aj (fun R=>(av fo rfl)) (aj (fun R=>(bg bB rfl ((B.I R).cell rfl))) (aj (fun R=>(br Tryz.underlying9 rfl)) (f' 2 rfl rfl (aM (bd bH) (fun R=>(d' rfl)) (aM (bd bH) (fun R=>(eb rfl)) (aM (bd bH) (fun R=>(av fo rfl)) (aM (bd bH) (fun R=>(bg bB rfl ((B.I R).cell rfl))) (aM (bd bH) (fun R=>(d' rfl)) ?_)))))))))))));refine aM (bd bH) (fun R=>(eb rfl)) (aM (bd bH) (fun R=>(av c6 rfl)) (aM (bd bH) (fun R=>(bg dN rfl ((B.I R).cell rfl))) (aM (bd bH) (fun R=>(b6 Tryz.underlying9 rfl rfl (by omega) (by rw [Int.toNat_natCast];exact bh))) (EI rfl (bd bH) (fun cH R=>bE sC rfl) (fun cH R=>BJ _ [32,9,10,13] c) rfl rfl (aM (bd bH) (fun R=>(dq rfl rfl)) (aj (fun R=>(lT (bd bH) rfl rfl)) (bS rfl fun gb R=>?_)))))));replace B:=B.I R;replace E:=E.then R;refine au aL ?_;refine a1 rfl (fun IC=>?_) (fun IC=>absurd (((Qq c).trans nT).symm.trans IC) (by decide))
 skip
 refine b8 (au aV (eE (bP (ak 2 rfl (ag (av c6 rfl) (ag (bg dN rfl (B.cell rfl)) (ag (cS (r:=((p+1:Nat):Int)) rfl rfl (by rw [wrap64_in _ (by omega)];omega)) (ag (eb rfl) (ag (av c6 rfl) (dZ dN B rfl rfl rfl (by simp) fun iu kS=>?_))))))))));replace E:=E.trans kS.mod;replace B:aE iu g _ [_,_,_]:=kS.aA;exact cF (bz (by simp) (fK (σ:=Nat) (s:=p) (p+1) ⟨rfl,trivial⟩ ⟨⟨by omega,by omega,by rw [vZ bh nT];exact za⟩,B,E⟩ (by omega)))
theorem tP (w:World) (g:Nat) (s:aa) (k:Nat) (sk:Value) (B:aE w g 75 [S s,.int .i64 (k:Int),sk]) (bb:s.length≤65536) (hk:k≤s.length) (c:UInt8):Calls Tryz.prog 108 [.pointer (some ⟨g,0,none⟩),.int .u8 (c.toNat:Int)].toArray w (bM fun u w'=>u = .bool (aC s (ai aW s k) [c])∧aE w' g 75 [S s,.int .i64 ((if (aC s (ai aW s k) [c])then ai aW s k+1 else ai aW s k:Nat):Int),sk]∧Mod [g] w w'):=by
 refine enter Tryz.func108 rfl rfl rfl (l:=[(0,_),(1,_)]) ⟨rfl,rfl,trivial⟩ ?_;have E:=Mod.refl [g] w;have L6:ai aW s k≤s.length:=cw hk;refine ab fun aV=>aU rfl (J aV (ab fun aL=>aG rfl (fv (bE abW rfl) (uQ _ g s k sk B bb hk) rfl fun cK aB az=>?_)));obtain⟨sD,R⟩:=az;replace E:=E.trans R;clear B;have B:=sD;refine J aL (ax fun aX=>ax fun bt=>?_)
 by_cases eG:((ai aW s k:Nat):Int)≥(s.length:Int)
 ·refine bQ wide (by kernel_rfl) (f' 2 rfl rfl (aj (fun R=>(av c6 rfl)) (aj (fun R=>(bg dN rfl ((B.I R).cell rfl))) (f' 2 rfl rfl (aj (fun R=>(av fo rfl)) (aj (fun R=>(bg bB rfl ((B.I R).cell rfl))) (aj (fun R=>(br Tryz.underlying9 rfl)) (aj (fun R=>(dq rfl rfl)) (aj (fun R=>(d' rfl)) (eF rfl (bd eG) (eF rfl (bd eG) (eF rfl (bd eG) (eF rfl (bd eG) ?_)))))))))))));refine eF rfl (bd eG) (eF rfl (bd eG) (eF rfl (bd eG) (eF rfl (bd eG) (eF rfl (bd eG) (eF rfl (bd eG) (eF rfl (bd eG) (aj (fun R=>(lT (bd eG) rfl rfl)) (bS rfl fun cO R=>?_))))))));replace B:=B.I R;replace E:=E.then R;refine au bt (aF rfl ?_);have ik:(aC s (ai aW s k) [c])=false:=by first | exact bW (by omega) (by simp) | (rw [bA bV,bJ (fun e=>bY (by rw [e]))])
  exact ab fun bN=>aU rfl (J bN (ba (aR (by simp) (ar rfl rfl ⟨by rw [ik],by rw [ik];exact B,E⟩))))
 obtain⟨d,bV⟩:∃ d,s[ai aW s k]? = some d:=⟨_,List.getElem?_eq_getElem (by omega)⟩
 by_cases bY:(d.toNat:Int)≠(c.toNat:Int)
 ·refine bQ wide (by kernel_rfl) (f' 2 rfl rfl (aj (fun R=>(av c6 rfl)) (aj (fun R=>(bg dN rfl ((B.I R).cell rfl))) (f' 2 rfl rfl (aj (fun R=>(av fo rfl)) (aj (fun R=>(bg bB rfl ((B.I R).cell rfl))) (aj (fun R=>(br Tryz.underlying9 rfl)) (aj (fun R=>(dq rfl rfl)) (aj (fun R=>(d' rfl)) (aM (bJ eG) (fun R=>(d' rfl)) (aM (bJ eG) (fun R=>(eb rfl)) (aM (bJ eG) (fun R=>(av fo rfl)) (aM (bJ eG) (fun R=>(bg bB rfl ((B.I R).cell rfl))) ?_)))))))))))));refine aM (bJ eG) (fun R=>(d' rfl)) (aM (bJ eG) (fun R=>(eb rfl)) (aM (bJ eG) (fun R=>(av c6 rfl)) (aM (bJ eG) (fun R=>(bg dN rfl ((B.I R).cell rfl))) (aM (bJ eG) (fun R=>(b6 Tryz.underlying9 rfl rfl (by omega) (by rw [Int.toNat_natCast];exact bV))) (aM (bJ eG) (fun R=>(d' rfl)) (aM (bJ eG) (fun R=>(fj rfl rfl)) (aj (fun R=>(jA (bJ eG) rfl rfl)) (bS rfl fun gb R=>?_))))))));replace B:=B.I R;replace E:=E.then R;refine au bt ?_;refine aK rfl (fun xC=>?_) (fun xC=>absurd bY xC);have ik:(aC s (ai aW s k) [c])=false:=by first | exact bW (by omega) (by simp) | (rw [bA bV,bJ (fun e=>bY (by rw [e]))])
  exact ab fun b2=>aU rfl (J b2 (ba (aR (by simp) (ar rfl rfl ⟨by rw [ik],by rw [ik];exact B,E⟩))))
 refine bQ wide (by kernel_rfl) (f' 2 rfl rfl (aj (fun R=>(av c6 rfl)) (aj (fun R=>(bg dN rfl ((B.I R).cell rfl))) (f' 2 rfl rfl (aj (fun R=>(av fo rfl)) (aj (fun R=>(bg bB rfl ((B.I R).cell rfl))) (aj (fun R=>(br Tryz.underlying9 rfl)) (aj (fun R=>(dq rfl rfl)) (aj (fun R=>(d' rfl)) (aM (bJ eG) (fun R=>(d' rfl)) (aM (bJ eG) (fun R=>(eb rfl)) (aM (bJ eG) (fun R=>(av fo rfl)) (aM (bJ eG) (fun R=>(bg bB rfl ((B.I R).cell rfl))) ?_)))))))))))));refine aM (bJ eG) (fun R=>(d' rfl)) (aM (bJ eG) (fun R=>(eb rfl)) (aM (bJ eG) (fun R=>(av c6 rfl)) (aM (bJ eG) (fun R=>(bg dN rfl ((B.I R).cell rfl))) (aM (bJ eG) (fun R=>(b6 Tryz.underlying9 rfl rfl (by omega) (by rw [Int.toNat_natCast];exact bV))) (aM (bJ eG) (fun R=>(d' rfl)) (aM (bJ eG) (fun R=>(fj rfl rfl)) (aj (fun R=>(jA (bJ eG) rfl rfl)) (bS rfl fun iu R=>?_))))))));replace B:=B.I R;replace E:=E.then R;refine au bt (aK rfl (fun xC=>absurd xC bY) (fun xC=>?_));have ik:(aC s (ai aW s k) [c])=true:=by rw [bA bV,bd (dt (Classical.not_not.1 bY))]
 refine b8 (au aX (ab fun cd=>ak 2 rfl (ag (av c6 rfl) (ag (bg dN rfl (B.cell rfl)) (ag (cS (r:=((ai aW s k+1:Nat):Int)) rfl rfl (by rw [wrap64_in _ (by omega)];omega)) (ag (eb rfl) (ag (av c6 rfl) (dZ dN B rfl rfl rfl (by simp) fun js hs=>?_))))))));replace E:=E.trans hs.mod;replace B:aE js g _ [_,_,_]:=hs.aA;exact J cd (ab fun cD=>aU rfl (J cD (ba (ar rfl rfl ⟨by rw [ik],by rw [ik];exact B,E⟩))))
theorem FT (w:World) (g:Nat) (s:aa) (k:Nat) (sk:Value) (B:aE w g 75 [S s,.int .i64 (k:Int),sk]) (bb:s.length≤65536) (hk:k≤s.length) (iJ:xF w):Calls Tryz.prog 147 [.pointer (some ⟨g,0,none⟩)].toArray w (My 124 [g] w (match e9 s k with | none=>(.error 4:Except Int (aa×Nat)) | some x=>.ok x) (fun x u w'=>u=S x.1∧aE w' g 75 [S s,.int .i64 (x.2:Int),sk])):=by
 refine enter Tryz.func147 rfl rfl rfl (l:=[(0,_)]) ⟨rfl,trivial⟩ ?_;have E:=Mod.refl [g] w;refine ab fun aV=>aU rfl (J aV (ax fun aL=>bQ wide (by kernel_rfl) (f' 2 rfl rfl (aj (fun R=>(av fo rfl)) (aj (fun R=>(bg bB rfl ((B.I R).cell rfl))) (f' 2 rfl rfl (aj (fun R=>(av c6 rfl)) (aj (fun R=>(bg dN rfl ((B.I R).cell rfl))) (AI (fun cH R=>bE WT rfl) (fun cH R=>Qy _ s k (by omega) (iJ.I R)) rfl rfl (f' 7 rfl rfl (bS rfl fun aB R=>?_)))))))))));replace B:=B.I R;replace E:=E.then R;refine au aL (ax fun aX=>ab fun bt=>ak 2 rfl (J bt ?_));refine a1 rfl (fun yE=>?_) (fun yE=>?_)
 ·have cj:e9 s k=none:=by cases h:e9 s k with | none=>rfl | some x=>rw [h] at yE;cases yE
  refine bP ?_;refine fP (bE gf rfl) (eT _ 4) rfl (fun cH az=>az.elim) (fun lV cO az=>?_) fun cK cO az=>?_
  ·obtain⟨rfl,rfl⟩:=az;exact aR (by simp) (ea ⟨4,by rw [cj],by decide,rfl,E⟩)
  exact az.elim
 obtain⟨t,q,e2⟩:∃ t q,e9 s k=some (t,q):=by
  cases h:e9 s k with
  | none=>rw [h] at yE;cases yE
  | some x=>exact⟨x.1,x.2,rfl⟩
 rw [e2,Option.getD_some];refine b8 (au aX (ab fun bN=>ak 3 rfl (ag (av c6 rfl) (dZ dN B rfl rfl rfl (by simp) fun gb sw=>?_))));replace E:=E.trans sw.mod;replace B:aE gb g _ [_,_,_]:=sw.aA;exact J bN (ab fun b2=>ak 2 rfl (J b2 (ba (abY rfl rfl ⟨(t,q),by rw [e2],⟨rfl,B⟩,E⟩))))
theorem ec (w:World) (s:aa) (k:Nat) (bb:s.length≤1000000) (hk:k≤s.length):Calls Tryz.prog 205 [S (s.drop k)].toArray w (bM fun u w'=>u = .tuple #[S (s.drop (ai bx s k)),.int .i64 ((ai bx s k-k:Nat):Int)]∧Mod [] w w'):=by
 refine enter Tryz.func205 rfl rfl rfl (l:=[(0,_)]) ⟨rfl,trivial⟩ ?_;have E:=Mod.refl [] w;have A7:=b' bx s k;have AP:ai bx s k≤s.length:=cw hk;refine ab fun aV=>ak 2 rfl (J aV (ab fun aL=>aG rfl (cQ (bE WU rfl) (PJ _ (s.drop k) [48,49,50,51,52,53,54,55,56,57] (by simp) (by decide)) fun aB R=>?_)));replace E:=E.then R;rw [abS];exact aU rfl (J aL (ab fun aX=>ak 2 rfl (ag (br Tryz.underlying9 rfl) (aG rfl (ag (br Tryz.underlying9 rfl) (ag (ew (r:=((ai bx s k-k:Nat):Int)) rfl rfl (by rw [List.length_drop,List.length_drop,wrap64_in _ (by omega)];omega)) (ak 2 rfl (J aX (ba (cr rfl rfl rfl ⟨rfl,E⟩))))))))))
set_option maxRecDepth 10000
theorem WV:aP Tryz.prog 204:=aP.of Tryz.func204 (by kernel_rfl) (by kernel_rfl)
theorem gH:aP Tryz.prog 205:=aP.of Tryz.func205 (by kernel_rfl) (by kernel_rfl)
set_option maxHeartbeats 2000000 in
theorem FU (w:World) (s:aa) (bb:s.length≤1000000):Calls Tryz.prog 181 [S s].toArray w (bM fun u w'=>u = .bool (gF s).1∧Mod [] w w'):=by
 refine enter Tryz.func181 rfl rfl rfl (l:=[(0,_)]) ⟨rfl,trivial⟩ ?_;have E:=Mod.refl [] w;refine ab fun aV=>aU rfl (J aV (ab fun aL=>aG rfl (cQ (bE WV rfl) (PI _ s [45]) fun aB R=>?_)));replace E:=E.then R;obtain⟨a,ay⟩:∃ a,a=if aC s 0 [45] then 1 else 0:=⟨_,rfl⟩
 have U':=MH ay;rw [abV ay];obtain⟨e,he⟩:∃ e,e=ai bx s a:=⟨_,rfl⟩;have agy:=b' bx s a;have agz:ai bx s a≤s.length:=cw (by omega);rw [← he] at agy agz;refine aU rfl (J aL (ab fun aX=>aG rfl (cQ (bE gH rfl) (ec _ s a bb U') fun cO R=>?_)));replace E:=E.then R;rw [← he];refine ak 5 rfl (J aX (ax fun bt=>ab fun bN=>ak 2 rfl ?_));refine da (fun di:((e-a:Nat):Int)=0=>?_) (fun di=>?_)
 ·refine ak 9 rfl (J bN (aF rfl ?_));have cI:e=a∨(a+1<e∧s[a]? = some 48):=by
   first | (left;omega) | (right;exact⟨by omega,by rw [QB,dt (show(d.toNat:Int)=(48:UInt8).toNat by rw [AU];rfl)]⟩)
  exact ab fun b2=>aU rfl (J b2 (ba (aR (by simp) (ar rfl rfl ⟨by rw [xe ay he cI],E⟩))))
 refine ak 3 rfl ?_;refine da (fun ns:((e-a:Nat):Int) > 1=>?_) (fun ns=>?_);rotate_left
 ·refine ak 6 rfl (J bN (aD rfl ?_));have cI:¬ (e=a∨(a+1<e∧s[a]? = some 48)):=by
   rintro(h | ⟨h,fh⟩)
   ·omega
   first | omega | (rw [QB] at fh;injection fh with fh;subst fh;exact AU rfl)
  refine b8 (au bt (ax fun Kr=>ab fun Pe=>aG rfl (cQ (bE Dz rfl) (Di _ (s.drop e) [46]) fun ov R=>?_)));replace E:=E.then R;refine ak 5 rfl (J Pe (ab fun Pf=>aG rfl (J Pf ?_)));refine a1 rfl (fun tM=>?_) (fun tM=>?_);rotate_left
  ·have DA:aC s e [46]=false:=tM;obtain⟨bk,qJ⟩:∃ bk,bk=e:=⟨_,rfl⟩;rw [← qJ];have aq:¬ (aC s e [46]=true∧ai bx s (e+1)=e+1):=fun h=>by rw [DA] at h;cases h.1
   have c8:bk=if aC s e [46] then ai bx s (e+1)else e:=by rw [if_neg (by rw [DA];simp)];exact qJ
   have wi:bk≤s.length:=by omega
   refine b8 (au Kr (ax fun B3=>ab fun QF=>aG rfl (ag (e3 rfl rfl) ?_)));refine da (fun kU:s.drop (bk)≠[]=>?_) (fun kU=>?_);rotate_left
   ·refine ak 6 rfl (J QF (aD rfl ?_));have e1:(aC s bk [101]||aC s bk [69])=false:=by
     first | (rw [bA jW,bA jW,bJ (fun h=>ae (.inl (by rw [h];rfl))),bJ (fun h=>ae (.inr (by rw [h];rfl)))];rfl) | (rw [bW (show s.length≤bk by have:=Classical.not_not.1 kU;rw [drop_nil (by omega)] at this;omega) (by simp),bW (show s.length≤bk by have:=Classical.not_not.1 kU;rw [drop_nil (by omega)] at this;omega) (by simp)];rfl)
    exact b8 (au B3 (ab fun aca=>aG rfl (ag (dG rfl rfl) (aU rfl (J aca (ba (ar rfl rfl ⟨by first | (rw [df ay he cI aq c8 e1 fl bD];exact congrArg Value.bool (decide_eq_decide.2 (drop_nil (by omega)))) | (rw [de ay he cI aq c8 e1];exact congrArg Value.bool (decide_eq_decide.2 (drop_nil (by omega)))),E⟩)))))))
   obtain⟨x,jW⟩:∃ x,s[bk]? = some x:=⟨_,List.getElem?_eq_getElem (by rw [Ne,drop_nil (by omega)] at kU;omega)⟩;refine ak 2 rfl ?_;refine aw ((b6 (c:=x) Tryz.underlying9 rfl rfl (by decide) (by rw [show((0:Int)).toNat=0 from rfl,List.getElem?_drop,Nat.add_zero];exact jW))) ?_;refine aw (pw rfl rfl) (aw (lS rfl rfl) ?_)
   by_cases ae:(x.toNat=101∨x.toNat=69)
   rotate_left
   ·refine iD (bJ (fun h=>ae ((pt x.toNat (UInt8.toNat_lt x)).1 h))) (ag (lT rfl rfl rfl) (J QF (aD rfl ?_)));have e1:(aC s bk [101]||aC s bk [69])=false:=by
     first | (rw [bA jW,bA jW,bJ (fun h=>ae (.inl (by rw [h];rfl))),bJ (fun h=>ae (.inr (by rw [h];rfl)))];rfl) | (rw [bW (show s.length≤bk by have:=Classical.not_not.1 kU;rw [drop_nil (by omega)] at this;omega) (by simp),bW (show s.length≤bk by have:=Classical.not_not.1 kU;rw [drop_nil (by omega)] at this;omega) (by simp)];rfl)
    exact b8 (au B3 (ab fun ab'=>aG rfl (ag (dG rfl rfl) (aU rfl (J ab' (ba (ar rfl rfl ⟨by first | (rw [df ay he cI aq c8 e1 fl bD];exact congrArg Value.bool (decide_eq_decide.2 (drop_nil (by omega)))) | (rw [de ay he cI aq c8 e1];exact congrArg Value.bool (decide_eq_decide.2 (drop_nil (by omega)))),E⟩)))))))
   refine iD (bd ((pt x.toNat (UInt8.toNat_lt x)).2 ae)) (ag (lT rfl rfl rfl) (J QF (aF rfl ?_)));have e1:(aC s bk [101]||aC s bk [69])=true:=by
    rw [bA jW,bA jW];rcases ae with h | h
    ·rw [bd (dt (by rw [h];rfl))];rfl
    rw [Bool.or_eq_true];right;exact bd (dt (by rw [h];rfl))
   have QE:bk+1≤s.length:=(List.getElem?_eq_some_iff.1 jW).1;refine ab fun agG=>aG rfl (ag ((cE (n:=1) Tryz.underlying9 rfl rfl (by rw [List.length_drop];omega)).to (v':=S (s.drop (bk+1))) (by rw [List.drop_drop])) (aU rfl (J agG (ax fun KQ=>ab fun KR=>aG rfl (ag (e3 rfl rfl) ?_)))));refine da (fun lF:s.drop (bk+1)≠[]=>?_) (fun lF=>?_);rotate_left
   ·refine ak 10 rfl (J KR (aD rfl ?_));have mI:(aC s (bk+1) [43]||aC s (bk+1) [45])=false:=by
     first | (rw [bA gv,bA gv,bJ (fun h=>kR (by rw [h];rfl)),bJ (fun h=>oL (by rw [h];rfl))];rfl) | (rw [bW (show s.length≤bk+1 by have:=Classical.not_not.1 lF;rw [drop_nil (by omega)] at this;omega) (by simp),bW (show s.length≤bk+1 by have:=Classical.not_not.1 lF;rw [drop_nil (by omega)] at this;omega) (by simp)];rfl)
    obtain⟨bZ,gW⟩:∃ bZ,bZ=bk+1:=⟨_,rfl⟩;have fl:bZ=if aC s (bk+1) [43]||aC s (bk+1) [45] then bk+2 else bk+1:=by rw [if_neg (by rw [mI];simp)];exact gW
    refine b8 (au KQ (ax fun ab6=>?_));have jN:bZ≤s.length:=by omega
    rw [← gW];have kZ:=b' bx s bZ;have k0:ai bx s bZ≤s.length:=cw (by omega);refine bP (aG rfl (cQ (bE gH rfl) (ec _ s bZ bb jN) fun yK R=>?_));replace E:=E.then R;refine ak 5 rfl (J ab6 (ab fun ab7=>ak 2 rfl (J ab7 ?_)));refine aK rfl (fun jb=>?_) (fun jb=>?_)
    ·have bD:ai bx s bZ=bZ:=by omega
     exact ab fun ab8=>aU rfl (J ab8 (ba (aR (by simp) (ar rfl rfl ⟨by rw [eo ay he cI aq c8 e1 fl bD],E⟩))))
    have bD:¬ ai bx s bZ=bZ:=by omega
    exact b8 (au B3 (ab fun ab9=>aG rfl (ag (dG rfl rfl) (aU rfl (J ab9 (ba (ar rfl rfl ⟨by first | (rw [df ay he cI aq c8 e1 fl bD];exact congrArg Value.bool (decide_eq_decide.2 (drop_nil (by omega)))) | (rw [de ay he cI aq c8 e1];exact congrArg Value.bool (decide_eq_decide.2 (drop_nil (by omega)))),E⟩)))))))
   obtain⟨y,gv⟩:∃ x,s[bk+1]? = some x:=⟨_,List.getElem?_eq_getElem (by rw [Ne,drop_nil (by omega)] at lF;omega)⟩;refine ak 2 rfl ?_;refine aw ((b6 (c:=y) Tryz.underlying9 rfl rfl (by decide) (by rw [show((0:Int)).toNat=0 from rfl,List.getElem?_drop,Nat.add_zero];exact gv))) ?_;refine aw (lS rfl rfl) ?_;refine da (fun kR:(y.toNat:Int)=43=>?_) (fun kR=>?_)
   ·refine ak 6 rfl (J KR (aF rfl ?_));have mI:(aC s (bk+1) [43]||aC s (bk+1) [45])=true:=by
     rw [bA gv,bA gv,Bool.or_eq_true,decide_eq_true_eq,decide_eq_true_eq]
     first | (left;exact dt (by rw [kR];rfl)) | (right;exact dt (by rw [oL];rfl))
    have zl:bk+2≤s.length:=(List.getElem?_eq_some_iff.1 gv).1;obtain⟨bZ,gW⟩:∃ bZ,bZ=bk+2:=⟨_,rfl⟩;have fl:bZ=if aC s (bk+1) [43]||aC s (bk+1) [45] then bk+2 else bk+1:=by rw [if_pos mI];exact gW
    refine bP (aG rfl (ag ((cE (n:=1) Tryz.underlying9 rfl rfl (by rw [List.length_drop];omega)).to (v':=S (s.drop (bk+2))) (by rw [List.drop_drop])) (aU rfl (J KQ (ax fun agH=>?_)))));have jN:bZ≤s.length:=by omega
    rw [← gW];have kZ:=b' bx s bZ;have k0:ai bx s bZ≤s.length:=cw (by omega);refine bP (aG rfl (cQ (bE gH rfl) (ec _ s bZ bb jN) fun tz R=>?_));replace E:=E.then R;refine ak 5 rfl (J agH (ab fun agI=>ak 2 rfl (J agI ?_)));refine aK rfl (fun jb=>?_) (fun jb=>?_)
    ·have bD:ai bx s bZ=bZ:=by omega
     exact ab fun agJ=>aU rfl (J agJ (ba (aR (by simp) (ar rfl rfl ⟨by rw [eo ay he cI aq c8 e1 fl bD],E⟩))))
    have bD:¬ ai bx s bZ=bZ:=by omega
    exact b8 (au B3 (ab fun agK=>aG rfl (ag (dG rfl rfl) (aU rfl (J agK (ba (ar rfl rfl ⟨by first | (rw [df ay he cI aq c8 e1 fl bD];exact congrArg Value.bool (decide_eq_decide.2 (drop_nil (by omega)))) | (rw [de ay he cI aq c8 e1];exact congrArg Value.bool (decide_eq_decide.2 (drop_nil (by omega)))),E⟩)))))))
   refine ak 2 rfl ?_;refine aw ((b6 (c:=y) Tryz.underlying9 rfl rfl (by decide) (by rw [show((0:Int)).toNat=0 from rfl,List.getElem?_drop,Nat.add_zero];exact gv))) ?_;refine aw (lS rfl rfl) ?_;refine da (fun oL:(y.toNat:Int)=45=>?_) (fun oL=>?_);rotate_left
   ·refine ak 2 rfl (J KR (aD rfl ?_));have mI:(aC s (bk+1) [43]||aC s (bk+1) [45])=false:=by
     first | (rw [bA gv,bA gv,bJ (fun h=>kR (by rw [h];rfl)),bJ (fun h=>oL (by rw [h];rfl))];rfl) | (rw [bW (show s.length≤bk+1 by have:=Classical.not_not.1 lF;rw [drop_nil (by omega)] at this;omega) (by simp),bW (show s.length≤bk+1 by have:=Classical.not_not.1 lF;rw [drop_nil (by omega)] at this;omega) (by simp)];rfl)
    obtain⟨bZ,gW⟩:∃ bZ,bZ=bk+1:=⟨_,rfl⟩;have fl:bZ=if aC s (bk+1) [43]||aC s (bk+1) [45] then bk+2 else bk+1:=by rw [if_neg (by rw [mI];simp)];exact gW
    refine b8 (au KQ (ax fun ab2=>?_));have jN:bZ≤s.length:=by omega
    rw [← gW];have kZ:=b' bx s bZ;have k0:ai bx s bZ≤s.length:=cw (by omega);refine bP (aG rfl (cQ (bE gH rfl) (ec _ s bZ bb jN) fun xB R=>?_));replace E:=E.then R;refine ak 5 rfl (J ab2 (ab fun ab3=>ak 2 rfl (J ab3 ?_)));refine aK rfl (fun jb=>?_) (fun jb=>?_)
    ·have bD:ai bx s bZ=bZ:=by omega
     exact ab fun ab4=>aU rfl (J ab4 (ba (aR (by simp) (ar rfl rfl ⟨by rw [eo ay he cI aq c8 e1 fl bD],E⟩))))
    have bD:¬ ai bx s bZ=bZ:=by omega
    exact b8 (au B3 (ab fun ab5=>aG rfl (ag (dG rfl rfl) (aU rfl (J ab5 (ba (ar rfl rfl ⟨by first | (rw [df ay he cI aq c8 e1 fl bD];exact congrArg Value.bool (decide_eq_decide.2 (drop_nil (by omega)))) | (rw [de ay he cI aq c8 e1];exact congrArg Value.bool (decide_eq_decide.2 (drop_nil (by omega)))),E⟩)))))))
   refine ak 2 rfl (J KR (aF rfl ?_));have mI:(aC s (bk+1) [43]||aC s (bk+1) [45])=true:=by
    rw [bA gv,bA gv,Bool.or_eq_true,decide_eq_true_eq,decide_eq_true_eq]
    first | (left;exact dt (by rw [kR];rfl)) | (right;exact dt (by rw [oL];rfl))
   have zl:bk+2≤s.length:=(List.getElem?_eq_some_iff.1 gv).1;obtain⟨bZ,gW⟩:∃ bZ,bZ=bk+2:=⟨_,rfl⟩;have fl:bZ=if aC s (bk+1) [43]||aC s (bk+1) [45] then bk+2 else bk+1:=by rw [if_pos mI];exact gW
   refine bP (aG rfl (ag ((cE (n:=1) Tryz.underlying9 rfl rfl (by rw [List.length_drop];omega)).to (v':=S (s.drop (bk+2))) (by rw [List.drop_drop])) (aU rfl (J KQ (ax fun agL=>?_)))));have jN:bZ≤s.length:=by omega
   rw [← gW];have kZ:=b' bx s bZ;have k0:ai bx s bZ≤s.length:=cw (by omega);refine bP (aG rfl (cQ (bE gH rfl) (ec _ s bZ bb jN) fun rQ R=>?_));replace E:=E.then R;refine ak 5 rfl (J agL (ab fun agM=>ak 2 rfl (J agM ?_)));refine aK rfl (fun jb=>?_) (fun jb=>?_)
   ·have bD:ai bx s bZ=bZ:=by omega
    exact ab fun ab0=>aU rfl (J ab0 (ba (aR (by simp) (ar rfl rfl ⟨by rw [eo ay he cI aq c8 e1 fl bD],E⟩))))
   have bD:¬ ai bx s bZ=bZ:=by omega
   exact b8 (au B3 (ab fun ab1=>aG rfl (ag (dG rfl rfl) (aU rfl (J ab1 (ba (ar rfl rfl ⟨by first | (rw [df ay he cI aq c8 e1 fl bD];exact congrArg Value.bool (decide_eq_decide.2 (drop_nil (by omega)))) | (rw [de ay he cI aq c8 e1];exact congrArg Value.bool (decide_eq_decide.2 (drop_nil (by omega)))),E⟩)))))))
  skip
  refine ax fun Pg=>?_;have tO:Lib.trimPrefix (s.drop e) [46]=s.drop (e+1):=by
   unfold Lib.trimPrefix;rw [if_pos tM,List.drop_drop];rfl
  rw [tO];have QC:e+1≤s.length:=cY (t:=[46]) tM (by simp);have agA:=b' bx s (e+1);have QD:ai bx s (e+1)≤s.length:=cw (by omega);refine bP (aG rfl (cQ (bE gH rfl) (ec _ s (e+1) bb QC) fun qB R=>?_));replace E:=E.then R;refine ak 5 rfl (J Pg (ab fun Ph=>ak 2 rfl (J Ph ?_)));refine aK rfl (fun abZ=>?_) (fun abZ=>?_)
  ·have aS:ai bx s (e+1)=e+1:=by omega
   exact ab fun Pj=>aU rfl (J Pj (ba (aR (by simp) (ar rfl rfl ⟨by rw [xf ay he cI tM aS],E⟩))))
  have bn:¬ ai bx s (e+1)=e+1:=by omega
  have wi:ai bx s (e+1)≤s.length:=QD;have DA:aC s e [46]=true:=tM;obtain⟨bk,qJ⟩:∃ bk,bk=ai bx s (e+1):=⟨_,rfl⟩;rw [← qJ] at bn ⊢;have aq:¬ (aC s e [46]=true∧ai bx s (e+1)=e+1):=fun h=>bn (by rw [qJ];omega);have c8:bk=if aC s e [46] then ai bx s (e+1)else e:=by rw [if_pos DA];exact qJ
  refine b8 (au Kr (ax fun w4=>ab fun Fl=>aG rfl (ag (e3 rfl rfl) ?_)));refine da (fun kU:s.drop (bk)≠[]=>?_) (fun kU=>?_);rotate_left
  ·refine ak 6 rfl (J Fl (aD rfl ?_));have e1:(aC s bk [101]||aC s bk [69])=false:=by
    first | (rw [bA jW,bA jW,bJ (fun h=>ae (.inl (by rw [h];rfl))),bJ (fun h=>ae (.inr (by rw [h];rfl)))];rfl) | (rw [bW (show s.length≤bk by have:=Classical.not_not.1 kU;rw [drop_nil (by omega)] at this;omega) (by simp),bW (show s.length≤bk by have:=Classical.not_not.1 kU;rw [drop_nil (by omega)] at this;omega) (by simp)];rfl)
   exact b8 (au w4 (ab fun agF=>aG rfl (ag (dG rfl rfl) (aU rfl (J agF (ba (ar rfl rfl ⟨by first | (rw [df ay he cI aq c8 e1 fl bD];exact congrArg Value.bool (decide_eq_decide.2 (drop_nil (by omega)))) | (rw [de ay he cI aq c8 e1];exact congrArg Value.bool (decide_eq_decide.2 (drop_nil (by omega)))),E⟩)))))))
  obtain⟨x,jW⟩:∃ x,s[bk]? = some x:=⟨_,List.getElem?_eq_getElem (by rw [Ne,drop_nil (by omega)] at kU;omega)⟩;refine ak 2 rfl ?_;refine aw ((b6 (c:=x) Tryz.underlying9 rfl rfl (by decide) (by rw [show((0:Int)).toNat=0 from rfl,List.getElem?_drop,Nat.add_zero];exact jW))) ?_;refine aw (pw rfl rfl) (aw (lS rfl rfl) ?_)
  by_cases ae:(x.toNat=101∨x.toNat=69)
  rotate_left
  ·refine iD (bJ (fun h=>ae ((pt x.toNat (UInt8.toNat_lt x)).1 h))) (ag (lT rfl rfl rfl) (J Fl (aD rfl ?_)));have e1:(aC s bk [101]||aC s bk [69])=false:=by
    first | (rw [bA jW,bA jW,bJ (fun h=>ae (.inl (by rw [h];rfl))),bJ (fun h=>ae (.inr (by rw [h];rfl)))];rfl) | (rw [bW (show s.length≤bk by have:=Classical.not_not.1 kU;rw [drop_nil (by omega)] at this;omega) (by simp),bW (show s.length≤bk by have:=Classical.not_not.1 kU;rw [drop_nil (by omega)] at this;omega) (by simp)];rfl)
   exact b8 (au w4 (ab fun agE=>aG rfl (ag (dG rfl rfl) (aU rfl (J agE (ba (ar rfl rfl ⟨by first | (rw [df ay he cI aq c8 e1 fl bD];exact congrArg Value.bool (decide_eq_decide.2 (drop_nil (by omega)))) | (rw [de ay he cI aq c8 e1];exact congrArg Value.bool (decide_eq_decide.2 (drop_nil (by omega)))),E⟩)))))))
  refine iD (bd ((pt x.toNat (UInt8.toNat_lt x)).2 ae)) (ag (lT rfl rfl rfl) (J Fl (aF rfl ?_)));have e1:(aC s bk [101]||aC s bk [69])=true:=by
   rw [bA jW,bA jW];rcases ae with h | h
   ·rw [bd (dt (by rw [h];rfl))];rfl
   rw [Bool.or_eq_true];right;exact bd (dt (by rw [h];rfl))
  have QE:bk+1≤s.length:=(List.getElem?_eq_some_iff.1 jW).1;refine ab fun Pk=>aG rfl (ag ((cE (n:=1) Tryz.underlying9 rfl rfl (by rw [List.length_drop];omega)).to (v':=S (s.drop (bk+1))) (by rw [List.drop_drop])) (aU rfl (J Pk (ax fun BE=>ab fun BF=>aG rfl (ag (e3 rfl rfl) ?_)))));refine da (fun lF:s.drop (bk+1)≠[]=>?_) (fun lF=>?_);rotate_left
  ·refine ak 10 rfl (J BF (aD rfl ?_));have mI:(aC s (bk+1) [43]||aC s (bk+1) [45])=false:=by
    first | (rw [bA gv,bA gv,bJ (fun h=>kR (by rw [h];rfl)),bJ (fun h=>oL (by rw [h];rfl))];rfl) | (rw [bW (show s.length≤bk+1 by have:=Classical.not_not.1 lF;rw [drop_nil (by omega)] at this;omega) (by simp),bW (show s.length≤bk+1 by have:=Classical.not_not.1 lF;rw [drop_nil (by omega)] at this;omega) (by simp)];rfl)
   obtain⟨bZ,gW⟩:∃ bZ,bZ=bk+1:=⟨_,rfl⟩;have fl:bZ=if aC s (bk+1) [43]||aC s (bk+1) [45] then bk+2 else bk+1:=by rw [if_neg (by rw [mI];simp)];exact gW
   refine b8 (au BE (ax fun Pw=>?_));have jN:bZ≤s.length:=by omega
   rw [← gW];have kZ:=b' bx s bZ;have k0:ai bx s bZ≤s.length:=cw (by omega);refine bP (aG rfl (cQ (bE gH rfl) (ec _ s bZ bb jN) fun tx R=>?_));replace E:=E.then R;refine ak 5 rfl (J Pw (ab fun agB=>ak 2 rfl (J agB ?_)));refine aK rfl (fun jb=>?_) (fun jb=>?_)
   ·have bD:ai bx s bZ=bZ:=by omega
    exact ab fun agC=>aU rfl (J agC (ba (aR (by simp) (ar rfl rfl ⟨by rw [eo ay he cI aq c8 e1 fl bD],E⟩))))
   have bD:¬ ai bx s bZ=bZ:=by omega
   exact b8 (au w4 (ab fun agD=>aG rfl (ag (dG rfl rfl) (aU rfl (J agD (ba (ar rfl rfl ⟨by first | (rw [df ay he cI aq c8 e1 fl bD];exact congrArg Value.bool (decide_eq_decide.2 (drop_nil (by omega)))) | (rw [de ay he cI aq c8 e1];exact congrArg Value.bool (decide_eq_decide.2 (drop_nil (by omega)))),E⟩)))))))
  obtain⟨y,gv⟩:∃ x,s[bk+1]? = some x:=⟨_,List.getElem?_eq_getElem (by rw [Ne,drop_nil (by omega)] at lF;omega)⟩;refine ak 2 rfl ?_;refine aw ((b6 (c:=y) Tryz.underlying9 rfl rfl (by decide) (by rw [show((0:Int)).toNat=0 from rfl,List.getElem?_drop,Nat.add_zero];exact gv))) ?_;refine aw (lS rfl rfl) ?_;refine da (fun kR:(y.toNat:Int)=43=>?_) (fun kR=>?_)
  ·refine ak 6 rfl (J BF (aF rfl ?_));have mI:(aC s (bk+1) [43]||aC s (bk+1) [45])=true:=by
    rw [bA gv,bA gv,Bool.or_eq_true,decide_eq_true_eq,decide_eq_true_eq]
    first | (left;exact dt (by rw [kR];rfl)) | (right;exact dt (by rw [oL];rfl))
   have zl:bk+2≤s.length:=(List.getElem?_eq_some_iff.1 gv).1;obtain⟨bZ,gW⟩:∃ bZ,bZ=bk+2:=⟨_,rfl⟩;have fl:bZ=if aC s (bk+1) [43]||aC s (bk+1) [45] then bk+2 else bk+1:=by rw [if_pos mI];exact gW
   refine bP (aG rfl (ag ((cE (n:=1) Tryz.underlying9 rfl rfl (by rw [List.length_drop];omega)).to (v':=S (s.drop (bk+2))) (by rw [List.drop_drop])) (aU rfl (J BE (ax fun Pl=>?_)))));have jN:bZ≤s.length:=by omega
   rw [← gW];have kZ:=b' bx s bZ;have k0:ai bx s bZ≤s.length:=cw (by omega);refine bP (aG rfl (cQ (bE gH rfl) (ec _ s bZ bb jN) fun p7 R=>?_));replace E:=E.then R;refine ak 5 rfl (J Pl (ab fun Ks=>ak 2 rfl (J Ks ?_)));refine aK rfl (fun jb=>?_) (fun jb=>?_)
   ·have bD:ai bx s bZ=bZ:=by omega
    exact ab fun Pm=>aU rfl (J Pm (ba (aR (by simp) (ar rfl rfl ⟨by rw [eo ay he cI aq c8 e1 fl bD],E⟩))))
   have bD:¬ ai bx s bZ=bZ:=by omega
   exact b8 (au w4 (ab fun Pn=>aG rfl (ag (dG rfl rfl) (aU rfl (J Pn (ba (ar rfl rfl ⟨by first | (rw [df ay he cI aq c8 e1 fl bD];exact congrArg Value.bool (decide_eq_decide.2 (drop_nil (by omega)))) | (rw [de ay he cI aq c8 e1];exact congrArg Value.bool (decide_eq_decide.2 (drop_nil (by omega)))),E⟩)))))))
  refine ak 2 rfl ?_;refine aw ((b6 (c:=y) Tryz.underlying9 rfl rfl (by decide) (by rw [show((0:Int)).toNat=0 from rfl,List.getElem?_drop,Nat.add_zero];exact gv))) ?_;refine aw (lS rfl rfl) ?_;refine da (fun oL:(y.toNat:Int)=45=>?_) (fun oL=>?_);rotate_left
  ·refine ak 2 rfl (J BF (aD rfl ?_));have mI:(aC s (bk+1) [43]||aC s (bk+1) [45])=false:=by
    first | (rw [bA gv,bA gv,bJ (fun h=>kR (by rw [h];rfl)),bJ (fun h=>oL (by rw [h];rfl))];rfl) | (rw [bW (show s.length≤bk+1 by have:=Classical.not_not.1 lF;rw [drop_nil (by omega)] at this;omega) (by simp),bW (show s.length≤bk+1 by have:=Classical.not_not.1 lF;rw [drop_nil (by omega)] at this;omega) (by simp)];rfl)
   obtain⟨bZ,gW⟩:∃ bZ,bZ=bk+1:=⟨_,rfl⟩;have fl:bZ=if aC s (bk+1) [43]||aC s (bk+1) [45] then bk+2 else bk+1:=by rw [if_neg (by rw [mI];simp)];exact gW
   refine b8 (au BE (ax fun Ps=>?_));have jN:bZ≤s.length:=by omega
   rw [← gW];have kZ:=b' bx s bZ;have k0:ai bx s bZ≤s.length:=cw (by omega);refine bP (aG rfl (cQ (bE gH rfl) (ec _ s bZ bb jN) fun ux R=>?_));replace E:=E.then R;refine ak 5 rfl (J Ps (ab fun Pt=>ak 2 rfl (J Pt ?_)));refine aK rfl (fun jb=>?_) (fun jb=>?_)
   ·have bD:ai bx s bZ=bZ:=by omega
    exact ab fun Pu=>aU rfl (J Pu (ba (aR (by simp) (ar rfl rfl ⟨by rw [eo ay he cI aq c8 e1 fl bD],E⟩))))
   have bD:¬ ai bx s bZ=bZ:=by omega
   exact b8 (au w4 (ab fun Pv=>aG rfl (ag (dG rfl rfl) (aU rfl (J Pv (ba (ar rfl rfl ⟨by first | (rw [df ay he cI aq c8 e1 fl bD];exact congrArg Value.bool (decide_eq_decide.2 (drop_nil (by omega)))) | (rw [de ay he cI aq c8 e1];exact congrArg Value.bool (decide_eq_decide.2 (drop_nil (by omega)))),E⟩)))))))
  refine ak 2 rfl (J BF (aF rfl ?_));have mI:(aC s (bk+1) [43]||aC s (bk+1) [45])=true:=by
   rw [bA gv,bA gv,Bool.or_eq_true,decide_eq_true_eq,decide_eq_true_eq]
   first | (left;exact dt (by rw [kR];rfl)) | (right;exact dt (by rw [oL];rfl))
  have zl:bk+2≤s.length:=(List.getElem?_eq_some_iff.1 gv).1;obtain⟨bZ,gW⟩:∃ bZ,bZ=bk+2:=⟨_,rfl⟩;have fl:bZ=if aC s (bk+1) [43]||aC s (bk+1) [45] then bk+2 else bk+1:=by rw [if_pos mI];exact gW
  refine bP (aG rfl (ag ((cE (n:=1) Tryz.underlying9 rfl rfl (by rw [List.length_drop];omega)).to (v':=S (s.drop (bk+2))) (by rw [List.drop_drop])) (aU rfl (J BE (ax fun Po=>?_)))));have jN:bZ≤s.length:=by omega
  rw [← gW];have kZ:=b' bx s bZ;have k0:ai bx s bZ≤s.length:=cw (by omega);refine bP (aG rfl (cQ (bE gH rfl) (ec _ s bZ bb jN) fun rn R=>?_));replace E:=E.then R;refine ak 5 rfl (J Po (ab fun Pp=>ak 2 rfl (J Pp ?_)));refine aK rfl (fun jb=>?_) (fun jb=>?_)
  ·have bD:ai bx s bZ=bZ:=by omega
   exact ab fun Pq=>aU rfl (J Pq (ba (aR (by simp) (ar rfl rfl ⟨by rw [eo ay he cI aq c8 e1 fl bD],E⟩))))
  have bD:¬ ai bx s bZ=bZ:=by omega
  exact b8 (au w4 (ab fun Pr=>aG rfl (ag (dG rfl rfl) (aU rfl (J Pr (ba (ar rfl rfl ⟨by first | (rw [df ay he cI aq c8 e1 fl bD];exact congrArg Value.bool (decide_eq_decide.2 (drop_nil (by omega)))) | (rw [de ay he cI aq c8 e1];exact congrArg Value.bool (decide_eq_decide.2 (drop_nil (by omega)))),E⟩)))))))
 obtain⟨d,QB⟩:∃ x,s[a]? = some x:=⟨_,List.getElem?_eq_getElem (by omega)⟩;refine ak 2 rfl ?_;refine aw ((b6 (c:=d) Tryz.underlying9 rfl rfl (by decide) (by rw [show((0:Int)).toNat=0 from rfl,List.getElem?_drop,Nat.add_zero];exact QB))) ?_;refine aw (lS rfl rfl) ?_;refine da (fun AU:(d.toNat:Int)=48=>?_) (fun AU=>?_)
 ·refine ak 2 rfl (J bN (aF rfl ?_));have cI:e=a∨(a+1<e∧s[a]? = some 48):=by
   first | (left;omega) | (right;exact⟨by omega,by rw [QB,dt (show(d.toNat:Int)=(48:UInt8).toNat by rw [AU];rfl)]⟩)
  exact ab fun cd=>aU rfl (J cd (ba (aR (by simp) (ar rfl rfl ⟨by rw [xe ay he cI],E⟩))))
 refine ak 2 rfl (J bN (aD rfl ?_));have cI:¬ (e=a∨(a+1<e∧s[a]? = some 48)):=by
  rintro(h | ⟨h,fh⟩)
  ·omega
  first | omega | (rw [QB] at fh;injection fh with fh;subst fh;exact AU rfl)
 refine b8 (au bt (ax fun cD=>ab fun cJ=>aG rfl (cQ (bE Dz rfl) (Di _ (s.drop e) [46]) fun gb R=>?_)));replace E:=E.then R;refine ak 5 rfl (J cJ (ab fun cf=>aG rfl (J cf ?_)));refine a1 rfl (fun tM=>?_) (fun tM=>?_);rotate_left
 ·have DA:aC s e [46]=false:=tM;obtain⟨bk,qJ⟩:∃ bk,bk=e:=⟨_,rfl⟩;rw [← qJ];have aq:¬ (aC s e [46]=true∧ai bx s (e+1)=e+1):=fun h=>by rw [DA] at h;cases h.1
  have c8:bk=if aC s e [46] then ai bx s (e+1)else e:=by rw [if_neg (by rw [DA];simp)];exact qJ
  have wi:bk≤s.length:=by omega
  refine b8 (au cD (ax fun ky=>ab fun lf=>aG rfl (ag (e3 rfl rfl) ?_)));refine da (fun kU:s.drop (bk)≠[]=>?_) (fun kU=>?_);rotate_left
  ·refine ak 6 rfl (J lf (aD rfl ?_));have e1:(aC s bk [101]||aC s bk [69])=false:=by
    first | (rw [bA jW,bA jW,bJ (fun h=>ae (.inl (by rw [h];rfl))),bJ (fun h=>ae (.inr (by rw [h];rfl)))];rfl) | (rw [bW (show s.length≤bk by have:=Classical.not_not.1 kU;rw [drop_nil (by omega)] at this;omega) (by simp),bW (show s.length≤bk by have:=Classical.not_not.1 kU;rw [drop_nil (by omega)] at this;omega) (by simp)];rfl)
   exact b8 (au ky (ab fun Pc=>aG rfl (ag (dG rfl rfl) (aU rfl (J Pc (ba (ar rfl rfl ⟨by first | (rw [df ay he cI aq c8 e1 fl bD];exact congrArg Value.bool (decide_eq_decide.2 (drop_nil (by omega)))) | (rw [de ay he cI aq c8 e1];exact congrArg Value.bool (decide_eq_decide.2 (drop_nil (by omega)))),E⟩)))))))
  obtain⟨x,jW⟩:∃ x,s[bk]? = some x:=⟨_,List.getElem?_eq_getElem (by rw [Ne,drop_nil (by omega)] at kU;omega)⟩;refine ak 2 rfl ?_;refine aw ((b6 (c:=x) Tryz.underlying9 rfl rfl (by decide) (by rw [show((0:Int)).toNat=0 from rfl,List.getElem?_drop,Nat.add_zero];exact jW))) ?_;refine aw (pw rfl rfl) (aw (lS rfl rfl) ?_)
  by_cases ae:(x.toNat=101∨x.toNat=69)
  rotate_left
  ·refine iD (bJ (fun h=>ae ((pt x.toNat (UInt8.toNat_lt x)).1 h))) (ag (lT rfl rfl rfl) (J lf (aD rfl ?_)));have e1:(aC s bk [101]||aC s bk [69])=false:=by
    first | (rw [bA jW,bA jW,bJ (fun h=>ae (.inl (by rw [h];rfl))),bJ (fun h=>ae (.inr (by rw [h];rfl)))];rfl) | (rw [bW (show s.length≤bk by have:=Classical.not_not.1 kU;rw [drop_nil (by omega)] at this;omega) (by simp),bW (show s.length≤bk by have:=Classical.not_not.1 kU;rw [drop_nil (by omega)] at this;omega) (by simp)];rfl)
   exact b8 (au ky (ab fun Kq=>aG rfl (ag (dG rfl rfl) (aU rfl (J Kq (ba (ar rfl rfl ⟨by first | (rw [df ay he cI aq c8 e1 fl bD];exact congrArg Value.bool (decide_eq_decide.2 (drop_nil (by omega)))) | (rw [de ay he cI aq c8 e1];exact congrArg Value.bool (decide_eq_decide.2 (drop_nil (by omega)))),E⟩)))))))
  refine iD (bd ((pt x.toNat (UInt8.toNat_lt x)).2 ae)) (ag (lT rfl rfl rfl) (J lf (aF rfl ?_)));have e1:(aC s bk [101]||aC s bk [69])=true:=by
   rw [bA jW,bA jW];rcases ae with h | h
   ·rw [bd (dt (by rw [h];rfl))];rfl
   rw [Bool.or_eq_true];right;exact bd (dt (by rw [h];rfl))
  have QE:bk+1≤s.length:=(List.getElem?_eq_some_iff.1 jW).1;refine ab fun q8=>aG rfl (ag ((cE (n:=1) Tryz.underlying9 rfl rfl (by rw [List.length_drop];omega)).to (v':=S (s.drop (bk+1))) (by rw [List.drop_drop])) (aU rfl (J q8 (ax fun pg=>ab fun mN=>aG rfl (ag (e3 rfl rfl) ?_)))));refine da (fun lF:s.drop (bk+1)≠[]=>?_) (fun lF=>?_);rotate_left
  ·refine ak 10 rfl (J mN (aD rfl ?_));have mI:(aC s (bk+1) [43]||aC s (bk+1) [45])=false:=by
    first | (rw [bA gv,bA gv,bJ (fun h=>kR (by rw [h];rfl)),bJ (fun h=>oL (by rw [h];rfl))];rfl) | (rw [bW (show s.length≤bk+1 by have:=Classical.not_not.1 lF;rw [drop_nil (by omega)] at this;omega) (by simp),bW (show s.length≤bk+1 by have:=Classical.not_not.1 lF;rw [drop_nil (by omega)] at this;omega) (by simp)];rfl)
   obtain⟨bZ,gW⟩:∃ bZ,bZ=bk+1:=⟨_,rfl⟩;have fl:bZ=if aC s (bk+1) [43]||aC s (bk+1) [45] then bk+2 else bk+1:=by rw [if_neg (by rw [mI];simp)];exact gW
   refine b8 (au pg (ax fun O'=>?_));have jN:bZ≤s.length:=by omega
   rw [← gW];have kZ:=b' bx s bZ;have k0:ai bx s bZ≤s.length:=cw (by omega);refine bP (aG rfl (cQ (bE gH rfl) (ec _ s bZ bb jN) fun p3 R=>?_));replace E:=E.then R;refine ak 5 rfl (J O' (ab fun Pa=>ak 2 rfl (J Pa ?_)));refine aK rfl (fun jb=>?_) (fun jb=>?_)
   ·have bD:ai bx s bZ=bZ:=by omega
    exact ab fun Kp=>aU rfl (J Kp (ba (aR (by simp) (ar rfl rfl ⟨by rw [eo ay he cI aq c8 e1 fl bD],E⟩))))
   have bD:¬ ai bx s bZ=bZ:=by omega
   exact b8 (au ky (ab fun Pb=>aG rfl (ag (dG rfl rfl) (aU rfl (J Pb (ba (ar rfl rfl ⟨by first | (rw [df ay he cI aq c8 e1 fl bD];exact congrArg Value.bool (decide_eq_decide.2 (drop_nil (by omega)))) | (rw [de ay he cI aq c8 e1];exact congrArg Value.bool (decide_eq_decide.2 (drop_nil (by omega)))),E⟩)))))))
  obtain⟨y,gv⟩:∃ x,s[bk+1]? = some x:=⟨_,List.getElem?_eq_getElem (by rw [Ne,drop_nil (by omega)] at lF;omega)⟩;refine ak 2 rfl ?_;refine aw ((b6 (c:=y) Tryz.underlying9 rfl rfl (by decide) (by rw [show((0:Int)).toNat=0 from rfl,List.getElem?_drop,Nat.add_zero];exact gv))) ?_;refine aw (lS rfl rfl) ?_;refine da (fun kR:(y.toNat:Int)=43=>?_) (fun kR=>?_)
  ·refine ak 6 rfl (J mN (aF rfl ?_));have mI:(aC s (bk+1) [43]||aC s (bk+1) [45])=true:=by
    rw [bA gv,bA gv,Bool.or_eq_true,decide_eq_true_eq,decide_eq_true_eq]
    first | (left;exact dt (by rw [kR];rfl)) | (right;exact dt (by rw [oL];rfl))
   have zl:bk+2≤s.length:=(List.getElem?_eq_some_iff.1 gv).1;obtain⟨bZ,gW⟩:∃ bZ,bZ=bk+2:=⟨_,rfl⟩;have fl:bZ=if aC s (bk+1) [43]||aC s (bk+1) [45] then bk+2 else bk+1:=by rw [if_pos mI];exact gW
   refine bP (aG rfl (ag ((cE (n:=1) Tryz.underlying9 rfl rfl (by rw [List.length_drop];omega)).to (v':=S (s.drop (bk+2))) (by rw [List.drop_drop])) (aU rfl (J pg (ax fun kz=>?_)))));have jN:bZ≤s.length:=by omega
   rw [← gW];have kZ:=b' bx s bZ;have k0:ai bx s bZ≤s.length:=cw (by omega);refine bP (aG rfl (cQ (bE gH rfl) (ec _ s bZ bb jN) fun l1 R=>?_));replace E:=E.then R;refine ak 5 rfl (J kz (ab fun uu=>ak 2 rfl (J uu ?_)));refine aK rfl (fun jb=>?_) (fun jb=>?_)
   ·have bD:ai bx s bZ=bZ:=by omega
    exact ab fun q9=>aU rfl (J q9 (ba (aR (by simp) (ar rfl rfl ⟨by rw [eo ay he cI aq c8 e1 fl bD],E⟩))))
   have bD:¬ ai bx s bZ=bZ:=by omega
   exact b8 (au ky (ab fun rO=>aG rfl (ag (dG rfl rfl) (aU rfl (J rO (ba (ar rfl rfl ⟨by first | (rw [df ay he cI aq c8 e1 fl bD];exact congrArg Value.bool (decide_eq_decide.2 (drop_nil (by omega)))) | (rw [de ay he cI aq c8 e1];exact congrArg Value.bool (decide_eq_decide.2 (drop_nil (by omega)))),E⟩)))))))
  refine ak 2 rfl ?_;refine aw ((b6 (c:=y) Tryz.underlying9 rfl rfl (by decide) (by rw [show((0:Int)).toNat=0 from rfl,List.getElem?_drop,Nat.add_zero];exact gv))) ?_;refine aw (lS rfl rfl) ?_;refine da (fun oL:(y.toNat:Int)=45=>?_) (fun oL=>?_);rotate_left
  ·refine ak 2 rfl (J mN (aD rfl ?_));have mI:(aC s (bk+1) [43]||aC s (bk+1) [45])=false:=by
    first | (rw [bA gv,bA gv,bJ (fun h=>kR (by rw [h];rfl)),bJ (fun h=>oL (by rw [h];rfl))];rfl) | (rw [bW (show s.length≤bk+1 by have:=Classical.not_not.1 lF;rw [drop_nil (by omega)] at this;omega) (by simp),bW (show s.length≤bk+1 by have:=Classical.not_not.1 lF;rw [drop_nil (by omega)] at this;omega) (by simp)];rfl)
   obtain⟨bZ,gW⟩:∃ bZ,bZ=bk+1:=⟨_,rfl⟩;have fl:bZ=if aC s (bk+1) [43]||aC s (bk+1) [45] then bk+2 else bk+1:=by rw [if_neg (by rw [mI];simp)];exact gW
   refine b8 (au pg (ax fun rP=>?_));have jN:bZ≤s.length:=by omega
   rw [← gW];have kZ:=b' bx s bZ;have k0:ai bx s bZ≤s.length:=cw (by omega);refine bP (aG rfl (cQ (bE gH rfl) (ec _ s bZ bb jN) fun kl R=>?_));replace E:=E.then R;refine ak 5 rfl (J rP (ab fun yI=>ak 2 rfl (J yI ?_)));refine aK rfl (fun jb=>?_) (fun jb=>?_)
   ·have bD:ai bx s bZ=bZ:=by omega
    exact ab fun yJ=>aU rfl (J yJ (ba (aR (by simp) (ar rfl rfl ⟨by rw [eo ay he cI aq c8 e1 fl bD],E⟩))))
   have bD:¬ ai bx s bZ=bZ:=by omega
   exact b8 (au ky (ab fun Fk=>aG rfl (ag (dG rfl rfl) (aU rfl (J Fk (ba (ar rfl rfl ⟨by first | (rw [df ay he cI aq c8 e1 fl bD];exact congrArg Value.bool (decide_eq_decide.2 (drop_nil (by omega)))) | (rw [de ay he cI aq c8 e1];exact congrArg Value.bool (decide_eq_decide.2 (drop_nil (by omega)))),E⟩)))))))
  refine ak 2 rfl (J mN (aF rfl ?_));have mI:(aC s (bk+1) [43]||aC s (bk+1) [45])=true:=by
   rw [bA gv,bA gv,Bool.or_eq_true,decide_eq_true_eq,decide_eq_true_eq]
   first | (left;exact dt (by rw [kR];rfl)) | (right;exact dt (by rw [oL];rfl))
  have zl:bk+2≤s.length:=(List.getElem?_eq_some_iff.1 gv).1;obtain⟨bZ,gW⟩:∃ bZ,bZ=bk+2:=⟨_,rfl⟩;have fl:bZ=if aC s (bk+1) [43]||aC s (bk+1) [45] then bk+2 else bk+1:=by rw [if_pos mI];exact gW
  refine bP (aG rfl (ag ((cE (n:=1) Tryz.underlying9 rfl rfl (by rw [List.length_drop];omega)).to (v':=S (s.drop (bk+2))) (by rw [List.drop_drop])) (aU rfl (J pg (ax fun oz=>?_)))));have jN:bZ≤s.length:=by omega
  rw [← gW];have kZ:=b' bx s bZ;have k0:ai bx s bZ≤s.length:=cw (by omega);refine bP (aG rfl (cQ (bE gH rfl) (ec _ s bZ bb jN) fun iw R=>?_));replace E:=E.then R;refine ak 5 rfl (J oz (ab fun q'=>ak 2 rfl (J q' ?_)));refine aK rfl (fun jb=>?_) (fun jb=>?_)
  ·have bD:ai bx s bZ=bZ:=by omega
   exact ab fun yG=>aU rfl (J yG (ba (aR (by simp) (ar rfl rfl ⟨by rw [eo ay he cI aq c8 e1 fl bD],E⟩))))
  have bD:¬ ai bx s bZ=bZ:=by omega
  exact b8 (au ky (ab fun yH=>aG rfl (ag (dG rfl rfl) (aU rfl (J yH (ba (ar rfl rfl ⟨by first | (rw [df ay he cI aq c8 e1 fl bD];exact congrArg Value.bool (decide_eq_decide.2 (drop_nil (by omega)))) | (rw [de ay he cI aq c8 e1];exact congrArg Value.bool (decide_eq_decide.2 (drop_nil (by omega)))),E⟩)))))))
 skip
 refine ax fun b1=>?_;have tO:Lib.trimPrefix (s.drop e) [46]=s.drop (e+1):=by
  unfold Lib.trimPrefix;rw [if_pos tM,List.drop_drop];rfl
 rw [tO];have QC:e+1≤s.length:=cY (t:=[46]) tM (by simp);have agA:=b' bx s (e+1);have QD:ai bx s (e+1)≤s.length:=cw (by omega);refine bP (aG rfl (cQ (bE gH rfl) (ec _ s (e+1) bb QC) fun iu R=>?_));replace E:=E.then R;refine ak 5 rfl (J b1 (ab fun cX=>ak 2 rfl (J cX ?_)));refine aK rfl (fun abZ=>?_) (fun abZ=>?_)
 ·have aS:ai bx s (e+1)=e+1:=by omega
  exact ab fun cb=>aU rfl (J cb (ba (aR (by simp) (ar rfl rfl ⟨by rw [xf ay he cI tM aS],E⟩))))
 have bn:¬ ai bx s (e+1)=e+1:=by omega
 have wi:ai bx s (e+1)≤s.length:=QD;have DA:aC s e [46]=true:=tM;obtain⟨bk,qJ⟩:∃ bk,bk=ai bx s (e+1):=⟨_,rfl⟩;rw [← qJ] at bn ⊢;have aq:¬ (aC s e [46]=true∧ai bx s (e+1)=e+1):=fun h=>bn (by rw [qJ];omega);have c8:bk=if aC s e [46] then ai bx s (e+1)else e:=by rw [if_pos DA];exact qJ
 refine b8 (au cD (ax fun cU=>ab fun dj=>aG rfl (ag (e3 rfl rfl) ?_)));refine da (fun kU:s.drop (bk)≠[]=>?_) (fun kU=>?_);rotate_left
 ·refine ak 6 rfl (J dj (aD rfl ?_));have e1:(aC s bk [101]||aC s bk [69])=false:=by
   first | (rw [bA jW,bA jW,bJ (fun h=>ae (.inl (by rw [h];rfl))),bJ (fun h=>ae (.inr (by rw [h];rfl)))];rfl) | (rw [bW (show s.length≤bk by have:=Classical.not_not.1 kU;rw [drop_nil (by omega)] at this;omega) (by simp),bW (show s.length≤bk by have:=Classical.not_not.1 kU;rw [drop_nil (by omega)] at this;omega) (by simp)];rfl)
  exact b8 (au cU (ab fun mM=>aG rfl (ag (dG rfl rfl) (aU rfl (J mM (ba (ar rfl rfl ⟨by first | (rw [df ay he cI aq c8 e1 fl bD];exact congrArg Value.bool (decide_eq_decide.2 (drop_nil (by omega)))) | (rw [de ay he cI aq c8 e1];exact congrArg Value.bool (decide_eq_decide.2 (drop_nil (by omega)))),E⟩)))))))
 obtain⟨x,jW⟩:∃ x,s[bk]? = some x:=⟨_,List.getElem?_eq_getElem (by rw [Ne,drop_nil (by omega)] at kU;omega)⟩;refine ak 2 rfl ?_;refine aw ((b6 (c:=x) Tryz.underlying9 rfl rfl (by decide) (by rw [show((0:Int)).toNat=0 from rfl,List.getElem?_drop,Nat.add_zero];exact jW))) ?_;refine aw (pw rfl rfl) (aw (lS rfl rfl) ?_)
 by_cases ae:(x.toNat=101∨x.toNat=69)
 rotate_left
 ·refine iD (bJ (fun h=>ae ((pt x.toNat (UInt8.toNat_lt x)).1 h))) (ag (lT rfl rfl rfl) (J dj (aD rfl ?_)));have e1:(aC s bk [101]||aC s bk [69])=false:=by
   first | (rw [bA jW,bA jW,bJ (fun h=>ae (.inl (by rw [h];rfl))),bJ (fun h=>ae (.inr (by rw [h];rfl)))];rfl) | (rw [bW (show s.length≤bk by have:=Classical.not_not.1 kU;rw [drop_nil (by omega)] at this;omega) (by simp),bW (show s.length≤bk by have:=Classical.not_not.1 kU;rw [drop_nil (by omega)] at this;omega) (by simp)];rfl)
  exact b8 (au cU (ab fun jQ=>aG rfl (ag (dG rfl rfl) (aU rfl (J jQ (ba (ar rfl rfl ⟨by first | (rw [df ay he cI aq c8 e1 fl bD];exact congrArg Value.bool (decide_eq_decide.2 (drop_nil (by omega)))) | (rw [de ay he cI aq c8 e1];exact congrArg Value.bool (decide_eq_decide.2 (drop_nil (by omega)))),E⟩)))))))
 refine iD (bd ((pt x.toNat (UInt8.toNat_lt x)).2 ae)) (ag (lT rfl rfl rfl) (J dj (aF rfl ?_)));have e1:(aC s bk [101]||aC s bk [69])=true:=by
  rw [bA jW,bA jW];rcases ae with h | h
  ·rw [bd (dt (by rw [h];rfl))];rfl
  rw [Bool.or_eq_true];right;exact bd (dt (by rw [h];rfl))
 have QE:bk+1≤s.length:=(List.getElem?_eq_some_iff.1 jW).1;refine ab fun dO=>aG rfl (ag ((cE (n:=1) Tryz.underlying9 rfl rfl (by rw [List.length_drop];omega)).to (v':=S (s.drop (bk+1))) (by rw [List.drop_drop])) (aU rfl (J dO (ax fun eH=>ab fun ee=>aG rfl (ag (e3 rfl rfl) ?_)))));refine da (fun lF:s.drop (bk+1)≠[]=>?_) (fun lF=>?_);rotate_left
 ·refine ak 10 rfl (J ee (aD rfl ?_));have mI:(aC s (bk+1) [43]||aC s (bk+1) [45])=false:=by
   first | (rw [bA gv,bA gv,bJ (fun h=>kR (by rw [h];rfl)),bJ (fun h=>oL (by rw [h];rfl))];rfl) | (rw [bW (show s.length≤bk+1 by have:=Classical.not_not.1 lF;rw [drop_nil (by omega)] at this;omega) (by simp),bW (show s.length≤bk+1 by have:=Classical.not_not.1 lF;rw [drop_nil (by omega)] at this;omega) (by simp)];rfl)
  obtain⟨bZ,gW⟩:∃ bZ,bZ=bk+1:=⟨_,rfl⟩;have fl:bZ=if aC s (bk+1) [43]||aC s (bk+1) [45] then bk+2 else bk+1:=by rw [if_neg (by rw [mI];simp)];exact gW
  refine b8 (au eH (ax fun la=>?_));have jN:bZ≤s.length:=by omega
  rw [← gW];have kZ:=b' bx s bZ;have k0:ai bx s bZ≤s.length:=cw (by omega);refine bP (aG rfl (cQ (bE gH rfl) (ec _ s bZ bb jN) fun oj R=>?_));replace E:=E.then R;refine ak 5 rfl (J la (ab fun jc=>ak 2 rfl (J jc ?_)));refine aK rfl (fun jb=>?_) (fun jb=>?_)
  ·have bD:ai bx s bZ=bZ:=by omega
   exact ab fun kx=>aU rfl (J kx (ba (aR (by simp) (ar rfl rfl ⟨by rw [eo ay he cI aq c8 e1 fl bD],E⟩))))
  have bD:¬ ai bx s bZ=bZ:=by omega
  exact b8 (au cU (ab fun lb=>aG rfl (ag (dG rfl rfl) (aU rfl (J lb (ba (ar rfl rfl ⟨by first | (rw [df ay he cI aq c8 e1 fl bD];exact congrArg Value.bool (decide_eq_decide.2 (drop_nil (by omega)))) | (rw [de ay he cI aq c8 e1];exact congrArg Value.bool (decide_eq_decide.2 (drop_nil (by omega)))),E⟩)))))))
 obtain⟨y,gv⟩:∃ x,s[bk+1]? = some x:=⟨_,List.getElem?_eq_getElem (by rw [Ne,drop_nil (by omega)] at lF;omega)⟩;refine ak 2 rfl ?_;refine aw ((b6 (c:=y) Tryz.underlying9 rfl rfl (by decide) (by rw [show((0:Int)).toNat=0 from rfl,List.getElem?_drop,Nat.add_zero];exact gv))) ?_;refine aw (lS rfl rfl) ?_;refine da (fun kR:(y.toNat:Int)=43=>?_) (fun kR=>?_)
 ·refine ak 6 rfl (J ee (aF rfl ?_));have mI:(aC s (bk+1) [43]||aC s (bk+1) [45])=true:=by
   rw [bA gv,bA gv,Bool.or_eq_true,decide_eq_true_eq,decide_eq_true_eq]
   first | (left;exact dt (by rw [kR];rfl)) | (right;exact dt (by rw [oL];rfl))
  have zl:bk+2≤s.length:=(List.getElem?_eq_some_iff.1 gv).1;obtain⟨bZ,gW⟩:∃ bZ,bZ=bk+2:=⟨_,rfl⟩;have fl:bZ=if aC s (bk+1) [43]||aC s (bk+1) [45] then bk+2 else bk+1:=by rw [if_pos mI];exact gW
  refine bP (aG rfl (ag ((cE (n:=1) Tryz.underlying9 rfl rfl (by rw [List.length_drop];omega)).to (v':=S (s.drop (bk+2))) (by rw [List.drop_drop])) (aU rfl (J eH (ax fun fE=>?_)))));have jN:bZ≤s.length:=by omega
  rw [← gW];have kZ:=b' bx s bZ;have k0:ai bx s bZ≤s.length:=cw (by omega);refine bP (aG rfl (cQ (bE gH rfl) (ec _ s bZ bb jN) fun js R=>?_));replace E:=E.then R;refine ak 5 rfl (J fE (ab fun fT=>ak 2 rfl (J fT ?_)));refine aK rfl (fun jb=>?_) (fun jb=>?_)
  ·have bD:ai bx s bZ=bZ:=by omega
   exact ab fun fF=>aU rfl (J fF (ba (aR (by simp) (ar rfl rfl ⟨by rw [eo ay he cI aq c8 e1 fl bD],E⟩))))
  have bD:¬ ai bx s bZ=bZ:=by omega
  exact b8 (au cU (ab fun fG=>aG rfl (ag (dG rfl rfl) (aU rfl (J fG (ba (ar rfl rfl ⟨by first | (rw [df ay he cI aq c8 e1 fl bD];exact congrArg Value.bool (decide_eq_decide.2 (drop_nil (by omega)))) | (rw [de ay he cI aq c8 e1];exact congrArg Value.bool (decide_eq_decide.2 (drop_nil (by omega)))),E⟩)))))))
 refine ak 2 rfl ?_;refine aw ((b6 (c:=y) Tryz.underlying9 rfl rfl (by decide) (by rw [show((0:Int)).toNat=0 from rfl,List.getElem?_drop,Nat.add_zero];exact gv))) ?_;refine aw (lS rfl rfl) ?_;refine da (fun oL:(y.toNat:Int)=45=>?_) (fun oL=>?_);rotate_left
 ·refine ak 2 rfl (J ee (aD rfl ?_));have mI:(aC s (bk+1) [43]||aC s (bk+1) [45])=false:=by
   first | (rw [bA gv,bA gv,bJ (fun h=>kR (by rw [h];rfl)),bJ (fun h=>oL (by rw [h];rfl))];rfl) | (rw [bW (show s.length≤bk+1 by have:=Classical.not_not.1 lF;rw [drop_nil (by omega)] at this;omega) (by simp),bW (show s.length≤bk+1 by have:=Classical.not_not.1 lF;rw [drop_nil (by omega)] at this;omega) (by simp)];rfl)
  obtain⟨bZ,gW⟩:∃ bZ,bZ=bk+1:=⟨_,rfl⟩;have fl:bZ=if aC s (bk+1) [43]||aC s (bk+1) [45] then bk+2 else bk+1:=by rw [if_neg (by rw [mI];simp)];exact gW
  refine b8 (au eH (ax fun hB=>?_));have jN:bZ≤s.length:=by omega
  rw [← gW];have kZ:=b' bx s bZ;have k0:ai bx s bZ≤s.length:=cw (by omega);refine bP (aG rfl (cQ (bE gH rfl) (ec _ s bZ bb jN) fun iv R=>?_));replace E:=E.then R;refine ak 5 rfl (J hB (ab fun ie=>ak 2 rfl (J ie ?_)));refine aK rfl (fun jb=>?_) (fun jb=>?_)
  ·have bD:ai bx s bZ=bZ:=by omega
   exact ab fun jO=>aU rfl (J jO (ba (aR (by simp) (ar rfl rfl ⟨by rw [eo ay he cI aq c8 e1 fl bD],E⟩))))
  have bD:¬ ai bx s bZ=bZ:=by omega
  exact b8 (au cU (ab fun jP=>aG rfl (ag (dG rfl rfl) (aU rfl (J jP (ba (ar rfl rfl ⟨by first | (rw [df ay he cI aq c8 e1 fl bD];exact congrArg Value.bool (decide_eq_decide.2 (drop_nil (by omega)))) | (rw [de ay he cI aq c8 e1];exact congrArg Value.bool (decide_eq_decide.2 (drop_nil (by omega)))),E⟩)))))))
 refine ak 2 rfl (J ee (aF rfl ?_));have mI:(aC s (bk+1) [43]||aC s (bk+1) [45])=true:=by
  rw [bA gv,bA gv,Bool.or_eq_true,decide_eq_true_eq,decide_eq_true_eq]
  first | (left;exact dt (by rw [kR];rfl)) | (right;exact dt (by rw [oL];rfl))
 have zl:bk+2≤s.length:=(List.getElem?_eq_some_iff.1 gv).1;obtain⟨bZ,gW⟩:∃ bZ,bZ=bk+2:=⟨_,rfl⟩;have fl:bZ=if aC s (bk+1) [43]||aC s (bk+1) [45] then bk+2 else bk+1:=by rw [if_pos mI];exact gW
 refine bP (aG rfl (ag ((cE (n:=1) Tryz.underlying9 rfl rfl (by rw [List.length_drop];omega)).to (v':=S (s.drop (bk+2))) (by rw [List.drop_drop])) (aU rfl (J eH (ax fun gU=>?_)))));have jN:bZ≤s.length:=by omega
 rw [← gW];have kZ:=b' bx s bZ;have k0:ai bx s bZ≤s.length:=cw (by omega);refine bP (aG rfl (cQ (bE gH rfl) (ec _ s bZ bb jN) fun jD R=>?_));replace E:=E.then R;refine ak 5 rfl (J gU (ab fun hg=>ak 2 rfl (J hg ?_)));refine aK rfl (fun jb=>?_) (fun jb=>?_)
 ·have bD:ai bx s bZ=bZ:=by omega
  exact ab fun hA=>aU rfl (J hA (ba (aR (by simp) (ar rfl rfl ⟨by rw [eo ay he cI aq c8 e1 fl bD],E⟩))))
 have bD:¬ ai bx s bZ=bZ:=by omega
 exact b8 (au cU (ab fun hh=>aG rfl (ag (dG rfl rfl) (aU rfl (J hh (ba (ar rfl rfl ⟨by first | (rw [df ay he cI aq c8 e1 fl bD];exact congrArg Value.bool (decide_eq_decide.2 (drop_nil (by omega)))) | (rw [de ay he cI aq c8 e1];exact congrArg Value.bool (decide_eq_decide.2 (drop_nil (by omega)))),E⟩)))))))
set_option maxRecDepth 10000
theorem kM:Tryz.prog.underlying 176=some (.interface (Tryz.prog.methodsAt 176)):=by kernel_rfl
theorem KS:aP Tryz.prog 156:=aP.of Tryz.func156 (by kernel_rfl) (by kernel_rfl)
theorem KT:aP Tryz.prog 181:=aP.of Tryz.func181 (by kernel_rfl) (by kernel_rfl)
theorem wj:aP Tryz.prog 30:=aP.of Tryz.func30 (by kernel_rfl) (by kernel_rfl)
theorem ID (w:World) (g:Nat) (s:aa) (k:Nat) (sk:Value) (B:aE w g 75 [S s,.int .i64 (k:Int),sk]) (bb:s.length≤65536) (hk:k≤s.length) (e1:Env w) (dv:MK<g):Calls Tryz.prog 149 [.pointer (some ⟨g,0,none⟩)].toArray w (My 124 [g] w (iL s k) (fun x u w'=>∃ us,u = .agg us.toArray∧(∀ (A:List Nat) (w:World),ao A w x.1.D us)∧aE w' g 75 [S s,.int .i64 (x.2:Int),sk])):=by
 refine enter Tryz.func149 rfl rfl rfl (l:=[(0,_)]) ⟨rfl,trivial⟩ ?_;have E:=Mod.refl [g] w;refine ab fun aV=>bp cA rfl fun g1 aB bT=>?_;have bI:=bT.le E;have k1:=bT.ne B;replace B:=B.I bT.mod;replace E:=E.then bT.mod;have U:=bT.aA;refine J aV (ax fun aL=>?_);have bY:g1≠g:=Ne.symm k1;have IE:=bI;refine bP (ak 2 rfl (ag (av c6 rfl) (ag (bg dN rfl (B.cell rfl)) (aU rfl (J aL (ax fun aX=>eE (bX (σ:=Nat) (fun p=>[(0,.pointer (some ⟨g,0,none⟩)),(2,.pointer (some ⟨g1,0,none⟩)),(3,.int .i64 (k:Int))]) (fun p aB=>(k≤p∧p≤s.length∧ai eJ s p=ai eJ s k)∧aE aB g1 25 [.int .i64 0,.bool false,.int .i64 0,S [],.slice none 0 0,.slice none 0 0]∧aE aB g 75 [S s,.int .i64 (p:Int),sk]∧Mod [g] w aB) (fun p=>s.length-p) (k) ⟨rfl,rfl,rfl,trivial⟩ (⟨⟨Nat.le_refl _,hk,rfl⟩,U,B,E⟩) ?_)))))));rintro p cO ⟨⟨akW,cn,za⟩,U,B,E⟩;refine ax fun bt=>ax fun bN=>?_
 by_cases bH:(p:Int)<(s.length:Int)
 rotate_left
 ·refine bQ wide (by kernel_rfl) (f' 2 rfl rfl (aj (fun R=>(av c6 rfl)) (aj (fun R=>(bg dN rfl ((B.I R).cell rfl))) (f' 2 rfl rfl (aj (fun R=>(av fo rfl)) (aj (fun R=>(bg bB rfl ((B.I R).cell rfl))) (aj (fun R=>(br Tryz.underlying9 rfl)) (f' 2 rfl rfl (eF rfl (bJ bH) (eF rfl (bJ bH) (eF rfl (bJ bH) (eF rfl (bJ bH) (eF rfl (bJ bH) ?_)))))))))))));refine eF rfl (bJ bH) (eF rfl (bJ bH) (eF rfl (bJ bH) (eF rfl (bJ bH) (eF rfl (bJ bH) (eF rfl (bJ bH) (aj (fun R=>(jA (bJ bH) rfl rfl)) (bS rfl fun rQ R=>?_)))))));replace B:=B.I R;replace U:=U.I R;replace E:=E.then R;refine au bN (aD rfl ?_);have tO:p=ai eJ s k:=by
   rw [← za]
   first | exact(kW (by omega)).symm | exact(lj bh nT).symm
  refine bo (aR (by simp) (aR (by simp) (bU (au aX (ax fun cX=>?_)))));have ML:((s.drop k).take (ai eJ s k-k)).length≤1000000:=by rw [List.length_take,List.length_drop];omega
  refine bQ wide (by kernel_rfl) (f' 2 rfl rfl (aj (fun R=>(av fo rfl)) (aj (fun R=>(bg bB rfl ((B.I R).cell rfl))) (f' 3 rfl rfl (aj (fun R=>(av c6 rfl)) (aj (fun R=>(bg dN rfl ((B.I R).cell rfl))) (aj (fun R=>((yZ Tryz.underlying9 rfl rfl rfl (by simp only [hU,iz];omega)).to (v':=S ((s.drop k).take (ai eJ s k-k))) (by simp only [hU,iz,Int.toNat_natCast];rw [tO]))) (aj (fun R=>(cq rfl)) (bS rfl fun xB R=>?_)))))))));replace B:=B.I R;replace U:=U.I R;replace E:=E.then R;refine au cX (ab fun cb=>aG rfl (fv (bE KS rfl) (Kv _ ((s.drop k).take (ai eJ s k-k)) ML (e1.oK dv E).err) rfl fun cK yK az=>?_));obtain⟨n,akX,rfl,IF,R⟩:=az;replace B:=B.I R;replace U:=U.I R;replace E:=E.then R;refine ak 5 rfl (J cb (ax fun cU=>eE (ab fun dj=>aG rfl (cQ (bE KT rfl) (FU _ ((s.drop k).take (ai eJ s k-k)) ML) fun Fb R=>?_))));replace B:=B.I R;replace U:=U.I R;replace E:=E.then R;refine ak 2 rfl (J dj ?_);refine a1 rfl (fun zm=>?_) (fun zm=>?_)
  ·have tQ:(gF ((s.drop k).take (ai eJ s k-k))).1=false:=by simpa using zm
   refine bP ?_;refine fP (bE gf rfl) (eT _ 4) rfl (fun cH az=>az.elim) (fun lV AW az=>?_) fun cK AW az=>?_
   ·obtain⟨rfl,rfl⟩:=az;exact bz (by simp) (aR (by simp) (ea ⟨4,by unfold iL h4;rw [if_pos tQ];rfl,by decide,rfl,E⟩))
   exact az.elim
  have tQ:¬ (gF ((s.drop k).take (ai eJ s k-k))).1=false:=by simpa using zm
  refine ax fun dO=>?_
  by_cases uv:akX = .nilIface
  rotate_left
  ·obtain⟨ku,⟨akY,akZ,rfl⟩,_⟩:=IF.resolve_left (fun h=>uv h.2);refine bP (aG rfl (ag ((QG kM rfl)) (ak 15 rfl (J dO (aF rfl ?_)))));have nu:h4 ((s.drop k).take (ai eJ s k-k)) = .error 7:=by
    unfold h4;rw [if_neg tQ]
    first | rw [mU ku] | (rw [kE s3,if_neg (by rintro⟨h1,aq,aT⟩;first | exact iC h1 | omega)])
   refine bP ?_;refine fP (bE gf rfl) (eT _ 7) rfl (fun cH az=>az.elim) (fun lV L' az=>?_) fun cK L' az=>?_
   ·obtain⟨rfl,rfl⟩:=az;exact bz (by simp) (aR (by simp) (ea ⟨7,by unfold iL;rw [nu];rfl,by decide,rfl,E⟩))
   exact az.elim
  obtain s3:Lib.atoiAll ((s.drop k).take (ai eJ s k-k)) = .ok n:=IF.elim (·.1) (fun h=>by obtain⟨_,⟨akY,akZ,e⟩,_⟩:=h;rw [uv] at e;cases e);obtain⟨cI,gP⟩:=xd s3;subst uv
  by_cases iC:Lib.itoa n≠((s.drop k).take (ai eJ s k-k))
  ·refine bP (aG rfl (ag ((r0 kM rfl)) (ak 2 rfl (fC (bE mz rfl) (mA _ n cI gP (e1.oK dv E).xI) fun Wj R=>?_))));replace B:=B.I R;replace U:=U.I R;replace E:=E.then R;refine aw (d' rfl) (aw (e3 rfl rfl) (ak 2 rfl (aah rfl (bd iC) (aah rfl (bd iC) (ag (lT (bd iC) rfl rfl) (ak 5 rfl (J dO (aF rfl ?_))))))));have nu:h4 ((s.drop k).take (ai eJ s k-k)) = .error 7:=by
    unfold h4;rw [if_neg tQ]
    first | rw [mU ku] | (rw [kE s3,if_neg (by rintro⟨h1,aq,aT⟩;first | exact iC h1 | omega)])
   refine bP ?_;refine fP (bE gf rfl) (eT _ 7) rfl (fun cH az=>az.elim) (fun lV Ie az=>?_) fun cK Ie az=>?_
   ·obtain⟨rfl,rfl⟩:=az;exact bz (by simp) (aR (by simp) (ea ⟨7,by unfold iL;rw [nu];rfl,by decide,rfl,E⟩))
   exact az.elim
  by_cases nQ:n > 9007199254740991
  ·refine bP (aG rfl (ag ((r0 kM rfl)) (ak 2 rfl (fC (bE mz rfl) (mA _ n cI gP (e1.oK dv E).xI) fun Wk R=>?_))));replace B:=B.I R;replace U:=U.I R;replace E:=E.then R;refine aw (d' rfl) (aw (e3 rfl rfl) (ak 2 rfl (B4 rfl (bJ iC) (d' rfl) (B4 rfl (bJ iC) (gq rfl rfl) (ag (jA (bJ iC) rfl rfl) (aG rfl (aah rfl (bd nQ) (aah rfl (bd nQ) (ag (lT (bd nQ) rfl rfl) (aU rfl (J dO (aF rfl ?_))))))))))));have nu:h4 ((s.drop k).take (ai eJ s k-k)) = .error 7:=by
    unfold h4;rw [if_neg tQ]
    first | rw [mU ku] | (rw [kE s3,if_neg (by rintro⟨h1,aq,aT⟩;first | exact iC h1 | omega)])
   refine bP ?_;refine fP (bE gf rfl) (eT _ 7) rfl (fun cH az=>az.elim) (fun lV L8 az=>?_) fun cK L8 az=>?_
   ·obtain⟨rfl,rfl⟩:=az;exact bz (by simp) (aR (by simp) (ea ⟨7,by unfold iL;rw [nu];rfl,by decide,rfl,E⟩))
   exact az.elim
  by_cases HX:n < -9007199254740991
  ·refine bP (aG rfl (ag ((r0 kM rfl)) (ak 2 rfl (fC (bE mz rfl) (mA _ n cI gP (e1.oK dv E).xI) fun O0 R=>?_))));replace B:=B.I R;replace U:=U.I R;replace E:=E.then R;refine aw (d' rfl) (aw (e3 rfl rfl) (ak 2 rfl (B4 rfl (bJ iC) (d' rfl) (B4 rfl (bJ iC) (gq rfl rfl) (ag (jA (bJ iC) rfl rfl) (aG rfl (B4 rfl (bJ nQ) (d' rfl) (B4 rfl (bJ nQ) (cL rfl rfl) (ag (jA (bJ nQ) rfl rfl) (aU rfl (J dO ?_)))))))))));refine aK rfl (fun rp=>?_) (fun rp=>absurd HX rp);have nu:h4 ((s.drop k).take (ai eJ s k-k)) = .error 7:=by
    unfold h4;rw [if_neg tQ]
    first | rw [mU ku] | (rw [kE s3,if_neg (by rintro⟨h1,aq,aT⟩;first | exact iC h1 | omega)])
   refine bP ?_;refine fP (bE gf rfl) (eT _ 7) rfl (fun cH az=>az.elim) (fun lV L9 az=>?_) fun cK L9 az=>?_
   ·obtain⟨rfl,rfl⟩:=az;exact bz (by simp) (aR (by simp) (ea ⟨7,by unfold iL;rw [nu];rfl,by decide,rfl,E⟩))
   exact az.elim
  refine bP (aG rfl (ag ((r0 kM rfl)) (ak 2 rfl (fC (bE mz rfl) (mA _ n cI gP (e1.oK dv E).xI) fun O1 R=>?_))));replace B:=B.I R;replace U:=U.I R;replace E:=E.then R;refine aw (d' rfl) (aw (e3 rfl rfl) (ak 2 rfl (B4 rfl (bJ iC) (d' rfl) (B4 rfl (bJ iC) (gq rfl rfl) (ag (jA (bJ iC) rfl rfl) (aG rfl (B4 rfl (bJ nQ) (d' rfl) (B4 rfl (bJ nQ) (cL rfl rfl) (ag (jA (bJ nQ) rfl rfl) (aU rfl (J dO (aK rfl (fun rp=>absurd rp HX) (fun rp=>?_)))))))))))));have nu:h4 ((s.drop k).take (ai eJ s k-k)) = .ok n:=by
   unfold h4;rw [if_neg tQ,kE s3,if_pos ⟨Classical.not_not.1 iC,by omega,by omega⟩]
  refine b8 (bz (by simp) (au cU (ab fun eH=>aG rfl (cQ (bE DB rfl) (x5 _ n) fun O3 R=>?_))));replace B:=B.I R;replace U:=U.I R;replace E:=E.then R;refine bm (vs:=[_,_,_,_,_,_]) aJ U rfl rfl rfl (by simp [Value.oneCell']) (by simp) fun Fi acb=>?_;replace B:=B.ne acb.mod (Ne.symm bY);replace E:=E.own acb.mod IE;replace U:aE Fi g1 _ [_,_,_,_,_,_]:=acb.aA;exact J eH (ba (IG (vs:=[_,_,_,_,_,_]) rfl aJ rfl rfl (U.cs rfl) ⟨(JV.hl n,ai eJ s k),by unfold iL;rw [nu];rfl,⟨_,rfl,fun A w=>JV.n2,by rw [← tO];exact B⟩,E⟩))
 obtain⟨c,bh⟩:∃ c,s[p]? = some c:=⟨_,List.getElem?_eq_getElem (by omega)⟩;rcases nT:eJ c with _ | _
 rotate_left
 ·refine bQ wide (by kernel_rfl) (f' 2 rfl rfl (aj (fun R=>(av c6 rfl)) (aj (fun R=>(bg dN rfl ((B.I R).cell rfl))) (f' 2 rfl rfl (aj (fun R=>(av fo rfl)) (aj (fun R=>(bg bB rfl ((B.I R).cell rfl))) (aj (fun R=>(br Tryz.underlying9 rfl)) (f' 2 rfl rfl (aM (bd bH) (fun R=>(d' rfl)) (aM (bd bH) (fun R=>(eb rfl)) (aM (bd bH) (fun R=>(av fo rfl)) (aM (bd bH) (fun R=>(bg bB rfl ((B.I R).cell rfl))) (aM (bd bH) (fun R=>(d' rfl)) ?_)))))))))))));refine aM (bd bH) (fun R=>(eb rfl)) (aM (bd bH) (fun R=>(av c6 rfl)) (aM (bd bH) (fun R=>(bg dN rfl ((B.I R).cell rfl))) (aM (bd bH) (fun R=>(b6 Tryz.underlying9 rfl rfl (by omega) (by rw [Int.toNat_natCast];exact bh))) (EI rfl (bd bH) (fun cH R=>bE sC rfl) (fun cH R=>BJ _ [43,45,46,48,49,50,51,52,53,54,55,56,57,69,101] c) rfl rfl (aM (bd bH) (fun R=>(dq rfl rfl)) (aj (fun R=>(lT (bd bH) rfl rfl)) (bS rfl fun tx R=>?_)))))));replace B:=B.I R;replace U:=U.I R;replace E:=E.then R;refine au bN ?_;refine a1 rfl (fun sR=>?_) (fun sR=>absurd (((KN c).trans nT).symm.trans sR) (by decide))
  skip
  refine b8 (au bt (eE (bP (ak 2 rfl (ag (av c6 rfl) (ag (bg dN rfl (B.cell rfl)) (ag (cS (r:=((p+1:Nat):Int)) rfl rfl (by rw [wrap64_in _ (by omega)];omega)) (ag (eb rfl) (ag (av c6 rfl) (dZ dN B rfl rfl rfl (by simp) fun tz s4=>?_))))))))));replace U:=U.ne s4.mod bY;replace E:=E.trans s4.mod;replace B:aE tz g _ [_,_,_]:=s4.aA;exact cF (bz (by simp) (fK (σ:=Nat) (s:=p) (p+1) ⟨rfl,rfl,rfl,trivial⟩ ⟨⟨by omega,by omega,by rw [vZ bh nT];exact za⟩,U,B,E⟩ (by omega)))
 refine bQ wide (by kernel_rfl) (f' 2 rfl rfl (aj (fun R=>(av c6 rfl)) (aj (fun R=>(bg dN rfl ((B.I R).cell rfl))) (f' 2 rfl rfl (aj (fun R=>(av fo rfl)) (aj (fun R=>(bg bB rfl ((B.I R).cell rfl))) (aj (fun R=>(br Tryz.underlying9 rfl)) (f' 2 rfl rfl (aM (bd bH) (fun R=>(d' rfl)) (aM (bd bH) (fun R=>(eb rfl)) (aM (bd bH) (fun R=>(av fo rfl)) (aM (bd bH) (fun R=>(bg bB rfl ((B.I R).cell rfl))) (aM (bd bH) (fun R=>(d' rfl)) ?_)))))))))))));refine aM (bd bH) (fun R=>(eb rfl)) (aM (bd bH) (fun R=>(av c6 rfl)) (aM (bd bH) (fun R=>(bg dN rfl ((B.I R).cell rfl))) (aM (bd bH) (fun R=>(b6 Tryz.underlying9 rfl rfl (by omega) (by rw [Int.toNat_natCast];exact bh))) (EI rfl (bd bH) (fun cH R=>bE sC rfl) (fun cH R=>BJ _ [43,45,46,48,49,50,51,52,53,54,55,56,57,69,101] c) rfl rfl (aM (bd bH) (fun R=>(dq rfl rfl)) (aj (fun R=>(lT (bd bH) rfl rfl)) (bS rfl fun gb R=>?_)))))));replace B:=B.I R;replace U:=U.I R;replace E:=E.then R;refine au bN (a1 rfl (fun sR=>absurd (((KN c).trans nT).symm.trans sR) (by decide)) (fun sR=>?_));have tO:p=ai eJ s k:=by
  rw [← za]
  first | exact(kW (by omega)).symm | exact(lj bh nT).symm
 refine bo (aR (by simp) (aR (by simp) (bU (au aX (ax fun b2=>?_)))));have ML:((s.drop k).take (ai eJ s k-k)).length≤1000000:=by rw [List.length_take,List.length_drop];omega
 refine bQ wide (by kernel_rfl) (f' 2 rfl rfl (aj (fun R=>(av fo rfl)) (aj (fun R=>(bg bB rfl ((B.I R).cell rfl))) (f' 3 rfl rfl (aj (fun R=>(av c6 rfl)) (aj (fun R=>(bg dN rfl ((B.I R).cell rfl))) (aj (fun R=>((yZ Tryz.underlying9 rfl rfl rfl (by simp only [hU,iz];omega)).to (v':=S ((s.drop k).take (ai eJ s k-k))) (by simp only [hU,iz,Int.toNat_natCast];rw [tO]))) (aj (fun R=>(cq rfl)) (bS rfl fun iu R=>?_)))))))));replace B:=B.I R;replace U:=U.I R;replace E:=E.then R;refine au b2 (ab fun cd=>aG rfl (fv (bE KS rfl) (Kv _ ((s.drop k).take (ai eJ s k-k)) ML (e1.oK dv E).err) rfl fun cK js az=>?_));obtain⟨n,akX,rfl,IF,R⟩:=az;replace B:=B.I R;replace U:=U.I R;replace E:=E.then R;refine ak 5 rfl (J cd (ax fun cD=>eE (ab fun cJ=>aG rfl (cQ (bE KT rfl) (FU _ ((s.drop k).take (ai eJ s k-k)) ML) fun jD R=>?_))));replace B:=B.I R;replace U:=U.I R;replace E:=E.then R;refine ak 2 rfl (J cJ ?_);refine a1 rfl (fun zm=>?_) (fun zm=>?_)
 ·have tQ:(gF ((s.drop k).take (ai eJ s k-k))).1=false:=by simpa using zm
  refine bP ?_;refine fP (bE gf rfl) (eT _ 4) rfl (fun cH az=>az.elim) (fun lV iv az=>?_) fun cK iv az=>?_
  ·obtain⟨rfl,rfl⟩:=az;exact bz (by simp) (aR (by simp) (ea ⟨4,by unfold iL h4;rw [if_pos tQ];rfl,by decide,rfl,E⟩))
  exact az.elim
 have tQ:¬ (gF ((s.drop k).take (ai eJ s k-k))).1=false:=by simpa using zm
 refine ax fun cf=>?_
 by_cases uv:akX = .nilIface
 rotate_left
 ·obtain⟨ku,⟨akY,akZ,rfl⟩,_⟩:=IF.resolve_left (fun h=>uv h.2);refine bP (aG rfl (ag ((QG kM rfl)) (ak 15 rfl (J cf (aF rfl ?_)))));have nu:h4 ((s.drop k).take (ai eJ s k-k)) = .error 7:=by
   unfold h4;rw [if_neg tQ]
   first | rw [mU ku] | (rw [kE s3,if_neg (by rintro⟨h1,aq,aT⟩;first | exact iC h1 | omega)])
  refine bP ?_;refine fP (bE gf rfl) (eT _ 7) rfl (fun cH az=>az.elim) (fun lV ux az=>?_) fun cK ux az=>?_
  ·obtain⟨rfl,rfl⟩:=az;exact bz (by simp) (aR (by simp) (ea ⟨7,by unfold iL;rw [nu];rfl,by decide,rfl,E⟩))
  exact az.elim
 obtain s3:Lib.atoiAll ((s.drop k).take (ai eJ s k-k)) = .ok n:=IF.elim (·.1) (fun h=>by obtain⟨_,⟨akY,akZ,e⟩,_⟩:=h;rw [uv] at e;cases e);obtain⟨cI,gP⟩:=xd s3;subst uv
 by_cases iC:Lib.itoa n≠((s.drop k).take (ai eJ s k-k))
 ·refine bP (aG rfl (ag ((r0 kM rfl)) (ak 2 rfl (fC (bE mz rfl) (mA _ n cI gP (e1.oK dv E).xI) fun oj R=>?_))));replace B:=B.I R;replace U:=U.I R;replace E:=E.then R;refine aw (d' rfl) (aw (e3 rfl rfl) (ak 2 rfl (aah rfl (bd iC) (aah rfl (bd iC) (ag (lT (bd iC) rfl rfl) (ak 5 rfl (J cf (aF rfl ?_))))))));have nu:h4 ((s.drop k).take (ai eJ s k-k)) = .error 7:=by
   unfold h4;rw [if_neg tQ]
   first | rw [mU ku] | (rw [kE s3,if_neg (by rintro⟨h1,aq,aT⟩;first | exact iC h1 | omega)])
  refine bP ?_;refine fP (bE gf rfl) (eT _ 7) rfl (fun cH az=>az.elim) (fun lV l1 az=>?_) fun cK l1 az=>?_
  ·obtain⟨rfl,rfl⟩:=az;exact bz (by simp) (aR (by simp) (ea ⟨7,by unfold iL;rw [nu];rfl,by decide,rfl,E⟩))
  exact az.elim
 by_cases nQ:n > 9007199254740991
 ·refine bP (aG rfl (ag ((r0 kM rfl)) (ak 2 rfl (fC (bE mz rfl) (mA _ n cI gP (e1.oK dv E).xI) fun iw R=>?_))));replace B:=B.I R;replace U:=U.I R;replace E:=E.then R;refine aw (d' rfl) (aw (e3 rfl rfl) (ak 2 rfl (B4 rfl (bJ iC) (d' rfl) (B4 rfl (bJ iC) (gq rfl rfl) (ag (jA (bJ iC) rfl rfl) (aG rfl (aah rfl (bd nQ) (aah rfl (bd nQ) (ag (lT (bd nQ) rfl rfl) (aU rfl (J cf (aF rfl ?_))))))))))));have nu:h4 ((s.drop k).take (ai eJ s k-k)) = .error 7:=by
   unfold h4;rw [if_neg tQ]
   first | rw [mU ku] | (rw [kE s3,if_neg (by rintro⟨h1,aq,aT⟩;first | exact iC h1 | omega)])
  refine bP ?_;refine fP (bE gf rfl) (eT _ 7) rfl (fun cH az=>az.elim) (fun lV kl az=>?_) fun cK kl az=>?_
  ·obtain⟨rfl,rfl⟩:=az;exact bz (by simp) (aR (by simp) (ea ⟨7,by unfold iL;rw [nu];rfl,by decide,rfl,E⟩))
  exact az.elim
 by_cases HX:n < -9007199254740991
 ·refine bP (aG rfl (ag ((r0 kM rfl)) (ak 2 rfl (fC (bE mz rfl) (mA _ n cI gP (e1.oK dv E).xI) fun p3 R=>?_))));replace B:=B.I R;replace U:=U.I R;replace E:=E.then R;refine aw (d' rfl) (aw (e3 rfl rfl) (ak 2 rfl (B4 rfl (bJ iC) (d' rfl) (B4 rfl (bJ iC) (gq rfl rfl) (ag (jA (bJ iC) rfl rfl) (aG rfl (B4 rfl (bJ nQ) (d' rfl) (B4 rfl (bJ nQ) (cL rfl rfl) (ag (jA (bJ nQ) rfl rfl) (aU rfl (J cf ?_)))))))))));refine aK rfl (fun rp=>?_) (fun rp=>absurd HX rp);have nu:h4 ((s.drop k).take (ai eJ s k-k)) = .error 7:=by
   unfold h4;rw [if_neg tQ]
   first | rw [mU ku] | (rw [kE s3,if_neg (by rintro⟨h1,aq,aT⟩;first | exact iC h1 | omega)])
  refine bP ?_;refine fP (bE gf rfl) (eT _ 7) rfl (fun cH az=>az.elim) (fun lV ov az=>?_) fun cK ov az=>?_
  ·obtain⟨rfl,rfl⟩:=az;exact bz (by simp) (aR (by simp) (ea ⟨7,by unfold iL;rw [nu];rfl,by decide,rfl,E⟩))
  exact az.elim
 refine bP (aG rfl (ag ((r0 kM rfl)) (ak 2 rfl (fC (bE mz rfl) (mA _ n cI gP (e1.oK dv E).xI) fun qB R=>?_))));replace B:=B.I R;replace U:=U.I R;replace E:=E.then R;refine aw (d' rfl) (aw (e3 rfl rfl) (ak 2 rfl (B4 rfl (bJ iC) (d' rfl) (B4 rfl (bJ iC) (gq rfl rfl) (ag (jA (bJ iC) rfl rfl) (aG rfl (B4 rfl (bJ nQ) (d' rfl) (B4 rfl (bJ nQ) (cL rfl rfl) (ag (jA (bJ nQ) rfl rfl) (aU rfl (J cf (aK rfl (fun rp=>absurd rp HX) (fun rp=>?_)))))))))))));have nu:h4 ((s.drop k).take (ai eJ s k-k)) = .ok n:=by
  unfold h4;rw [if_neg tQ,kE s3,if_pos ⟨Classical.not_not.1 iC,by omega,by omega⟩]
 refine b8 (bz (by simp) (au cD (ab fun b1=>aG rfl (cQ (bE DB rfl) (x5 _ n) fun p7 R=>?_))));replace B:=B.I R;replace U:=U.I R;replace E:=E.then R;refine bm (vs:=[_,_,_,_,_,_]) aJ U rfl rfl rfl (by simp [Value.oneCell']) (by simp) fun rn xJ=>?_;replace B:=B.ne xJ.mod (Ne.symm bY);replace E:=E.own xJ.mod IE;replace U:aE rn g1 _ [_,_,_,_,_,_]:=xJ.aA;exact J b1 (ba (IG (vs:=[_,_,_,_,_,_]) rfl aJ rfl rfl (U.cs rfl) ⟨(JV.hl n,ai eJ s k),by unfold iL;rw [nu];rfl,⟨_,rfl,fun A w=>JV.n2,by rw [← tO];exact B⟩,E⟩))
theorem qi (w:World) (x:Bool):Calls Tryz.prog 30 [.bool x].toArray w (bM fun u w'=>u = .agg #[.int .i64 1,.bool x,.int .i64 0,S [],.slice none 0 0,.slice none 0 0]∧Mod [] w w'):=by
 refine enter Tryz.func30 rfl rfl rfl (l:=[(0,_)]) ⟨rfl,trivial⟩ ?_;have E:=Mod.refl [] w;refine ab fun aV=>bp cA rfl fun g1 aB bT=>?_;have bI:=bT.le E;replace E:=E.then bT.mod;have U:=bT.aA;refine J aV (ab fun aL=>aG rfl (ag (a7 (cs:=[_,_,_,_,_,_]) gT cA rfl rfl) (bm (vs:=[_,_,_,_,_,_]) aJ U rfl rfl rfl (by simp [Value.oneCell']) (by simp) fun cO DC=>?_)));replace E:=E.own DC.mod bI;replace U:aE cO g1 _ [_,_,_,_,_,_]:=DC.aA;exact J aL (ba (kd (vs:=[_,_,_,_,_,_]) rfl aJ rfl rfl (U.cs rfl) ⟨rfl,E⟩))
def W3:List aa:=[JV.jS,JV.iT,JV.gE]
def V3:List JV:=[JV.gN,.mk 1 true 0 [] [] [],.mk 1 false 0 [] [] []]
/-- the word that stands at a place -/
def hq (s:aa) (k:Nat):Option (JV×Nat):=
 if aC s k JV.jS then some (JV.gN,k+4)else if aC s k JV.iT then some (.mk 1 true 0 [] [] [],k+4)else if aC s k JV.gE then some (.mk 1 false 0 [] [] [],k+5)else none
theorem JV.zn {A:List Nat} {w:World} {b:Bool}:ao A w (JV.mk 1 b 0 [] [] []).D [.int .i64 1,.bool b,.int .i64 0,S [],.slice none 0 0,.slice none 0 0]:=
 JV.cz (A:=A) (w:=w) (v:=.mk 1 b 0 [] [] []) (al:=none) (am:=none) (cl:=0) (cm:=0) a8.ej a8.ej
theorem FV (s x:aa) (k:Nat):decide (x.length≤(s.drop k).length∧(s.drop k).take x.length=x)=aC s k x:=oG x (s.drop k)
theorem WW (w:World) (g:Nat) (s:aa) (k:Nat) (sk:Value) (B:aE w g 75 [S s,.int .i64 (k:Int),sk]) (bb:s.length≤65536) (hk:k≤s.length):Calls Tryz.prog 146 [.pointer (some ⟨g,0,none⟩)].toArray w (bM fun u w'=>∃ us,u = .tuple #[.agg us.toArray,.bool (hq s k).isSome]∧((hq s k).isSome=true→∃ v q,hq s k=some (v,q)∧(∀ (A:List Nat) (w:World),ao A w v.D us)∧aE w' g 75 [S s,.int .i64 (q:Int),sk])∧((hq s k).isSome=false→hq s k=none∧us = [.int .i64 0,.bool false,.int .i64 0,S [],.slice none 0 0,.slice none 0 0]∧aE w' g 75 [S s,.int .i64 (k:Int),sk])∧Mod [g] w w'):=by
 refine enter Tryz.func146 rfl rfl rfl (l:=[(0,_)]) ⟨rfl,trivial⟩ ?_;have E:=Mod.refl [g] w;refine ab fun aV=>bp cA rfl fun g1 aB bT=>?_;have bI:=bT.le E;have k1:=bT.ne B;replace B:=B.I bT.mod;replace E:=E.then bT.mod;have U:=bT.aA;refine aU rfl (J aV (ax fun aL=>ax fun aX=>?_));have bY:g1≠g:=Ne.symm k1;have IE:=bI;refine bP (bC (cs:=[_,_,_]) kh IH rfl rfl rfl (by decide) rfl fun g2 cO cW=>?_);have b9:=cW.le E;have tR:=cW.ne B;have bR:=cW.ne U;replace B:=B.I cW.mod;replace U:=U.I cW.mod;replace E:=E.then cW.mod;have ah:=cW.aA;have QH:g2≠g:=Ne.symm tR;have KU:g1≠g2:=bR;have uR:=b9;refine ag (bs Tryz.underlying26 rfl) (aG rfl (J aX (eE (bX (σ:=Nat) (fun i=>[(0,.pointer (some ⟨g,0,none⟩)),(2,.pointer (some ⟨g1,0,none⟩)),(6,.slice (some ⟨g2,0,none⟩) 3 3),(7,.int .i64 3),(8,.int .i64 (i:Int))]) (fun i aB=>(i≤3∧∀ (j:Nat) (y:aa),j<i→W3[j]? = some y→aC s k y=false)∧aE aB g1 25 [.int .i64 0,.bool false,.int .i64 0,S [],.slice none 0 0,.slice none 0 0]∧aE aB g2 9 [S JV.jS,S JV.iT,S JV.gE]∧aE aB g 75 [S s,.int .i64 (k:Int),sk]∧Mod [g] w aB) (fun i=>3-i) (0) ⟨rfl,rfl,rfl,rfl,rfl,trivial⟩ (⟨⟨by omega,fun j y h=>by omega⟩,U,ah,B,E⟩) ?_))));rintro i gb ⟨⟨hi,II⟩,U,ah,B,E⟩;refine ab fun bt=>ag (cL rfl rfl) (J bt (ax fun bN=>?_));refine aK rfl (fun k9=>?_) (fun k9=>?_);rotate_left
 ·obtain rfl:i=3:=by omega
  have acf:hq s k=none:=by unfold hq;rw [if_neg (by rw [II 0 _ (by omega) rfl];simp),if_neg (by rw [II 1 _ (by omega) rfl];simp),if_neg (by rw [II 2 _ (by omega) rfl];simp)]
  refine bo (aR (by simp) (aR (by simp) (bU (au aL (ab fun cb=>ag (a7 (cs:=[_,_,_,_,_,_]) gT cA rfl rfl) (bm (vs:=[_,_,_,_,_,_]) aJ U rfl rfl rfl (by simp [Value.oneCell']) (by simp) fun rQ qL=>?_))))));replace B:=B.ne qL.mod (Ne.symm bY);replace ah:=ah.ne qL.mod (Ne.symm KU);replace E:=E.own qL.mod IE;replace U:aE rQ g1 _ [_,_,_,_,_,_]:=qL.aA;exact aU rfl (J cb (ba (jn (vs:=[_,_,_,_,_,_]) rfl aJ rfl rfl (U.cs rfl) rfl ⟨_,by rw [acf];rfl,⟨fun h=>(by rw [acf] at h;cases h),fun _=>⟨acf,rfl,B⟩,E⟩⟩)))
 obtain⟨x,ae⟩:∃ x,W3[i]? = some x:=⟨_,List.getElem?_eq_getElem (show i<3 by omega)⟩;refine b8 (au bN (ax fun b2=>eE (ab fun cd=>aG rfl (ag (ca kh rfl rfl (by omega)) ?_))));refine ag (bg bB rfl (by rw [Int.toNat_natCast,Addr.add_lit,Nat.zero_add,Nat.mul_one];exact ah.cell (v:=S x) (by rw [show([S JV.jS,S JV.iT,S JV.gE]:List Value)=W3.map S from rfl,List.getElem?_map,ae];rfl))) ?_;refine ak 2 rfl (J cd (ax fun cD=>bQ wide (by kernel_rfl) (f' 2 rfl rfl (aj (fun R=>(av fo rfl)) (aj (fun R=>(bg bB rfl ((B.I R).cell rfl))) (f' 2 rfl rfl (aj (fun R=>(av c6 rfl)) (aj (fun R=>(bg dN rfl ((B.I R).cell rfl))) (aj (fun R=>(cE Tryz.underlying9 rfl rfl hk)) (aj (fun R=>(d' rfl)) (AI (fun cH R=>bE uO rfl) (fun cH R=>uP _ (s.drop k) x) rfl rfl (bS rfl fun iu R=>?_))))))))))));replace B:=B.I R;replace U:=U.I R;replace ah:=ah.I R;replace E:=E.then R;refine au cD ?_;refine a1 rfl (fun AX=>?_) (fun AX=>?_);rotate_left
 ·rw [FV] at AX;have ik:aC s k x=false:=AX;refine b8 (bz (by simp) (au b2 (bP (ag (aO rfl rfl (by omega)) (aG rfl (cF ?_))))));exact fK (σ:=Nat) (s:=i) (i+1) ⟨rfl,rfl,rfl,rfl,rfl,trivial⟩ ⟨⟨by omega,fun j y h aZ=>by
   by_cases dY:j<i
   ·exact II j y dY aZ
   obtain rfl:j=i:=by omega
   rw [ae] at aZ;injection aZ with aZ
   subst aZ;exact ik⟩,U,ah,B,E⟩ (by omega)
 rw [FV] at AX;have ik:aC s k x=true:=AX;have oy:=cY ik (by intro e;subst e;have:=(List.mem_of_getElem? ae);simp [W3,JV.jS,JV.iT,JV.gE] at this);refine ax fun cJ=>?_
 by_cases iC:i=0
 ·subst iC;obtain rfl:x=JV.jS:=by simpa [W3] using ae.symm
  refine bP (ak 2 rfl (ag (av c6 rfl) (ag (bg dN rfl (B.cell rfl)) (aG rfl (ag (br Tryz.underlying9 rfl) (ag (cS (r:=((k+4:Nat):Int)) rfl rfl (by rw [wrap64_in _ (by omega)];first | rfl | (simp;done) | omega)) (ag (eb rfl) (ag (av c6 rfl) (dZ dN B rfl rfl rfl (by simp) fun js hs=>?_)))))))));replace U:=U.ne hs.mod bY;replace ah:=ah.ne hs.mod QH;replace E:=E.trans hs.mod;replace B:aE js g _ [_,_,_]:=hs.aA;refine J cJ (ab fun cf=>ag (a7 (cs:=[_,_,_,_,_,_]) gT cA rfl rfl) (cQ (bE wj rfl) (qi _ true) fun jD R=>?_));replace B:=B.I R;replace U:=U.I R;replace ah:=ah.I R;replace E:=E.then R;refine cQ (bE wj rfl) (qi _ false) fun iv R=>?_;replace B:=B.I R;replace U:=U.I R;replace ah:=ah.I R;replace E:=E.then R;refine bC (cs:=[_,_,_,_,_,_,_,_,_,_,_,_,_,_,_,_,_,_]) ke cA rfl rfl rfl (by decide) rfl fun g3 oj eP=>?_;have dE:=eP.le E;have acd:=eP.ne B;have eL:=eP.ne U;have cG:=eP.ne ah;replace B:=B.I eP.mod;replace U:=U.I eP.mod;replace ah:=ah.I eP.mod;replace E:=E.then eP.mod;have bu:=eP.aA;refine aG rfl (ag (ca ke rfl rfl (by omega)) (ag ((bc (vs:=[_,_,_,_,_,_]) aJ rfl rfl (bu.cs (o:=0) rfl))) (bm (vs:=[_,_,_,_,_,_]) aJ U rfl rfl rfl (by simp [Value.oneCell']) (by simp) fun l1 om=>?_)));replace B:=B.ne om.mod (Ne.symm bY);replace ah:=ah.ne om.mod (Ne.symm KU);replace bu:=bu.ne om.mod (Ne.symm eL);replace E:=E.own om.mod IE;replace U:aE l1 g1 _ [_,_,_,_,_,_]:=om.aA;refine aU rfl (J cf (ba (bz (by simp) (aR (by simp) (aR (by simp) (bz (by simp) (aR (by simp) ?_)))))));have zo:hq s k=some (JV.gN,k+4):=by unfold hq;rw [if_pos ik]
  exact jn (vs:=[_,_,_,_,_,_]) rfl aJ rfl rfl (U.cs rfl) rfl ⟨_,by rw [zo];rfl,⟨fun _=>⟨_,_,zo,fun A w=>JV.gO,B⟩,fun h=>(by rw [zo] at h;cases h),E⟩⟩
 by_cases nQ:i=1
 rotate_left
 ·obtain rfl:i=2:=by omega
  obtain rfl:x=JV.gE:=by simpa [W3] using ae.symm
  refine bP (ak 2 rfl (ag (av c6 rfl) (ag (bg dN rfl (B.cell rfl)) (aG rfl (ag (br Tryz.underlying9 rfl) (ag (cS (r:=((k+5:Nat):Int)) rfl rfl (by rw [wrap64_in _ (by omega)];first | rfl | (simp;done) | omega)) (ag (eb rfl) (ag (av c6 rfl) (dZ dN B rfl rfl rfl (by simp) fun p7 wm=>?_)))))))));replace U:=U.ne wm.mod bY;replace ah:=ah.ne wm.mod QH;replace E:=E.trans wm.mod;replace B:aE p7 g _ [_,_,_]:=wm.aA;refine J cJ (ab fun cX=>ag (a7 (cs:=[_,_,_,_,_,_]) gT cA rfl rfl) (cQ (bE wj rfl) (qi _ true) fun rn R=>?_));replace B:=B.I R;replace U:=U.I R;replace ah:=ah.I R;replace E:=E.then R;refine cQ (bE wj rfl) (qi _ false) fun ux R=>?_;replace B:=B.I R;replace U:=U.I R;replace ah:=ah.I R;replace E:=E.then R;refine bC (cs:=[_,_,_,_,_,_,_,_,_,_,_,_,_,_,_,_,_,_]) ke cA rfl rfl rfl (by decide) rfl fun g5 tx fx=>?_;have ou:=fx.le E;have ak0:=fx.ne B;have nN:=fx.ne U;have pe:=fx.ne ah;replace B:=B.I fx.mod;replace U:=U.I fx.mod;replace ah:=ah.I fx.mod;replace E:=E.then fx.mod;have dH:=fx.aA;refine aG rfl (ag (ca ke rfl rfl (by omega)) (ag ((bc (vs:=[_,_,_,_,_,_]) aJ rfl rfl (dH.cs (o:=12) rfl))) (bm (vs:=[_,_,_,_,_,_]) aJ U rfl rfl rfl (by simp [Value.oneCell']) (by simp) fun tz s4=>?_)));replace B:=B.ne s4.mod (Ne.symm bY);replace ah:=ah.ne s4.mod (Ne.symm KU);replace dH:=dH.ne s4.mod (Ne.symm nN);replace E:=E.own s4.mod IE;replace U:aE tz g1 _ [_,_,_,_,_,_]:=s4.aA;refine aU rfl (J cX (ba (bz (by simp) (aR (by simp) (aR (by simp) (bz (by simp) (aR (by simp) ?_)))))));have zo:hq s k=some (JV.mk 1 false 0 [] [] [],k+5):=by unfold hq;rw [if_neg (by rw [II 0 _ (by omega) rfl];simp),if_neg (by rw [II 1 _ (by omega) rfl];simp),if_pos ik]
  exact jn (vs:=[_,_,_,_,_,_]) rfl aJ rfl rfl (U.cs rfl) rfl ⟨_,by rw [zo];rfl,⟨fun _=>⟨_,_,zo,fun A w=>JV.zn,B⟩,fun h=>(by rw [zo] at h;cases h),E⟩⟩
 subst nQ;obtain rfl:x=JV.iT:=by simpa [W3] using ae.symm
 refine bP (ak 2 rfl (ag (av c6 rfl) (ag (bg dN rfl (B.cell rfl)) (aG rfl (ag (br Tryz.underlying9 rfl) (ag (cS (r:=((k+4:Nat):Int)) rfl rfl (by rw [wrap64_in _ (by omega)];first | rfl | (simp;done) | omega)) (ag (eb rfl) (ag (av c6 rfl) (dZ dN B rfl rfl rfl (by simp) fun iw jG=>?_)))))))));replace U:=U.ne jG.mod bY;replace ah:=ah.ne jG.mod QH;replace E:=E.trans jG.mod;replace B:aE iw g _ [_,_,_]:=jG.aA;refine J cJ (ab fun b1=>ag (a7 (cs:=[_,_,_,_,_,_]) gT cA rfl rfl) (cQ (bE wj rfl) (qi _ true) fun kl R=>?_));replace B:=B.I R;replace U:=U.I R;replace ah:=ah.I R;replace E:=E.then R;refine cQ (bE wj rfl) (qi _ false) fun p3 R=>?_;replace B:=B.I R;replace U:=U.I R;replace ah:=ah.I R;replace E:=E.then R;refine bC (cs:=[_,_,_,_,_,_,_,_,_,_,_,_,_,_,_,_,_,_]) ke cA rfl rfl rfl (by decide) rfl fun g4 ov N4=>?_;have fL:=N4.le E;have ace:=N4.ne B;have gD:=N4.ne U;have eZ:=N4.ne ah;replace B:=B.I N4.mod;replace U:=U.I N4.mod;replace ah:=ah.I N4.mod;replace E:=E.then N4.mod;have bf:=N4.aA;refine aG rfl (ag (ca ke rfl rfl (by omega)) (ag ((bc (vs:=[_,_,_,_,_,_]) aJ rfl rfl (bf.cs (o:=6) rfl))) (bm (vs:=[_,_,_,_,_,_]) aJ U rfl rfl rfl (by simp [Value.oneCell']) (by simp) fun qB wk=>?_)));replace B:=B.ne wk.mod (Ne.symm bY);replace ah:=ah.ne wk.mod (Ne.symm KU);replace bf:=bf.ne wk.mod (Ne.symm gD);replace E:=E.own wk.mod IE;replace U:aE qB g1 _ [_,_,_,_,_,_]:=wk.aA;refine aU rfl (J b1 (ba (bz (by simp) (aR (by simp) (aR (by simp) (bz (by simp) (aR (by simp) ?_)))))));have zo:hq s k=some (JV.mk 1 true 0 [] [] [],k+4):=by unfold hq;rw [if_neg (by rw [II 0 _ (by omega) rfl];simp),if_pos ik]
 exact jn (vs:=[_,_,_,_,_,_]) rfl aJ rfl rfl (U.cs rfl) rfl ⟨_,by rw [zo];rfl,⟨fun _=>⟨_,_,zo,fun A w=>JV.zn,B⟩,fun h=>(by rw [zo] at h;cases h),E⟩⟩
end Go.Proofs.YtnihidkbkhcfoaaGreatDoor.V
namespace Go.Proofs.YtnihidkbkhcfoaaGreatDoor.V
open Go Go.Proofs Go.Sort
abbrev dP:={x:(aa×JV)×List Value // x.2.length=6∧∀ v∈x.2,v.oneCell'=true}
instance:Inhabited dP:=⟨⟨(([],JV.gN),[.int .i64 0,.int .i64 0,.int .i64 0,.int .i64 0,.int .i64 0,.int .i64 0]),rfl,by decide⟩⟩
def dP.key (x:dP):aa:=x.1.1.1
def dP.enc (x:dP):List Value:=S x.key::x.1.2
theorem dP.yW (x:dP):x.enc.length=7:=by simp [dP.enc,x.2.1]
theorem dP.PO (x:dP):∀ v∈x.enc,v.oneCell'=true:=fun v bK=>by
 rcases List.mem_cons.1 bK with rfl | bK
 ·rfl
 exact x.2.2 v bK
def Mj (x y:dP):Int:=Lib.compareBytes x.key y.key
theorem yb (x y:dP):ltOf Mj x y=eQ x.key y.key:=by
 unfold ltOf Mj;rw [vN,Bool.eq_iff_iff,decide_eq_true_eq,rJ]
theorem Jk {a b c:aa} (h:eQ a b=false) (k:eQ b c=false):eQ a c=false:=by
 cases ik:eQ a c with
 | false=>rfl
 | true=>
  rcases mb a b with h1 | h1 | h1
  ·rw [h1] at h;cases h
  ·subst h1;rw [ik] at k;cases k
  rw [gi h1 ik] at k;cases k
theorem PQ:SWO (ltOf Mj):=by
 refine⟨fun x=>?_,fun x y z h k=>?_,fun x y z h k=>?_⟩
 ·rw [yb];exact dc _
 ·rw [yb] at h k ⊢;exact gi h k
 rw [yb] at h k ⊢;exact Jk h k
theorem Co {α:Type} (enc:α→List Value) {k:Nat} (hk:∀ x,(enc x).length=k) (b3:0<k):∀ (l:List α) (t:Nat),(l.map enc).flatten[t]? = (l[t / k]?).bind fun x=>(enc x)[t % k]?
 | [],t=>by simp
 | x::l,t=>by
  rw [List.map_cons,List.flatten_cons]
  rcases Nat.lt_or_ge t k with h | h
  ·rw [List.getElem?_append_left (by rw [hk];exact h),Nat.div_eq_of_lt h,Nat.mod_eq_of_lt h]
   rfl
  rw [List.getElem?_append_right (by rw [hk];exact h),hk,Co enc hk b3 l (t-k)]
  obtain⟨u,rfl⟩:∃ u,t=u+k:=⟨t-k,by omega⟩
  rw [Nat.add_sub_cancel,Nat.add_mod_right,Nat.add_div_right _ b3]
  rfl
theorem pD (d:Array dP):(flatK dP.enc 7 d).toList=(d.toList.map dP.enc).flatten:=by
 apply List.ext_getElem?;intro t;rw [Co dP.enc dP.yW (by decide)];rcases Nat.lt_or_ge t (d.size*7)with h | h
 ·have h1:t / 7<d.size:=by omega
  have aq:t % 7<7:=Nat.mod_lt _ (by decide);have e:=get_flatK dP.enc 7 d t h;rw [getElem!_pos (flatK dP.enc 7 d) t (by rw [size_flatK];exact h),getElem!_pos d _ h1] at e;rw [Array.getElem?_toList,Array.getElem?_toList,Array.getElem?_eq_getElem (by rw [size_flatK];exact h),e,Array.getElem?_eq_getElem h1];have aT:t % 7<(dP.enc d[t / 7]).length:=by rw [dP.yW];exact aq
  show _=(dP.enc d[t / 7])[t % 7]?;rw [List.getElem?_eq_getElem aT,getElem!_pos (dP.enc d[t / 7]) _ aT]
 rw [List.getElem?_eq_none (by simp;omega),List.getElem?_eq_none (by simp;omega)];rfl
theorem w5 {w:World} {e n g o c:Nat} {d:Array dP} (O:Own w e 7 (.slice (some ⟨g,o,none⟩) n c) n (d.toList.map dP.enc).flatten):HoldsK dP.enc 7 w g o d∧g<w.heap.size∧d.size=n:=by
 have cg:=O.len;rw [← pD,Array.length_toList,size_flatK] at cg;rcases O.2 with⟨h,_⟩ | ⟨EB,u4,c',cs,h,ef,h1,aq,aT,bL⟩
 ·cases h
 cases h;refine⟨fun j dY=>⟨?_,ef.frozen _⟩,ef.lt,by omega⟩;rw [← pD] at bL;apply ef.cell;have uW:(flatK dP.enc 7 d).toList[j]? = some (flatK dP.enc 7 d)[j]!:=by rw [Array.getElem?_toList,Array.getElem?_eq_getElem dY,getElem!_pos (flatK dP.enc 7 d) j dY]
 rw [size_flatK] at dY;rw [← bL,List.getElem?_take,if_pos (by omega),List.getElem?_drop] at uW;exact uW
theorem Fv {w:World} {e n g o c m:Nat} {d sX:Array dP} {os:Array Obj} (O:Own w e 7 (.slice (some ⟨g,o,none⟩) n c) n (d.toList.map dP.enc).flatten) (bb:sX.size=d.size) :
  Own (sortWorldK dP.enc 7 w g o m sX os) e 7 (.slice (some ⟨g,o,none⟩) n c) n (sX.toList.map dP.enc).flatten∧Mod [g] w (sortWorldK dP.enc 7 w g o m sX os):=by
 have bV:=(w5 O).2.2
 have cg:=O.len
 rcases O.2 with⟨h,_⟩ | ⟨EB,u4,c',cs,h,ef,h1,aq,aT,bL⟩
 ·cases h
 cases h
 have bH:=ef.lt
 have EE:g<(putRowK dP.enc 7 (Sort.ahead w m) g o sX).heap.size:=by rw [size_putRowK];exact bH
 have ik:(putRowK dP.enc 7 (Sort.ahead w m) g o sX).heap=w.heap.modify g (onCells (putCells id o (flatK dP.enc 7 sX))):=rfl
 have ahH:Mod [g] w (sortWorldK dP.enc 7 w g o m sX os):=by
  refine⟨rfl,rfl,rfl,?_,fun i hi ae=>?_⟩
  ·unfold sortWorldK
   rw [size_grow,size_putRowK]
   exact Nat.le_add_right _ _
  unfold sortWorldK
  rw [heap_grow_old _ _ (by rw [size_putRowK];exact hi),ik,Array.getElem?_modify,if_neg (fun e=>ae (by simp [e]))]
 refine⟨⟨by rw [← pD];simp [bb,bV],.inr ⟨g,o,c,(putCells id o (flatK dP.enc 7 sX) cs.toArray).toList,rfl,?_,h1,aq,?_,?_⟩⟩,ahH⟩
 ·unfold aE sortWorldK
  rw [heap_grow_old _ _ EE,ik,Array.getElem?_modify,if_pos rfl,ef]
  rfl
 ·simp only [putCells,Array.toList_mapIdx,List.length_mapIdx]
  exact aT
 rw [← pD]
 apply List.ext_getElem?
 intro t
 rw [List.getElem?_take]
 rcases Nat.lt_or_ge t (n*7)with h | h
 ·rw [if_pos h,List.getElem?_drop]
  have cN:o+t<cs.length:=by have:=Nat.mul_le_mul_right 7 h1;omega
  have eU:t<(flatK dP.enc 7 sX).size:=by rw [size_flatK,bb,bV];exact h
  rw [Array.getElem?_toList,Array.getElem?_toList,Array.getElem?_eq_getElem eU]
  simp only [putCells,Array.getElem?_mapIdx,List.getElem?_toArray,List.getElem?_eq_getElem cN,Option.map_some]
  rw [if_pos ⟨by omega,by omega⟩,Nat.add_sub_cancel_left,getElem!_pos (flatK dP.enc 7 sX) t eU]
  rfl
 rw [if_neg (by omega),List.getElem?_eq_none (by simp [bb,bV];omega)]
theorem Fu {A:List Nat} {w:World}:∀ (acc:List (aa×JV)) (vs:List Value),ao A w (acc.map JV.hP).flatten vs→∃ rows:List dP,rows.map (·.1.1)=acc∧(rows.map dP.enc).flatten=vs∧∀ r∈rows,ao A w (JV.hP r.1.1) r.enc
 | [],vs,h=>⟨[],rfl,(List.eq_nil_of_length_eq_zero (by simpa using h.length)).symm,by simp⟩
 | p::acc,vs,h=>by
  rw [List.map_cons,List.flatten_cons] at h
  obtain⟨h1,aq⟩:=h.cut
  rw [JV.xY] at h1 aq
  obtain⟨rows,bk,bZ,kO⟩:=Fu acc _ aq
  obtain⟨u,us,HP,ae4,aoY⟩:=h1
  have hu:u=S p.1:=by simp only [a8] at ae4;exact ae4.1
  subst hu
  refine⟨⟨(p,us),JV.cells_one aoY⟩::rows,by rw [List.map_cons,bk],?_,fun r bl=>?_⟩
  ·rw [List.map_cons,List.flatten_cons,bZ]
   show(S p.1::us)++_=_
   rw [← HP,List.take_append_drop]
  rcases List.mem_cons.1 bl with rfl | bl
  ·exact⟨_,us,rfl,ae4,aoY⟩
  exact kO r bl
theorem yX {A:List Nat} {w:World}:∀ (rows:List dP),(∀ r∈rows,ao A w (JV.hP r.1.1) r.enc)→ao A w ((rows.map (·.1.1)).map JV.hP).flatten (rows.map dP.enc).flatten
 | [],_=>ao.mL
 | r::rows,h=>by
  simp only [List.map_cons,List.flatten_cons]
  exact(h r (List.mem_cons_self ..)).append (yX rows fun x ae=>h x (List.mem_cons_of_mem _ ae))
theorem GA (k:aa) (x:JV):∀ acc:List (aa×JV),(acc.map (·.1)).Nodup→(look (ei acc) k=some x↔(k,x)∈acc):=by
 intro acc;rw [← List.reverse_reverse acc];generalize acc.reverse=l
 induction l with
 | nil=>intro _;simp [ei,look]
 | cons p l dF=>
  intro cj;rw [List.reverse_cons,List.map_append,List.nodup_append] at cj;rw [List.reverse_cons,mS,BX]
  by_cases h:k=p.1
  ·rw [if_pos h];have aq:(k,x)∉l.reverse:=fun ae=>cj.2.2 k (List.mem_map.2 ⟨_,ae,rfl⟩) p.1 (by simp) h;simp only [List.mem_append,aq,false_or,List.mem_singleton,Option.some.injEq];constructor
   ·rintro rfl;rw [h]
   rintro rfl;rfl
  rw [if_neg h,dF cj.1];simp only [List.mem_append,List.mem_singleton];constructor
  ·exact .inl
  rintro(ae | rfl)
  ·exact ae
  exact absurd rfl h
theorem Jl (acc:List (aa×JV)):en (ei acc):=by
 rw [← List.reverse_reverse acc];generalize acc.reverse=l
 induction l with
 | nil=>exact List.Pairwise.nil
 | cons p l dF=>rw [List.reverse_cons,mS];exact qd dF
theorem GB {acc m:List (aa×JV)} (cj:(acc.map (·.1)).Nodup) (cn:m.Perm acc) (ay:en m):m=ei acc:=by
 refine B' ay (Jl acc) fun k=>?_;have h1:∀ x,look m k=some x↔look (ei acc) k=some x:=fun x=>by
  rw [GA k x acc cj,← cn.mem_iff];exact⟨k2,fun h=>oa ay h⟩
 cases aq:look m k with
 | some x=>exact((h1 x).1 aq).symm
 | none=>
  cases aT:look (ei acc) k with
  | none=>rfl
  | some x=>rw [(h1 x).2 aT] at aq;cases aq
theorem Dn {acc:List (aa×JV)} {rows:List dP} {sX:Array dP} (cj:(acc.map (·.1)).Nodup) (bl:rows.map (·.1.1)=acc) (cn:PermIn 0 rows.toArray.size rows.toArray sX) (bb:SortedIn (ltOf Mj) 0 rows.toArray.size sX) :
  sX.toList.Perm rows∧sX.toList.map (·.1.1)=ei acc:=by
 obtain⟨h1,_,aT⟩:=cn
 have Jm:sX.toList.Perm rows:=by
  have bk:rows.toArray.extract 0 rows.toArray.size=rows.toArray:=Array.extract_size
  have bZ:sX.extract 0 rows.toArray.size=sX:=by rw [← h1];exact Array.extract_size
  rw [bk,bZ] at aT
  exact aT
 refine⟨Jm,GB cj (bl▸Jm.map _) ?_⟩
 have Im:(sX.toList.map dP.key).Nodup:=by
  rw [← bl,List.map_map] at cj
  exact((Jm.map dP.key).nodup_iff).2 cj
 unfold en
 rw [List.pairwise_map,List.pairwise_iff_getElem]
 intro i j hi dY xx
 have bL:=bb i j (Nat.zero_le _) xx (by rw [← h1];simpa using dY)
 rw [yb,getElem!_pos _ _ (by simpa using dY),getElem!_pos _ _ (by simpa using hi)] at bL
 have cN:=(List.pairwise_iff_getElem.1 Im) i j (by simpa using hi) (by simpa using dY) xx
 rw [List.getElem_map,List.getElem_map] at cN
 rcases mb (dP.key sX.toList[i]) (dP.key sX.toList[j])with h | h | h
 ·exact h
 ·exact absurd h cN
 rw [Array.getElem_toList,Array.getElem_toList] at h
 rw [h] at bL;cases bL
end Go.Proofs.YtnihidkbkhcfoaaGreatDoor.V
