/-
  A part of the proof: members' rows as the library's sort sees them: rows of seven cells; the sorted row is the map; the members' sort: the shelf's contract, in the words of the own base; byKey walked; the reader's push, walked; the reader's key, walked; the reader's pop, walked: a list's frame; the reader's pop, walked: a map's frame; the reader's add, walked: a list's frame; the reader's add, walked: a map's frame. No condition of its own.
-/
import Derived.Test.YtkjgljnkocnnpaaGreatDoorM0
import Derived.Test.YtkjgljnkocnnpaaGreatDoorM7
import Derived.Test.YtkjgljnkocnnpaaGreatDoorM9
import Derived.Test.YtkjgljnkocnnpaaGreatDoorM3
import Derived.Test.YtkjgljnkocnnpaaGreatDoorM6
import Derived.Shelf.SlSortCmp.WholeK
import Derived.Test.YtkjgljnkocnnpaaGreatDoorM2
import Derived.Shelf.SlGeneric
import Derived.Shelf.Strings.Trim
import Derived.Shelf.Small.Utf8
import Derived.Shelf.Small.Bits
import Derived.Shelf.Small.Strs
import Derived.Shelf.Small.Wraps
import Derived.Shelf.Utf8.AppendRune
import Derived.Shelf.Strconv.Atoi
import Derived.Shelf.Strconv.Itoa0
import Derived.Shelf.Strconv.Itoa1
import Derived.Shelf.LaysM
import Derived.Shelf.Strconv.Itoa2
import Derived.Shelf.Strconv.Itoa3
import Derived.Shelf.Strconv.AtoiErrFast
import Derived.Shelf.Strconv.ParseIntEmpty
import Derived.Shelf.Strconv.AtoiFail
import Derived.Shelf.Strconv.Clone
import Derived.Shelf.Strconv.SyntaxError
import Derived.Shelf.LaysC
import Derived.Shelf.Strconv.ToError
import Derived.Shelf.Strconv.Lower
import Derived.Shelf.Strconv.ParseUint10
import Derived.Shelf.Strconv.ParseUint10Empty
import Derived.Shelf.Strconv.ParseUint10Any
import Derived.Shelf.Strconv.ParseInt10
import Derived.Shelf.Strconv.AtoiLong
import Derived.Shelf.Strconv.AtoiInnerAll
import Derived.Shelf.Strconv.RangeError
import Derived.Shelf.Strconv.ToErrorRange
import Derived.Shelf.Strconv.AtoiAll
import Derived.Shelf.Strconv.ErrVarAll
import Derived.Shelf.Strings.Search1
import Derived.Shelf.Strings.Search2
import Derived.Shelf.Strings.Cut
import Derived.Shelf.Strings.Shaped
import Derived.Shelf.Strings.Prefix
import Derived.Shelf.Unicode.Decode
import Derived.Shelf.Strings.Runes
import Derived.Shelf.Strings.AsciiSet
import Derived.Shelf.Unicode.DecodeSlow
import Derived.Shelf.Unicode.DecodeAny
import Derived.Shelf.Slices.Clone
import Derived.Shelf.SlicesE.Clone
import Derived.Shelf.SlSortCmp.NoneTotal
set_option linter.all false
set_option maxRecDepth 10000
namespace Go.Proofs.YtkjgljnkocnnpaaGreatDoor.V
open Go Go.Proofs
def dK:=kT (j4 aR 71 1 1 1)
def gV:=kT (j4 aR 71 0 0 1)
def agO:=eW Tryz.func38
def acH:=eW Tryz.func140
def acI:=eW Tryz.func195
def QM:Nat:=5
/-- what the reading asks of the program's variables -/
structure Env (w:World):Prop where
 Ag:pd w
 agP:Ad w
 err:IG w
 sz:QM<w.heap.size
theorem Env.mod {w w':World} {M:List Nat} (h:Env w) (k:Mod M w w') (eX:∀ x∈M,QM<x):Env w':=
 ⟨h.Ag.mod k (fun ae=>by have:=eX _ ae;simp only [QM,Om] at this;omega),h.agP.mod k (fun x ae=>by have:=eX x ae;simp only [QM] at this;omega),h.err.mod k (fun x ae=>by have:=eX x ae;simp only [QM] at this;omega),Nat.lt_of_lt_of_le h.sz k.size⟩
theorem Env.I {w w':World} (h:Env w) (k:Mod [] w w'):Env w':=h.mod k (by simp)
theorem Env.vu {w w':World} {g:Nat} (h:Env w) (dY:QM<g) (k:Mod [g] w w'):Env w':=h.mod k (fun x ae=>by rw [dx ae];exact dY)
theorem xj (w:World) (g:Nat) (s:ab) (k:Nat) (sk:Value) (B:aF w g 71 [S s,.int .i64 (k:Int),sk]) (bh:s.length≤65536) (hk:k≤s.length):Calls aR 38 [.pointer (some ⟨g,0,none⟩)].toArray w (bH fun u w'=>aF w' g 71 [S s,.int .i64 (ai aT s k:Int),sk]∧Mod [g] w w'):=by
 refine l9 Tryz.func38 rfl ?_;have E:=Mod.refl [g] w;refine eN (bK (σ:=Nat) (fun p=>[(0,.pointer (some ⟨g,0,none⟩))]) (fun p aJ=>(k≤p∧p≤s.length∧ai aT s p=ai aT s k)∧aF aJ g 71 [S s,.int .i64 (p:Int),sk]∧Mod [g] w aJ) (fun p=>s.length-p) (k) (⟨⟨Nat.le_refl _,hk,rfl⟩,B,E⟩) ?_);rintro p aJ ⟨⟨Wh,cc,kx⟩,B,E⟩;refine aB fun a6=>aB fun aQ=>?_
 by_cases bM:(p:Int)<(s.length:Int)
 rotate_left
 ·refine cn wide (by kernel_rfl) (hF 2 rfl rfl (ax (fun U=>(aD dK rfl)) (ax (fun U=>(bF eg rfl ((B.I U).cell rfl))) (hF 2 rfl rfl (ax (fun U=>(aD gV rfl)) (ax (fun U=>(bF b2 rfl ((B.I U).cell rfl))) (ax (fun U=>(bQ aA rfl)) (hF 2 rfl rfl (fP rfl (cr bM) (fP rfl (cr bM) (fP rfl (cr bM) (fP rfl (cr bM) (fP rfl (cr bM) ?_)))))))))))));refine fP rfl (cr bM) (fP rfl (cr bM) (fP rfl (cr bM) (fP rfl (cr bM) (fP rfl (cr bM) (fP rfl (cr bM) (ax (fun U=>(hG (cr bM) rfl rfl)) (cq rfl fun iS U=>?_)))))));replace B:=B.I U;replace E:=E.then U;refine av aQ (aI rfl ?_);have k0:p=ai aT s k:=by
   rw [← kx]
   first | exact(gk (by omega)).symm | exact(fU aZ g').symm
  exact bL (aP (aP (ch (Wi rfl ⟨by rw [← k0];exact B,E⟩))))
 obtain⟨c,aZ⟩:∃ c,s[p]? = some c:=⟨_,List.getElem?_eq_getElem (by omega)⟩;rcases g':aT c with _ | _
 ·refine cn wide (by kernel_rfl) (hF 2 rfl rfl (ax (fun U=>(aD dK rfl)) (ax (fun U=>(bF eg rfl ((B.I U).cell rfl))) (hF 2 rfl rfl (ax (fun U=>(aD gV rfl)) (ax (fun U=>(bF b2 rfl ((B.I U).cell rfl))) (ax (fun U=>(bQ aA rfl)) (hF 2 rfl rfl (a8 (bD bM) (fun U=>(fj rfl)) (a8 (bD bM) (fun U=>(eS rfl)) (a8 (bD bM) (fun U=>(aD gV rfl)) (a8 (bD bM) (fun U=>(bF b2 rfl ((B.I U).cell rfl))) (a8 (bD bM) (fun U=>(fj rfl)) ?_)))))))))))));refine a8 (bD bM) (fun U=>(eS rfl)) (a8 (bD bM) (fun U=>(aD dK rfl)) (a8 (bD bM) (fun U=>(bF eg rfl ((B.I U).cell rfl))) (a8 (bD bM) (fun U=>(bN aA rfl rfl aZ)) (H5 rfl (bD bM) (fun db U=>bB yI rfl) (fun db U=>Ez _ [32,9,10,13] c) rfl rfl (a8 (bD bM) (fun U=>(dA rfl rfl)) (ax (fun U=>(oH (bD bM) rfl rfl)) (cq rfl fun cX U=>?_)))))));replace B:=B.I U;replace E:=E.then U;refine av aQ (a1 rfl (fun Mu=>absurd (((Vp c).trans g').symm.trans Mu) (by decide)) (fun Mu=>?_));have k0:p=ai aT s k:=by
   rw [← kx]
   first | exact(gk (by omega)).symm | exact(fU aZ g').symm
  exact bL (aP (aP (ch (Wi rfl ⟨by rw [← k0];exact B,E⟩))))
 refine cn wide (by kernel_rfl) (hF 2 rfl rfl (ax (fun U=>(aD dK rfl)) (ax (fun U=>(bF eg rfl ((B.I U).cell rfl))) (hF 2 rfl rfl (ax (fun U=>(aD gV rfl)) (ax (fun U=>(bF b2 rfl ((B.I U).cell rfl))) (ax (fun U=>(bQ aA rfl)) (hF 2 rfl rfl (a8 (bD bM) (fun U=>(fj rfl)) (a8 (bD bM) (fun U=>(eS rfl)) (a8 (bD bM) (fun U=>(aD gV rfl)) (a8 (bD bM) (fun U=>(bF b2 rfl ((B.I U).cell rfl))) (a8 (bD bM) (fun U=>(fj rfl)) ?_)))))))))))));refine a8 (bD bM) (fun U=>(eS rfl)) (a8 (bD bM) (fun U=>(aD dK rfl)) (a8 (bD bM) (fun U=>(bF eg rfl ((B.I U).cell rfl))) (a8 (bD bM) (fun U=>(bN aA rfl rfl aZ)) (H5 rfl (bD bM) (fun db U=>bB yI rfl) (fun db U=>Ez _ [32,9,10,13] c) rfl rfl (a8 (bD bM) (fun U=>(dA rfl rfl)) (ax (fun U=>(oH (bD bM) rfl rfl)) (cq rfl fun gr U=>?_)))))));replace B:=B.I U;replace E:=E.then U;refine av aQ ?_;refine a1 rfl (fun Mu=>?_) (fun Mu=>absurd (((Vp c).trans g').symm.trans Mu) (by decide))
 skip
 refine b' (av a6 (eN (b5 (aj 2 rfl (ah (aD dK rfl) (ah (bF eg rfl (B.cell rfl)) (ah (aS (r:=((p+1:Nat):Int)) rfl rfl) (ah (eS rfl) (ah (aD dK rfl) (cL eg B rfl rfl fun h8 j0=>?_))))))))));replace E:=E.trans j0.mod;replace B:aF h8 g _ [_,_,_]:=j0.ar;exact cx (bw (aw (σ:=Nat) (s:=p) (p+1) ⟨⟨by omega,by omega,by rw [fD aZ g'];exact kx⟩,B,E⟩))
theorem wi (w:World) (g:Nat) (s:ab) (k:Nat) (sk:Value) (B:aF w g 71 [S s,.int .i64 (k:Int),sk]) (bh:s.length≤65536) (hk:k≤s.length) (c:UInt8):Calls aR 68 [.pointer (some ⟨g,0,none⟩),.int .u8 (c.toNat:Int)].toArray w (bH fun u w'=>u = .bool (aC s (ai aT s k) [c])∧aF w' g 71 [S s,.int .i64 ((if (aC s (ai aT s k) [c])then ai aT s k+1 else ai aT s k:Nat):Int),sk]∧Mod [g] w w'):=by
 refine la Tryz.func68 rfl ?_;have E:=Mod.refl [g] w;have Qb:ai aT s k≤s.length:=dD hk;refine aa fun a6=>a7 rfl (J a6 (aa fun aQ=>aO rfl (cJ (bB agO rfl) (xj _ g s k sk B bh hk) fun cN aJ aH=>?_)));obtain⟨uU,U⟩:=aH;replace E:=E.trans U;clear B;have B:=uU;refine J aQ (aB fun a'=>aB fun bp=>?_)
 by_cases e5:((ai aT s k:Nat):Int)≥(s.length:Int)
 ·refine cn wide (by kernel_rfl) (hF 2 rfl rfl (ax (fun U=>(aD dK rfl)) (ax (fun U=>(bF eg rfl ((B.I U).cell rfl))) (hF 2 rfl rfl (ax (fun U=>(aD gV rfl)) (ax (fun U=>(bF b2 rfl ((B.I U).cell rfl))) (ax (fun U=>(bQ aA rfl)) (ax (fun U=>(dA rfl rfl)) (ax (fun U=>(fj rfl)) (fP rfl (bD e5) (fP rfl (bD e5) (fP rfl (bD e5) (fP rfl (bD e5) ?_)))))))))))));refine fP rfl (bD e5) (fP rfl (bD e5) (fP rfl (bD e5) (fP rfl (bD e5) (fP rfl (bD e5) (fP rfl (bD e5) (fP rfl (bD e5) (ax (fun U=>(oH (bD e5) rfl rfl)) (cq rfl fun cX U=>?_))))))));replace B:=B.I U;replace E:=E.then U;refine av bp (az rfl ?_);have kf:(aC s (ai aT s k) [c])=false:=by first | exact fX (by omega) (by simp) | (rw [fL bT,cr (fun e=>cH (by rw [e]))])
  exact aa fun bx=>a7 rfl (J bx (bn (aP (aG rfl rfl ⟨by rw [kf],by rw [kf];exact B,E⟩))))
 obtain⟨d,bT⟩:∃ d,s[ai aT s k]? = some d:=⟨_,List.getElem?_eq_getElem (by omega)⟩
 by_cases cH:(d.toNat:Int)≠(c.toNat:Int)
 ·refine cn wide (by kernel_rfl) (hF 2 rfl rfl (ax (fun U=>(aD dK rfl)) (ax (fun U=>(bF eg rfl ((B.I U).cell rfl))) (hF 2 rfl rfl (ax (fun U=>(aD gV rfl)) (ax (fun U=>(bF b2 rfl ((B.I U).cell rfl))) (ax (fun U=>(bQ aA rfl)) (ax (fun U=>(dA rfl rfl)) (ax (fun U=>(fj rfl)) (a8 (cr e5) (fun U=>(fj rfl)) (a8 (cr e5) (fun U=>(eS rfl)) (a8 (cr e5) (fun U=>(aD gV rfl)) (a8 (cr e5) (fun U=>(bF b2 rfl ((B.I U).cell rfl))) ?_)))))))))))));refine a8 (cr e5) (fun U=>(fj rfl)) (a8 (cr e5) (fun U=>(eS rfl)) (a8 (cr e5) (fun U=>(aD dK rfl)) (a8 (cr e5) (fun U=>(bF eg rfl ((B.I U).cell rfl))) (a8 (cr e5) (fun U=>(bN aA rfl rfl bT)) (a8 (cr e5) (fun U=>(fj rfl)) (a8 (cr e5) (fun U=>(fO rfl rfl)) (ax (fun U=>(hG (cr e5) rfl rfl)) (cq rfl fun gr U=>?_))))))));replace B:=B.I U;replace E:=E.then U;refine av bp ?_;refine aX rfl (fun vf=>?_) (fun vf=>absurd cH vf);have kf:(aC s (ai aT s k) [c])=false:=by first | exact fX (by omega) (by simp) | (rw [fL bT,cr (fun e=>cH (by rw [e]))])
  exact aa fun bO=>a7 rfl (J bO (bn (aP (aG rfl rfl ⟨by rw [kf],by rw [kf];exact B,E⟩))))
 refine cn wide (by kernel_rfl) (hF 2 rfl rfl (ax (fun U=>(aD dK rfl)) (ax (fun U=>(bF eg rfl ((B.I U).cell rfl))) (hF 2 rfl rfl (ax (fun U=>(aD gV rfl)) (ax (fun U=>(bF b2 rfl ((B.I U).cell rfl))) (ax (fun U=>(bQ aA rfl)) (ax (fun U=>(dA rfl rfl)) (ax (fun U=>(fj rfl)) (a8 (cr e5) (fun U=>(fj rfl)) (a8 (cr e5) (fun U=>(eS rfl)) (a8 (cr e5) (fun U=>(aD gV rfl)) (a8 (cr e5) (fun U=>(bF b2 rfl ((B.I U).cell rfl))) ?_)))))))))))));refine a8 (cr e5) (fun U=>(fj rfl)) (a8 (cr e5) (fun U=>(eS rfl)) (a8 (cr e5) (fun U=>(aD dK rfl)) (a8 (cr e5) (fun U=>(bF eg rfl ((B.I U).cell rfl))) (a8 (cr e5) (fun U=>(bN aA rfl rfl bT)) (a8 (cr e5) (fun U=>(fj rfl)) (a8 (cr e5) (fun U=>(fO rfl rfl)) (ax (fun U=>(hG (cr e5) rfl rfl)) (cq rfl fun h8 U=>?_))))))));replace B:=B.I U;replace E:=E.then U;refine av bp (aX rfl (fun vf=>absurd vf cH) (fun vf=>?_));have kf:(aC s (ai aT s k) [c])=true:=by rw [fL bT,bD (dT (Classical.not_not.1 cH))]
 refine b' (av a' (aa fun b4=>aj 2 rfl (ah (aD dK rfl) (ah (bF eg rfl (B.cell rfl)) (ah (aS (r:=((ai aT s k+1:Nat):Int)) rfl rfl) (ah (eS rfl) (ah (aD dK rfl) (cL eg B rfl rfl fun iS hd=>?_))))))));replace E:=E.trans hd.mod;replace B:aF iS g _ [_,_,_]:=hd.ar;exact J b4 (aa fun cw=>a7 rfl (J cw (bn (aG rfl rfl ⟨by rw [kf],by rw [kf];exact B,E⟩))))
theorem Jd (w:World) (g:Nat) (s:ab) (k:Nat) (sk:Value) (B:aF w g 71 [S s,.int .i64 (k:Int),sk]) (bh:s.length≤65536) (hk:k≤s.length) (j1:Ad w):Calls aR 103 [.pointer (some ⟨g,0,none⟩)].toArray w (Qy 95 [g] w (match dP s k with | none=>(.error 4:Except Int (ab×Nat)) | some x=>.ok x) (fun x u w'=>u=S x.1∧aF w' g 71 [S s,.int .i64 (x.2:Int),sk])):=by
 refine l9 Tryz.func103 rfl ?_;have E:=Mod.refl [g] w;refine aa fun a6=>a7 rfl (J a6 (aB fun aQ=>cn wide (by kernel_rfl) (hF 2 rfl rfl (ax (fun U=>(aD gV rfl)) (ax (fun U=>(bF b2 rfl ((B.I U).cell rfl))) (hF 2 rfl rfl (ax (fun U=>(aD dK rfl)) (ax (fun U=>(bF eg rfl ((B.I U).cell rfl))) (El (fun db U=>bB acH rfl) (fun db U=>We _ s k (by omega) (j1.I U)) rfl rfl (hF 7 rfl rfl (cq rfl fun aJ U=>?_)))))))))));replace B:=B.I U;replace E:=E.then U;refine av aQ (aB fun a'=>aa fun bp=>aj 2 rfl (J bp ?_));refine a1 rfl (fun yk=>?_) (fun yk=>?_)
 ·have cu:dP s k=none:=by cases h:dP s k with | none=>rfl | some x=>rw [h] at yk;cases yk
  refine b5 ?_;refine h6 (bB jz rfl) (hv _ 4) rfl (fun db aH=>aH.elim) (fun oU cX aH=>?_) fun cN cX aH=>?_
  ·obtain⟨rfl,rfl⟩:=aH;exact aP (ff ⟨4,by rw [cu],by decide,rfl,E⟩)
  exact aH.elim
 obtain⟨t,q,e8⟩:∃ t q,dP s k=some (t,q):=by
  cases h:dP s k with
  | none=>rw [h] at yk;cases yk
  | some x=>exact⟨x.1,x.2,rfl⟩
 rw [e8,Option.getD_some];refine b' (av a' (aa fun bx=>aj 3 rfl (ah (aD dK rfl) (cL eg B rfl rfl fun gr rW=>?_))));replace E:=E.trans rW.mod;replace B:aF gr g _ [_,_,_]:=rW.ar;exact J bx (aa fun bO=>aj 2 rfl (J bO (bn (agQ rfl rfl ⟨(t,q),by rw [e8],⟨rfl,B⟩,E⟩))))
theorem wj (w:World) (s:ab) (k:Nat) (bh:s.length≤1000000) (hk:k≤s.length):Calls aR 167 [S (s.drop k)].toArray w (bH fun u w'=>u = .tuple #[S (s.drop (ai ct s k)),.int .i64 ((ai ct s k-k:Nat):Int)]∧Mod [] w w'):=by
 refine bs Tryz.func167 rfl fun E=>?_;have xa:=dc ct s k;have z7:ai ct s k≤s.length:=dD hk;refine aa fun a6=>aj 2 rfl (J a6 (aa fun aQ=>aO rfl (cG E (bB acI rfl) (Uu _ (s.drop k) [48,49,50,51,52,53,54,55,56,57] (by simp) (by decide)) fun aJ U E=>?_)));rw [agJ];exact a7 rfl (J aQ (aa fun a'=>aj 2 rfl (ah (bQ aA rfl) (aO rfl (ah (bQ aA rfl) (ah (AU (r:=((ai ct s k-k:Nat):Int)) rfl rfl (by rw [List.length_drop,List.length_drop,wrap64_in _ (by omega)];omega)) (aj 2 rfl (J a' (bn (cj rfl rfl rfl ⟨rfl,E⟩))))))))))
set_option maxRecDepth 10000
def acJ:=eW Tryz.func166
def GH:=eW Tryz.func167
set_option maxHeartbeats 2000000 in
theorem Wj (w:World) (s:ab) (bh:s.length≤1000000):Calls aR 141 [S s].toArray w (bH fun u w'=>u = .bool (dw s).1∧Mod [] w w'):=by
 refine bs Tryz.func141 rfl fun E=>aa fun a6=>a7 rfl (J a6 (aa fun aQ=>aO rfl (cG E (bB acJ rfl) (Ut _ s [45]) fun aJ U E=>?_)));obtain⟨a,aE⟩:∃ a,a=if aC s 0 [45] then 1 else 0:=⟨_,rfl⟩
 have F4:=ET aE;rw [agL aE];obtain⟨e,he⟩:∃ e,e=ai ct s a:=⟨_,rfl⟩;have aml:=dc ct s a;have amm:ai ct s a≤s.length:=dD (by omega);rw [← he] at aml amm;refine a7 rfl (J aQ (aa fun a'=>aO rfl (cG E (bB GH rfl) (wj _ s a bh F4) fun cX U E=>?_)));rw [← he];refine aj 5 rfl (J a' ?_);apply share
 ·intro J5;refine aB fun bp=>aa fun bx=>aj 2 rfl ?_;refine c7 (fun cP:((e-a:Nat):Int)=0=>?_) (fun cP=>?_)
  ·refine aj 9 rfl (J bx (az rfl ?_));have fu:e=a∨(a+1<e∧s[a]? = some 48):=by
    first | (left;omega) | (right;exact⟨by omega,by rw [Wk,dT (show(d.toNat:Int)=(48:UInt8).toNat by rw [r'];rfl)]⟩)
   exact aa fun bO=>a7 rfl (J bO (bn (aP (aG rfl rfl ⟨by rw [zE aE he fu],E⟩))))
  refine aj 3 rfl ?_;refine c7 (fun pe:((e-a:Nat):Int) > 1=>?_) (fun pe=>?_)
  ·obtain⟨d,Wk⟩:∃ x,s[a]? = some x:=⟨_,List.getElem?_eq_getElem (by omega)⟩;refine aj 2 rfl ?_;refine ay ((hM (c:=d) aA rfl rfl (by decide) (by rw [show((0:Int)).toNat=0 from rfl,List.getElem?_drop,Nat.add_zero];exact Wk))) ?_;refine ay (k1 rfl rfl) ?_;refine c7 (fun r':(d.toNat:Int)=48=>?_) (fun r'=>?_)
   ·refine aj 2 rfl (J bx (az rfl ?_));have fu:e=a∨(a+1<e∧s[a]? = some 48):=by
     first | (left;omega) | (right;exact⟨by omega,by rw [Wk,dT (show(d.toNat:Int)=(48:UInt8).toNat by rw [r'];rfl)]⟩)
    exact aa fun b4=>a7 rfl (J b4 (bn (aP (aG rfl rfl ⟨by rw [zE aE he fu],E⟩))))
   refine aj 2 rfl (J bx (aI rfl ?_));have fu:¬ (e=a∨(a+1<e∧s[a]? = some 48)):=by
    rintro(h | ⟨h,fW⟩)
    ·omega
    first | omega | (rw [Wk] at fW;injection fW with fW;subst fW;exact r' rfl)
   refine b' (dq (bp _ _ _ _ (k2.sub (l':=[(3,_)]) ⟨rfl,trivial⟩ ?_)))
   revert fu
   exact J5.o
  refine aj 6 rfl (J bx (aI rfl ?_));have fu:¬ (e=a∨(a+1<e∧s[a]? = some 48)):=by
   rintro(h | ⟨h,fW⟩)
   ·omega
   first | omega | (rw [Wk] at fW;injection fW with fW;subst fW;exact r' rfl)
  exact b' (dq (bp _ _ _ _ (k2.sub (l':=[(3,_)]) ⟨rfl,trivial⟩ (J5.o fu))))
 intro fu;apply share
 ·intro Wl;refine aB fun cw=>aa fun cy=>aO rfl (cG E (bB OW rfl) (Ow _ (s.drop e) [46]) fun gr U E=>aj 5 rfl (J cy (aa fun b6=>aO rfl (J b6 ?_))));refine a1 rfl (fun DL=>?_) (fun DL=>?_)
  ·skip
   refine aB fun bR=>?_;have k0:Lib.trimPrefix (s.drop e) [46]=s.drop (e+1):=by
    unfold Lib.trimPrefix;rw [aL DL,List.drop_drop];rfl
   rw [k0];have GI:e+1≤s.length:=b9 (t:=[46]) DL (by simp);have awo:=dc ct s (e+1);have amn:ai ct s (e+1)≤s.length:=dD (by omega);refine b5 (aO rfl (cG E (bB GH rfl) (wj _ s (e+1) bh GI) fun h8 U E=>aj 5 rfl (J bR (aa fun cv=>aj 2 rfl (J cv ?_)))));refine aX rfl (fun Mv=>?_) (fun Mv=>?_)
   ·have bg:ai ct s (e+1)=e+1:=by omega
    exact aa fun bV=>a7 rfl (J bV (bn (aP (aG rfl rfl ⟨by rw [I6 aE he fu DL bg],E⟩))))
   have bC:¬ ai ct s (e+1)=e+1:=by omega
   have qZ:ai ct s (e+1)≤s.length:=amn;have acK:aC s e [46]=true:=DL;obtain⟨bu,l7⟩:∃ bu,bu=ai ct s (e+1):=⟨_,rfl⟩;rw [← l7] at bC ⊢;have aq:¬ (aC s e [46]=true∧ai ct s (e+1)=e+1):=fun h=>bC (by rw [l7];omega);have ud:bu=if aC s e [46] then ai ct s (e+1)else e:=by rw [aL acK];exact l7
   refine b' ?_;replace qZ:bu≤s.length:=by omega
   try clear bC
   clear l7;refine dq (cw _ _ _ _ (k2.sub (l':=[(3,_)]) ⟨rfl,trivial⟩ ?_))
   try clear U
   revert qZ
   revert ud
   revert aq
   revert bu
   revert E
   revert h8
   exact Wl.o
  have acK:aC s e [46]=false:=DL;obtain⟨bu,l7⟩:∃ bu,bu=e:=⟨_,rfl⟩;rw [← l7];have aq:¬ (aC s e [46]=true∧ai ct s (e+1)=e+1):=fun h=>by rw [acK] at h;cases h.1
  have ud:bu=if aC s e [46] then ai ct s (e+1)else e:=by rw [ak (by rw [acK];simp)];exact l7
  have qZ:bu≤s.length:=by omega
  refine b' ?_;replace qZ:bu≤s.length:=by omega
  try clear bC
  clear l7;exact dq (cw _ _ _ _ (k2.sub (l':=[(3,_)]) ⟨rfl,trivial⟩ (Wl.o gr E bu aq ud qZ)))
 intro h8 E bu aq ud qZ;refine aB fun cE=>aa fun cI=>aO rfl (ah (ia rfl rfl) ?_);refine c7 (fun oN:s.drop (bu)≠[]=>?_) (fun oN=>?_)
 ·obtain⟨x,Je⟩:∃ x,s[bu]? = some x:=⟨_,List.getElem?_eq_getElem (by rw [Ne,drop_nil (by omega)] at oN;omega)⟩;refine aj 2 rfl ?_;refine ay ((hM (c:=x) aA rfl rfl (by decide) (by rw [show((0:Int)).toNat=0 from rfl,List.getElem?_drop,Nat.add_zero];exact Je))) ?_;refine ay (vt rfl rfl) (ay (k1 rfl rfl) ?_)
  by_cases ae:(x.toNat=101∨x.toNat=69)
  ·refine kq (bD ((OL x.toNat (UInt8.toNat_lt x)).2 ae)) (ah (oH rfl rfl rfl) (J cI (az rfl ?_)));have gR:(aC s bu [101]||aC s bu [69])=true:=by
    rw [fL Je,fL Je];rcases ae with h | h
    ·rw [bD (dT (by rw [h];rfl))];rfl
    rw [Bool.or_eq_true];right;exact bD (dT (by rw [h];rfl))
   have tj:bu+1≤s.length:=(List.getElem?_eq_some_iff.1 Je).1;refine aa fun dr=>aO rfl (ah ((dV (n:=1) aA rfl rfl (by rw [List.length_drop];omega)).to (v':=S (s.drop (bu+1))) (by rw [List.drop_drop])) (a7 rfl (J dr ?_)));apply share
   ·intro Jf;refine aB fun ec=>aa fun dG=>aO rfl (ah (ia rfl rfl) ?_);refine c7 (fun pg:s.drop (bu+1)≠[]=>?_) (fun pg=>?_)
    ·obtain⟨y,Ah⟩:∃ x,s[bu+1]? = some x:=⟨_,List.getElem?_eq_getElem (by rw [Ne,drop_nil (by omega)] at pg;omega)⟩;refine aj 2 rfl ?_;refine ay ((hM (c:=y) aA rfl rfl (by decide) (by rw [show((0:Int)).toNat=0 from rfl,List.getElem?_drop,Nat.add_zero];exact Ah))) ?_;refine ay (k1 rfl rfl) ?_;refine c7 (fun jK:(y.toNat:Int)=43=>?_) (fun jK=>?_)
     ·refine aj 6 rfl (J dG (az rfl ?_));have lX:(aC s (bu+1) [43]||aC s (bu+1) [45])=true:=by
       rw [fL Ah,fL Ah,Bool.or_eq_true,decide_eq_true_eq,decide_eq_true_eq]
       first | (left;exact dT (by rw [jK];rfl)) | (right;exact dT (by rw [lN];rfl))
      have amo:bu+2≤s.length:=(List.getElem?_eq_some_iff.1 Ah).1;obtain⟨ee,wk⟩:∃ ee,ee=bu+2:=⟨_,rfl⟩;have l8:ee=if aC s (bu+1) [43]||aC s (bu+1) [45] then bu+2 else bu+1:=by rw [aL lX];exact wk
      refine b5 (aO rfl (ah ((dV (n:=1) aA rfl rfl (by rw [List.length_drop];omega)).to (v':=S (s.drop (bu+2))) (by rw [List.drop_drop])) (a7 rfl (cx ?_))));have yi:ee≤s.length:=by omega
      rw [← wk];clear wk;refine dq (ec _ _ _ _ (k2.sub (l':=[(3,_)]) ⟨rfl,trivial⟩ ?_))
      revert l8
      revert yi
      revert ee
      exact Jf.o
     refine aj 2 rfl ?_;refine ay ((hM (c:=y) aA rfl rfl (by decide) (by rw [show((0:Int)).toNat=0 from rfl,List.getElem?_drop,Nat.add_zero];exact Ah))) ?_;refine ay (k1 rfl rfl) ?_;refine c7 (fun lN:(y.toNat:Int)=45=>?_) (fun lN=>?_)
     ·refine aj 2 rfl (J dG (az rfl ?_));have lX:(aC s (bu+1) [43]||aC s (bu+1) [45])=true:=by
       rw [fL Ah,fL Ah,Bool.or_eq_true,decide_eq_true_eq,decide_eq_true_eq]
       first | (left;exact dT (by rw [jK];rfl)) | (right;exact dT (by rw [lN];rfl))
      have amo:bu+2≤s.length:=(List.getElem?_eq_some_iff.1 Ah).1;obtain⟨ee,wk⟩:∃ ee,ee=bu+2:=⟨_,rfl⟩;have l8:ee=if aC s (bu+1) [43]||aC s (bu+1) [45] then bu+2 else bu+1:=by rw [aL lX];exact wk
      refine b5 (aO rfl (ah ((dV (n:=1) aA rfl rfl (by rw [List.length_drop];omega)).to (v':=S (s.drop (bu+2))) (by rw [List.drop_drop])) (a7 rfl (cx ?_))));have yi:ee≤s.length:=by omega
      rw [← wk];clear wk;exact dq (ec _ _ _ _ (k2.sub (l':=[(3,_)]) ⟨rfl,trivial⟩ (Jf.o ee yi l8)))
     refine aj 2 rfl (J dG (aI rfl ?_));have lX:(aC s (bu+1) [43]||aC s (bu+1) [45])=false:=by
      first | (rw [fL Ah,fL Ah,cr (fun h=>jK (by rw [h];rfl)),cr (fun h=>lN (by rw [h];rfl))];rfl) | (rw [fX (show s.length≤bu+1 by have:=Classical.not_not.1 pg;rw [drop_nil (by omega)] at this;omega) (by simp),fX (show s.length≤bu+1 by have:=Classical.not_not.1 pg;rw [drop_nil (by omega)] at this;omega) (by simp)];rfl)
     obtain⟨ee,wk⟩:∃ ee,ee=bu+1:=⟨_,rfl⟩;have l8:ee=if aC s (bu+1) [43]||aC s (bu+1) [45] then bu+2 else bu+1:=by rw [ak (by rw [lX];simp)];exact wk
     refine b' ?_;have yi:ee≤s.length:=by omega
     rw [← wk];clear wk;exact dq (ec _ _ _ _ (k2.sub (l':=[(3,_)]) ⟨rfl,trivial⟩ (Jf.o ee yi l8)))
    refine aj 10 rfl (J dG (aI rfl ?_));have lX:(aC s (bu+1) [43]||aC s (bu+1) [45])=false:=by
     first | (rw [fL Ah,fL Ah,cr (fun h=>jK (by rw [h];rfl)),cr (fun h=>lN (by rw [h];rfl))];rfl) | (rw [fX (show s.length≤bu+1 by have:=Classical.not_not.1 pg;rw [drop_nil (by omega)] at this;omega) (by simp),fX (show s.length≤bu+1 by have:=Classical.not_not.1 pg;rw [drop_nil (by omega)] at this;omega) (by simp)];rfl)
    obtain⟨ee,wk⟩:∃ ee,ee=bu+1:=⟨_,rfl⟩;have l8:ee=if aC s (bu+1) [43]||aC s (bu+1) [45] then bu+2 else bu+1:=by rw [ak (by rw [lX];simp)];exact wk
    refine b' ?_;have yi:ee≤s.length:=by omega
    rw [← wk];clear wk;exact dq (ec _ _ _ _ (k2.sub (l':=[(3,_)]) ⟨rfl,trivial⟩ (Jf.o ee yi l8)))
   intro ee yi l8;refine aB fun eV=>?_;have asb:=dc ct s ee;have asc:ai ct s ee≤s.length:=dD (by omega);refine b5 (aO rfl (cG E (bB GH rfl) (wj _ s ee bh yi) fun iS U E=>aj 5 rfl (J eV (aa fun eO=>aj 2 rfl (J eO ?_)))));refine aX rfl (fun H4=>?_) (fun H4=>?_)
   ·have dh:ai ct s ee=ee:=by omega
    exact aa fun eC=>a7 rfl (J eC (bn (aP (aG rfl rfl ⟨by rw [I7 aE he fu aq ud gR l8 dh],E⟩))))
   have dh:¬ ai ct s ee=ee:=by omega
   exact b' (av cE (aa fun eP=>aO rfl (ah (jr rfl rfl) (a7 rfl (J eP (bn (aG rfl rfl ⟨by first | (rw [wg aE he fu aq ud gR l8 dh];exact cf (decide_eq_decide.2 (drop_nil (by omega)))) | (rw [we aE he fu aq ud gR];exact cf (decide_eq_decide.2 (drop_nil (by omega)))),E⟩)))))))
  refine kq (cr (fun h=>ae ((OL x.toNat (UInt8.toNat_lt x)).1 h))) (ah (oH rfl rfl rfl) (J cI (aI rfl ?_)));have gR:(aC s bu [101]||aC s bu [69])=false:=by
   first | (rw [fL Je,fL Je,cr (fun h=>ae (.inl (by rw [h];rfl))),cr (fun h=>ae (.inr (by rw [h];rfl)))];rfl) | (rw [fX (show s.length≤bu by have:=Classical.not_not.1 oN;rw [drop_nil (by omega)] at this;omega) (by simp),fX (show s.length≤bu by have:=Classical.not_not.1 oN;rw [drop_nil (by omega)] at this;omega) (by simp)];rfl)
  exact b' (av cE (aa fun fw=>aO rfl (ah (jr rfl rfl) (a7 rfl (J fw (bn (aG rfl rfl ⟨by first | (rw [wg aE he fu aq ud gR l8 dh];exact cf (decide_eq_decide.2 (drop_nil (by omega)))) | (rw [we aE he fu aq ud gR];exact cf (decide_eq_decide.2 (drop_nil (by omega)))),E⟩)))))))
 refine aj 6 rfl (J cI (aI rfl ?_));have gR:(aC s bu [101]||aC s bu [69])=false:=by
  first | (rw [fL Je,fL Je,cr (fun h=>ae (.inl (by rw [h];rfl))),cr (fun h=>ae (.inr (by rw [h];rfl)))];rfl) | (rw [fX (show s.length≤bu by have:=Classical.not_not.1 oN;rw [drop_nil (by omega)] at this;omega) (by simp),fX (show s.length≤bu by have:=Classical.not_not.1 oN;rw [drop_nil (by omega)] at this;omega) (by simp)];rfl)
 exact b' (av cE (aa fun fT=>aO rfl (ah (jr rfl rfl) (a7 rfl (J fT (bn (aG rfl rfl ⟨by first | (rw [wg aE he fu aq ud gR l8 dh];exact cf (decide_eq_decide.2 (drop_nil (by omega)))) | (rw [we aE he fu aq ud gR];exact cf (decide_eq_decide.2 (drop_nil (by omega)))),E⟩)))))))
set_option maxRecDepth 10000
theorem sN:aR.underlying 144=some (.interface (aR.methodsAt 144)):=by kernel_rfl
def AV:=eW Tryz.func112
def acL:=eW Tryz.func141
def uV:=eW Tryz.func139
theorem Mw (w:World) (g:Nat) (s:ab) (k:Nat) (sk:Value) (B:aF w g 71 [S s,.int .i64 (k:Int),sk]) (bh:s.length≤65536) (hk:k≤s.length) (gR:Env w) (dY:QM<g):Calls aR 105 [.pointer (some ⟨g,0,none⟩)].toArray w (Qy 95 [g] w (jW s k) (fun x u w'=>∃ us,u = .agg us.toArray∧(∀ (A:List Nat) (w:World),ao A w x.1.D us)∧aF w' g 71 [S s,.int .i64 (x.2:Int),sk])):=by
 refine l9 Tryz.func105 rfl ?_;have E:=Mod.refl [g] w;refine aa fun a6=>bj bA rfl fun g1 aJ bZ=>?_;have aY:=bZ.le E;have my:=bZ.ne B;replace B:=B.I bZ.mod;replace E:=E.then bZ.mod;have R:=bZ.ar;refine J a6 (aB fun aQ=>?_);have cH:g1≠g:=Ne.symm my;have QN:=aY;refine b5 (aj 2 rfl (ah (aD dK rfl) (ah (bF eg rfl (B.cell rfl)) (a7 rfl (J aQ ?_)))));apply share
 ·intro J4;refine aB fun a'=>eN (bK (σ:=Nat) (fun p=>[(0,.pointer (some ⟨g,0,none⟩)),(2,.pointer (some ⟨g1,0,none⟩)),(3,.int .i64 (k:Int))]) (fun p aJ=>(k≤p∧p≤s.length∧ai cU s p=ai cU s k)∧aF aJ g1 25 [.int .i64 0,.bool false,.int .i64 0,S [],.slice none 0 0,.slice none 0 0]∧aF aJ g 71 [S s,.int .i64 (p:Int),sk]∧Mod [g] w aJ) (fun p=>s.length-p) (k) (⟨⟨Nat.le_refl _,hk,rfl⟩,R,B,E⟩) ?_);rintro p cX ⟨⟨Wh,cc,kx⟩,R,B,E⟩;refine aB fun bp=>aB fun bx=>?_
  by_cases bM:(p:Int)<(s.length:Int)
  ·obtain⟨c,aZ⟩:∃ c,s[p]? = some c:=⟨_,List.getElem?_eq_getElem (by omega)⟩;rcases g':cU c with _ | _
   ·refine cn wide (by kernel_rfl) (hF 2 rfl rfl (ax (fun U=>(aD dK rfl)) (ax (fun U=>(bF eg rfl ((B.I U).cell rfl))) (hF 2 rfl rfl (ax (fun U=>(aD gV rfl)) (ax (fun U=>(bF b2 rfl ((B.I U).cell rfl))) (ax (fun U=>(bQ aA rfl)) (hF 2 rfl rfl (a8 (bD bM) (fun U=>(fj rfl)) (a8 (bD bM) (fun U=>(eS rfl)) (a8 (bD bM) (fun U=>(aD gV rfl)) (a8 (bD bM) (fun U=>(bF b2 rfl ((B.I U).cell rfl))) (a8 (bD bM) (fun U=>(fj rfl)) ?_)))))))))))));refine a8 (bD bM) (fun U=>(eS rfl)) (a8 (bD bM) (fun U=>(aD dK rfl)) (a8 (bD bM) (fun U=>(bF eg rfl ((B.I U).cell rfl))) (a8 (bD bM) (fun U=>(bN aA rfl rfl aZ)) (H5 rfl (bD bM) (fun db U=>bB yI rfl) (fun db U=>Ez _ [43,45,46,48,49,50,51,52,53,54,55,56,57,69,101] c) rfl rfl (a8 (bD bM) (fun U=>(dA rfl rfl)) (ax (fun U=>(oH (bD bM) rfl rfl)) (cq rfl fun gr U=>?_)))))));replace B:=B.I U;replace R:=R.I U;replace E:=E.then U;refine av bx (a1 rfl (fun vc=>absurd (((OK c).trans g').symm.trans vc) (by decide)) (fun vc=>?_));have k0:p=ai cU s k:=by
     rw [← kx]
     first | exact(gk (by omega)).symm | exact(fU aZ g').symm
    refine bL (aP (aP (ch ?_)));subst k0;refine dq (a' _ _ _ _ (k2.sub (l':=[(0,_),(2,_),(3,_)]) ⟨rfl,rfl,rfl,trivial⟩ ?_))
    try clear U
    revert E
    revert B
    revert R
    revert gr
    exact J4.o
   refine cn wide (by kernel_rfl) (hF 2 rfl rfl (ax (fun U=>(aD dK rfl)) (ax (fun U=>(bF eg rfl ((B.I U).cell rfl))) (hF 2 rfl rfl (ax (fun U=>(aD gV rfl)) (ax (fun U=>(bF b2 rfl ((B.I U).cell rfl))) (ax (fun U=>(bQ aA rfl)) (hF 2 rfl rfl (a8 (bD bM) (fun U=>(fj rfl)) (a8 (bD bM) (fun U=>(eS rfl)) (a8 (bD bM) (fun U=>(aD gV rfl)) (a8 (bD bM) (fun U=>(bF b2 rfl ((B.I U).cell rfl))) (a8 (bD bM) (fun U=>(fj rfl)) ?_)))))))))))));refine a8 (bD bM) (fun U=>(eS rfl)) (a8 (bD bM) (fun U=>(aD dK rfl)) (a8 (bD bM) (fun U=>(bF eg rfl ((B.I U).cell rfl))) (a8 (bD bM) (fun U=>(bN aA rfl rfl aZ)) (H5 rfl (bD bM) (fun db U=>bB yI rfl) (fun db U=>Ez _ [43,45,46,48,49,50,51,52,53,54,55,56,57,69,101] c) rfl rfl (a8 (bD bM) (fun U=>(dA rfl rfl)) (ax (fun U=>(oH (bD bM) rfl rfl)) (cq rfl fun h8 U=>?_)))))));replace B:=B.I U;replace R:=R.I U;replace E:=E.then U;refine av bx ?_;refine a1 rfl (fun vc=>?_) (fun vc=>absurd (((OK c).trans g').symm.trans vc) (by decide))
   skip
   refine b' (av bp (eN (b5 (aj 2 rfl (ah (aD dK rfl) (ah (bF eg rfl (B.cell rfl)) (ah (aS (r:=((p+1:Nat):Int)) rfl rfl) (ah (eS rfl) (ah (aD dK rfl) (cL eg B rfl rfl fun iS hd=>?_))))))))));replace R:=R.ne hd.mod cH;replace E:=E.trans hd.mod;replace B:aF iS g _ [_,_,_]:=hd.ar;exact cx (bw (aw (σ:=Nat) (s:=p) (p+1) ⟨⟨by omega,by omega,by rw [fD aZ g'];exact kx⟩,R,B,E⟩))
  refine cn wide (by kernel_rfl) (hF 2 rfl rfl (ax (fun U=>(aD dK rfl)) (ax (fun U=>(bF eg rfl ((B.I U).cell rfl))) (hF 2 rfl rfl (ax (fun U=>(aD gV rfl)) (ax (fun U=>(bF b2 rfl ((B.I U).cell rfl))) (ax (fun U=>(bQ aA rfl)) (hF 2 rfl rfl (fP rfl (cr bM) (fP rfl (cr bM) (fP rfl (cr bM) (fP rfl (cr bM) (fP rfl (cr bM) ?_)))))))))))));refine fP rfl (cr bM) (fP rfl (cr bM) (fP rfl (cr bM) (fP rfl (cr bM) (fP rfl (cr bM) (fP rfl (cr bM) (ax (fun U=>(hG (cr bM) rfl rfl)) (cq rfl fun i' U=>?_)))))));replace B:=B.I U;replace R:=R.I U;replace E:=E.then U;refine av bx (aI rfl ?_);have k0:p=ai cU s k:=by
   rw [← kx]
   first | exact(gk (by omega)).symm | exact(fU aZ g').symm
  refine bL (aP (aP (ch ?_)));subst k0;exact dq (a' _ _ _ _ (k2.sub (l':=[(0,_),(2,_),(3,_)]) ⟨rfl,rfl,rfl,trivial⟩ (J4.o i' R B E)))
 intro gr R B E;obtain⟨p,k0⟩:∃ p,p=ai cU s k:=⟨_,rfl⟩;rw [← k0] at B;have Wh:k≤p:=by rw [k0];exact dc cU s k
 have cc:p≤s.length:=by rw [k0];exact dD hk
 refine aB fun bO=>?_;have Ai:((s.drop k).take (ai cU s k-k)).length≤1000000:=by rw [List.length_take,List.length_drop];omega
 refine cn wide (by kernel_rfl) (hF 2 rfl rfl (ax (fun U=>(aD gV rfl)) (ax (fun U=>(bF b2 rfl ((B.I U).cell rfl))) (hF 3 rfl rfl (ax (fun U=>(aD dK rfl)) (ax (fun U=>(bF eg rfl ((B.I U).cell rfl))) (ax (fun U=>((tS aA rfl rfl rfl (by simp only [ib,iR];omega)).to (v':=S ((s.drop k).take (ai cU s k-k))) (by simp only [ib,iR,Int.toNat_natCast];rw [k0]))) (ax (fun U=>(cS rfl)) (cq rfl fun iw U=>?_)))))))));replace B:=B.I U;replace R:=R.I U;replace E:=E.then U;refine av bO (aa fun b4=>aO rfl (cJ (bB AV rfl) (AH _ ((s.drop k).take (ai cU s k-k)) Ai (gR.vu dY E).err) fun cN nd aH=>?_));obtain⟨n,ae2,rfl,pW,U⟩:=aH;replace B:=B.I U;replace R:=R.I U;replace E:=E.then U;refine aj 5 rfl (J b4 (aB fun cw=>eN (aa fun cy=>aO rfl (cG E (bB acL rfl) (Wj _ ((s.drop k).take (ai cU s k-k)) Ai) fun lF U E=>?_))));replace B:=B.I U;replace R:=R.I U;refine aj 2 rfl (J cy ?_);refine a1 rfl (fun DM=>?_) (fun DM=>?_)
 ·have kN:(dw ((s.drop k).take (ai cU s k-k))).1=false:=by simpa using DM
  refine b5 ?_;refine h6 (bB jz rfl) (hv _ 4) rfl (fun db aH=>aH.elim) (fun oU h2 aH=>?_) fun cN h2 aH=>?_
  ·obtain⟨rfl,rfl⟩:=aH;exact bw (aP (ff ⟨4,by unfold jW iU;rw [aL kN];rfl,by decide,rfl,E⟩))
  exact aH.elim
 have kN:¬ (dw ((s.drop k).take (ai cU s k-k))).1=false:=by simpa using DM
 refine aB fun b6=>?_
 by_cases Ik:ae2 = .nilIface
 rotate_left
 ·obtain⟨jN,⟨azw,azx,rfl⟩,_⟩:=pW.resolve_left (fun h=>Ik h.2);refine b5 (aO rfl (ah ((agR sN rfl)) (aj 15 rfl (J b6 (az rfl ?_)))));have wm:iU ((s.drop k).take (ai cU s k-k)) = .error 7:=by
   unfold iU;rw [ak kN]
   first | rw [tU jN] | (rw [sh yJ,ak (by rintro⟨h1,aq,bb⟩;first | exact jy h1 | omega)])
  refine b5 ?_;refine h6 (bB jz rfl) (hv _ 7) rfl (fun db aH=>aH.elim) (fun oU pK aH=>?_) fun cN pK aH=>?_
  ·obtain⟨rfl,rfl⟩:=aH;exact bw (aP (ff ⟨7,by unfold jW;rw [wm];rfl,by decide,rfl,E⟩))
  exact aH.elim
 obtain yJ:Lib.atoiAll ((s.drop k).take (ai cU s k-k)) = .ok n:=pW.elim (·.1) (fun h=>by obtain⟨_,⟨azw,azx,e⟩,_⟩:=h;rw [Ik] at e;cases e);obtain⟨fu,hC⟩:=zD yJ;subst Ik
 by_cases jy:Lib.itoa n≠((s.drop k).take (ai cU s k-k))
 ·refine b5 (aO rfl (ah ((GJ sN rfl)) (aj 2 rfl (gN (bB sK rfl) (pM _ n fu hC (gR.vu dY E).Ag) fun jJ U=>?_))));replace B:=B.I U;replace R:=R.I U;replace E:=E.then U;refine ay (fj rfl) (ay (ia rfl rfl) (aj 2 rfl (aqt rfl (bD jy) (aqt rfl (bD jy) (ah (oH (bD jy) rfl rfl) (aj 5 rfl (J b6 (az rfl ?_))))))));have wm:iU ((s.drop k).take (ai cU s k-k)) = .error 7:=by
   unfold iU;rw [ak kN]
   first | rw [tU jN] | (rw [sh yJ,ak (by rintro⟨h1,aq,bb⟩;first | exact jy h1 | omega)])
  refine b5 ?_;refine h6 (bB jz rfl) (hv _ 7) rfl (fun db aH=>aH.elim) (fun oU mo aH=>?_) fun cN mo aH=>?_
  ·obtain⟨rfl,rfl⟩:=aH;exact bw (aP (ff ⟨7,by unfold jW;rw [wm];rfl,by decide,rfl,E⟩))
  exact aH.elim
 by_cases nJ:n > 9007199254740991
 ·refine b5 (aO rfl (ah ((GJ sN rfl)) (aj 2 rfl (gN (bB sK rfl) (pM _ n fu hC (gR.vu dY E).Ag) fun mT U=>?_))));replace B:=B.I U;replace R:=R.I U;replace E:=E.then U;refine ay (fj rfl) (ay (ia rfl rfl) (aj 2 rfl (aa' rfl (cr jy) (fj rfl) (aa' rfl (cr jy) (hV rfl rfl) (ah (hG (cr jy) rfl rfl) (aO rfl (aqt rfl (bD nJ) (aqt rfl (bD nJ) (ah (oH (bD nJ) rfl rfl) (a7 rfl (J b6 (az rfl ?_))))))))))));have wm:iU ((s.drop k).take (ai cU s k-k)) = .error 7:=by
   unfold iU;rw [ak kN]
   first | rw [tU jN] | (rw [sh yJ,ak (by rintro⟨h1,aq,bb⟩;first | exact jy h1 | omega)])
  refine b5 ?_;refine h6 (bB jz rfl) (hv _ 7) rfl (fun db aH=>aH.elim) (fun oU lK aH=>?_) fun cN lK aH=>?_
  ·obtain⟨rfl,rfl⟩:=aH;exact bw (aP (ff ⟨7,by unfold jW;rw [wm];rfl,by decide,rfl,E⟩))
  exact aH.elim
 by_cases iQ:n < -9007199254740991
 ·refine b5 (aO rfl (ah ((GJ sN rfl)) (aj 2 rfl (gN (bB sK rfl) (pM _ n fu hC (gR.vu dY E).Ag) fun nj U=>?_))));replace B:=B.I U;replace R:=R.I U;replace E:=E.then U;refine ay (fj rfl) (ay (ia rfl rfl) (aj 2 rfl (aa' rfl (cr jy) (fj rfl) (aa' rfl (cr jy) (hV rfl rfl) (ah (hG (cr jy) rfl rfl) (aO rfl (aa' rfl (cr nJ) (fj rfl) (aa' rfl (cr nJ) (cT rfl rfl) (ah (hG (cr nJ) rfl rfl) (a7 rfl (J b6 ?_)))))))))));refine aX rfl (fun Ab=>?_) (fun Ab=>absurd iQ Ab);have wm:iU ((s.drop k).take (ai cU s k-k)) = .error 7:=by
   unfold iU;rw [ak kN]
   first | rw [tU jN] | (rw [sh yJ,ak (by rintro⟨h1,aq,bb⟩;first | exact jy h1 | omega)])
  refine b5 ?_;refine h6 (bB jz rfl) (hv _ 7) rfl (fun db aH=>aH.elim) (fun oU pJ aH=>?_) fun cN pJ aH=>?_
  ·obtain⟨rfl,rfl⟩:=aH;exact bw (aP (ff ⟨7,by unfold jW;rw [wm];rfl,by decide,rfl,E⟩))
  exact aH.elim
 refine b5 (aO rfl (ah ((GJ sN rfl)) (aj 2 rfl (gN (bB sK rfl) (pM _ n fu hC (gR.vu dY E).Ag) fun qT U=>?_))));replace B:=B.I U;replace R:=R.I U;replace E:=E.then U;refine ay (fj rfl) (ay (ia rfl rfl) (aj 2 rfl (aa' rfl (cr jy) (fj rfl) (aa' rfl (cr jy) (hV rfl rfl) (ah (hG (cr jy) rfl rfl) (aO rfl (aa' rfl (cr nJ) (fj rfl) (aa' rfl (cr nJ) (cT rfl rfl) (ah (hG (cr nJ) rfl rfl) (a7 rfl (J b6 (aX rfl (fun Ab=>absurd Ab iQ) (fun Ab=>?_)))))))))))));have wm:iU ((s.drop k).take (ai cU s k-k)) = .ok n:=by
  unfold iU;rw [ak kN,sh yJ,aL ⟨Classical.not_not.1 jy,by omega,by omega⟩]
 refine b' (bw (av cw (aa fun bR=>aO rfl (cG E (bB Mx rfl) (GK _ n) fun qU U E=>?_))));replace B:=B.I U;replace R:=R.I U;refine aK au R rfl rfl fun qV mY=>?_;replace B:=B.ne mY.mod (Ne.symm cH);replace E:=E.own mY.mod QN;replace R:aF qV g1 _ [_,_,_,_,_,_]:=mY.ar;exact J bR (bn (Jg rfl au rfl (R.cs rfl) ⟨(JV.hr n,ai cU s k),by unfold jW;rw [wm];rfl,⟨_,rfl,fun A w=>JV.mL,by rw [← k0];exact B⟩,E⟩))
theorem sq (w:World) (x:Bool):Calls aR 139 [.bool x].toArray w (bH fun u w'=>u = .agg #[.int .i64 1,.bool x,.int .i64 0,S [],.slice none 0 0,.slice none 0 0]∧Mod [] w w'):=by
 refine bs Tryz.func139 rfl fun E=>aa fun a6=>bj bA rfl fun g1 aJ bZ=>?_;have aY:=bZ.le E;replace E:=E.then bZ.mod;have R:=bZ.ar;refine J a6 (aa fun aQ=>aO rfl (ah (bc dz bA rfl rfl) (aK au R rfl rfl fun cX Ds=>?_)));replace E:=E.own Ds.mod aY;replace R:aF cX g1 _ [_,_,_,_,_,_]:=Ds.ar;exact J aQ (bn (gT rfl au rfl (R.cs rfl) ⟨rfl,E⟩))
def W3:List ab:=[JV.kM,JV.jT,JV.hP]
def V3:List JV:=[JV.fg,.mk 1 true 0 [] [] [],.mk 1 false 0 [] [] []]
/-- the word that stands at a place -/
def iX (s:ab) (k:Nat):Option (JV×Nat):=
 if aC s k JV.kM then some (JV.fg,k+4)else if aC s k JV.jT then some (.mk 1 true 0 [] [] [],k+4)else if aC s k JV.hP then some (.mk 1 false 0 [] [] [],k+5)else none
theorem JV.sV {A:List Nat} {w:World} {b:Bool}:ao A w (JV.mk 1 b 0 [] [] []).D [.int .i64 1,.bool b,.int .i64 0,S [],.slice none 0 0,.slice none 0 0]:=
 JV.bX (A:=A) (w:=w) (v:=.mk 1 b 0 [] [] []) (al:=none) (am:=none) (cl:=0) (cm:=0) bq.eh bq.eh
theorem Jh (s x:ab) (k:Nat):decide (x.length≤(s.drop k).length∧(s.drop k).take x.length=x)=aC s k x:=xd x (s.drop k)
theorem acM (w:World) (g:Nat) (s:ab) (k:Nat) (sk:Value) (B:aF w g 71 [S s,.int .i64 (k:Int),sk]) (bh:s.length≤65536) (hk:k≤s.length):Calls aR 102 [.pointer (some ⟨g,0,none⟩)].toArray w (bH fun u w'=>∃ us,u = .tuple #[.agg us.toArray,.bool (iX s k).isSome]∧((iX s k).isSome=true→∃ v q,iX s k=some (v,q)∧(∀ (A:List Nat) (w:World),ao A w v.D us)∧aF w' g 71 [S s,.int .i64 (q:Int),sk])∧((iX s k).isSome=false→iX s k=none∧us = [.int .i64 0,.bool false,.int .i64 0,S [],.slice none 0 0,.slice none 0 0]∧aF w' g 71 [S s,.int .i64 (k:Int),sk])∧Mod [g] w w'):=by
 refine l9 Tryz.func102 rfl ?_;have E:=Mod.refl [g] w;refine aa fun a6=>bj bA rfl fun g1 aJ bZ=>?_;have aY:=bZ.le E;have my:=bZ.ne B;replace B:=B.I bZ.mod;replace E:=E.then bZ.mod;have R:=bZ.ar;refine a7 rfl (J a6 (aB fun aQ=>aB fun a'=>?_));have cH:g1≠g:=Ne.symm my;have QN:=aY;refine b5 (mM l4 Ji rfl rfl fun g2 cX cz=>?_);have bJ:=cz.le E;have wo:=cz.ne B;have bl:=cz.ne R;replace B:=B.I cz.mod;replace R:=R.I cz.mod;replace E:=E.then cz.mod;have ag:=cz.ar;have Wm:g2≠g:=Ne.symm wo;have OX:g1≠g2:=bl;have xk:=bJ;refine ah (bY hQ rfl) (aO rfl (J a' (eN (bK (σ:=Nat) (fun i=>[(0,.pointer (some ⟨g,0,none⟩)),(2,.pointer (some ⟨g1,0,none⟩)),(6,.slice (some ⟨g2,0,none⟩) 3 3),(7,.int .i64 3),(8,.int .i64 (i:Int))]) (fun i aJ=>(i≤3∧∀ (j:Nat) (y:ab),j<i→W3[j]? = some y→aC s k y=false)∧aF aJ g1 25 [.int .i64 0,.bool false,.int .i64 0,S [],.slice none 0 0,.slice none 0 0]∧aF aJ g2 9 [S JV.kM,S JV.jT,S JV.hP]∧aF aJ g 71 [S s,.int .i64 (k:Int),sk]∧Mod [g] w aJ) (fun i=>3-i) (0) (⟨⟨by omega,fun j y h=>by omega⟩,R,ag,B,E⟩) ?_))));rintro i gr ⟨⟨hi,My⟩,R,ag,B,E⟩;refine aa fun bp=>ah (cT rfl rfl) (J bp (aB fun bx=>?_));refine aX rfl (fun l2=>?_) (fun l2=>?_);rotate_left
 ·obtain rfl:i=3:=by omega
  have agU:iX s k=none:=by unfold iX;rw [ak (by rw [My 0 _ (by omega) rfl];simp),ak (by rw [My 1 _ (by omega) rfl];simp),ak (by rw [My 2 _ (by omega) rfl];simp)]
  refine bL (aP (aP (ch (av aQ (aa fun bV=>ah (bc dz bA rfl rfl) (aK au R rfl rfl fun pK lp=>?_))))));replace B:=B.ne lp.mod (Ne.symm cH);replace ag:=ag.ne lp.mod (Ne.symm OX);replace E:=E.own lp.mod QN;replace R:aF pK g1 _ [_,_,_,_,_,_]:=lp.ar;exact a7 rfl (J bV (bn (jO rfl au rfl (R.cs rfl) rfl ⟨_,by rw [agU];rfl,⟨fun h=>(by rw [agU] at h;cases h),fun _=>⟨agU,rfl,B⟩,E⟩⟩)))
 obtain⟨x,ae⟩:∃ x,W3[i]? = some x:=⟨_,List.getElem?_eq_getElem (show i<3 by omega)⟩;refine b' (av bx (aB fun bO=>eN (aa fun b4=>aO rfl (ah (c8 l4 rfl rfl (by omega)) ?_))));refine ah (bF b2 rfl (by rw [Int.toNat_natCast,Addr.add_lit,Nat.zero_add,Nat.mul_one];exact ag.cell (v:=S x) (by rw [show([S JV.kM,S JV.jT,S JV.hP]:List Value)=W3.map S from rfl,List.getElem?_map,ae];rfl))) ?_;refine aj 2 rfl (J b4 (aB fun cw=>cn wide (by kernel_rfl) (hF 2 rfl rfl (ax (fun U=>(aD gV rfl)) (ax (fun U=>(bF b2 rfl ((B.I U).cell rfl))) (hF 2 rfl rfl (ax (fun U=>(aD dK rfl)) (ax (fun U=>(bF eg rfl ((B.I U).cell rfl))) (ax (fun U=>(dV aA rfl rfl hk)) (ax (fun U=>(fj rfl)) (El (fun db U=>bB AR rfl) (fun db U=>AS _ (s.drop k) x) rfl rfl (cq rfl fun h8 U=>?_))))))))))));replace B:=B.I U;replace R:=R.I U;replace ag:=ag.I U;replace E:=E.then U;refine av cw ?_;refine a1 rfl (fun pL=>?_) (fun pL=>?_);rotate_left
 ·rw [Jh] at pL;have kf:aC s k x=false:=pL;refine b' (bw (av bO (b5 (ah (bt rfl rfl (by omega)) (aO rfl (cx ?_))))));exact aw (σ:=Nat) (s:=i) (i+1) ⟨⟨by omega,fun j y h ba=>by
   by_cases eD:j<i
   ·exact My j y eD ba
   obtain rfl:j=i:=by omega
   rw [ae] at ba;injection ba with ba
   subst ba;exact kf⟩,R,ag,B,E⟩
 rw [Jh] at pL;have kf:aC s k x=true:=pL;have qo:=b9 kf (by intro e;subst e;have:=(List.mem_of_getElem? ae);simp [W3,JV.kM,JV.jT,JV.hP] at this);refine aB fun cy=>?_
 by_cases jy:i=0
 ·subst jy;obtain rfl:x=JV.kM:=by simpa [W3] using ae.symm
  refine b5 (aj 2 rfl (ah (aD dK rfl) (ah (bF eg rfl (B.cell rfl)) (aO rfl (ah (bQ aA rfl) (ah (jm (r:=((k+4:Nat):Int)) rfl rfl (by rw [wrap64_in _ (by omega)];first | rfl | (simp;done) | omega)) (ah (eS rfl) (ah (aD dK rfl) (cL eg B rfl rfl fun iS hd=>?_)))))))));replace R:=R.ne hd.mod cH;replace ag:=ag.ne hd.mod Wm;replace E:=E.trans hd.mod;replace B:aF iS g _ [_,_,_]:=hd.ar;refine J cy (aa fun b6=>ah (bc dz bA rfl rfl) (cG E (bB uV rfl) (sq _ true) fun i' U E=>?_));replace B:=B.I U;replace R:=R.I U;replace ag:=ag.I U;refine cG E (bB uV rfl) (sq _ false) fun iw U E=>?_;replace B:=B.I U;replace R:=R.I U;replace ag:=ag.I U;refine sW kt bA rfl rfl fun g3 nd dF=>?_;have df:=dF.le E;have agS:=dF.ne B;have dv:=dF.ne R;have ca:=dF.ne ag;replace B:=B.I dF.mod;replace R:=R.I dF.mod;replace ag:=ag.I dF.mod;replace E:=E.then dF.mod;have bd:=dF.ar;refine aO rfl (ah (c8 kt rfl rfl (by omega)) (ah ((br au rfl (bd.cs (o:=0) rfl))) (aK au R rfl rfl fun lF lW=>?_)));replace B:=B.ne lW.mod (Ne.symm cH);replace ag:=ag.ne lW.mod (Ne.symm OX);replace bd:=bd.ne lW.mod (Ne.symm dv);replace E:=E.own lW.mod QN;replace R:aF lF g1 _ [_,_,_,_,_,_]:=lW.ar;refine a7 rfl (J b6 (bn (bw (aP (aP (bw (aP ?_)))))));have B1:iX s k=some (JV.fg,k+4):=by unfold iX;rw [aL kf]
  exact jO rfl au rfl (R.cs rfl) rfl ⟨_,by rw [B1];rfl,⟨fun _=>⟨_,_,B1,fun A w=>JV.b3,B⟩,fun h=>(by rw [B1] at h;cases h),E⟩⟩
 by_cases nJ:i=1
 rotate_left
 ·obtain rfl:i=2:=by omega
  obtain rfl:x=JV.hP:=by simpa [W3] using ae.symm
  refine b5 (aj 2 rfl (ah (aD dK rfl) (ah (bF eg rfl (B.cell rfl)) (aO rfl (ah (bQ aA rfl) (ah (jm (r:=((k+5:Nat):Int)) rfl rfl (by rw [wrap64_in _ (by omega)];first | rfl | (simp;done) | omega)) (ah (eS rfl) (ah (aD dK rfl) (cL eg B rfl rfl fun nj qx=>?_)))))))));replace R:=R.ne qx.mod cH;replace ag:=ag.ne qx.mod Wm;replace E:=E.trans qx.mod;replace B:aF nj g _ [_,_,_]:=qx.ar;refine J cy (aa fun cv=>ah (bc dz bA rfl rfl) (cG E (bB uV rfl) (sq _ true) fun pJ U E=>?_));replace B:=B.I U;replace R:=R.I U;replace ag:=ag.I U;refine cG E (bB uV rfl) (sq _ false) fun qT U E=>?_;replace B:=B.I U;replace R:=R.I U;replace ag:=ag.I U;refine sW kt bA rfl rfl fun g5 qU fJ=>?_;have nT:=fJ.le E;have asd:=fJ.ne B;have ng:=fJ.ne R;have ow:=fJ.ne ag;replace B:=B.I fJ.mod;replace R:=R.I fJ.mod;replace ag:=ag.I fJ.mod;replace E:=E.then fJ.mod;have dS:=fJ.ar;refine aO rfl (ah (c8 kt rfl rfl (by omega)) (ah ((br au rfl (dS.cs (o:=12) rfl))) (aK au R rfl rfl fun qV mY=>?_)));replace B:=B.ne mY.mod (Ne.symm cH);replace ag:=ag.ne mY.mod (Ne.symm OX);replace dS:=dS.ne mY.mod (Ne.symm ng);replace E:=E.own mY.mod QN;replace R:aF qV g1 _ [_,_,_,_,_,_]:=mY.ar;refine a7 rfl (J cv (bn (bw (aP (aP (bw (aP ?_)))))));have B1:iX s k=some (JV.mk 1 false 0 [] [] [],k+5):=by unfold iX;rw [ak (by rw [My 0 _ (by omega) rfl];simp),ak (by rw [My 1 _ (by omega) rfl];simp),aL kf]
  exact jO rfl au rfl (R.cs rfl) rfl ⟨_,by rw [B1];rfl,⟨fun _=>⟨_,_,B1,fun A w=>JV.sV,B⟩,fun h=>(by rw [B1] at h;cases h),E⟩⟩
 subst nJ;obtain rfl:x=JV.jT:=by simpa [W3] using ae.symm
 refine b5 (aj 2 rfl (ah (aD dK rfl) (ah (bF eg rfl (B.cell rfl)) (aO rfl (ah (bQ aA rfl) (ah (jm (r:=((k+4:Nat):Int)) rfl rfl (by rw [wrap64_in _ (by omega)];first | rfl | (simp;done) | omega)) (ah (eS rfl) (ah (aD dK rfl) (cL eg B rfl rfl fun h2 h9=>?_)))))))));replace R:=R.ne h9.mod cH;replace ag:=ag.ne h9.mod Wm;replace E:=E.trans h9.mod;replace B:aF h2 g _ [_,_,_]:=h9.ar;refine J cy (aa fun bR=>ah (bc dz bA rfl rfl) (cG E (bB uV rfl) (sq _ true) fun jJ U E=>?_));replace B:=B.I U;replace R:=R.I U;replace ag:=ag.I U;refine cG E (bB uV rfl) (sq _ false) fun mo U E=>?_;replace B:=B.I U;replace R:=R.I U;replace ag:=ag.I U;refine sW kt bA rfl rfl fun g4 mT N4=>?_;have fQ:=N4.le E;have agT:=N4.ne B;have gb:=N4.ne R;have eR:=N4.ne ag;replace B:=B.I N4.mod;replace R:=R.I N4.mod;replace ag:=ag.I N4.mod;replace E:=E.then N4.mod;have bm:=N4.ar;refine aO rfl (ah (c8 kt rfl rfl (by omega)) (ah ((br au rfl (bm.cs (o:=6) rfl))) (aK au R rfl rfl fun lK lO=>?_)));replace B:=B.ne lO.mod (Ne.symm cH);replace ag:=ag.ne lO.mod (Ne.symm OX);replace bm:=bm.ne lO.mod (Ne.symm gb);replace E:=E.own lO.mod QN;replace R:aF lK g1 _ [_,_,_,_,_,_]:=lO.ar;refine a7 rfl (J bR (bn (bw (aP (aP (bw (aP ?_)))))));have B1:iX s k=some (JV.mk 1 true 0 [] [] [],k+4):=by unfold iX;rw [ak (by rw [My 0 _ (by omega) rfl];simp),aL kf]
 exact jO rfl au rfl (R.cs rfl) rfl ⟨_,by rw [B1];rfl,⟨fun _=>⟨_,_,B1,fun A w=>JV.sV,B⟩,fun h=>(by rw [B1] at h;cases h),E⟩⟩
end Go.Proofs.YtkjgljnkocnnpaaGreatDoor.V
namespace Go.Proofs.YtkjgljnkocnnpaaGreatDoor.V
open Go Go.Proofs Go.Sort
abbrev eA:={x:(ab×JV)×List Value // x.2.length=6∧∀ v∈x.2,v.oneCell'=true}
instance:Inhabited eA:=⟨⟨(([],JV.fg),[.int .i64 0,.int .i64 0,.int .i64 0,.int .i64 0,.int .i64 0,.int .i64 0]),rfl,by decide⟩⟩
def eA.key (x:eA):ab:=x.1.1.1
def eA.enc (x:eA):List Value:=S x.key::x.1.2
theorem eA.BG (x:eA):x.enc.length=7:=by simp [eA.enc,x.2.1]
theorem eA.Uz (x:eA):∀ v∈x.enc,v.oneCell'=true:=fun v bI=>by
 rcases cB bI with rfl | bI
 ·rfl
 exact x.2.2 v bI
def Qj (x y:eA):Int:=Lib.compareBytes x.key y.key
theorem AZ (x y:eA):ltOf Qj x y=fx x.key y.key:=by
 unfold ltOf Qj;rw [yh,Bool.eq_iff_iff,decide_eq_true_eq,tJ]
theorem Nh {a b c:ab} (h:fx a b=false) (k:fx b c=false):fx a c=false:=by
 cases kf:fx a c with
 | false=>rfl
 | true=>
  rcases nY a b with h1 | h1 | h1
  ·rw [h1] at h;cases h
  ·subst h1;rw [kf] at k;cases k
  rw [hL h1 kf] at k;cases k
theorem UD:SWO (ltOf Qj):=by
 refine⟨fun x=>?_,fun x y z h k=>?_,fun x y z h k=>?_⟩
 ·rw [AZ];exact dJ _
 ·rw [AZ] at h k ⊢;exact hL h k
 rw [AZ] at h k ⊢;exact Nh h k
theorem Fq {α:Type} (enc:α→List Value) {k:Nat} (hk:∀ x,(enc x).length=k) (cg:0<k):∀ (l:List α) (t:Nat),(l.map enc).flatten[t]? = (l[t / k]?).bind fun x=>(enc x)[t % k]?
 | [],t=>by simp
 | x::l,t=>by
  rw [List.map_cons,List.flatten_cons]
  rcases Nat.lt_or_ge t k with h | h
  ·rw [List.getElem?_append_left (by rw [hk];exact h),Nat.div_eq_of_lt h,Nat.mod_eq_of_lt h]
   rfl
  rw [List.getElem?_append_right (by rw [hk];exact h),hk,Fq enc hk cg l (t-k)]
  obtain⟨u,rfl⟩:∃ u,t=u+k:=⟨t-k,by omega⟩
  rw [Nat.add_sub_cancel,Nat.add_mod_right,Nat.add_div_right _ cg]
  rfl
theorem rn (d:Array eA):(flatK eA.enc 7 d).toList=(d.toList.map eA.enc).flatten:=by
 apply List.ext_getElem?;intro t;rw [Fq eA.enc eA.BG (by decide)];rcases Nat.lt_or_ge t (d.size*7)with h | h
 ·have h1:t / 7<d.size:=by omega
  have aq:t % 7<7:=Nat.mod_lt _ (by decide);have e:=get_flatK eA.enc 7 d t h;rw [getElem!_pos (flatK eA.enc 7 d) t (by rw [size_flatK];exact h),getElem!_pos d _ h1] at e;rw [Array.getElem?_toList,Array.getElem?_toList,Array.getElem?_eq_getElem (by rw [size_flatK];exact h),e,Array.getElem?_eq_getElem h1];have bb:t % 7<(eA.enc d[t / 7]).length:=by rw [eA.BG];exact aq
  show _=(eA.enc d[t / 7])[t % 7]?;rw [List.getElem?_eq_getElem bb,getElem!_pos (eA.enc d[t / 7]) _ bb]
 rw [List.getElem?_eq_none (by simp;omega),List.getElem?_eq_none (by simp;omega)];rfl
theorem zv {w:World} {e n g o c:Nat} {d:Array eA} (O:Own w e 7 (.slice (some ⟨g,o,none⟩) n c) n (d.toList.map eA.enc).flatten):HoldsK eA.enc 7 w g o d∧g<w.heap.size∧d.size=n:=by
 have cb:=O.len;rw [← rn,Array.length_toList,size_flatK] at cb;rcases O.2 with⟨h,_⟩ | ⟨HR,xB,c',cs,h,ev,h1,aq,bb,bP⟩
 ·cases h
 cases h;refine⟨fun j eD=>⟨?_,ev.frozen _⟩,ev.lt,by omega⟩;rw [← rn] at bP;apply ev.cell;have xt:(flatK eA.enc 7 d).toList[j]? = some (flatK eA.enc 7 d)[j]!:=by rw [Array.getElem?_toList,Array.getElem?_eq_getElem eD,getElem!_pos (flatK eA.enc 7 d) j eD]
 rw [size_flatK] at eD;rw [← bP,List.getElem?_take,aL (by omega),List.getElem?_drop] at xt;exact xt
theorem IJ {w:World} {e n g o c m:Nat} {d vi:Array eA} {os:Array Obj} (O:Own w e 7 (.slice (some ⟨g,o,none⟩) n c) n (d.toList.map eA.enc).flatten) (bh:vi.size=d.size) :
  Own (sortWorldK eA.enc 7 w g o m vi os) e 7 (.slice (some ⟨g,o,none⟩) n c) n (vi.toList.map eA.enc).flatten∧Mod [g] w (sortWorldK eA.enc 7 w g o m vi os):=by
 have bT:=(zv O).2.2
 have cb:=O.len
 rcases O.2 with⟨h,_⟩ | ⟨HR,xB,c',cs,h,ev,h1,aq,bb,bP⟩
 ·cases h
 cases h
 have bM:=ev.lt
 have Bb:g<(putRowK eA.enc 7 (Sort.ahead w m) g o vi).heap.size:=by rw [size_putRowK];exact bM
 have kf:(putRowK eA.enc 7 (Sort.ahead w m) g o vi).heap=w.heap.modify g (onCells (putCells id o (flatK eA.enc 7 vi))):=rfl
 have anB:Mod [g] w (sortWorldK eA.enc 7 w g o m vi os):=by
  refine⟨rfl,rfl,rfl,?_,fun i hi ae=>?_⟩
  ·unfold sortWorldK
   rw [size_grow,size_putRowK]
   exact Nat.le_add_right _ _
  unfold sortWorldK
  rw [heap_grow_old _ _ (by rw [size_putRowK];exact hi),kf,Array.getElem?_modify,ak (fun e=>ae (by simp [e]))]
 refine⟨⟨by rw [← rn];simp [bh,bT],.inr ⟨g,o,c,(putCells id o (flatK eA.enc 7 vi) cs.toArray).toList,rfl,?_,h1,aq,?_,?_⟩⟩,anB⟩
 ·unfold aF sortWorldK
  rw [heap_grow_old _ _ Bb,kf,Array.getElem?_modify,aL rfl,ev]
  rfl
 ·simp only [putCells,Array.toList_mapIdx,List.length_mapIdx]
  exact bb
 rw [← rn]
 apply List.ext_getElem?
 intro t
 rw [List.getElem?_take]
 rcases Nat.lt_or_ge t (n*7)with h | h
 ·rw [aL h,List.getElem?_drop]
  have cZ:o+t<cs.length:=by have:=Nat.mul_le_mul_right 7 h1;omega
  have fy:t<(flatK eA.enc 7 vi).size:=by rw [size_flatK,bh,bT];exact h
  rw [Array.getElem?_toList,Array.getElem?_toList,Array.getElem?_eq_getElem fy]
  simp only [putCells,Array.getElem?_mapIdx,List.getElem?_toArray,List.getElem?_eq_getElem cZ,Option.map_some]
  rw [aL ⟨by omega,by omega⟩,Nat.add_sub_cancel_left,getElem!_pos (flatK eA.enc 7 vi) t fy]
  rfl
 rw [ak (by omega),List.getElem?_eq_none (by simp [bh,bT];omega)]
theorem II {A:List Nat} {w:World}:∀ (acc:List (ab×JV)) (vs:List Value),ao A w (acc.map JV.jq).flatten vs→∃ rows:List eA,rows.map (·.1.1)=acc∧(rows.map eA.enc).flatten=vs∧∀ r∈rows,ao A w (JV.jq r.1.1) r.enc
 | [],vs,h=>⟨[],rfl,(List.eq_nil_of_length_eq_zero (by simpa using h.length)).symm,by simp⟩
 | p::acc,vs,h=>by
  rw [List.map_cons,List.flatten_cons] at h
  obtain⟨h1,aq⟩:=h.cut
  rw [JV.AJ] at h1 aq
  obtain⟨rows,bu,ee,kH⟩:=II acc _ aq
  obtain⟨u,us,EJ,abc,awB⟩:=h1
  have hu:u=S p.1:=by simp only [bq] at abc;exact abc.1
  subst hu
  refine⟨⟨(p,us),JV.cells_one awB⟩::rows,by rw [List.map_cons,bu],?_,fun r bo=>?_⟩
  ·rw [List.map_cons,List.flatten_cons,ee]
   show(S p.1::us)++_=_
   rw [← EJ,List.take_append_drop]
  rcases cB bo with rfl | bo
  ·exact⟨_,us,rfl,abc,awB⟩
  exact kH r bo
theorem BH {A:List Nat} {w:World}:∀ (rows:List eA),(∀ r∈rows,ao A w (JV.jq r.1.1) r.enc)→ao A w ((rows.map (·.1.1)).map JV.jq).flatten (rows.map eA.enc).flatten
 | [],_=>ao.oJ
 | r::rows,h=>by
  simp only [List.map_cons,List.flatten_cons]
  exact(h r (List.mem_cons_self ..)).append (BH rows fun x ae=>h x (List.mem_cons_of_mem _ ae))
theorem Kh (k:ab) (x:JV):∀ acc:List (ab×JV),(acc.map (·.1)).Nodup→(look (e0 acc) k=some x↔(k,x)∈acc):=by
 intro acc;rw [← List.reverse_reverse acc];generalize acc.reverse=l
 induction l with
 | nil=>intro _;simp [e0,look]
 | cons p l ea=>
  intro cu;rw [List.reverse_cons,List.map_append,List.nodup_append] at cu;rw [List.reverse_cons,oR,EM]
  by_cases h:k=p.1
  ·rw [aL h];have aq:(k,x)∉l.reverse:=fun ae=>cu.2.2 k (List.mem_map.2 ⟨_,ae,rfl⟩) p.1 (by simp) h;simp only [List.mem_append,aq,false_or,List.mem_singleton,Option.some.injEq];constructor
   ·rintro rfl;rw [h]
   rintro rfl;rfl
  rw [ak h,ea cu.1];simp only [List.mem_append,List.mem_singleton];constructor
  ·exact .inl
  rintro(ae | rfl)
  ·exact ae
  exact absurd rfl h
theorem Ni (acc:List (ab×JV)):et (e0 acc):=by
 rw [← List.reverse_reverse acc];generalize acc.reverse=l
 induction l with
 | nil=>exact List.Pairwise.nil
 | cons p l ea=>rw [List.reverse_cons,oR];exact p9 ea
theorem Ki {acc m:List (ab×JV)} (cu:(acc.map (·.1)).Nodup) (cc:m.Perm acc) (aE:et m):m=e0 acc:=by
 refine uZ aE (Ni acc) fun k=>?_;have h1:∀ x,look m k=some x↔look (e0 acc) k=some x:=fun x=>by
  rw [Kh k x acc cu,← cc.mem_iff];exact⟨eG,fun h=>qc aE h⟩
 cases aq:look m k with
 | some x=>exact((h1 x).1 aq).symm
 | none=>
  cases bb:look (e0 acc) k with
  | none=>rfl
  | some x=>rw [(h1 x).2 bb] at aq;cases aq
theorem Gu {acc:List (ab×JV)} {rows:List eA} {vi:Array eA} (cu:(acc.map (·.1)).Nodup) (bo:rows.map (·.1.1)=acc) (cc:PermIn 0 rows.toArray.size rows.toArray vi) (bh:SortedIn (ltOf Qj) 0 rows.toArray.size vi) :
  vi.toList.Perm rows∧vi.toList.map (·.1.1)=e0 acc:=by
 obtain⟨h1,_,bb⟩:=cc
 have Nj:vi.toList.Perm rows:=by
  have bu:rows.toArray.extract 0 rows.toArray.size=rows.toArray:=Array.extract_size
  have ee:vi.extract 0 rows.toArray.size=vi:=by rw [← h1];exact Array.extract_size
  rw [bu,ee] at bb
  exact bb
 refine⟨Nj,Ki cu (bo▸Nj.map _) ?_⟩
 have Mf:(vi.toList.map eA.key).Nodup:=by
  rw [← bo,List.map_map] at cu
  exact((Nj.map eA.key).nodup_iff).2 cu
 unfold et
 rw [List.pairwise_map,List.pairwise_iff_getElem]
 intro i j hi eD z6
 have bP:=bh i j (Nat.zero_le _) z6 (by rw [← h1];simpa using eD)
 rw [AZ,getElem!_pos _ _ (by simpa using eD),getElem!_pos _ _ (by simpa using hi)] at bP
 have cZ:=(List.pairwise_iff_getElem.1 Mf) i j (by simpa using hi) (by simpa using eD) z6
 rw [List.getElem_map,List.getElem_map] at cZ
 rcases nY (eA.key vi.toList[i]) (eA.key vi.toList[j])with h | h | h
 ·exact h
 ·exact absurd h cZ
 rw [Array.getElem_toList,Array.getElem_toList] at h
 rw [h] at bP;cases bP
end Go.Proofs.YtkjgljnkocnnpaaGreatDoor.V
set_option maxRecDepth 10000
namespace Go.Proofs
open Go.Shelf
def Tryz.Md:Go.Shelf.Ren:=⟨fun | 6=>106 | 15=>143 | 14=>142 | 28=>176 | 29=>177 | 20=>168 | 21=>169 | 22=>170 | 23=>171 | 24=>172 | 25=>173 | 26=>174 | 27=>175 | 46=>196 | 47=>197 | 48=>198 | 49=>199 | 50=>200 | 57=>211 | n=>n,fun | 22=>23 | 24=>38 | 25=>102 | 3=>3 | 39=>127 | 0=>0 | 53=>180 | 55=>175 | 4=>4 | 46=>188 | 45=>187 | 50=>64 | 5=>5 | 9=>9 | 66=>206 | 70=>210 | 76=>229 | 77=>139 | n=>n,fun | n=>n⟩
theorem Tryz.e0:Go.Proofs.SlLaysF0.n6 Tryz.prog Tryz.Md:={
 mixed:=by kernel_rfl
 f6:=⟨Tryz.f106.name,by decide,Tryz.func106.trans (congrArg some (by kernel_rfl))⟩
 f14:=⟨Tryz.f142.name,by decide,Tryz.func142.trans (congrArg some (by kernel_rfl))⟩
 f15:=Tryz.func143.trans (congrArg some (by kernel_rfl))
 f20:=⟨Tryz.f168.name,by decide,Tryz.func168.trans (congrArg some (by kernel_rfl))⟩
 f21:=⟨Tryz.f169.name,by decide,Tryz.func169.trans (congrArg some (by kernel_rfl))⟩
 f22:=⟨Tryz.f170.name,by decide,Tryz.func170.trans (congrArg some (by kernel_rfl))⟩
 f23:=⟨Tryz.f171.name,by decide,Tryz.func171.trans (congrArg some (by kernel_rfl))⟩
 f24:=⟨Tryz.f172.name,by decide,Tryz.func172.trans (congrArg some (by kernel_rfl))⟩
 f25:=⟨Tryz.f173.name,by decide,Tryz.func173.trans (congrArg some (by kernel_rfl))⟩
 f26:=⟨Tryz.f174.name,by decide,Tryz.func174.trans (congrArg some (by kernel_rfl))⟩
 f27:=⟨Tryz.f175.name,by decide,Tryz.func175.trans (congrArg some (by kernel_rfl))⟩
 f28:=Tryz.func176.trans (congrArg some (by kernel_rfl))
 f29:=Tryz.func177.trans (congrArg some (by kernel_rfl))
 f46:=⟨Tryz.f196.name,by decide,Tryz.func196.trans (congrArg some (by kernel_rfl))⟩
 f47:=Tryz.func197.trans (congrArg some (by kernel_rfl))
 f48:=Tryz.func198.trans (congrArg some (by kernel_rfl))
 f49:=⟨Tryz.f199.name,by decide,Tryz.func199.trans (congrArg some (by kernel_rfl))⟩
 f50:=⟨Tryz.f200.name,by decide,Tryz.func200.trans (congrArg some (by kernel_rfl))⟩
 f57:=⟨Tryz.f211.name,by decide,Tryz.func211.trans (congrArg some (by kernel_rfl))⟩
 t0:=Tryz.underlying0
 a0:=Tryz.isAgg0
 z0:=Tryz.sizeOf0
 v0:=Tryz.zeroValue0
 t3:=Tryz.underlying3
 a3:=Tryz.isAgg3
 z3:=Tryz.sizeOf3
 v3:=Tryz.zeroValue3
 t4:=Tryz.underlying4
 a4:=Tryz.isAgg4
 z4:=Tryz.sizeOf4
 v4:=Tryz.zeroValue4
 t5:=Tryz.underlying5
 a5:=Tryz.isAgg5
 z5:=Tryz.sizeOf5
 v5:=Tryz.zeroValue5
 t9:=Tryz.underlying9
 a9:=Tryz.isAgg9
 z9:=Tryz.sizeOf9
 v9:=Tryz.zeroValue9
 t22:=Tryz.underlying23
 a22:=Tryz.isAgg23
 z22:=Tryz.sizeOf23
 v22:=Tryz.zeroValue23
 t25:=Tryz.underlying102
 a25:=Tryz.isAgg102
 z25:=Tryz.sizeOf102
 v25:=Tryz.zeroValue102
 t39:=Tryz.underlying127
 a39:=Tryz.isAgg127
 z39:=Tryz.sizeOf127
 v39:=Tryz.zeroValue127
 t45:=Tryz.underlying187
 a45:=Tryz.isAgg187
 z45:=Tryz.sizeOf187
 v45:=Tryz.zeroValue187
 t46:=Tryz.underlying188
 a46:=Tryz.isAgg188
 z46:=Tryz.sizeOf188
 v46:=Tryz.zeroValue188
 t50:=Tryz.underlying64
 a50:=Tryz.isAgg64
 z50:=Tryz.sizeOf64
 v50:=Tryz.zeroValue64
 t53:=Tryz.underlying180
 a53:=Tryz.isAgg180
 z53:=Tryz.sizeOf180
 v53:=Tryz.zeroValue180
 t55:=Tryz.underlying175
 a55:=Tryz.isAgg175
 z55:=Tryz.sizeOf175
 v55:=Tryz.zeroValue175
 t66:=Tryz.underlying206
 a66:=Tryz.isAgg206
 z66:=Tryz.sizeOf206
 v66:=Tryz.zeroValue206
 t70:=Tryz.underlying210
 a70:=Tryz.isAgg210
 z70:=Tryz.sizeOf210
 v70:=Tryz.zeroValue210
 t76:=Tryz.underlying229
 a76:=Tryz.isAgg229
 z76:=Tryz.sizeOf229
 v76:=Tryz.zeroValue229
 t77:=Tryz.underlying139
 a77:=Tryz.isAgg139
 z77:=Tryz.sizeOf139
 v77:=Tryz.zeroValue139}
def Tryz.Gt:Go.Shelf.Ren:=⟨fun | 106=>100 | 213=>136 | 265=>162 | n=>n,fun | 9=>9 | 3=>3 | n=>n,fun | n=>n⟩
theorem Tryz.Uv:Go.Proofs.Lays.n106 Tryz.prog Tryz.Gt:={
 mixed:=by kernel_rfl
 f106:=Tryz.func100.trans (congrArg some (by kernel_rfl))
 f213:=Tryz.func136.trans (congrArg some (by kernel_rfl))
 f265:=Tryz.func162.trans (congrArg some (by kernel_rfl))
 t3:=Tryz.underlying3
 a3:=Tryz.isAgg3
 z3:=Tryz.sizeOf3
 v3:=Tryz.zeroValue3
 t9:=Tryz.underlying9
 a9:=Tryz.isAgg9
 z9:=Tryz.sizeOf9
 v9:=Tryz.zeroValue9}
open Go.RowKit in
theorem Tryz.strings_Compare (a b:ByteArray) (w:World) :
  Calls Tryz.prog 100 #[.string a,.string b] w fun e w'=>e = .returned (.int .i64 (Lib.compareBytes a.data.toList b.data.toList))∧w'=w:=Any.strings_Compare Tryz.Uv a b w
end Go.Proofs
namespace Go.Proofs.YtkjgljnkocnnpaaGreatDoor.V
open Go Go.Proofs Go.Sort
theorem aca:vh aR 100:=vh.of Tryz.func100 (by kernel_rfl) (by kernel_rfl)
def Uw:=kT (j4 aR 38 0 0 1)
theorem acb (w:World) (a b:ab):Calls aR 100 [S a,S b].toArray w (bH fun u w'=>u = .int .i64 (Lib.compareBytes a b)∧w'=w):=by
 refine(Tryz.strings_Compare ⟨⟨a⟩⟩ ⟨⟨b⟩⟩ w).mono fun e w' he=>?_;obtain⟨rfl,rfl⟩:=he;exact⟨rfl,rfl⟩
theorem Qi (w:World) (a b:ab) (us vs:List Value):Calls aR 63 [.agg (S a::us).toArray,.agg (S b::vs).toArray].toArray w (bH fun u w'=>u = .int .i64 (Lib.compareBytes a b)∧w'=(w.alloc (.cells (S a::us).toArray 38)).alloc (.cells (S b::vs).toArray 38)):=by
 refine enter Tryz.func63 rfl rfl rfl (l:=[(1,_),(0,_)]) ⟨rfl,rfl,trivial⟩ ?_;refine mU fun K1 a6=>?_;refine b5 ?_;refine hg (Me rfl rfl) rfl ?_;refine hg (Me rfl rfl) rfl ?_;refine hg (cS rfl) rfl ?_;refine cx ?_;refine dq (a6 _ _ _ _ ?_);have bZ:=j6.mk' w 38 (S a::us);have cz:=j6.mk' (w.alloc (.cells (S a::us).toArray 38)) 38 (S b::vs);have iu:=bZ.ar.I cz.mod;have eb:=cz.ar;refine mU fun K2 aQ=>?_;refine b5 ?_;refine hg (aD Uw rfl) rfl ?_;refine hg (bF b2 rfl (iu.cell rfl)) rfl ?_;refine hg (aD Uw rfl) rfl ?_;refine hg (bF b2 rfl (eb.cell rfl)) rfl ?_;refine cJ (bB aca rfl) (acb _ a b) fun cN aJ aH=>?_;obtain⟨rfl,rfl⟩:=aH;refine hg (cS rfl) rfl ?_;refine cx ?_;refine dq (aQ _ _ _ _ ?_);refine bn ?_;exact aG rfl rfl ⟨rfl,rfl⟩
theorem acd {w:World} {g o n:Nat}:CmpLays aR 63 #[] eA.enc 7 Qj g o n w:=by
 intro m os aBd bT x y;refine(Qi _ x.key y.key x.1.2 y.1.2).mono fun e w' he=>?_
 match e,he with
 | .returned u,⟨h1,aq⟩=>
  refine⟨by rw [h1];rfl,0,#[.cells (S x.key::x.1.2).toArray 38,.cells (S y.key::y.1.2).toArray 38],aq.trans ?_⟩;rw [alloc_eq_grow,alloc_eq_grow,grow_grow];rfl
theorem Ux (w:World) {wr:World} {e n c:Nat} {ad:Addr} {acc:List (ab×JV)} {vs:List Value} {A:List Nat} (O:Own w e 7 (.slice (some ad) n c) n vs) (bo:ao A wr (acc.map JV.jq).flatten vs) (cu:(acc.map (·.1)).Nodup) (bh:acc.length≤1000000) :
  Calls aR 106 [.slice (some ad) n c,.func (.func 63) #[] #[]].toArray w (bH fun u w'=>u = .tuple #[]∧Mod [ad.block] w w'∧∃ kW,Own w' e 7 (.slice (some ad) n c) n kW∧ao A wr ((e0 acc).map JV.jq).flatten kW∧(e0 acc).length=n):=by
 obtain⟨rows,bu,rfl,kH⟩:=II acc vs bo
 obtain⟨g,o,rfl⟩:∃ g o,ad=⟨g,o,none⟩:=by
  rcases O.2 with⟨h,_⟩ | ⟨g,o,_,_,h,_⟩
  ·cases h
  cases h;exact⟨g,o,rfl⟩
 have HQ:Own w e 7 (.slice (some ⟨g,o,none⟩) n c) n (rows.toArray.toList.map eA.enc).flatten:=O
 obtain⟨hH,bM,jV⟩:=zv HQ
 have Uy:rows.length=acc.length:=by rw [← bu,List.length_map]
 subst jV
 refine(AnyQ.slices_SortFunc Tryz.e0 7 (fun w=>Tryz.isAgg38 w) (fun w=>Tryz.sizeOf38 w) eA.enc eA.BG eA.Uz Qj UD 63 #[] g o c rows.toArray w (enters_of Tryz.func63 (by kernel_rfl) rfl) acd hH bM (by rw [List.size_toArray];omega)).mono fun yu w' he=>?_
 obtain⟨rfl,vi,m,os,cc,k7,rfl⟩:=he
 obtain⟨h1,aq⟩:=Gu cu bu cc k7
 obtain⟨bb,bP⟩:=IJ (m:=m) (os:=os) HQ cc.1
 refine⟨rfl,bP,_,bb,?_,?_⟩
 ·rw [← aq]
  exact BH _ fun r qt=>kH r (h1.mem_iff.1 qt)
 rw [← aq,List.length_map,Array.length_toList,cc.1]
theorem UE (w:World) (p:Option Addr) (c:Nat):Calls aR 106 [.slice p 0 c,.func (.func 63) #[] #[]].toArray w (bH fun u w'=>u = .tuple #[]∧w'=w):=by
 refine(AnyF.slices_SortFunc_none Tryz.e0 p c (.func (.func 63) #[] #[]) w).mono fun e w' he=>?_;obtain⟨rfl,rfl⟩:=he;exact⟨rfl,rfl⟩
theorem UF (w:World) {wr:World} {e n:Nat} {v:Value} {acc:List (ab×JV)} {vs:List Value} {A:List Nat} (O:Own w e 7 v n vs) (bo:ao A wr (acc.map JV.jq).flatten vs) (cu:(acc.map (·.1)).Nodup) (bh:acc.length≤1000000) (cb:acc.length=n) :
  Calls aR 106 [v,.func (.func 63) #[] #[]].toArray w (bH fun u w'=>u = .tuple #[]∧Mod (bk v) w w'∧∃ kW,Own w' e 7 v n kW∧ao A wr ((e0 acc).map JV.jq).flatten kW∧(e0 acc).length=n):=by
 obtain⟨ad,c,rfl,_,_⟩:=O.form
 cases n with
 | zero=>
  have:acc = []:=List.eq_nil_of_length_eq_zero cb
  subst this
  refine(UE w ad c).mono fun yu w' he=>?_
  match yu,he with
  | .returned u,⟨h1,aq⟩=>exact⟨h1,aq▸Mod.refl _ _,vs,aq▸O,bo,rfl⟩
 | succ n=>
  obtain⟨ad,rfl⟩:∃ a,ad=some a:=by
   rcases O.2 with⟨_,h⟩ | ⟨g,o,_,_,h,_⟩
   ·cases h
   cases h;exact⟨_,rfl⟩
  exact Ux w O bo cu bh
end Go.Proofs.YtkjgljnkocnnpaaGreatDoor.V
set_option maxRecDepth 10000
namespace Go.Proofs.YtkjgljnkocnnpaaGreatDoor.V
open Go Go.Proofs
abbrev pk (Z:List Nat):aeW:=⟨71,20,131,108,133,136,25,38,Z⟩
def gW:=kT (j4 aR 71 2 2 1)
def vv:=kT (kU aR 69 20 1 16)
theorem amp:gX aR 20 [.nilIface]:=by unfold gX;kernel_rfl
def lC:=kT (pa aR 69)
theorem B2.eq {w w':World} {g:Nat} {T:TypeId} {cs cs':List Value} (h:B2 w w' g T cs) (e:cs=cs'):aF w' g T cs':=e▸h.ar
theorem OY {aJ:World} {g k:Nat} {s:ab} {sk:Value} {awp:TypeId} {awq:Option Addr} {cs:List Value} (B:aF aJ g 71 [S s,.int .i64 (k:Int),sk]) (O:Own aJ 20 1 sk cs.length cs.reverse) (xl:∀ x∈bk sk,x≠g)
  (bh:s.length≤65536) (hk:k≤s.length) (bT:cs.length≤32) :
  Calls aR 104 [.pointer (some ⟨g,0,none⟩),.iface awp (.pointer awq)].toArray aJ (Qy 95 (g::bk sk) aJ (if cs.length=32 then (.error 5:Except Int Unit)else .ok ()) (fun _ u w'=>u = .tuple #[]∧∃ ie,aF w' g 71 [S s,.int .i64 ((k+1:Nat):Int),ie]∧Own w' 20 1 ie (cs.length+1) (cs.reverse ++ [.iface awp (.pointer awq)])∧∀ x∈bk ie,x∈bk sk∨aJ.heap.size≤x)):=by
 refine la Tryz.func104 rfl ?_
 obtain⟨ad,c0,rfl,eQ,h3⟩:=O.form
 have bM:=B.lt
 have hO:∀ {a b:World},Mod [g] a b→Own a 20 1 (.slice ad cs.length c0) cs.length cs.reverse→Own b 20 1 (.slice ad cs.length c0) cs.length cs.reverse:=fun Mz azy=>azy.mod Mz (fun x ae e=>xl x ae (by simpa using e))
 have E:=Mod.refl [g] aJ
 refine aB fun a6=>aa fun aQ=>aj 2 rfl (ah (aD gW rfl) (ah (bF lC rfl (B.cell rfl)) (ah (bY nn rfl) (ah (k1 rfl rfl) (J aQ ?_)))))
 refine a1 rfl (fun l2=>?_) (fun l2=>?_)
 ·have l2:cs.length=32:=by have:=of_decide_eq_true l2;omega
  refine b5 ?_
  refine h6 (bB jz rfl) (hv _ 5) rfl (fun db aH=>aH.elim) (fun oU iw aH=>?_) fun cN iw aH=>?_
  ·obtain⟨rfl,rfl⟩:=aH
   exact aP (ff ⟨5,by rw [aL l2],by decide,rfl,Mod.refl _ _⟩)
  exact aH.elim
 have l2:¬ cs.length=32:=fun e=>of_decide_eq_false l2 (by omega)
 refine b' (av a6 (aa fun a'=>aj 2 rfl (ah (aD dK rfl) (ah (bF eg rfl (B.cell rfl)) (ah (aS (r:=((k+1:Nat):Int)) rfl rfl) (aj 1 rfl (ah (aD dK rfl) (cL eg B rfl rfl fun cX Ds=>?_))))))))
 replace O:=hO Ds.mod O
 replace B:=Ds.eq rfl
 replace E:=E.trans Ds.mod
 refine J a' (b5 (aj 3 rfl (ah (aD gW rfl) (ah (bF lC rfl (B.cell rfl)) (aj 1 rfl (dm vv amp rfl rfl fun g1 gr bZ=>?_))))))
 have R:=bZ.ar
 replace B:=B.I bZ.mod
 replace O:=O.I bZ.mod
 replace E:=E.then bZ.mod
 refine bz vv rfl rfl O (Src.own nn (Own.all (cs:=[_]) R rfl (by omega)) (by simp [Value.oneCell'])) (by decide) (by omega) (by omega) rfl fun v1 h8 kB=>?_
 replace B:=B.mod kB.mod (fun ae=>xl _ ae rfl)
 refine aj 1 rfl (ah (aD gW rfl) ?_)
 obtain⟨tK,c1,bu,_,_⟩:=kB.own.form
 refine Wn lC B rfl rfl (by rw [bu];rfl) (by simp) fun iS hd=>?_
 have GA:Mod (g::bk (.slice ad cs.length c0)) aJ iS:=((E.mono (by simp)).trans (kB.mod.mono (fun x ae=>List.mem_cons_of_mem _ ae))).trans (hd.mod.mono (by simp))
 have cZ:∀ x∈bk v1,x∈bk (.slice ad cs.length c0)∨aJ.heap.size≤x:=fun x ae=>(kB.lH x ae).imp id (Nat.le_trans E.size)
 refine cx ?_
 exact lP rfl ⟨(),by rw [ak l2],⟨rfl,v1,hd.eq rfl,kB.own.mod hd.mod (fun x ae e=>by
  rw [dx e] at ae
  rcases cZ g ae with h | h
  ·exact xl _ h rfl
  omega),cZ⟩,GA⟩
set_option maxRecDepth 10000
def B3:=kT (j4 aR 136 0 0 1)
def Jj:=kT (j4 aR 136 1 1 1)
def xm:=kT (j4 aR 136 2 2 1)
def Wo:=kT (pa aR 134)
theorem Wp:aR.underlying 134=some (.map 9 4):=by kernel_rfl
theorem ase:(aR.info? 4).bind (·.zero)=some (.bool false):=by kernel_rfl
def OZ:=eW Tryz.func103
theorem GL:vh aR 38:=vh.of Tryz.func38 (by kernel_rfl) (by kernel_rfl)
theorem sX:vh aR 68:=vh.of Tryz.func68 (by kernel_rfl) (by kernel_rfl)
theorem O0 {w:World} {g g1 b k:Nat} {s t0:ab} {sk eM:Value} {K:List ab} {m:List (ab×JV)} (B:aF w g 71 [S s,.int .i64 (k:Int),sk]) (iu:aF w g1 136 [eM,.map (some b),S t0]) (hm:k8 w b (pj K)) (xa:g1≠g) (QO:g≠b) (Wq:g1≠b)
  (nI:∀ t,(look m t).isSome=decide (t∈K)) (bh:s.length≤65536) (hk:k≤s.length) (gR:Env w) (dY:QM<g) :
  Calls aR 70 [.pointer (some ⟨g,0,none⟩),.pointer (some ⟨g1,0,none⟩)].toArray w (Qy 95 [g,g1,b] w (h5 s k m) (fun x u w'=>u = .tuple #[]∧aF w' g 71 [S s,.int .i64 (x.2:Int),sk]∧aF w' g1 136 [eM,.map (some b),S x.1]∧k8 w' b (pj (K ++ [x.1]))∧x.2≤s.length)):=by
 refine la Tryz.func70 rfl ?_
 have E:=Mod.refl [g,g1,b] w
 have g':=dD (p:=aT) (s:=s) hk
 refine aa fun a6=>aO rfl (cJ (bB GL rfl) (xj _ g s k sk B bh hk) fun cN aJ aH=>?_)
 obtain⟨B,U⟩:=aH
 replace iu:=iu.mod U (by simpa using xa)
 replace hm:=hm.mod U (by simpa using Ne.symm QO)
 have asf:=gR.vu dY U
 replace E:=E.trans (U.mono (by simp))
 refine J a6 (aa fun aQ=>aj 1 rfl (aO rfl ?_))
 refine h6 (bB OZ rfl) (Jd _ g s (ai aT s k) sk B bh g' asf.agP) rfl (fun db aH=>aH) (fun oU cX aH=>?_) fun cN cX aH=>?_
 ·obtain⟨e,he,cg,rfl,U⟩:=aH
  refine aP ?_
  refine ff ⟨e,?_,cg,rfl,E.trans (U.mono (by simp))⟩
  unfold h5
  cases h:dP s (ai aT s k)with
  | none=>rw [h] at he;exact he
  | some x=>rw [h] at he;cases he
 obtain⟨⟨t,ef⟩,he,⟨rfl,B⟩,U⟩:=aH
 have bW:dP s (ai aT s k)=some (t,ef):=by
  cases h:dP s (ai aT s k)with
  | none=>rw [h] at he;cases he
  | some x=>rw [h] at he;cases he;rfl
 have bC:ef≤s.length:=(mI bW).2.1
 have QP:h5 s k m=if (look m t).isSome then .error 6 else if aC s (ai aT s ef) [58] then .ok (t,ai aT s ef+1)else .error 4:=by
  unfold h5;rw [bW]
 rw [nI t] at QP
 replace iu:=iu.mod U (by simpa using xa)
 replace hm:=hm.mod U (by simpa using Ne.symm QO)
 replace E:=E.trans (U.mono (by simp))
 refine aj 1 rfl (ah (aD xm rfl) (cL b2 iu rfl rfl fun gr rW=>?_))
 replace B:=B.mod rW.mod (by simpa using Ne.symm xa)
 replace hm:=hm.mod rW.mod (by simpa using Ne.symm Wq)
 replace E:=E.trans (rW.mod.mono (by simp))
 replace iu:=rW.eq (cs':=[eM,.map (some b),S t]) rfl
 refine J aQ (aB fun a'=>aB fun bp=>cn wide (by kernel_rfl) (hF 2 rfl rfl (ax (fun U=>(aD Jj rfl)) (ax (fun U=>(bF Wo rfl ((iu.I U).cell rfl))) (hF 2 rfl rfl (ax (fun U=>(aD xm rfl)) (ax (fun U=>(bF b2 rfl ((iu.I U).cell rfl))) ?_)))))))
 refine asg (fun db U=>(amq Wp aA ase rfl (.inr ⟨b,rfl,hm.I U⟩) rfl).to (v':=.bool (decide (t∈K))) (by
  rw [wb]
  by_cases h:t∈K
  ·rw [aL h,bD h];rfl
  rw [ak h,cr h];rfl)) rfl rfl ?_
 refine cq rfl fun h8 U=>?_
 replace B:=B.I U
 replace iu:=iu.I U
 replace hm:=hm.I U
 replace E:=E.then U
 refine av bp ?_
 refine aX rfl (fun nH=>?_) (fun nH=>?_)
 ·refine b5 ?_
  refine h6 (bB jz rfl) (hv _ 6) rfl (fun db aH=>aH.elim) (fun oU iw aH=>?_) fun cN iw aH=>?_
  ·obtain⟨rfl,rfl⟩:=aH
   exact aP (ff ⟨6,by rw [QP,aL (bD nH)],by decide,rfl,E⟩)
  exact aH.elim
 rw [ak (by simpa using nH)] at QP
 refine b' (av a' (aB fun bx=>B4 8 wide (by kernel_rfl) (hF 2 rfl rfl (ax (fun U=>(aD Jj rfl)) (ax (fun U=>(bF Wo rfl ((iu.I U).cell rfl))) (hF 2 rfl rfl (ax (fun U=>(aD xm rfl)) (ax (fun U=>(bF b2 rfl ((iu.I U).cell rfl))) (oF rfl fun iS U=>?_)))))))))
 replace B:=B.I U
 replace iu:=iu.I U
 replace hm:=hm.I U
 replace E:=E.then U
 refine acN Wp aA rfl hm rfl rfl fun i' vg U=>?_
 replace B:=B.mod U (by simpa using QO)
 replace iu:=iu.mod U (by simpa using Wq)
 replace E:=E.trans (U.mono (by simp))
 rw [Qz nH] at vg
 refine J bx (aa fun bO=>aO rfl (cJ (bB sX rfl) (wi _ g s ef sk B bh bC 58) fun cN iw aH=>?_))
 obtain⟨rfl,B,U⟩:=aH
 replace iu:=iu.mod U (by simpa using xa)
 replace vg:=vg.mod U (by simpa using Ne.symm QO)
 replace E:=E.trans (U.mono (by simp))
 refine ah (fC rfl) (J bO ?_)
 refine a1 rfl (fun gu=>?_) (fun gu=>?_)
 ·have gu:aC s (ai aT s ef) [58]=false:=by simpa using gu
  refine b5 ?_
  refine h6 (bB jz rfl) (hv _ 4) rfl (fun db aH=>aH.elim) (fun oU iw aH=>?_) fun cN iw aH=>?_
  ·obtain⟨rfl,rfl⟩:=aH
   exact ff ⟨4,by rw [QP,gu];rfl,by decide,rfl,E⟩
  exact aH.elim
 have gu:aC s (ai aT s ef) [58]=true:=by simpa using gu
 rw [gu,aL rfl] at QP B
 exact b' (lP rfl ⟨(t,ai aT s ef+1),QP,⟨rfl,B,iu,vg,by have:=b9 gu (by simp);simpa using this⟩,E⟩)
set_option maxRecDepth 10000
def EW:=kT (pa aR 20)
def B5:=kT (j4 aR 133 0 0 1)
theorem B6:aR.underlying 131=some (.pointer 133):=by kernel_rfl
theorem B7:aR.underlying 108=some (.pointer 136):=by kernel_rfl
theorem Wr:(aR.info? 131).bind (·.zero)=some (.pointer none):=by kernel_rfl
theorem sr {w:World} {hg c:Value} {cs:List Value} (O:Own w 20 1 hg (c::cs).length (c::cs).reverse):∃ ad c0,hg = .slice (some ad) (cs.length+1) c0∧cs.length+1≤c0∧c0≤9223372036854775807∧pF w ad (cs.reverse ++ [c]):=by
 rcases O.2 with⟨_,cg⟩ | ⟨g,o,c0,aa6,h1,_⟩
 ·simp at cg
 subst h1;have:=O.form;obtain⟨_,_,aq,bb,bP⟩:=this;cases aq;exact⟨_,_,rfl,bb,bP,by have:=O.cs;rwa [List.reverse_cons] at this⟩
theorem p' {w:World} {c:Value} {cs:List Value} {ad:Addr} (C:pF w ad (cs.reverse ++ [c])):w.cell? (ad.add ((cs.length:Int).toNat*1))=some c:=by
 rw [Int.toNat_natCast,Nat.mul_one];exact C _ _ (by rw [List.getElem?_append_right (by simp),List.length_reverse,Nat.sub_self];rfl)
theorem Jk {w:World} {c:Value} {cs:List Value} {ad:Addr} {c0:Nat} (O:Own w 20 1 (.slice (some ad) (cs.length+1) c0) (c::cs).length (c::cs).reverse):Own w 20 1 (.slice (some ad) cs.length c0) cs.length cs.reverse:=by
 have:=Own.take (m:=cs.length) O (by simp)
 rwa [List.reverse_cons,List.take_append_of_le_length (by simp),List.take_of_length_le (by simp)] at this
/-- the private blocks are as they were -/
def B8 (Z:List Nat) (w w':World):Prop:=∀ z∈Z,w'.heap[z]? = w.heap[z]?
theorem B8.of {Z M:List Nat} {w w':World} (h:Mod M w w') (cb:∀ z∈Z,z<w.heap.size) (cu:∀ z∈Z,z∉M):B8 Z w w':=fun z cP=>h.block z (cb z cP) (cu z cP)
theorem o9.Aj {Z:List Nat} {w0 w:World} {g k:Nat} {s:ab} {st:List nF} {sk:Value} {cs:List Value} {fp:List Nat} (H:o9 (pk Z) w0 w g s k st sk cs fp):∀ z∈Z,z<w.heap.size∧z≠g∧z∉bk sk:=fun z cP=>by
 have dn:=H.vj.z z cP;exact⟨H.lt z (by simp [dn]),fun e=>H.vk (by subst e;simp [dn]),fun h=>H.wH z h dn⟩
theorem Jl {w:World} {g k g1 n cl:Nat} {s:ab} {sk:Value} {al:Option Addr} {fE:List Value} (B:aF w g 71 [S s,.int .i64 (k:Int),sk]) (O:Own w 20 1 sk (.iface 131 (.pointer (some ⟨g1,0,none⟩))::fE).length (.iface 131 (.pointer (some ⟨g1,0,none⟩))::fE).reverse)
  (iu:aF w g1 133 [.slice al n cl]) (se:g1≠g) (xl:∀ x∈bk sk,x≠g) (bT:fE.length≤32) :
  Calls aR 69 [.pointer (some ⟨g,0,none⟩)].toArray w (bH fun u w'=>u = .agg #[.int .i64 4,.bool false,.int .i64 0,S [],.slice al n cl,.slice none 0 0]∧(∃ ie,aF w' g 71 [S s,.int .i64 (k:Int),ie]∧Own w' 20 1 ie fE.length fE.reverse∧bk ie=bk sk)∧Mod [g] w w'):=by
 refine l9 Tryz.func69 rfl ?_
 obtain⟨ad,c0,rfl,eQ,h3,C⟩:=sr O
 have tX:fE.length≤32:=bT
 have E:=Mod.refl [g] w
 refine aa fun a6=>bj bA rfl fun g2 aJ bZ=>?_
 have xk:=bZ.le E
 have n3:=bZ.ne B
 have n4:=bZ.ne iu
 have QQ:=bZ.bU O
 replace B:=B.I bZ.mod
 replace iu:=iu.I bZ.mod
 replace O:=O.I bZ.mod
 replace C:=C.mod bZ.mod (by simp)
 replace E:=E.then bZ.mod
 have eb:=bZ.ar
 refine J a6 (aB fun aQ=>cn wide (by kernel_rfl) (hF 2 rfl rfl (ax (fun U=>(aD gW rfl)) (ax (fun U=>(bF lC rfl ((B.I U).cell rfl))) (hF 2 rfl rfl (ax (fun U=>(aD gW rfl)) (ax (fun U=>(bF lC rfl ((B.I U).cell rfl))) (ax (fun U=>(bY nn rfl)) (ax (fun U=>(eZ (r:=((fE.length:Nat):Int)) rfl rfl)) (ax (fun U=>(c8 vv rfl rfl (by omega))) (ax (fun U=>(bF EW rfl (p' (C.mod U (by simp))))) (ax (fun U=>(cS rfl)) ?_))))))))))))
 refine cq rfl fun cX U=>?_
 replace B:=B.I U
 replace iu:=iu.I U
 replace eb:=eb.I U
 replace O:=O.I U
 replace E:=E.then U
 refine av aQ (aB fun a'=>B4 12 wide (by kernel_rfl) (hF 3 rfl rfl (ax (fun U=>(aD gW rfl)) (ax (fun U=>(bF lC rfl ((B.I U).cell rfl))) (hF 2 rfl rfl (ax (fun U=>(aD gW rfl)) (ax (fun U=>(bF lC rfl ((B.I U).cell rfl))) (ax (fun U=>(bY nn rfl)) (ax (fun U=>(eZ (r:=((fE.length:Nat):Int)) rfl rfl)) (ax (fun U=>(Jm vv rfl rfl rfl (by simp only [ib,iR];omega) (by omega)).to (v':=.slice (some ad) fE.length c0) (by simp only [ib,iR,Int.toNat_natCast];rw [show(0:Int).toNat=0 from rfl,yK];simp)) (oF rfl fun gr U=>?_)))))))))))
 replace B:=B.I U
 replace iu:=iu.I U
 replace eb:=eb.I U
 replace O:=O.I U
 replace E:=E.then U
 refine aj 1 rfl (ah (aD gW rfl) (cL lC B rfl rfl fun h8 j0=>?_))
 replace B:=j0.eq (cs':=[S s,.int .i64 (k:Int),.slice (some ad) fE.length c0]) rfl
 replace iu:=iu.mod j0.mod (by simpa using se)
 replace eb:=eb.mod j0.mod (by simpa using Ne.symm n3)
 replace O:=(Jk O).mod j0.mod (fun x ae e=>xl x ae (by simpa using e))
 replace E:=E.trans j0.mod
 refine J a' (aB fun bp=>aa fun bx=>aO rfl (ah (O1 B6 rfl rfl) (aO rfl (ah (fo rfl rfl) (ah (fo rfl rfl) (a7 rfl (a7 rfl (J bx (aa fun bO=>aO rfl (J bO ?_))))))))))
 refine a1 rfl (fun ue=>?_) (fun ue=>absurd ue (by decide))
 refine aa fun b4=>aj 2 rfl (ah (aD B5 rfl) (ah (bF j8 rfl (iu.cell rfl)) (ah (bc dz bA rfl rfl) (aK au eb rfl rfl fun iS hd=>?_))))
 have pn:=hd.eq (cs':=[.int .i64 4,.bool false,.int .i64 0,S [],.slice al n cl,.slice none 0 0]) rfl
 have ash:=E.own hd.mod (by omega)
 exact J b4 (bn (aP (O2 rfl au rfl rfl (pn.cs rfl) ⟨rfl,⟨_,B.mod hd.mod (by simpa using n3),O.mod hd.mod (fun x ae e=>QQ x ae (by simpa using e)),rfl⟩,ash⟩)))
theorem acO {Z:List Nat} {w0 w:World} {g k:Nat} {s:ab} {st:List nF} {sk:Value} {cs:List Value} {fp:List Nat} {acc:List JV} (H:o9 (pk Z) w0 w g s k (.L acc::st) sk cs fp) (bT:cs.length≤33) :
  Calls aR 69 [.pointer (some ⟨g,0,none⟩)].toArray w (bH fun u w'=>∃ us ie fE gB,u = .agg us.toArray∧o9 (pk Z) w0 w' g s k st ie fE gB∧n1 w w' g sk fp ie gB∧ao (g::(bk ie++gB)) w' (JV.de acc).D us∧B8 Z w w'):=by
 have asi:=H.own
 have cP:=H.Aj
 obtain⟨g1,eM,vs,fE,gB,rfl,rfl,iu,fs,B9,wG,se,QR,_,asj⟩:=H.Ve
 obtain⟨al,cl,rfl,_,_⟩:=fs.form
 refine Calls.imp (Jl H.rd asi iu se (fun x ae e=>H.vk (by subst e;simp [ae])) (by simpa using bT)) fun u w' aH=>?_
 obtain⟨rfl,⟨ie,amr,HQ,km⟩,E⟩:=aH
 obtain⟨nc,po,_,aba⟩:=asj w' ie E amr HQ km
 exact⟨_,_,fE,gB,rfl,nc,po,JV.bX (v:=JV.de acc) (am:=none) (cm:=0) aba bq.eh,B8.of E (fun z hx=>(cP z hx).1) (fun z hx=>by simpa using (cP z hx).2.1)⟩
set_option maxRecDepth 10000
def acP:=eW Tryz.func106
theorem Jn {w wr:World} {A:List Nat} {g k g1:Nat} {s:ab} {sk m1 t1 eM:Value} {acc:List (ab×JV)} {vs:List Value} {fE:List Value} (B:aF w g 71 [S s,.int .i64 (k:Int),sk]) (O:Own w 20 1 sk (.iface 108 (.pointer (some ⟨g1,0,none⟩))::fE).length (.iface 108 (.pointer (some ⟨g1,0,none⟩))::fE).reverse)
  (iu:aF w g1 136 [eM,m1,t1]) (fs:Own w 38 7 eM acc.length vs) (B9:ao A wr (acc.map JV.jq).flatten vs) (Mf:(acc.map (·.1)).Nodup) (se:g1≠g) (xl:∀ x∈bk sk,x≠g) (HT:∀ x∈bk eM,x≠g) (n11:∀ x∈bk sk,x∉bk eM) (bT:fE.length≤32) (cb:acc.length≤1000000) :
  Calls aR 69 [.pointer (some ⟨g,0,none⟩)].toArray w (bH fun u w'=>u = .agg #[.int .i64 5,.bool false,.int .i64 0,S [],.slice none 0 0,eM]∧(∃ ie,aF w' g 71 [S s,.int .i64 (k:Int),ie]∧Own w' 20 1 ie fE.length fE.reverse∧bk ie=bk sk)∧Mod (g::bk eM) w w'∧(∃ kW,Own w' 38 7 eM (e0 acc).length kW∧ao A wr ((e0 acc).map JV.jq).flatten kW)∧(e0 acc).length=acc.length):=by
 refine l9 Tryz.func69 rfl ?_
 obtain⟨ad,c0,rfl,eQ,h3,C⟩:=sr O
 obtain⟨al,cl,rfl,_,_⟩:=fs.form
 have tX:fE.length≤32:=bT
 have E:=Mod.refl [g] w
 refine aa fun a6=>bj bA rfl fun g2 aJ bZ=>?_
 have xk:=bZ.le E
 have n3:=bZ.ne B
 have n4:=bZ.ne iu
 have QQ:=bZ.bU O
 have n10:=bZ.bU fs
 replace B:=B.I bZ.mod
 replace iu:=iu.I bZ.mod
 replace fs:=fs.I bZ.mod
 replace O:=O.I bZ.mod
 replace C:=C.mod bZ.mod (by simp)
 replace E:=E.then bZ.mod
 have eb:=bZ.ar
 refine J a6 (aB fun aQ=>cn wide (by kernel_rfl) (hF 2 rfl rfl (ax (fun U=>(aD gW rfl)) (ax (fun U=>(bF lC rfl ((B.I U).cell rfl))) (hF 2 rfl rfl (ax (fun U=>(aD gW rfl)) (ax (fun U=>(bF lC rfl ((B.I U).cell rfl))) (ax (fun U=>(bY nn rfl)) (ax (fun U=>(eZ (r:=((fE.length:Nat):Int)) rfl rfl)) (ax (fun U=>(c8 vv rfl rfl (by omega))) (ax (fun U=>(bF EW rfl (p' (C.mod U (by simp))))) (ax (fun U=>(cS rfl)) ?_))))))))))))
 refine cq rfl fun cX U=>?_
 replace B:=B.I U
 replace iu:=iu.I U
 replace fs:=fs.I U
 replace eb:=eb.I U
 replace O:=O.I U
 replace E:=E.then U
 refine av aQ (aB fun a'=>B4 12 wide (by kernel_rfl) (hF 3 rfl rfl (ax (fun U=>(aD gW rfl)) (ax (fun U=>(bF lC rfl ((B.I U).cell rfl))) (hF 2 rfl rfl (ax (fun U=>(aD gW rfl)) (ax (fun U=>(bF lC rfl ((B.I U).cell rfl))) (ax (fun U=>(bY nn rfl)) (ax (fun U=>(eZ (r:=((fE.length:Nat):Int)) rfl rfl)) (ax (fun U=>(Jm vv rfl rfl rfl (by simp only [ib,iR];omega) (by omega)).to (v':=.slice (some ad) fE.length c0) (by simp only [ib,iR,Int.toNat_natCast];rw [show(0:Int).toNat=0 from rfl,yK];simp)) (oF rfl fun gr U=>?_)))))))))))
 replace B:=B.I U
 replace iu:=iu.I U
 replace fs:=fs.I U
 replace eb:=eb.I U
 replace O:=O.I U
 replace E:=E.then U
 refine aj 1 rfl (ah (aD gW rfl) (cL lC B rfl rfl fun h8 j0=>?_))
 replace B:=j0.eq (cs':=[S s,.int .i64 (k:Int),.slice (some ad) fE.length c0]) rfl
 replace iu:=iu.mod j0.mod (by simpa using se)
 replace fs:=fs.mod j0.mod (fun x ae e=>HT x ae (by simpa using e))
 replace eb:=eb.mod j0.mod (by simpa using Ne.symm n3)
 replace O:=(Jk O).mod j0.mod (fun x ae e=>xl x ae (by simpa using e))
 replace E:=E.trans j0.mod
 refine J a' (aB fun bp=>aa fun bx=>aO rfl (ah (MA B6 (by decide) Wr rfl) (aO rfl (ah (fo rfl rfl) (ah (fo rfl rfl) (a7 rfl (a7 rfl (J bx (aa fun bO=>aO rfl (J bO ?_))))))))))
 refine a1 rfl (fun ue=>absurd ue (by decide)) (fun ue=>b' (av bp (aa fun b4=>aO rfl (ah (Ws B7 rfl rfl) (aj 1 rfl (ah (aD B3 rfl) (ah (bF dM rfl (iu.cell rfl)) (a7 rfl (J b4 (aa fun cw=>aO rfl (cJ (bB acP rfl) (UF _ fs B9 Mf cb rfl) fun cN iS aH=>?_)))))))))))
 obtain⟨_,U,kW,asl,asm,hlen⟩:=aH
 replace B:=B.mod U (fun ae=>HT g ae rfl)
 replace eb:=eb.mod U (fun ae=>n10 g2 ae rfl)
 replace O:=O.mod U (fun x ae e=>n11 x ae e)
 replace E:=(E.mono (N:=g::bk (.slice al acc.length cl)) (by simp)).trans (U.mono (fun x ae=>List.mem_cons_of_mem _ ae))
 refine J cw (aa fun cy=>aj 1 rfl (ah (bc dz bA rfl rfl) (aK au eb rfl rfl fun i' kI=>?_)))
 have pn:=kI.eq (cs':=[.int .i64 5,.bool false,.int .i64 0,S [],.slice none 0 0,.slice al acc.length cl]) rfl
 have asn:=E.own kI.mod (by omega)
 exact J cy (bn (O2 rfl au rfl rfl (pn.cs rfl) ⟨rfl,⟨_,B.mod kI.mod (by simpa using n3),O.mod kI.mod (fun x ae e=>QQ x ae (by simpa using e)),rfl⟩,asn,⟨kW,hlen▸asl.mod kI.mod (fun x ae e=>n10 x ae (by simpa using e)),asm⟩,hlen⟩))
theorem acQ {Z:List Nat} {w0 w:World} {g k:Nat} {s t:ab} {st:List nF} {sk:Value} {cs:List Value} {fp:List Nat} {acc:List (ab×JV)} (H:o9 (pk Z) w0 w g s k (.A acc t::st) sk cs fp) (bT:cs.length≤33) (cb:acc.length≤1000000) :
  Calls aR 69 [.pointer (some ⟨g,0,none⟩)].toArray w (bH fun u w'=>∃ us ie fE gB,u = .agg us.toArray∧o9 (pk Z) w0 w' g s k st ie fE gB∧n1 w w' g sk fp ie gB∧ao (g::(bk ie++gB)) w' (JV.obj (e0 acc)).D us∧B8 Z w w'):=by
 have asi:=H.own
 have cP:=H.Aj
 obtain⟨g1,b,eM,vs,fE,gB,rfl,rfl,iu,hm,fs,B9,wG,se,n6,n7,n8,HT,QR,_,asj⟩:=H.Vg (fm:=.A acc t) (acc:=acc) (K:=acc.map (fun q:ab×JV=>q.1)) (t:=t) (fun A w c m h=>h)
 have Mf:(acc.map (·.1)).Nodup:=by have h:=hm.keys;rw [show ∀ L:List ab,(pj L).map (·.1)=L from fun L=>by simp [pj,Function.comp_def]] at h;exact h
 obtain⟨al,cl,rfl,_,_⟩:=fs.form
 refine Calls.imp (Jn H.rd asi iu fs B9 Mf se (fun x ae e=>H.vk (by subst e;simp [ae])) HT (fun x ae h=>H.wH x ae (by simp [h])) (by simpa using bT) cb) fun u w' aH=>?_
 obtain⟨rfl,⟨ie,amr,HQ,km⟩,E,⟨kW,rV,z1⟩,hlen⟩:=aH
 obtain⟨nc,po,aba⟩:=asj w' ie kW (e0 acc) E amr HQ km rV z1
 refine⟨_,_,fE,gB,rfl,nc,po,?_,B8.of E (fun z hx=>(cP z hx).1) (fun z hx h=>?_)⟩
 ·rw [← hlen] at aba ⊢
  exact JV.bX (v:=JV.obj (e0 acc)) (al:=none) (cl:=0) bq.eh aba
 rcases cB h with h | h
 ·exact(cP z hx).2.1 h
 exact QR z hx (by simp [h])
set_option maxRecDepth 10000
theorem bU {w:World} {e sz n:Nat} {v:Value} {vs:List Value} (O:Own w e sz v n vs) (cu:n≠0):∃ ad c,v = .slice (some ad) n c:=by
 rcases O.2 with⟨_,cg⟩ | ⟨g,o,c,cs,h,_⟩
 ·exact absurd cg cu
 exact⟨_,_,h⟩
theorem xn {w:World} {e sz n:Nat} {v:Value} {vs ft us:List Value} (cb:vs.length=n*sz) (cP:ft.length=sz) (O:Own w e sz v (n+1) ((vs++ft).take (n*sz)++us++(vs++ft).drop ((n+1)*sz))):Own w e sz v (n+1) (vs++us):=by
 have h1:(vs++ft).take (n*sz)=vs:=by rw [List.take_append_of_le_length (by omega),List.take_of_length_le (by omega)]
 have aq:(vs++ft).drop ((n+1)*sz) = []:=List.drop_eq_nil_of_le (by rw [List.length_append,cb,cP,Nat.add_mul,Nat.one_mul];exact Nat.le_refl _)
 rwa [h1,aq,List.append_nil] at O
theorem acR {Z:List Nat} {w0 w:World} {g k:Nat} {s:ab} {st:List nF} {sk:Value} {cs:List Value} {fp:List Nat} {acc:List JV} {v:JV} {us:List Value} (H:o9 (pk Z) w0 w g s k (.L acc::st) sk cs fp) (aBn:ao (g::(bk sk++fp)) w v.D us) (bT:cs.length≤32) (aE:acc.length≤1000000) :
  Calls aR 67 [.pointer (some ⟨g,0,none⟩),.agg us.toArray].toArray w (bH fun u w'=>u = .int .u8 93∧∃ jE,o9 (pk Z) w0 w' g s k (.L (acc ++ [v])::st) sk cs jE∧n1 w w' g sk fp sk jE∧B8 Z w w'):=by
 refine la Tryz.func67 rfl ?_
 have cP:=H.Aj
 have B:=H.rd
 have O:=H.own
 obtain⟨g1,eM,vs,fE,gB,rfl,rfl,iu,fs,B9,wG,se,QR,agV,_⟩:=H.Ve
 obtain⟨ad,c0,rfl,eQ,h3,C⟩:=sr O
 have tX:fE.length+1≤32:=by simpa using bT
 replace B:aF w g 71 _:=B
 have E:=Mod.refl (g1::bk eM) w
 have Th:=aBn
 obtain⟨al,cl,am,cm,rfl,k3,j3⟩:=JV.aU aBn
 refine aa fun a6=>eY rfl rfl rfl fun g2 aJ bZ=>?_
 have xk:=bZ.le E
 have n3:=bZ.ne B
 have n4:=bZ.ne iu
 have QQ:=bZ.bU fs
 replace B:=B.I bZ.mod
 replace iu:=iu.I bZ.mod
 replace fs:=fs.I bZ.mod
 replace C:=C.mod bZ.mod (by simp)
 replace E:=E.then bZ.mod
 have eb:=bZ.ar
 refine a7 rfl (J a6 (aB fun aQ=>cn wide (by kernel_rfl) (hF 2 rfl rfl (ax (fun U=>(aD gW rfl)) (ax (fun U=>(bF lC rfl ((B.I U).cell rfl))) (hF 2 rfl rfl (ax (fun U=>(aD gW rfl)) (ax (fun U=>(bF lC rfl ((B.I U).cell rfl))) (ax (fun U=>(bY nn rfl)) (ax (fun U=>(eZ (r:=((fE.length:Nat):Int)) rfl rfl)) (ax (fun U=>(c8 vv rfl rfl (by omega))) (ax (fun U=>(bF EW rfl (p' (C.mod U (by simp))))) ?_))))))))))))
 refine ax (fun U=>(cS rfl)) (cq rfl fun cX U=>?_)
 replace B:=B.I U
 replace iu:=iu.I U
 replace eb:=eb.I U
 replace fs:=fs.I U
 replace E:=E.then U
 refine av aQ (aB fun bp=>aa fun bx=>aO rfl (ah (O1 B6 rfl rfl) (aO rfl (ah (fo rfl rfl) (ah (fo rfl rfl) (a7 rfl (a7 rfl (J bx (aa fun bO=>aO rfl (J bO ?_))))))))))
 refine a1 rfl (fun kY=>?_) (fun kY=>absurd kY (by decide))
 refine aB fun b4=>?_
 obtain⟨agW,abb,bu,iE,fR⟩:=fs.form
 subst bu
 refine Jo [] [0,1,2,3,4,5,6] 7 [8,10,11] 9 12 wide (by kernel_rfl) (fun _ _ _ h=>h.2) (jG (hF 2 rfl rfl (ax (fun U=>(aD B5 rfl)) (ax (fun U=>(bF j8 rfl ((iu.I U).cell rfl))) (ax (fun U=>(br au rfl ((eb.I U).cs rfl))) (ax (fun U=>(bY hJ rfl)) (aqu (fun u db=>Own db 25 6 u 1 [.int .i64 0,.bool false,.int .i64 0,S [],.slice none 0 0,.slice none 0 0]) (fun cN nM jX kr aH=>aH.I kr) (fun db U=>⟨_,_,qa (cs:=[_,_,_,_,_,_]) kt bA rfl rfl rfl (by decide),(j6.mk' db 25 _).mod,Own.all (cs:=[_,_,_,_,_,_]) (j6.mk' db 25 _).ar rfl (by omega)⟩) rfl rfl rfl (mN (t:=33) rfl rfl rfl rfl fun gr cN U aH=>?_))))))))
 replace B:=B.I U
 replace iu:=iu.I U
 replace eb:=eb.I U
 replace fs:=fs.I U
 replace E:=E.then U
 have E3:=E.size
 have wU:=eb.lt
 refine bz kt rfl rfl fs (Src.own hJ aH (by simp [Value.oneCell'])) (by decide) (by omega) (by omega) rfl fun v1 h8 kB=>?_
 obtain⟨qR,c1,rfl⟩:=bU kB.own (by omega)
 replace iu:=iu.mod kB.mod wG
 replace eb:=eb.mod kB.mod (fun ae=>QQ g2 ae rfl)
 replace E:=E.trans (kB.mod.mono (fun x ae=>List.mem_cons_of_mem _ ae))
 have uf:∀ x∈bk (.slice (some qR) (acc.length+1) c1),x∈bk (.slice agW acc.length abb)∨w.heap.size≤x:=fun x ae=>(kB.lH x ae).imp id (Nat.le_trans E3)
 have n6:g1∉bk (.slice (some qR) (acc.length+1) c1):=fun ae=>by
  rcases uf g1 ae with h | h
  ·exact wG h
  have:=H.lt g1 (by simp);omega
 have Wt:∀ {a b:World},Mod (bk (.slice (some qR) (acc.length+1) c1)) a b→Mod (g1::bk (.slice agW acc.length abb)) w a→Mod (g1::bk (.slice agW acc.length abb)) w b:=fun kr aH=>aH.trans' kr fun x ae=>(uf x ae).imp (fun h=>List.mem_cons_of_mem _ h) id
 have Jp:=kB.own
 have pb:vs.length=acc.length*6:=fs.len
 refine Wu (abV (fun db=>c8 kt rfl rfl (by omega)) rfl rfl (abV (fun db=>eS rfl) rfl rfl (abV (fun db=>aD B5 rfl) rfl rfl (jG ?_))))
 refine⟨?_,?_⟩
 ·refine xo (us:=[_,_,_,_,_,_]) (i:=acc.length) au Jp rfl rfl rfl (by simp [Value.oneCell']) (by omega) fun iS aso agX _=>?_
  replace iu:=iu.mod agX (by simpa [bk] using n6)
  replace E:=Wt agX E
  refine cL j8 iu rfl rfl fun i' kI=>?_
  replace iu:=kI.eq (cs':=[.slice (some qR) (acc.length+1) c1]) rfl
  replace Jp:=(xn pb rfl aso).mod kI.mod (fun x ae e=>n6 (by rw [dx e] at ae;exact ae))
  replace E:=E.trans (kI.mod.mono (by simp))
  obtain⟨nc,po⟩:=agV i' _ _ v E iu Jp uf Th
  exact J b4 (mU fun agY cw=>b5 (a7 rfl (J cw (bn (aP (aG rfl rfl ⟨rfl,_,nc,po,B8.of E (fun z hx=>(cP z hx).1) QR⟩))))))
 refine cL j8 iu rfl rfl fun iS hd=>?_
 replace iu:=hd.eq (cs':=[.slice (some qR) (acc.length+1) c1]) rfl
 replace Jp:=Jp.mod hd.mod (fun x ae e=>n6 (by rw [dx e] at ae;exact ae))
 replace E:=E.trans (hd.mod.mono (by simp))
 refine xo (us:=[_,_,_,_,_,_]) (i:=acc.length) au Jp rfl rfl rfl (by simp [Value.oneCell']) (by omega) fun i' asp agZ _=>?_
 replace iu:=iu.mod agZ (by simpa [bk] using n6)
 replace E:=Wt agZ E
 replace Jp:=xn pb rfl asp
 obtain⟨nc,po⟩:=agV i' _ _ v E iu Jp uf Th
 exact J b4 (mU fun agY cw=>b5 (a7 rfl (J cw (bn (aP (aG rfl rfl ⟨rfl,_,nc,po,B8.of E (fun z hx=>(cP z hx).1) QR⟩))))))
set_option maxRecDepth 10000
theorem acS {Z:List Nat} {w0 w:World} {g k:Nat} {s:ab} {st:List nF} {sk:Value} {cs:List Value} {fp:List Nat} {acc:List (ab×JV)} {t:ab} {v:JV} {us:List Value} (H:o9 (pk Z) w0 w g s k (.M acc t::st) sk cs fp) (aBn:ao (g::(bk sk++fp)) w v.D us) (bT:cs.length≤32) (aE:acc.length≤1000000) :
  Calls aR 67 [.pointer (some ⟨g,0,none⟩),.agg us.toArray].toArray w (bH fun u w'=>u = .int .u8 125∧∃ jE,o9 (pk Z) w0 w' g s k (.A (acc ++ [(t,v)]) t::st) sk cs jE∧n1 w w' g sk fp sk jE∧B8 Z w w'):=by
 refine la Tryz.func67 rfl ?_
 have cP:=H.Aj
 have B:=H.rd
 have O:=H.own
 obtain⟨g1,b,eM,vs,fE,gB,rfl,rfl,iu,hm,fs,B9,wG,se,n7,n8,HT,n10,QR,agV,_⟩:=H.Vg (fm:=.M acc t) (acc:=acc) (K:=acc.map (fun q:ab×JV=>q.1) ++ [t]) (t:=t) (fun A w c m h=>h)
 obtain⟨ad,c0,rfl,eQ,h3,C⟩:=sr O
 have tX:fE.length+1≤32:=by simpa using bT
 replace B:aF w g 71 _:=B
 have E:=Mod.refl (g::g1::b::bk eM) w
 have Th:=aBn
 obtain⟨al,cl,am,cm,rfl,k3,j3⟩:=JV.aU aBn
 refine aa fun a6=>eY rfl rfl rfl fun g2 aJ bZ=>?_
 have xk:=bZ.le E
 have n3:=bZ.ne B
 have n4:=bZ.ne iu
 have QQ:=bZ.bU fs
 replace B:=B.I bZ.mod
 replace iu:=iu.I bZ.mod
 replace hm:=hm.I bZ.mod
 replace fs:=fs.I bZ.mod
 replace C:=C.mod bZ.mod (by simp)
 replace E:=E.then bZ.mod
 have eb:=bZ.ar
 refine a7 rfl (J a6 (aB fun aQ=>cn wide (by kernel_rfl) (hF 2 rfl rfl (ax (fun U=>(aD gW rfl)) (ax (fun U=>(bF lC rfl ((B.I U).cell rfl))) (hF 2 rfl rfl (ax (fun U=>(aD gW rfl)) (ax (fun U=>(bF lC rfl ((B.I U).cell rfl))) (ax (fun U=>(bY nn rfl)) (ax (fun U=>(eZ (r:=((fE.length:Nat):Int)) rfl rfl)) (ax (fun U=>(c8 vv rfl rfl (by omega))) (ax (fun U=>(bF EW rfl (p' (C.mod U (by simp))))) ?_))))))))))))
 refine ax (fun U=>(cS rfl)) (cq rfl fun cX U=>?_)
 replace B:=B.I U
 replace iu:=iu.I U
 replace hm:=hm.I U
 replace eb:=eb.I U
 replace fs:=fs.I U
 replace E:=E.then U
 refine av aQ (aB fun bp=>aa fun bx=>aO rfl (ah (MA B6 (show ¬ (108:Nat)=131 by decide) Wr rfl) (aO rfl (ah (fo rfl rfl) (ah (fo rfl rfl) (a7 rfl (a7 rfl (J bx (aa fun bO=>aO rfl (J bO ?_))))))))))
 refine a1 rfl (fun kY=>absurd kY (by decide)) (fun kY=>b' (av bp (aa fun cy=>aO rfl (ah (Ws B7 rfl rfl) (a7 rfl (J cy (aB fun b4=>?_)))))))
 obtain⟨agW,abb,bu,iE,fR⟩:=fs.form
 subst bu
 refine Jo [] [0,1,2,3,4,5,6,7,8,9,10,11] 12 [13,15,16] 14 17 wide (by kernel_rfl) (fun _ _ _ h=>h.2) (jG (hF 2 rfl rfl (ax (fun U=>(aD B3 rfl)) (ax (fun U=>(bF dM rfl ((iu.I U).cell rfl))) (hF 2 rfl rfl (ax (fun U=>(aD xm rfl)) (ax (fun U=>(bF b2 rfl ((iu.I U).cell rfl))) (ax (fun U=>(br au rfl ((eb.I U).cs rfl))) (ax (fun U=>(cD iT eU rfl rfl)) (ax (fun U=>(bY cO rfl)) (aqu (fun u db=>Own db 38 7 u 1 [S [],.int .i64 0,.bool false,.int .i64 0,S [],.slice none 0 0,.slice none 0 0]) (fun cN nM jX kr aH=>aH.I kr) (fun db U=>⟨_,_,qa (cs:=[_,_,_,_,_,_,_]) dk eU rfl rfl rfl (by decide),(j6.mk' db 38 _).mod,Own.all (cs:=[_,_,_,_,_,_,_]) (j6.mk' db 38 _).ar rfl (by omega)⟩) rfl rfl rfl (mN (t:=51) rfl rfl rfl rfl fun gr cN U aH=>?_))))))))))))
 replace B:=B.I U
 replace iu:=iu.I U
 replace hm:=hm.I U
 replace eb:=eb.I U
 replace fs:=fs.I U
 replace E:=E.then U
 have E3:=E.size
 have wU:=eb.lt
 refine bz dk rfl rfl fs (Src.own cO aH (by simp [Value.oneCell'])) (by decide) (by omega) (by omega) rfl fun v1 h8 kB=>?_
 obtain⟨qR,c1,rfl⟩:=bU kB.own (by omega)
 replace iu:=iu.mod kB.mod wG
 replace eb:=eb.mod kB.mod (fun ae=>QQ g2 ae rfl)
 replace E:=E.trans (kB.mod.mono (fun x ae=>List.mem_cons_of_mem _ (List.mem_cons_of_mem _ (List.mem_cons_of_mem _ ae))))
 replace hm:=hm.mod kB.mod HT
 replace B:=B.mod kB.mod (fun ae=>n10 g ae rfl)
 have uf:∀ x∈bk (.slice (some qR) (acc.length+1) c1),x∈bk (.slice agW acc.length abb)∨w.heap.size≤x:=fun x ae=>(kB.lH x ae).imp id (Nat.le_trans E3)
 have n6:g1∉bk (.slice (some qR) (acc.length+1) c1):=fun ae=>by
  rcases uf g1 ae with h | h
  ·exact wG h
  have:=H.lt g1 (by simp);omega
 have n11:b∉bk (.slice (some qR) (acc.length+1) c1):=fun ae=>by
  rcases uf b ae with h | h
  ·exact HT h
  have:=H.lt b (by simp);omega
 have n12:g∉bk (.slice (some qR) (acc.length+1) c1):=fun ae=>by
  rcases uf g ae with h | h
  ·exact n10 g h rfl
  have:=H.lt g (by simp);omega
 have Wt:∀ {xp cN:World},Mod (bk (.slice (some qR) (acc.length+1) c1)) xp cN→Mod (g::g1::b::bk (.slice agW acc.length abb)) w xp→Mod (g::g1::b::bk (.slice agW acc.length abb)) w cN:=fun kr aH=>aH.trans' kr fun x ae=>(uf x ae).imp (fun h=>List.mem_cons_of_mem _ (List.mem_cons_of_mem _ (List.mem_cons_of_mem _ h))) id
 have Jp:=kB.own
 have pb:vs.length=acc.length*7:=fs.len
 refine Wu (abV (fun db=>c8 dk rfl rfl (by omega)) rfl rfl (abV (fun db=>eS rfl) rfl rfl (abV (fun db=>aD B3 rfl) rfl rfl (jG ?_))))
 refine⟨?_,?_⟩
 ·refine xo (us:=[_,_,_,_,_,_,_]) (i:=acc.length) jL Jp rfl rfl rfl (by simp [Value.oneCell']) (by omega) fun iS aso agX _=>?_
  replace iu:=iu.mod agX (by simpa [bk] using n6)
  replace hm:=hm.mod agX (by simpa [bk] using n11)
  replace B:=B.mod agX (by simpa [bk] using n12)
  replace E:=Wt agX E
  refine cL dM iu rfl rfl fun i' kI=>?_
  replace iu:=kI.eq (cs':=[.slice (some qR) (acc.length+1) c1,.map (some b),S t]) rfl
  replace Jp:=(xn pb rfl aso).mod kI.mod (fun x ae e=>n6 (by rw [dx e] at ae;exact ae))
  replace E:=E.trans (kI.mod.mono (by simp))
  replace hm:=hm.mod kI.mod (by simpa using Ne.symm n8)
  replace B:=B.mod kI.mod (by simpa using Ne.symm se)
  obtain⟨nc,po⟩:=agV i' _ _ k (.A (acc ++ [(t,v)]) t) (acc ++ [(t,v)]) (acc.map (fun q:ab×JV=>q.1) ++ [t]) t E B iu hm (by rw [List.length_append];exact Jp) uf (JV.qn B9 (JV.dX (p:=(t,v)) Th)) (fun A w c m h=>by rw [show acc.map (fun q:ab×JV=>q.1) ++ [t]=(acc ++ [(t,v)]).map (fun q:ab×JV=>q.1)by simp] at h;exact h)
  exact J b4 (mU fun agY cw=>b5 (a7 rfl (J cw (bn (aG rfl rfl ⟨rfl,_,nc,po,B8.of E (fun z hx=>(cP z hx).1) (fun z hx h=>(cB h).elim (cP z hx).2.1 (QR z hx))⟩)))))
 refine cL dM iu rfl rfl fun iS hd=>?_
 replace iu:=hd.eq (cs':=[.slice (some qR) (acc.length+1) c1,.map (some b),S t]) rfl
 replace Jp:=Jp.mod hd.mod (fun x ae e=>n6 (by rw [dx e] at ae;exact ae))
 replace E:=E.trans (hd.mod.mono (by simp))
 replace hm:=hm.mod hd.mod (by simpa using Ne.symm n8)
 replace B:=B.mod hd.mod (by simpa using Ne.symm se)
 refine xo (us:=[_,_,_,_,_,_,_]) (i:=acc.length) jL Jp rfl rfl rfl (by simp [Value.oneCell']) (by omega) fun i' asp agZ _=>?_
 replace iu:=iu.mod agZ (by simpa [bk] using n6)
 replace hm:=hm.mod agZ (by simpa [bk] using n11)
 replace B:=B.mod agZ (by simpa [bk] using n12)
 replace E:=Wt agZ E
 replace Jp:=xn pb rfl asp
 obtain⟨nc,po⟩:=agV i' _ _ k (.A (acc ++ [(t,v)]) t) (acc ++ [(t,v)]) (acc.map (fun q:ab×JV=>q.1) ++ [t]) t E B iu hm (by rw [List.length_append];exact Jp) uf (JV.qn B9 (JV.dX (p:=(t,v)) Th)) (fun A w c m h=>by rw [show acc.map (fun q:ab×JV=>q.1) ++ [t]=(acc ++ [(t,v)]).map (fun q:ab×JV=>q.1)by simp] at h;exact h)
 exact J b4 (mU fun agY cw=>b5 (a7 rfl (J cw (bn (aG rfl rfl ⟨rfl,_,nc,po,B8.of E (fun z hx=>(cP z hx).1) (fun z hx h=>(cB h).elim (cP z hx).2.1 (QR z hx))⟩)))))
end Go.Proofs.YtkjgljnkocnnpaaGreatDoor.V
