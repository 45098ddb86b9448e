/-
  A part of the proof: members' rows as the library's sort sees them: rows of seven cells; the sorted row is the map. No condition of its own.
-/
import Derived.Test.YtnihidkbkhcfoaaGreatDoorM7
import Derived.Test.YtnihidkbkhcfoaaGreatDoorM10
import Derived.Test.YtnihidkbkhcfoaaGreatDoorM3
import Derived.Test.YtnihidkbkhcfoaaGreatDoorM6
import Derived.Shelf.SlSortCmp.WholeK
set_option linter.unusedVariables false
set_option linter.unusedSimpArgs false
set_option maxRecDepth 10000
namespace Go.Proofs.YtnihidkbkhcfoaaGreatDoor.V
open Go Go.Proofs
theorem da:iz Tryz.prog 75 1 1 1=true:=by kernel_rfl
theorem ft:iz Tryz.prog 75 0 0 1=true:=by kernel_rfl
theorem acp:aQ Tryz.prog 61:=aQ.of Tryz.func61 (by kernel_rfl) (by kernel_rfl)
theorem Xr:aQ Tryz.prog 180:=aQ.of Tryz.func180 (by kernel_rfl) (by kernel_rfl)
theorem Xs:aQ Tryz.prog 235:=aQ.of Tryz.func235 (by kernel_rfl) (by kernel_rfl)
def Nj:Nat:=6
/-- what the reading asks of the program's variables -/
structure Env (w:World):Prop where
 xP:nT w
 acq:xM w
 err:FP w
 sz:Nj<w.heap.size
theorem Env.mod {w w':World} {M:List Nat} (h:Env w) (k:Mod M w w') (eY:∀ x∈M,Nj<x):Env w':=
 ⟨h.xP.mod k (fun ae=>by have:=eY _ ae;simp only [Nj,K0] at this;omega),h.acq.mod k (fun x ae=>by have:=eY x ae;simp only [Nj] at this;omega),h.err.mod k (fun x ae=>by have:=eY x ae;simp only [Nj] at this;omega),Nat.lt_of_lt_of_le h.sz k.size⟩
theorem Env.I {w w':World} (h:Env w) (k:Mod [] w w'):Env w':=h.mod k (by simp)
theorem Env.oP {w w':World} {g:Nat} (h:Env w) (dA:Nj<g) (k:Mod [g] w w'):Env w':=h.mod k (fun x ae=>by rw [List.mem_singleton.1 ae];exact dA)
theorem uZ (w:World) (g:Nat) (s:aa) (k:Nat) (sk:Value) (B:aF w g 75 [S s,.int .i64 (k:Int),sk]) (bf:s.length≤65536) (hk:k≤s.length):Calls Tryz.prog 61 [.pointer (some ⟨g,0,none⟩)].toArray w (bL fun u w'=>aF w' g 75 [S s,.int .i64 (aj aX s k:Int),sk]∧Mod [g] w w'):=by
 refine enter Tryz.func61 rfl rfl rfl (l:=[(0,_)]) ⟨rfl,trivial⟩ ?_;have E:=Mod.refl [g] w;refine eB (bU (σ:=Nat) (fun p=>[(0,.pointer (some ⟨g,0,none⟩))]) (fun p aB=>(k≤p∧p≤s.length∧aj aX s p=aj aX s k)∧aF aB g 75 [S s,.int .i64 (p:Int),sk]∧Mod [g] w aB) (fun p=>s.length-p) (k) ⟨rfl,trivial⟩ (⟨⟨Nat.le_refl _,hk,rfl⟩,B,E⟩) ?_);rintro p aB ⟨⟨alr,cp,zi⟩,B,E⟩;refine ax fun aV=>ax fun aL=>?_
 by_cases bJ:(p:Int)<(s.length:Int)
 rotate_left
 ·refine bT wide (by kernel_rfl) (f' 2 rfl rfl (ai (fun R=>(av da rfl)) (ai (fun R=>(bc dE rfl ((B.I R).cell rfl))) (f' 2 rfl rfl (ai (fun R=>(av ft rfl)) (ai (fun R=>(bc bs rfl ((B.I R).cell rfl))) (ai (fun R=>(bw Tryz.underlying9 rfl)) (f' 2 rfl rfl (eV rfl (bN bJ) (eV rfl (bN bJ) (eV rfl (bN bJ) (eV rfl (bN bJ) (eV rfl (bN bJ) ?_)))))))))))));refine eV rfl (bN bJ) (eV rfl (bN bJ) (eV rfl (bN bJ) (eV rfl (bN bJ) (eV rfl (bN bJ) (eV rfl (bN bJ) (ai (fun R=>(ji (bN bJ) rfl rfl)) (bV rfl fun jn R=>?_)))))));replace B:=B.I R;replace E:=E.then R;refine aw aL (aE rfl ?_);have tU:p=aj aX s k:=by
   rw [← zi]
   first | exact(k2 (by omega)).symm | exact(lq bj nV).symm
  exact bm (aO (by simp) (aO (by simp) (bS (Rh rfl ⟨by rw [← tU];exact B,E⟩))))
 obtain⟨c,bj⟩:∃ c,s[p]? = some c:=⟨_,List.getElem?_eq_getElem (by omega)⟩;rcases nV:aX c with _ | _
 ·refine bT wide (by kernel_rfl) (f' 2 rfl rfl (ai (fun R=>(av da rfl)) (ai (fun R=>(bc dE rfl ((B.I R).cell rfl))) (f' 2 rfl rfl (ai (fun R=>(av ft rfl)) (ai (fun R=>(bc bs rfl ((B.I R).cell rfl))) (ai (fun R=>(bw Tryz.underlying9 rfl)) (f' 2 rfl rfl (aM (bh bJ) (fun R=>(ec rfl)) (aM (bh bJ) (fun R=>(ee rfl)) (aM (bh bJ) (fun R=>(av ft rfl)) (aM (bh bJ) (fun R=>(bc bs rfl ((B.I R).cell rfl))) (aM (bh bJ) (fun R=>(ec rfl)) ?_)))))))))))));refine aM (bh bJ) (fun R=>(ee rfl)) (aM (bh bJ) (fun R=>(av da rfl)) (aM (bh bJ) (fun R=>(bc dE rfl ((B.I R).cell rfl))) (aM (bh bJ) (fun R=>(b' Tryz.underlying9 rfl rfl (by omega) (by rw [Int.toNat_natCast];exact bj))) (Fc rfl (bh bJ) (fun cQ R=>bF sL rfl) (fun cQ R=>B4 _ [32,9,10,13] c) rfl rfl (aM (bh bJ) (fun R=>(dr rfl rfl)) (ai (fun R=>(lU (bh bJ) rfl rfl)) (bV rfl fun cN R=>?_)))))));replace B:=B.I R;replace E:=E.then R;refine aw aL (a7 rfl (fun zt=>absurd (((Q6 c).trans nV).symm.trans zt) (by decide)) (fun zt=>?_));have tU:p=aj aX s k:=by
   rw [← zi]
   first | exact(k2 (by omega)).symm | exact(lq bj nV).symm
  exact bm (aO (by simp) (aO (by simp) (bS (Rh rfl ⟨by rw [← tU];exact B,E⟩))))
 refine bT wide (by kernel_rfl) (f' 2 rfl rfl (ai (fun R=>(av da rfl)) (ai (fun R=>(bc dE rfl ((B.I R).cell rfl))) (f' 2 rfl rfl (ai (fun R=>(av ft rfl)) (ai (fun R=>(bc bs rfl ((B.I R).cell rfl))) (ai (fun R=>(bw Tryz.underlying9 rfl)) (f' 2 rfl rfl (aM (bh bJ) (fun R=>(ec rfl)) (aM (bh bJ) (fun R=>(ee rfl)) (aM (bh bJ) (fun R=>(av ft rfl)) (aM (bh bJ) (fun R=>(bc bs rfl ((B.I R).cell rfl))) (aM (bh bJ) (fun R=>(ec rfl)) ?_)))))))))))));refine aM (bh bJ) (fun R=>(ee rfl)) (aM (bh bJ) (fun R=>(av da rfl)) (aM (bh bJ) (fun R=>(bc dE rfl ((B.I R).cell rfl))) (aM (bh bJ) (fun R=>(b' Tryz.underlying9 rfl rfl (by omega) (by rw [Int.toNat_natCast];exact bj))) (Fc rfl (bh bJ) (fun cQ R=>bF sL rfl) (fun cQ R=>B4 _ [32,9,10,13] c) rfl rfl (aM (bh bJ) (fun R=>(dr rfl rfl)) (ai (fun R=>(lU (bh bJ) rfl rfl)) (bV rfl fun fV R=>?_)))))));replace B:=B.I R;replace E:=E.then R;refine aw aL ?_;refine a7 rfl (fun zt=>?_) (fun zt=>absurd (((Q6 c).trans nV).symm.trans zt) (by decide))
 skip
 refine ca (aw aV (eB (bQ (ak 2 rfl (ag (av da rfl) (ag (bc dE rfl (B.cell rfl)) (ag (cW (r:=((p+1:Nat):Int)) rfl rfl (by rw [wrap64_in _ (by omega)];omega)) (ag (ee rfl) (ag (av da rfl) (ea dE B rfl rfl rfl (by simp) fun ic kZ=>?_))))))))));replace E:=E.trans kZ.mod;replace B:aF ic g _ [_,_,_]:=kZ.az;exact cF (bx (by simp) (fJ (σ:=Nat) (s:=p) (p+1) ⟨rfl,trivial⟩ ⟨⟨by omega,by omega,by rw [wc bj nV];exact zi⟩,B,E⟩ (by omega)))
theorem tV (w:World) (g:Nat) (s:aa) (k:Nat) (sk:Value) (B:aF w g 75 [S s,.int .i64 (k:Int),sk]) (bf:s.length≤65536) (hk:k≤s.length) (c:UInt8):Calls Tryz.prog 108 [.pointer (some ⟨g,0,none⟩),.int .u8 (c.toNat:Int)].toArray w (bL fun u w'=>u = .bool (aC s (aj aX s k) [c])∧aF w' g 75 [S s,.int .i64 ((if (aC s (aj aX s k) [c])then aj aX s k+1 else aj aX s k:Nat):Int),sk]∧Mod [g] w w'):=by
 refine enter Tryz.func108 rfl rfl rfl (l:=[(0,_),(1,_)]) ⟨rfl,rfl,trivial⟩ ?_;have E:=Mod.refl [g] w;have MC:aj aX s k≤s.length:=cy hk;refine ab fun aV=>aT rfl (J aV (ab fun aL=>aG rfl (fA (bF acp rfl) (uZ _ g s k sk B bf hk) rfl fun cO aB aA=>?_)));obtain⟨sM,R⟩:=aA;replace E:=E.trans R;clear B;have B:=sM;refine J aL (ax fun aW=>ax fun br=>?_)
 by_cases eI:((aj aX s k:Nat):Int)≥(s.length:Int)
 ·refine bT wide (by kernel_rfl) (f' 2 rfl rfl (ai (fun R=>(av da rfl)) (ai (fun R=>(bc dE rfl ((B.I R).cell rfl))) (f' 2 rfl rfl (ai (fun R=>(av ft rfl)) (ai (fun R=>(bc bs rfl ((B.I R).cell rfl))) (ai (fun R=>(bw Tryz.underlying9 rfl)) (ai (fun R=>(dr rfl rfl)) (ai (fun R=>(ec rfl)) (eV rfl (bh eI) (eV rfl (bh eI) (eV rfl (bh eI) (eV rfl (bh eI) ?_)))))))))))));refine eV rfl (bh eI) (eV rfl (bh eI) (eV rfl (bh eI) (eV rfl (bh eI) (eV rfl (bh eI) (eV rfl (bh eI) (eV rfl (bh eI) (ai (fun R=>(lU (bh eI) rfl rfl)) (bV rfl fun cN R=>?_))))))));replace B:=B.I R;replace E:=E.then R;refine aw br (aD rfl ?_);have iq:(aC s (aj aX s k) [c])=false:=by first | exact bZ (by omega) (by simp) | (rw [bC bY,bN (fun e=>b1 (by rw [e]))])
  exact ab fun bI=>aT rfl (J bI (aZ (aO (by simp) (au rfl rfl ⟨by rw [iq],by rw [iq];exact B,E⟩))))
 obtain⟨d,bY⟩:∃ d,s[aj aX s k]? = some d:=⟨_,List.getElem?_eq_getElem (by omega)⟩
 by_cases b1:(d.toNat:Int)≠(c.toNat:Int)
 ·refine bT wide (by kernel_rfl) (f' 2 rfl rfl (ai (fun R=>(av da rfl)) (ai (fun R=>(bc dE rfl ((B.I R).cell rfl))) (f' 2 rfl rfl (ai (fun R=>(av ft rfl)) (ai (fun R=>(bc bs rfl ((B.I R).cell rfl))) (ai (fun R=>(bw Tryz.underlying9 rfl)) (ai (fun R=>(dr rfl rfl)) (ai (fun R=>(ec rfl)) (aM (bN eI) (fun R=>(ec rfl)) (aM (bN eI) (fun R=>(ee rfl)) (aM (bN eI) (fun R=>(av ft rfl)) (aM (bN eI) (fun R=>(bc bs rfl ((B.I R).cell rfl))) ?_)))))))))))));refine aM (bN eI) (fun R=>(ec rfl)) (aM (bN eI) (fun R=>(ee rfl)) (aM (bN eI) (fun R=>(av da rfl)) (aM (bN eI) (fun R=>(bc dE rfl ((B.I R).cell rfl))) (aM (bN eI) (fun R=>(b' Tryz.underlying9 rfl rfl (by omega) (by rw [Int.toNat_natCast];exact bY))) (aM (bN eI) (fun R=>(ec rfl)) (aM (bN eI) (fun R=>(eU rfl rfl)) (ai (fun R=>(ji (bN eI) rfl rfl)) (bV rfl fun fV R=>?_))))))));replace B:=B.I R;replace E:=E.then R;refine aw br ?_;refine aI rfl (fun xH=>?_) (fun xH=>absurd b1 xH);have iq:(aC s (aj aX s k) [c])=false:=by first | exact bZ (by omega) (by simp) | (rw [bC bY,bN (fun e=>b1 (by rw [e]))])
  exact ab fun bW=>aT rfl (J bW (aZ (aO (by simp) (au rfl rfl ⟨by rw [iq],by rw [iq];exact B,E⟩))))
 refine bT wide (by kernel_rfl) (f' 2 rfl rfl (ai (fun R=>(av da rfl)) (ai (fun R=>(bc dE rfl ((B.I R).cell rfl))) (f' 2 rfl rfl (ai (fun R=>(av ft rfl)) (ai (fun R=>(bc bs rfl ((B.I R).cell rfl))) (ai (fun R=>(bw Tryz.underlying9 rfl)) (ai (fun R=>(dr rfl rfl)) (ai (fun R=>(ec rfl)) (aM (bN eI) (fun R=>(ec rfl)) (aM (bN eI) (fun R=>(ee rfl)) (aM (bN eI) (fun R=>(av ft rfl)) (aM (bN eI) (fun R=>(bc bs rfl ((B.I R).cell rfl))) ?_)))))))))))));refine aM (bN eI) (fun R=>(ec rfl)) (aM (bN eI) (fun R=>(ee rfl)) (aM (bN eI) (fun R=>(av da rfl)) (aM (bN eI) (fun R=>(bc dE rfl ((B.I R).cell rfl))) (aM (bN eI) (fun R=>(b' Tryz.underlying9 rfl rfl (by omega) (by rw [Int.toNat_natCast];exact bY))) (aM (bN eI) (fun R=>(ec rfl)) (aM (bN eI) (fun R=>(eU rfl rfl)) (ai (fun R=>(ji (bN eI) rfl rfl)) (bV rfl fun ic R=>?_))))))));replace B:=B.I R;replace E:=E.then R;refine aw br (aI rfl (fun xH=>absurd xH b1) (fun xH=>?_));have iq:(aC s (aj aX s k) [c])=true:=by rw [bC bY,bh (du (Classical.not_not.1 b1))]
 refine ca (aw aW (ab fun cb=>ak 2 rfl (ag (av da rfl) (ag (bc dE rfl (B.cell rfl)) (ag (cW (r:=((aj aX s k+1:Nat):Int)) rfl rfl (by rw [wrap64_in _ (by omega)];omega)) (ag (ee rfl) (ag (av da rfl) (ea dE B rfl rfl rfl (by simp) fun jn hx=>?_))))))));replace E:=E.trans hx.mod;replace B:aF jn g _ [_,_,_]:=hx.az;exact J cb (ab fun cx=>aT rfl (J cx (aZ (au rfl rfl ⟨by rw [iq],by rw [iq];exact B,E⟩))))
theorem Gf (w:World) (g:Nat) (s:aa) (k:Nat) (sk:Value) (B:aF w g 75 [S s,.int .i64 (k:Int),sk]) (bf:s.length≤65536) (hk:k≤s.length) (je:xM w):Calls Tryz.prog 147 [.pointer (some ⟨g,0,none⟩)].toArray w (M7 124 [g] w (match fc s k with | none=>(.error 4:Except Int (aa×Nat)) | some x=>.ok x) (fun x u w'=>u=S x.1∧aF w' g 75 [S s,.int .i64 (x.2:Int),sk])):=by
 refine enter Tryz.func147 rfl rfl rfl (l:=[(0,_)]) ⟨rfl,trivial⟩ ?_;have E:=Mod.refl [g] w;refine ab fun aV=>aT rfl (J aV (ax fun aL=>bT wide (by kernel_rfl) (f' 2 rfl rfl (ai (fun R=>(av ft rfl)) (ai (fun R=>(bc bs rfl ((B.I R).cell rfl))) (f' 2 rfl rfl (ai (fun R=>(av da rfl)) (ai (fun R=>(bc dE rfl ((B.I R).cell rfl))) (BQ (fun cQ R=>bF Xr rfl) (fun cQ R=>Rf _ s k (by omega) (je.I R)) rfl rfl (f' 7 rfl rfl (bV rfl fun aB R=>?_)))))))))));replace B:=B.I R;replace E:=E.then R;refine aw aL (ax fun aW=>ab fun br=>ak 2 rfl (J br ?_));refine a7 rfl (fun yK=>?_) (fun yK=>?_)
 ·have ck:fc s k=none:=by cases h:fc s k with | none=>rfl | some x=>rw [h] at yK;cases yK
  refine bQ ?_;refine fQ (bF gf rfl) (eX _ 4) rfl (fun cQ aA=>aA.elim) (fun lW cN aA=>?_) fun cO cN aA=>?_
  ·obtain⟨rfl,rfl⟩:=aA;exact aO (by simp) (ed ⟨4,by rw [ck],by decide,rfl,E⟩)
  exact aA.elim
 obtain⟨t,q,e5⟩:∃ t q,fc s k=some (t,q):=by
  cases h:fc s k with
  | none=>rw [h] at yK;cases yK
  | some x=>exact⟨x.1,x.2,rfl⟩
 rw [e5,Option.getD_some];refine ca (aw aW (ab fun bI=>ak 3 rfl (ag (av da rfl) (ea dE B rfl rfl rfl (by simp) fun fV sF=>?_))));replace E:=E.trans sF.mod;replace B:aF fV g _ [_,_,_]:=sF.az;exact J bI (ab fun bW=>ak 2 rfl (J bW (aZ (acr rfl rfl ⟨(t,q),by rw [e5],⟨rfl,B⟩,E⟩))))
theorem ef (w:World) (s:aa) (k:Nat) (bf:s.length≤1000000) (hk:k≤s.length):Calls Tryz.prog 205 [S (s.drop k)].toArray w (bL fun u w'=>u = .tuple #[S (s.drop (aj bA s k)),.int .i64 ((aj bA s k-k:Nat):Int)]∧Mod [] w w'):=by
 refine enter Tryz.func205 rfl rfl rfl (l:=[(0,_)]) ⟨rfl,trivial⟩ ?_;have E:=Mod.refl [] w;have wi:=cd bA s k;have vW:aj bA s k≤s.length:=cy hk;refine ab fun aV=>ak 2 rfl (J aV (ab fun aL=>aG rfl (cP (bF Xs rfl) (Qj _ (s.drop k) [48,49,50,51,52,53,54,55,56,57] (by simp) (by decide)) fun aB R=>?_)));replace E:=E.then R;rw [ack];exact aT rfl (J aL (ab fun aW=>ak 2 rfl (ag (bw Tryz.underlying9 rfl) (aG rfl (ag (bw Tryz.underlying9 rfl) (ag (ez (r:=((aj bA s k-k:Nat):Int)) rfl rfl (by rw [List.length_drop,List.length_drop,wrap64_in _ (by omega)];omega)) (ak 2 rfl (J aW (aZ (ct rfl rfl rfl ⟨rfl,E⟩))))))))))
set_option maxRecDepth 10000
theorem Xt:aQ Tryz.prog 204:=aQ.of Tryz.func204 (by kernel_rfl) (by kernel_rfl)
theorem gJ:aQ Tryz.prog 205:=aQ.of Tryz.func205 (by kernel_rfl) (by kernel_rfl)
set_option maxHeartbeats 2000000 in
theorem Gg (w:World) (s:aa) (bf:s.length≤1000000):Calls Tryz.prog 181 [S s].toArray w (bL fun u w'=>u = .bool (gH s).1∧Mod [] w w'):=by
 refine enter Tryz.func181 rfl rfl rfl (l:=[(0,_)]) ⟨rfl,trivial⟩ ?_;have E:=Mod.refl [] w;refine ab fun aV=>aT rfl (J aV (ab fun aL=>aG rfl (cP (bF Xt rfl) (Qi _ s [45]) fun aB R=>?_)));replace E:=E.then R;obtain⟨a,ay⟩:∃ a,a=if aC s 0 [45] then 1 else 0:=⟨_,rfl⟩
 have Wa:=Ng ay;rw [aco ay];obtain⟨e,he⟩:∃ e,e=aj bA s a:=⟨_,rfl⟩;have ag5:=cd bA s a;have ag6:aj bA s a≤s.length:=cy (by omega);rw [← he] at ag5 ag6;refine aT rfl (J aL (ab fun aW=>aG rfl (cP (bF gJ rfl) (ef _ s a bf Wa) fun cN R=>?_)));replace E:=E.then R;rw [← he];refine ak 5 rfl (J aW (ax fun br=>ab fun bI=>ak 2 rfl ?_));refine cT (fun dk:((e-a:Nat):Int)=0=>?_) (fun dk=>?_)
 ·refine ak 9 rfl (J bI (aD rfl ?_));have cC:e=a∨(a+1<e∧s[a]? = some 48):=by
   first | (left;omega) | (right;exact⟨by omega,by rw [Ri,du (show(d.toNat:Int)=(48:UInt8).toNat by rw [Bg];rfl)]⟩)
  exact ab fun bW=>aT rfl (J bW (aZ (aO (by simp) (au rfl rfl ⟨by rw [xm ay he cC],E⟩))))
 refine ak 3 rfl ?_;refine cT (fun nt:((e-a:Nat):Int) > 1=>?_) (fun nt=>?_);rotate_left
 ·refine ak 6 rfl (J bI (aE rfl ?_));have cC:¬ (e=a∨(a+1<e∧s[a]? = some 48)):=by
   rintro(h | ⟨h,fh⟩)
   ·omega
   first | omega | (rw [Ri] at fh;injection fh with fh;subst fh;exact Bg rfl)
  refine ca (aw br (ax fun K'=>ab fun PQ=>aG rfl (cP (bF DQ rfl) (DC _ (s.drop e) [46]) fun oC R=>?_)));replace E:=E.then R;refine ak 5 rfl (J PQ (ab fun PR=>aG rfl (J PR ?_)));refine a7 rfl (fun tS=>?_) (fun tS=>?_);rotate_left
  ·have DR:aC s e [46]=false:=tS;obtain⟨bk,qR⟩:∃ bk,bk=e:=⟨_,rfl⟩;rw [← qR];have aq:¬ (aC s e [46]=true∧aj bA s (e+1)=e+1):=fun h=>by rw [DR] at h;cases h.1
   have dc:bk=if aC s e [46] then aj bA s (e+1)else e:=by rw [if_neg (by rw [DR];simp)];exact qR
   have wu:bk≤s.length:=by omega
   refine ca (aw K' (ax fun Cm=>ab fun Rm=>aG rfl (ag (eu rfl rfl) ?_)));refine cT (fun hs:s.drop (bk)≠[]=>?_) (fun hs=>?_);rotate_left
   ·refine ak 6 rfl (J Rm (aE rfl ?_));have e4:(aC s bk [101]||aC s bk [69])=false:=by
     first | (rw [bC j1,bC j1,bN (fun h=>ae (.inl (by rw [h];rfl))),bN (fun h=>ae (.inr (by rw [h];rfl)))];rfl) | (rw [bZ (show s.length≤bk by have:=Classical.not_not.1 hs;rw [drop_nil (by omega)] at this;omega) (by simp),bZ (show s.length≤bk by have:=Classical.not_not.1 hs;rw [drop_nil (by omega)] at this;omega) (by simp)];rfl)
    exact ca (aw Cm (ab fun acF=>aG rfl (ag (dQ rfl rfl) (aT rfl (J acF (aZ (au rfl rfl ⟨by first | (rw [di ay he cC aq dc e4 fs bE];exact congrArg Value.bool (decide_eq_decide.2 (drop_nil (by omega)))) | (rw [dh ay he cC aq dc e4];exact congrArg Value.bool (decide_eq_decide.2 (drop_nil (by omega)))),E⟩)))))))
   obtain⟨x,j1⟩:∃ x,s[bk]? = some x:=⟨_,List.getElem?_eq_getElem (by rw [Ne,drop_nil (by omega)] at hs;omega)⟩;refine ak 2 rfl ?_;refine ar ((b' (c:=x) Tryz.underlying9 rfl rfl (by decide) (by rw [show((0:Int)).toNat=0 from rfl,List.getElem?_drop,Nat.add_zero];exact j1))) ?_;refine ar (pC rfl rfl) (ar (lT rfl rfl) ?_)
   by_cases ae:(x.toNat=101∨x.toNat=69)
   rotate_left
   ·refine jg (bN (fun h=>ae ((pA x.toNat (UInt8.toNat_lt x)).1 h))) (ag (lU rfl rfl rfl) (J Rm (aE rfl ?_)));have e4:(aC s bk [101]||aC s bk [69])=false:=by
     first | (rw [bC j1,bC j1,bN (fun h=>ae (.inl (by rw [h];rfl))),bN (fun h=>ae (.inr (by rw [h];rfl)))];rfl) | (rw [bZ (show s.length≤bk by have:=Classical.not_not.1 hs;rw [drop_nil (by omega)] at this;omega) (by simp),bZ (show s.length≤bk by have:=Classical.not_not.1 hs;rw [drop_nil (by omega)] at this;omega) (by simp)];rfl)
    exact ca (aw Cm (ab fun acE=>aG rfl (ag (dQ rfl rfl) (aT rfl (J acE (aZ (au rfl rfl ⟨by first | (rw [di ay he cC aq dc e4 fs bE];exact congrArg Value.bool (decide_eq_decide.2 (drop_nil (by omega)))) | (rw [dh ay he cC aq dc e4];exact congrArg Value.bool (decide_eq_decide.2 (drop_nil (by omega)))),E⟩)))))))
   refine jg (bh ((pA x.toNat (UInt8.toNat_lt x)).2 ae)) (ag (lU rfl rfl rfl) (J Rm (aD rfl ?_)));have e4:(aC s bk [101]||aC s bk [69])=true:=by
    rw [bC j1,bC j1];rcases ae with h | h
    ·rw [bh (du (by rw [h];rfl))];rfl
    rw [Bool.or_eq_true];right;exact bh (du (by rw [h];rfl))
   have Rl:bk+1≤s.length:=(List.getElem?_eq_some_iff.1 j1).1;refine ab fun ahc=>aG rfl (ag ((cG (n:=1) Tryz.underlying9 rfl rfl (by rw [List.length_drop];omega)).to (v':=S (s.drop (bk+1))) (by rw [List.drop_drop])) (aT rfl (J ahc (ax fun Lu=>ab fun Lv=>aG rfl (ag (eu rfl rfl) ?_)))));refine cT (fun iD:s.drop (bk+1)≠[]=>?_) (fun iD=>?_);rotate_left
   ·refine ak 10 rfl (J Lv (aE rfl ?_));have mL:(aC s (bk+1) [43]||aC s (bk+1) [45])=false:=by
     first | (rw [bC gv,bC gv,bN (fun h=>kY (by rw [h];rfl)),bN (fun h=>oQ (by rw [h];rfl))];rfl) | (rw [bZ (show s.length≤bk+1 by have:=Classical.not_not.1 iD;rw [drop_nil (by omega)] at this;omega) (by simp),bZ (show s.length≤bk+1 by have:=Classical.not_not.1 iD;rw [drop_nil (by omega)] at this;omega) (by simp)];rfl)
    obtain⟨b2,gZ⟩:∃ b2,b2=bk+1:=⟨_,rfl⟩;have fs:b2=if aC s (bk+1) [43]||aC s (bk+1) [45] then bk+2 else bk+1:=by rw [if_neg (by rw [mL];simp)];exact gZ
    refine ca (aw Lu (ax fun acA=>?_));have jQ:b2≤s.length:=by omega
    rw [← gZ];have k5:=cd bA s b2;have k6:aj bA s b2≤s.length:=cy (by omega);refine bQ (aG rfl (cP (bF gJ rfl) (ef _ s b2 bf jQ) fun yQ R=>?_));replace E:=E.then R;refine ak 5 rfl (J acA (ab fun acB=>ak 2 rfl (J acB ?_)));refine aI rfl (fun jc=>?_) (fun jc=>?_)
    ·have bE:aj bA s b2=b2:=by omega
     exact ab fun acC=>aT rfl (J acC (aZ (aO (by simp) (au rfl rfl ⟨by rw [et ay he cC aq dc e4 fs bE],E⟩))))
    have bE:¬ aj bA s b2=b2:=by omega
    exact ca (aw Cm (ab fun acD=>aG rfl (ag (dQ rfl rfl) (aT rfl (J acD (aZ (au rfl rfl ⟨by first | (rw [di ay he cC aq dc e4 fs bE];exact congrArg Value.bool (decide_eq_decide.2 (drop_nil (by omega)))) | (rw [dh ay he cC aq dc e4];exact congrArg Value.bool (decide_eq_decide.2 (drop_nil (by omega)))),E⟩)))))))
   obtain⟨y,gv⟩:∃ x,s[bk+1]? = some x:=⟨_,List.getElem?_eq_getElem (by rw [Ne,drop_nil (by omega)] at iD;omega)⟩;refine ak 2 rfl ?_;refine ar ((b' (c:=y) Tryz.underlying9 rfl rfl (by decide) (by rw [show((0:Int)).toNat=0 from rfl,List.getElem?_drop,Nat.add_zero];exact gv))) ?_;refine ar (lT rfl rfl) ?_;refine cT (fun kY:(y.toNat:Int)=43=>?_) (fun kY=>?_)
   ·refine ak 6 rfl (J Lv (aD rfl ?_));have mL:(aC s (bk+1) [43]||aC s (bk+1) [45])=true:=by
     rw [bC gv,bC gv,Bool.or_eq_true,decide_eq_true_eq,decide_eq_true_eq]
     first | (left;exact du (by rw [kY];rfl)) | (right;exact du (by rw [oQ];rfl))
    have zu:bk+2≤s.length:=(List.getElem?_eq_some_iff.1 gv).1;obtain⟨b2,gZ⟩:∃ b2,b2=bk+2:=⟨_,rfl⟩;have fs:b2=if aC s (bk+1) [43]||aC s (bk+1) [45] then bk+2 else bk+1:=by rw [if_pos mL];exact gZ
    refine bQ (aG rfl (ag ((cG (n:=1) Tryz.underlying9 rfl rfl (by rw [List.length_drop];omega)).to (v':=S (s.drop (bk+2))) (by rw [List.drop_drop])) (aT rfl (J Lu (ax fun ahd=>?_)))));have jQ:b2≤s.length:=by omega
    rw [← gZ];have k5:=cd bA s b2;have k6:aj bA s b2≤s.length:=cy (by omega);refine bQ (aG rfl (cP (bF gJ rfl) (ef _ s b2 bf jQ) fun tE R=>?_));replace E:=E.then R;refine ak 5 rfl (J ahd (ab fun ahe=>ak 2 rfl (J ahe ?_)));refine aI rfl (fun jc=>?_) (fun jc=>?_)
    ·have bE:aj bA s b2=b2:=by omega
     exact ab fun ahf=>aT rfl (J ahf (aZ (aO (by simp) (au rfl rfl ⟨by rw [et ay he cC aq dc e4 fs bE],E⟩))))
    have bE:¬ aj bA s b2=b2:=by omega
    exact ca (aw Cm (ab fun ahg=>aG rfl (ag (dQ rfl rfl) (aT rfl (J ahg (aZ (au rfl rfl ⟨by first | (rw [di ay he cC aq dc e4 fs bE];exact congrArg Value.bool (decide_eq_decide.2 (drop_nil (by omega)))) | (rw [dh ay he cC aq dc e4];exact congrArg Value.bool (decide_eq_decide.2 (drop_nil (by omega)))),E⟩)))))))
   refine ak 2 rfl ?_;refine ar ((b' (c:=y) Tryz.underlying9 rfl rfl (by decide) (by rw [show((0:Int)).toNat=0 from rfl,List.getElem?_drop,Nat.add_zero];exact gv))) ?_;refine ar (lT rfl rfl) ?_;refine cT (fun oQ:(y.toNat:Int)=45=>?_) (fun oQ=>?_);rotate_left
   ·refine ak 2 rfl (J Lv (aE rfl ?_));have mL:(aC s (bk+1) [43]||aC s (bk+1) [45])=false:=by
     first | (rw [bC gv,bC gv,bN (fun h=>kY (by rw [h];rfl)),bN (fun h=>oQ (by rw [h];rfl))];rfl) | (rw [bZ (show s.length≤bk+1 by have:=Classical.not_not.1 iD;rw [drop_nil (by omega)] at this;omega) (by simp),bZ (show s.length≤bk+1 by have:=Classical.not_not.1 iD;rw [drop_nil (by omega)] at this;omega) (by simp)];rfl)
    obtain⟨b2,gZ⟩:∃ b2,b2=bk+1:=⟨_,rfl⟩;have fs:b2=if aC s (bk+1) [43]||aC s (bk+1) [45] then bk+2 else bk+1:=by rw [if_neg (by rw [mL];simp)];exact gZ
    refine ca (aw Lu (ax fun acw=>?_));have jQ:b2≤s.length:=by omega
    rw [← gZ];have k5:=cd bA s b2;have k6:aj bA s b2≤s.length:=cy (by omega);refine bQ (aG rfl (cP (bF gJ rfl) (ef _ s b2 bf jQ) fun xG R=>?_));replace E:=E.then R;refine ak 5 rfl (J acw (ab fun acx=>ak 2 rfl (J acx ?_)));refine aI rfl (fun jc=>?_) (fun jc=>?_)
    ·have bE:aj bA s b2=b2:=by omega
     exact ab fun acy=>aT rfl (J acy (aZ (aO (by simp) (au rfl rfl ⟨by rw [et ay he cC aq dc e4 fs bE],E⟩))))
    have bE:¬ aj bA s b2=b2:=by omega
    exact ca (aw Cm (ab fun acz=>aG rfl (ag (dQ rfl rfl) (aT rfl (J acz (aZ (au rfl rfl ⟨by first | (rw [di ay he cC aq dc e4 fs bE];exact congrArg Value.bool (decide_eq_decide.2 (drop_nil (by omega)))) | (rw [dh ay he cC aq dc e4];exact congrArg Value.bool (decide_eq_decide.2 (drop_nil (by omega)))),E⟩)))))))
   refine ak 2 rfl (J Lv (aD rfl ?_));have mL:(aC s (bk+1) [43]||aC s (bk+1) [45])=true:=by
    rw [bC gv,bC gv,Bool.or_eq_true,decide_eq_true_eq,decide_eq_true_eq]
    first | (left;exact du (by rw [kY];rfl)) | (right;exact du (by rw [oQ];rfl))
   have zu:bk+2≤s.length:=(List.getElem?_eq_some_iff.1 gv).1;obtain⟨b2,gZ⟩:∃ b2,b2=bk+2:=⟨_,rfl⟩;have fs:b2=if aC s (bk+1) [43]||aC s (bk+1) [45] then bk+2 else bk+1:=by rw [if_pos mL];exact gZ
   refine bQ (aG rfl (ag ((cG (n:=1) Tryz.underlying9 rfl rfl (by rw [List.length_drop];omega)).to (v':=S (s.drop (bk+2))) (by rw [List.drop_drop])) (aT rfl (J Lu (ax fun ahh=>?_)))));have jQ:b2≤s.length:=by omega
   rw [← gZ];have k5:=cd bA s b2;have k6:aj bA s b2≤s.length:=cy (by omega);refine bQ (aG rfl (cP (bF gJ rfl) (ef _ s b2 bf jQ) fun rZ R=>?_));replace E:=E.then R;refine ak 5 rfl (J ahh (ab fun ahi=>ak 2 rfl (J ahi ?_)));refine aI rfl (fun jc=>?_) (fun jc=>?_)
   ·have bE:aj bA s b2=b2:=by omega
    exact ab fun acu=>aT rfl (J acu (aZ (aO (by simp) (au rfl rfl ⟨by rw [et ay he cC aq dc e4 fs bE],E⟩))))
   have bE:¬ aj bA s b2=b2:=by omega
   exact ca (aw Cm (ab fun acv=>aG rfl (ag (dQ rfl rfl) (aT rfl (J acv (aZ (au rfl rfl ⟨by first | (rw [di ay he cC aq dc e4 fs bE];exact congrArg Value.bool (decide_eq_decide.2 (drop_nil (by omega)))) | (rw [dh ay he cC aq dc e4];exact congrArg Value.bool (decide_eq_decide.2 (drop_nil (by omega)))),E⟩)))))))
  skip
  refine ax fun PS=>?_;have tU:Lib.trimPrefix (s.drop e) [46]=s.drop (e+1):=by
   unfold Lib.trimPrefix;rw [if_pos tS,List.drop_drop];rfl
  rw [tU];have Rj:e+1≤s.length:=c6 (t:=[46]) tS (by simp);have ag7:=cd bA s (e+1);have Rk:aj bA s (e+1)≤s.length:=cy (by omega);refine bQ (aG rfl (cP (bF gJ rfl) (ef _ s (e+1) bf Rj) fun qJ R=>?_));replace E:=E.then R;refine ak 5 rfl (J PS (ab fun PT=>ak 2 rfl (J PT ?_)));refine aI rfl (fun acs=>?_) (fun acs=>?_)
  ·have aR:aj bA s (e+1)=e+1:=by omega
   exact ab fun PU=>aT rfl (J PU (aZ (aO (by simp) (au rfl rfl ⟨by rw [xn ay he cC tS aR],E⟩))))
  have bp:¬ aj bA s (e+1)=e+1:=by omega
  have wu:aj bA s (e+1)≤s.length:=Rk;have DR:aC s e [46]=true:=tS;obtain⟨bk,qR⟩:∃ bk,bk=aj bA s (e+1):=⟨_,rfl⟩;rw [← qR] at bp ⊢;have aq:¬ (aC s e [46]=true∧aj bA s (e+1)=e+1):=fun h=>bp (by rw [qR];omega);have dc:bk=if aC s e [46] then aj bA s (e+1)else e:=by rw [if_pos DR];exact qR
  refine ca (aw K' (ax fun xb=>ab fun FI=>aG rfl (ag (eu rfl rfl) ?_)));refine cT (fun hs:s.drop (bk)≠[]=>?_) (fun hs=>?_);rotate_left
  ·refine ak 6 rfl (J FI (aE rfl ?_));have e4:(aC s bk [101]||aC s bk [69])=false:=by
    first | (rw [bC j1,bC j1,bN (fun h=>ae (.inl (by rw [h];rfl))),bN (fun h=>ae (.inr (by rw [h];rfl)))];rfl) | (rw [bZ (show s.length≤bk by have:=Classical.not_not.1 hs;rw [drop_nil (by omega)] at this;omega) (by simp),bZ (show s.length≤bk by have:=Classical.not_not.1 hs;rw [drop_nil (by omega)] at this;omega) (by simp)];rfl)
   exact ca (aw xb (ab fun ahb=>aG rfl (ag (dQ rfl rfl) (aT rfl (J ahb (aZ (au rfl rfl ⟨by first | (rw [di ay he cC aq dc e4 fs bE];exact congrArg Value.bool (decide_eq_decide.2 (drop_nil (by omega)))) | (rw [dh ay he cC aq dc e4];exact congrArg Value.bool (decide_eq_decide.2 (drop_nil (by omega)))),E⟩)))))))
  obtain⟨x,j1⟩:∃ x,s[bk]? = some x:=⟨_,List.getElem?_eq_getElem (by rw [Ne,drop_nil (by omega)] at hs;omega)⟩;refine ak 2 rfl ?_;refine ar ((b' (c:=x) Tryz.underlying9 rfl rfl (by decide) (by rw [show((0:Int)).toNat=0 from rfl,List.getElem?_drop,Nat.add_zero];exact j1))) ?_;refine ar (pC rfl rfl) (ar (lT rfl rfl) ?_)
  by_cases ae:(x.toNat=101∨x.toNat=69)
  rotate_left
  ·refine jg (bN (fun h=>ae ((pA x.toNat (UInt8.toNat_lt x)).1 h))) (ag (lU rfl rfl rfl) (J FI (aE rfl ?_)));have e4:(aC s bk [101]||aC s bk [69])=false:=by
    first | (rw [bC j1,bC j1,bN (fun h=>ae (.inl (by rw [h];rfl))),bN (fun h=>ae (.inr (by rw [h];rfl)))];rfl) | (rw [bZ (show s.length≤bk by have:=Classical.not_not.1 hs;rw [drop_nil (by omega)] at this;omega) (by simp),bZ (show s.length≤bk by have:=Classical.not_not.1 hs;rw [drop_nil (by omega)] at this;omega) (by simp)];rfl)
   exact ca (aw xb (ab fun aha=>aG rfl (ag (dQ rfl rfl) (aT rfl (J aha (aZ (au rfl rfl ⟨by first | (rw [di ay he cC aq dc e4 fs bE];exact congrArg Value.bool (decide_eq_decide.2 (drop_nil (by omega)))) | (rw [dh ay he cC aq dc e4];exact congrArg Value.bool (decide_eq_decide.2 (drop_nil (by omega)))),E⟩)))))))
  refine jg (bh ((pA x.toNat (UInt8.toNat_lt x)).2 ae)) (ag (lU rfl rfl rfl) (J FI (aD rfl ?_)));have e4:(aC s bk [101]||aC s bk [69])=true:=by
   rw [bC j1,bC j1];rcases ae with h | h
   ·rw [bh (du (by rw [h];rfl))];rfl
   rw [Bool.or_eq_true];right;exact bh (du (by rw [h];rfl))
  have Rl:bk+1≤s.length:=(List.getElem?_eq_some_iff.1 j1).1;refine ab fun PV=>aG rfl (ag ((cG (n:=1) Tryz.underlying9 rfl rfl (by rw [List.length_drop];omega)).to (v':=S (s.drop (bk+1))) (by rw [List.drop_drop])) (aT rfl (J PV (ax fun B0=>ab fun B1=>aG rfl (ag (eu rfl rfl) ?_)))));refine cT (fun iD:s.drop (bk+1)≠[]=>?_) (fun iD=>?_);rotate_left
  ·refine ak 10 rfl (J B1 (aE rfl ?_));have mL:(aC s (bk+1) [43]||aC s (bk+1) [45])=false:=by
    first | (rw [bC gv,bC gv,bN (fun h=>kY (by rw [h];rfl)),bN (fun h=>oQ (by rw [h];rfl))];rfl) | (rw [bZ (show s.length≤bk+1 by have:=Classical.not_not.1 iD;rw [drop_nil (by omega)] at this;omega) (by simp),bZ (show s.length≤bk+1 by have:=Classical.not_not.1 iD;rw [drop_nil (by omega)] at this;omega) (by simp)];rfl)
   obtain⟨b2,gZ⟩:∃ b2,b2=bk+1:=⟨_,rfl⟩;have fs:b2=if aC s (bk+1) [43]||aC s (bk+1) [45] then bk+2 else bk+1:=by rw [if_neg (by rw [mL];simp)];exact gZ
   refine ca (aw B0 (ax fun P7=>?_));have jQ:b2≤s.length:=by omega
   rw [← gZ];have k5:=cd bA s b2;have k6:aj bA s b2≤s.length:=cy (by omega);refine bQ (aG rfl (cP (bF gJ rfl) (ef _ s b2 bf jQ) fun tD R=>?_));replace E:=E.then R;refine ak 5 rfl (J P7 (ab fun ag8=>ak 2 rfl (J ag8 ?_)));refine aI rfl (fun jc=>?_) (fun jc=>?_)
   ·have bE:aj bA s b2=b2:=by omega
    exact ab fun ag9=>aT rfl (J ag9 (aZ (aO (by simp) (au rfl rfl ⟨by rw [et ay he cC aq dc e4 fs bE],E⟩))))
   have bE:¬ aj bA s b2=b2:=by omega
   exact ca (aw xb (ab fun ag'=>aG rfl (ag (dQ rfl rfl) (aT rfl (J ag' (aZ (au rfl rfl ⟨by first | (rw [di ay he cC aq dc e4 fs bE];exact congrArg Value.bool (decide_eq_decide.2 (drop_nil (by omega)))) | (rw [dh ay he cC aq dc e4];exact congrArg Value.bool (decide_eq_decide.2 (drop_nil (by omega)))),E⟩)))))))
  obtain⟨y,gv⟩:∃ x,s[bk+1]? = some x:=⟨_,List.getElem?_eq_getElem (by rw [Ne,drop_nil (by omega)] at iD;omega)⟩;refine ak 2 rfl ?_;refine ar ((b' (c:=y) Tryz.underlying9 rfl rfl (by decide) (by rw [show((0:Int)).toNat=0 from rfl,List.getElem?_drop,Nat.add_zero];exact gv))) ?_;refine ar (lT rfl rfl) ?_;refine cT (fun kY:(y.toNat:Int)=43=>?_) (fun kY=>?_)
  ·refine ak 6 rfl (J B1 (aD rfl ?_));have mL:(aC s (bk+1) [43]||aC s (bk+1) [45])=true:=by
    rw [bC gv,bC gv,Bool.or_eq_true,decide_eq_true_eq,decide_eq_true_eq]
    first | (left;exact du (by rw [kY];rfl)) | (right;exact du (by rw [oQ];rfl))
   have zu:bk+2≤s.length:=(List.getElem?_eq_some_iff.1 gv).1;obtain⟨b2,gZ⟩:∃ b2,b2=bk+2:=⟨_,rfl⟩;have fs:b2=if aC s (bk+1) [43]||aC s (bk+1) [45] then bk+2 else bk+1:=by rw [if_pos mL];exact gZ
   refine bQ (aG rfl (ag ((cG (n:=1) Tryz.underlying9 rfl rfl (by rw [List.length_drop];omega)).to (v':=S (s.drop (bk+2))) (by rw [List.drop_drop])) (aT rfl (J B0 (ax fun PW=>?_)))));have jQ:b2≤s.length:=by omega
   rw [← gZ];have k5:=cd bA s b2;have k6:aj bA s b2≤s.length:=cy (by omega);refine bQ (aG rfl (cP (bF gJ rfl) (ef _ s b2 bf jQ) fun qd R=>?_));replace E:=E.then R;refine ak 5 rfl (J PW (ab fun La=>ak 2 rfl (J La ?_)));refine aI rfl (fun jc=>?_) (fun jc=>?_)
   ·have bE:aj bA s b2=b2:=by omega
    exact ab fun PX=>aT rfl (J PX (aZ (aO (by simp) (au rfl rfl ⟨by rw [et ay he cC aq dc e4 fs bE],E⟩))))
   have bE:¬ aj bA s b2=b2:=by omega
   exact ca (aw xb (ab fun PY=>aG rfl (ag (dQ rfl rfl) (aT rfl (J PY (aZ (au rfl rfl ⟨by first | (rw [di ay he cC aq dc e4 fs bE];exact congrArg Value.bool (decide_eq_decide.2 (drop_nil (by omega)))) | (rw [dh ay he cC aq dc e4];exact congrArg Value.bool (decide_eq_decide.2 (drop_nil (by omega)))),E⟩)))))))
  refine ak 2 rfl ?_;refine ar ((b' (c:=y) Tryz.underlying9 rfl rfl (by decide) (by rw [show((0:Int)).toNat=0 from rfl,List.getElem?_drop,Nat.add_zero];exact gv))) ?_;refine ar (lT rfl rfl) ?_;refine cT (fun oQ:(y.toNat:Int)=45=>?_) (fun oQ=>?_);rotate_left
  ·refine ak 2 rfl (J B1 (aE rfl ?_));have mL:(aC s (bk+1) [43]||aC s (bk+1) [45])=false:=by
    first | (rw [bC gv,bC gv,bN (fun h=>kY (by rw [h];rfl)),bN (fun h=>oQ (by rw [h];rfl))];rfl) | (rw [bZ (show s.length≤bk+1 by have:=Classical.not_not.1 iD;rw [drop_nil (by omega)] at this;omega) (by simp),bZ (show s.length≤bk+1 by have:=Classical.not_not.1 iD;rw [drop_nil (by omega)] at this;omega) (by simp)];rfl)
   obtain⟨b2,gZ⟩:∃ b2,b2=bk+1:=⟨_,rfl⟩;have fs:b2=if aC s (bk+1) [43]||aC s (bk+1) [45] then bk+2 else bk+1:=by rw [if_neg (by rw [mL];simp)];exact gZ
   refine ca (aw B0 (ax fun P3=>?_));have jQ:b2≤s.length:=by omega
   rw [← gZ];have k5:=cd bA s b2;have k6:aj bA s b2≤s.length:=cy (by omega);refine bQ (aG rfl (cP (bF gJ rfl) (ef _ s b2 bf jQ) fun uE R=>?_));replace E:=E.then R;refine ak 5 rfl (J P3 (ab fun P4=>ak 2 rfl (J P4 ?_)));refine aI rfl (fun jc=>?_) (fun jc=>?_)
   ·have bE:aj bA s b2=b2:=by omega
    exact ab fun P5=>aT rfl (J P5 (aZ (aO (by simp) (au rfl rfl ⟨by rw [et ay he cC aq dc e4 fs bE],E⟩))))
   have bE:¬ aj bA s b2=b2:=by omega
   exact ca (aw xb (ab fun P6=>aG rfl (ag (dQ rfl rfl) (aT rfl (J P6 (aZ (au rfl rfl ⟨by first | (rw [di ay he cC aq dc e4 fs bE];exact congrArg Value.bool (decide_eq_decide.2 (drop_nil (by omega)))) | (rw [dh ay he cC aq dc e4];exact congrArg Value.bool (decide_eq_decide.2 (drop_nil (by omega)))),E⟩)))))))
  refine ak 2 rfl (J B1 (aD rfl ?_));have mL:(aC s (bk+1) [43]||aC s (bk+1) [45])=true:=by
   rw [bC gv,bC gv,Bool.or_eq_true,decide_eq_true_eq,decide_eq_true_eq]
   first | (left;exact du (by rw [kY];rfl)) | (right;exact du (by rw [oQ];rfl))
  have zu:bk+2≤s.length:=(List.getElem?_eq_some_iff.1 gv).1;obtain⟨b2,gZ⟩:∃ b2,b2=bk+2:=⟨_,rfl⟩;have fs:b2=if aC s (bk+1) [43]||aC s (bk+1) [45] then bk+2 else bk+1:=by rw [if_pos mL];exact gZ
  refine bQ (aG rfl (ag ((cG (n:=1) Tryz.underlying9 rfl rfl (by rw [List.length_drop];omega)).to (v':=S (s.drop (bk+2))) (by rw [List.drop_drop])) (aT rfl (J B0 (ax fun PZ=>?_)))));have jQ:b2≤s.length:=by omega
  rw [← gZ];have k5:=cd bA s b2;have k6:aj bA s b2≤s.length:=cy (by omega);refine bQ (aG rfl (cP (bF gJ rfl) (ef _ s b2 bf jQ) fun rz R=>?_));replace E:=E.then R;refine ak 5 rfl (J PZ (ab fun P0=>ak 2 rfl (J P0 ?_)));refine aI rfl (fun jc=>?_) (fun jc=>?_)
  ·have bE:aj bA s b2=b2:=by omega
   exact ab fun P1=>aT rfl (J P1 (aZ (aO (by simp) (au rfl rfl ⟨by rw [et ay he cC aq dc e4 fs bE],E⟩))))
  have bE:¬ aj bA s b2=b2:=by omega
  exact ca (aw xb (ab fun P2=>aG rfl (ag (dQ rfl rfl) (aT rfl (J P2 (aZ (au rfl rfl ⟨by first | (rw [di ay he cC aq dc e4 fs bE];exact congrArg Value.bool (decide_eq_decide.2 (drop_nil (by omega)))) | (rw [dh ay he cC aq dc e4];exact congrArg Value.bool (decide_eq_decide.2 (drop_nil (by omega)))),E⟩)))))))
 obtain⟨d,Ri⟩:∃ x,s[a]? = some x:=⟨_,List.getElem?_eq_getElem (by omega)⟩;refine ak 2 rfl ?_;refine ar ((b' (c:=d) Tryz.underlying9 rfl rfl (by decide) (by rw [show((0:Int)).toNat=0 from rfl,List.getElem?_drop,Nat.add_zero];exact Ri))) ?_;refine ar (lT rfl rfl) ?_;refine cT (fun Bg:(d.toNat:Int)=48=>?_) (fun Bg=>?_)
 ·refine ak 2 rfl (J bI (aD rfl ?_));have cC:e=a∨(a+1<e∧s[a]? = some 48):=by
   first | (left;omega) | (right;exact⟨by omega,by rw [Ri,du (show(d.toNat:Int)=(48:UInt8).toNat by rw [Bg];rfl)]⟩)
  exact ab fun cb=>aT rfl (J cb (aZ (aO (by simp) (au rfl rfl ⟨by rw [xm ay he cC],E⟩))))
 refine ak 2 rfl (J bI (aE rfl ?_));have cC:¬ (e=a∨(a+1<e∧s[a]? = some 48)):=by
  rintro(h | ⟨h,fh⟩)
  ·omega
  first | omega | (rw [Ri] at fh;injection fh with fh;subst fh;exact Bg rfl)
 refine ca (aw br (ax fun cx=>ab fun cH=>aG rfl (cP (bF DQ rfl) (DC _ (s.drop e) [46]) fun fV R=>?_)));replace E:=E.then R;refine ak 5 rfl (J cH (ab fun b5=>aG rfl (J b5 ?_)));refine a7 rfl (fun tS=>?_) (fun tS=>?_);rotate_left
 ·have DR:aC s e [46]=false:=tS;obtain⟨bk,qR⟩:∃ bk,bk=e:=⟨_,rfl⟩;rw [← qR];have aq:¬ (aC s e [46]=true∧aj bA s (e+1)=e+1):=fun h=>by rw [DR] at h;cases h.1
  have dc:bk=if aC s e [46] then aj bA s (e+1)else e:=by rw [if_neg (by rw [DR];simp)];exact qR
  have wu:bk≤s.length:=by omega
  refine ca (aw cx (ax fun kD=>ab fun ll=>aG rfl (ag (eu rfl rfl) ?_)));refine cT (fun hs:s.drop (bk)≠[]=>?_) (fun hs=>?_);rotate_left
  ·refine ak 6 rfl (J ll (aE rfl ?_));have e4:(aC s bk [101]||aC s bk [69])=false:=by
    first | (rw [bC j1,bC j1,bN (fun h=>ae (.inl (by rw [h];rfl))),bN (fun h=>ae (.inr (by rw [h];rfl)))];rfl) | (rw [bZ (show s.length≤bk by have:=Classical.not_not.1 hs;rw [drop_nil (by omega)] at this;omega) (by simp),bZ (show s.length≤bk by have:=Classical.not_not.1 hs;rw [drop_nil (by omega)] at this;omega) (by simp)];rfl)
   exact ca (aw kD (ab fun PN=>aG rfl (ag (dQ rfl rfl) (aT rfl (J PN (aZ (au rfl rfl ⟨by first | (rw [di ay he cC aq dc e4 fs bE];exact congrArg Value.bool (decide_eq_decide.2 (drop_nil (by omega)))) | (rw [dh ay he cC aq dc e4];exact congrArg Value.bool (decide_eq_decide.2 (drop_nil (by omega)))),E⟩)))))))
  obtain⟨x,j1⟩:∃ x,s[bk]? = some x:=⟨_,List.getElem?_eq_getElem (by rw [Ne,drop_nil (by omega)] at hs;omega)⟩;refine ak 2 rfl ?_;refine ar ((b' (c:=x) Tryz.underlying9 rfl rfl (by decide) (by rw [show((0:Int)).toNat=0 from rfl,List.getElem?_drop,Nat.add_zero];exact j1))) ?_;refine ar (pC rfl rfl) (ar (lT rfl rfl) ?_)
  by_cases ae:(x.toNat=101∨x.toNat=69)
  rotate_left
  ·refine jg (bN (fun h=>ae ((pA x.toNat (UInt8.toNat_lt x)).1 h))) (ag (lU rfl rfl rfl) (J ll (aE rfl ?_)));have e4:(aC s bk [101]||aC s bk [69])=false:=by
    first | (rw [bC j1,bC j1,bN (fun h=>ae (.inl (by rw [h];rfl))),bN (fun h=>ae (.inr (by rw [h];rfl)))];rfl) | (rw [bZ (show s.length≤bk by have:=Classical.not_not.1 hs;rw [drop_nil (by omega)] at this;omega) (by simp),bZ (show s.length≤bk by have:=Classical.not_not.1 hs;rw [drop_nil (by omega)] at this;omega) (by simp)];rfl)
   exact ca (aw kD (ab fun K9=>aG rfl (ag (dQ rfl rfl) (aT rfl (J K9 (aZ (au rfl rfl ⟨by first | (rw [di ay he cC aq dc e4 fs bE];exact congrArg Value.bool (decide_eq_decide.2 (drop_nil (by omega)))) | (rw [dh ay he cC aq dc e4];exact congrArg Value.bool (decide_eq_decide.2 (drop_nil (by omega)))),E⟩)))))))
  refine jg (bh ((pA x.toNat (UInt8.toNat_lt x)).2 ae)) (ag (lU rfl rfl rfl) (J ll (aD rfl ?_)));have e4:(aC s bk [101]||aC s bk [69])=true:=by
   rw [bC j1,bC j1];rcases ae with h | h
   ·rw [bh (du (by rw [h];rfl))];rfl
   rw [Bool.or_eq_true];right;exact bh (du (by rw [h];rfl))
  have Rl:bk+1≤s.length:=(List.getElem?_eq_some_iff.1 j1).1;refine ab fun rj=>aG rfl (ag ((cG (n:=1) Tryz.underlying9 rfl rfl (by rw [List.length_drop];omega)).to (v':=S (s.drop (bk+1))) (by rw [List.drop_drop])) (aT rfl (J rj (ax fun pt=>ab fun mR=>aG rfl (ag (eu rfl rfl) ?_)))));refine cT (fun iD:s.drop (bk+1)≠[]=>?_) (fun iD=>?_);rotate_left
  ·refine ak 10 rfl (J mR (aE rfl ?_));have mL:(aC s (bk+1) [43]||aC s (bk+1) [45])=false:=by
    first | (rw [bC gv,bC gv,bN (fun h=>kY (by rw [h];rfl)),bN (fun h=>oQ (by rw [h];rfl))];rfl) | (rw [bZ (show s.length≤bk+1 by have:=Classical.not_not.1 iD;rw [drop_nil (by omega)] at this;omega) (by simp),bZ (show s.length≤bk+1 by have:=Classical.not_not.1 iD;rw [drop_nil (by omega)] at this;omega) (by simp)];rfl)
   obtain⟨b2,gZ⟩:∃ b2,b2=bk+1:=⟨_,rfl⟩;have fs:b2=if aC s (bk+1) [43]||aC s (bk+1) [45] then bk+2 else bk+1:=by rw [if_neg (by rw [mL];simp)];exact gZ
   refine ca (aw pt (ax fun PK=>?_));have jQ:b2≤s.length:=by omega
   rw [← gZ];have k5:=cd bA s b2;have k6:aj bA s b2≤s.length:=cy (by omega);refine bQ (aG rfl (cP (bF gJ rfl) (ef _ s b2 bf jQ) fun qa R=>?_));replace E:=E.then R;refine ak 5 rfl (J PK (ab fun PL=>ak 2 rfl (J PL ?_)));refine aI rfl (fun jc=>?_) (fun jc=>?_)
   ·have bE:aj bA s b2=b2:=by omega
    exact ab fun K8=>aT rfl (J K8 (aZ (aO (by simp) (au rfl rfl ⟨by rw [et ay he cC aq dc e4 fs bE],E⟩))))
   have bE:¬ aj bA s b2=b2:=by omega
   exact ca (aw kD (ab fun PM=>aG rfl (ag (dQ rfl rfl) (aT rfl (J PM (aZ (au rfl rfl ⟨by first | (rw [di ay he cC aq dc e4 fs bE];exact congrArg Value.bool (decide_eq_decide.2 (drop_nil (by omega)))) | (rw [dh ay he cC aq dc e4];exact congrArg Value.bool (decide_eq_decide.2 (drop_nil (by omega)))),E⟩)))))))
  obtain⟨y,gv⟩:∃ x,s[bk+1]? = some x:=⟨_,List.getElem?_eq_getElem (by rw [Ne,drop_nil (by omega)] at iD;omega)⟩;refine ak 2 rfl ?_;refine ar ((b' (c:=y) Tryz.underlying9 rfl rfl (by decide) (by rw [show((0:Int)).toNat=0 from rfl,List.getElem?_drop,Nat.add_zero];exact gv))) ?_;refine ar (lT rfl rfl) ?_;refine cT (fun kY:(y.toNat:Int)=43=>?_) (fun kY=>?_)
  ·refine ak 6 rfl (J mR (aD rfl ?_));have mL:(aC s (bk+1) [43]||aC s (bk+1) [45])=true:=by
    rw [bC gv,bC gv,Bool.or_eq_true,decide_eq_true_eq,decide_eq_true_eq]
    first | (left;exact du (by rw [kY];rfl)) | (right;exact du (by rw [oQ];rfl))
   have zu:bk+2≤s.length:=(List.getElem?_eq_some_iff.1 gv).1;obtain⟨b2,gZ⟩:∃ b2,b2=bk+2:=⟨_,rfl⟩;have fs:b2=if aC s (bk+1) [43]||aC s (bk+1) [45] then bk+2 else bk+1:=by rw [if_pos mL];exact gZ
   refine bQ (aG rfl (ag ((cG (n:=1) Tryz.underlying9 rfl rfl (by rw [List.length_drop];omega)).to (v':=S (s.drop (bk+2))) (by rw [List.drop_drop])) (aT rfl (J pt (ax fun kE=>?_)))));have jQ:b2≤s.length:=by omega
   rw [← gZ];have k5:=cd bA s b2;have k6:aj bA s b2≤s.length:=cy (by omega);refine bQ (aG rfl (cP (bF gJ rfl) (ef _ s b2 bf jQ) fun lY R=>?_));replace E:=E.then R;refine ak 5 rfl (J kE (ab fun uB=>ak 2 rfl (J uB ?_)));refine aI rfl (fun jc=>?_) (fun jc=>?_)
   ·have bE:aj bA s b2=b2:=by omega
    exact ab fun rk=>aT rfl (J rk (aZ (aO (by simp) (au rfl rfl ⟨by rw [et ay he cC aq dc e4 fs bE],E⟩))))
   have bE:¬ aj bA s b2=b2:=by omega
   exact ca (aw kD (ab fun rX=>aG rfl (ag (dQ rfl rfl) (aT rfl (J rX (aZ (au rfl rfl ⟨by first | (rw [di ay he cC aq dc e4 fs bE];exact congrArg Value.bool (decide_eq_decide.2 (drop_nil (by omega)))) | (rw [dh ay he cC aq dc e4];exact congrArg Value.bool (decide_eq_decide.2 (drop_nil (by omega)))),E⟩)))))))
  refine ak 2 rfl ?_;refine ar ((b' (c:=y) Tryz.underlying9 rfl rfl (by decide) (by rw [show((0:Int)).toNat=0 from rfl,List.getElem?_drop,Nat.add_zero];exact gv))) ?_;refine ar (lT rfl rfl) ?_;refine cT (fun oQ:(y.toNat:Int)=45=>?_) (fun oQ=>?_);rotate_left
  ·refine ak 2 rfl (J mR (aE rfl ?_));have mL:(aC s (bk+1) [43]||aC s (bk+1) [45])=false:=by
    first | (rw [bC gv,bC gv,bN (fun h=>kY (by rw [h];rfl)),bN (fun h=>oQ (by rw [h];rfl))];rfl) | (rw [bZ (show s.length≤bk+1 by have:=Classical.not_not.1 iD;rw [drop_nil (by omega)] at this;omega) (by simp),bZ (show s.length≤bk+1 by have:=Classical.not_not.1 iD;rw [drop_nil (by omega)] at this;omega) (by simp)];rfl)
   obtain⟨b2,gZ⟩:∃ b2,b2=bk+1:=⟨_,rfl⟩;have fs:b2=if aC s (bk+1) [43]||aC s (bk+1) [45] then bk+2 else bk+1:=by rw [if_neg (by rw [mL];simp)];exact gZ
   refine ca (aw pt (ax fun rY=>?_));have jQ:b2≤s.length:=by omega
   rw [← gZ];have k5:=cd bA s b2;have k6:aj bA s b2≤s.length:=cy (by omega);refine bQ (aG rfl (cP (bF gJ rfl) (ef _ s b2 bf jQ) fun kr R=>?_));replace E:=E.then R;refine ak 5 rfl (J rY (ab fun yO=>ak 2 rfl (J yO ?_)));refine aI rfl (fun jc=>?_) (fun jc=>?_)
   ·have bE:aj bA s b2=b2:=by omega
    exact ab fun yP=>aT rfl (J yP (aZ (aO (by simp) (au rfl rfl ⟨by rw [et ay he cC aq dc e4 fs bE],E⟩))))
   have bE:¬ aj bA s b2=b2:=by omega
   exact ca (aw kD (ab fun FH=>aG rfl (ag (dQ rfl rfl) (aT rfl (J FH (aZ (au rfl rfl ⟨by first | (rw [di ay he cC aq dc e4 fs bE];exact congrArg Value.bool (decide_eq_decide.2 (drop_nil (by omega)))) | (rw [dh ay he cC aq dc e4];exact congrArg Value.bool (decide_eq_decide.2 (drop_nil (by omega)))),E⟩)))))))
  refine ak 2 rfl (J mR (aD rfl ?_));have mL:(aC s (bk+1) [43]||aC s (bk+1) [45])=true:=by
   rw [bC gv,bC gv,Bool.or_eq_true,decide_eq_true_eq,decide_eq_true_eq]
   first | (left;exact du (by rw [kY];rfl)) | (right;exact du (by rw [oQ];rfl))
  have zu:bk+2≤s.length:=(List.getElem?_eq_some_iff.1 gv).1;obtain⟨b2,gZ⟩:∃ b2,b2=bk+2:=⟨_,rfl⟩;have fs:b2=if aC s (bk+1) [43]||aC s (bk+1) [45] then bk+2 else bk+1:=by rw [if_pos mL];exact gZ
  refine bQ (aG rfl (ag ((cG (n:=1) Tryz.underlying9 rfl rfl (by rw [List.length_drop];omega)).to (v':=S (s.drop (bk+2))) (by rw [List.drop_drop])) (aT rfl (J pt (ax fun oG=>?_)))));have jQ:b2≤s.length:=by omega
  rw [← gZ];have k5:=cd bA s b2;have k6:aj bA s b2≤s.length:=cy (by omega);refine bQ (aG rfl (cP (bF gJ rfl) (ef _ s b2 bf jQ) fun iy R=>?_));replace E:=E.then R;refine ak 5 rfl (J oG (ab fun rl=>ak 2 rfl (J rl ?_)));refine aI rfl (fun jc=>?_) (fun jc=>?_)
  ·have bE:aj bA s b2=b2:=by omega
   exact ab fun yM=>aT rfl (J yM (aZ (aO (by simp) (au rfl rfl ⟨by rw [et ay he cC aq dc e4 fs bE],E⟩))))
  have bE:¬ aj bA s b2=b2:=by omega
  exact ca (aw kD (ab fun yN=>aG rfl (ag (dQ rfl rfl) (aT rfl (J yN (aZ (au rfl rfl ⟨by first | (rw [di ay he cC aq dc e4 fs bE];exact congrArg Value.bool (decide_eq_decide.2 (drop_nil (by omega)))) | (rw [dh ay he cC aq dc e4];exact congrArg Value.bool (decide_eq_decide.2 (drop_nil (by omega)))),E⟩)))))))
 skip
 refine ax fun bX=>?_;have tU:Lib.trimPrefix (s.drop e) [46]=s.drop (e+1):=by
  unfold Lib.trimPrefix;rw [if_pos tS,List.drop_drop];rfl
 rw [tU];have Rj:e+1≤s.length:=c6 (t:=[46]) tS (by simp);have ag7:=cd bA s (e+1);have Rk:aj bA s (e+1)≤s.length:=cy (by omega);refine bQ (aG rfl (cP (bF gJ rfl) (ef _ s (e+1) bf Rj) fun ic R=>?_));replace E:=E.then R;refine ak 5 rfl (J bX (ab fun cU=>ak 2 rfl (J cU ?_)));refine aI rfl (fun acs=>?_) (fun acs=>?_)
 ·have aR:aj bA s (e+1)=e+1:=by omega
  exact ab fun b7=>aT rfl (J b7 (aZ (aO (by simp) (au rfl rfl ⟨by rw [xn ay he cC tS aR],E⟩))))
 have bp:¬ aj bA s (e+1)=e+1:=by omega
 have wu:aj bA s (e+1)≤s.length:=Rk;have DR:aC s e [46]=true:=tS;obtain⟨bk,qR⟩:∃ bk,bk=aj bA s (e+1):=⟨_,rfl⟩;rw [← qR] at bp ⊢;have aq:¬ (aC s e [46]=true∧aj bA s (e+1)=e+1):=fun h=>bp (by rw [qR];omega);have dc:bk=if aC s e [46] then aj bA s (e+1)else e:=by rw [if_pos DR];exact qR
 refine ca (aw cx (ax fun cS=>ab fun de=>aG rfl (ag (eu rfl rfl) ?_)));refine cT (fun hs:s.drop (bk)≠[]=>?_) (fun hs=>?_);rotate_left
 ·refine ak 6 rfl (J de (aE rfl ?_));have e4:(aC s bk [101]||aC s bk [69])=false:=by
   first | (rw [bC j1,bC j1,bN (fun h=>ae (.inl (by rw [h];rfl))),bN (fun h=>ae (.inr (by rw [h];rfl)))];rfl) | (rw [bZ (show s.length≤bk by have:=Classical.not_not.1 hs;rw [drop_nil (by omega)] at this;omega) (by simp),bZ (show s.length≤bk by have:=Classical.not_not.1 hs;rw [drop_nil (by omega)] at this;omega) (by simp)];rfl)
  exact ca (aw cS (ab fun mQ=>aG rfl (ag (dQ rfl rfl) (aT rfl (J mQ (aZ (au rfl rfl ⟨by first | (rw [di ay he cC aq dc e4 fs bE];exact congrArg Value.bool (decide_eq_decide.2 (drop_nil (by omega)))) | (rw [dh ay he cC aq dc e4];exact congrArg Value.bool (decide_eq_decide.2 (drop_nil (by omega)))),E⟩)))))))
 obtain⟨x,j1⟩:∃ x,s[bk]? = some x:=⟨_,List.getElem?_eq_getElem (by rw [Ne,drop_nil (by omega)] at hs;omega)⟩;refine ak 2 rfl ?_;refine ar ((b' (c:=x) Tryz.underlying9 rfl rfl (by decide) (by rw [show((0:Int)).toNat=0 from rfl,List.getElem?_drop,Nat.add_zero];exact j1))) ?_;refine ar (pC rfl rfl) (ar (lT rfl rfl) ?_)
 by_cases ae:(x.toNat=101∨x.toNat=69)
 rotate_left
 ·refine jg (bN (fun h=>ae ((pA x.toNat (UInt8.toNat_lt x)).1 h))) (ag (lU rfl rfl rfl) (J de (aE rfl ?_)));have e4:(aC s bk [101]||aC s bk [69])=false:=by
   first | (rw [bC j1,bC j1,bN (fun h=>ae (.inl (by rw [h];rfl))),bN (fun h=>ae (.inr (by rw [h];rfl)))];rfl) | (rw [bZ (show s.length≤bk by have:=Classical.not_not.1 hs;rw [drop_nil (by omega)] at this;omega) (by simp),bZ (show s.length≤bk by have:=Classical.not_not.1 hs;rw [drop_nil (by omega)] at this;omega) (by simp)];rfl)
  exact ca (aw cS (ab fun jU=>aG rfl (ag (dQ rfl rfl) (aT rfl (J jU (aZ (au rfl rfl ⟨by first | (rw [di ay he cC aq dc e4 fs bE];exact congrArg Value.bool (decide_eq_decide.2 (drop_nil (by omega)))) | (rw [dh ay he cC aq dc e4];exact congrArg Value.bool (decide_eq_decide.2 (drop_nil (by omega)))),E⟩)))))))
 refine jg (bh ((pA x.toNat (UInt8.toNat_lt x)).2 ae)) (ag (lU rfl rfl rfl) (J de (aD rfl ?_)));have e4:(aC s bk [101]||aC s bk [69])=true:=by
  rw [bC j1,bC j1];rcases ae with h | h
  ·rw [bh (du (by rw [h];rfl))];rfl
  rw [Bool.or_eq_true];right;exact bh (du (by rw [h];rfl))
 have Rl:bk+1≤s.length:=(List.getElem?_eq_some_iff.1 j1).1;refine ab fun dG=>aG rfl (ag ((cG (n:=1) Tryz.underlying9 rfl rfl (by rw [List.length_drop];omega)).to (v':=S (s.drop (bk+1))) (by rw [List.drop_drop])) (aT rfl (J dG (ax fun eC=>ab fun eb=>aG rfl (ag (eu rfl rfl) ?_)))));refine cT (fun iD:s.drop (bk+1)≠[]=>?_) (fun iD=>?_);rotate_left
 ·refine ak 10 rfl (J eb (aE rfl ?_));have mL:(aC s (bk+1) [43]||aC s (bk+1) [45])=false:=by
   first | (rw [bC gv,bC gv,bN (fun h=>kY (by rw [h];rfl)),bN (fun h=>oQ (by rw [h];rfl))];rfl) | (rw [bZ (show s.length≤bk+1 by have:=Classical.not_not.1 iD;rw [drop_nil (by omega)] at this;omega) (by simp),bZ (show s.length≤bk+1 by have:=Classical.not_not.1 iD;rw [drop_nil (by omega)] at this;omega) (by simp)];rfl)
  obtain⟨b2,gZ⟩:∃ b2,b2=bk+1:=⟨_,rfl⟩;have fs:b2=if aC s (bk+1) [43]||aC s (bk+1) [45] then bk+2 else bk+1:=by rw [if_neg (by rw [mL];simp)];exact gZ
  refine ca (aw eC (ax fun lj=>?_));have jQ:b2≤s.length:=by omega
  rw [← gZ];have k5:=cd bA s b2;have k6:aj bA s b2≤s.length:=cy (by omega);refine bQ (aG rfl (cP (bF gJ rfl) (ef _ s b2 bf jQ) fun n' R=>?_));replace E:=E.then R;refine ak 5 rfl (J lj (ab fun jd=>ak 2 rfl (J jd ?_)));refine aI rfl (fun jc=>?_) (fun jc=>?_)
  ·have bE:aj bA s b2=b2:=by omega
   exact ab fun kC=>aT rfl (J kC (aZ (aO (by simp) (au rfl rfl ⟨by rw [et ay he cC aq dc e4 fs bE],E⟩))))
  have bE:¬ aj bA s b2=b2:=by omega
  exact ca (aw cS (ab fun lk=>aG rfl (ag (dQ rfl rfl) (aT rfl (J lk (aZ (au rfl rfl ⟨by first | (rw [di ay he cC aq dc e4 fs bE];exact congrArg Value.bool (decide_eq_decide.2 (drop_nil (by omega)))) | (rw [dh ay he cC aq dc e4];exact congrArg Value.bool (decide_eq_decide.2 (drop_nil (by omega)))),E⟩)))))))
 obtain⟨y,gv⟩:∃ x,s[bk+1]? = some x:=⟨_,List.getElem?_eq_getElem (by rw [Ne,drop_nil (by omega)] at iD;omega)⟩;refine ak 2 rfl ?_;refine ar ((b' (c:=y) Tryz.underlying9 rfl rfl (by decide) (by rw [show((0:Int)).toNat=0 from rfl,List.getElem?_drop,Nat.add_zero];exact gv))) ?_;refine ar (lT rfl rfl) ?_;refine cT (fun kY:(y.toNat:Int)=43=>?_) (fun kY=>?_)
 ·refine ak 6 rfl (J eb (aD rfl ?_));have mL:(aC s (bk+1) [43]||aC s (bk+1) [45])=true:=by
   rw [bC gv,bC gv,Bool.or_eq_true,decide_eq_true_eq,decide_eq_true_eq]
   first | (left;exact du (by rw [kY];rfl)) | (right;exact du (by rw [oQ];rfl))
  have zu:bk+2≤s.length:=(List.getElem?_eq_some_iff.1 gv).1;obtain⟨b2,gZ⟩:∃ b2,b2=bk+2:=⟨_,rfl⟩;have fs:b2=if aC s (bk+1) [43]||aC s (bk+1) [45] then bk+2 else bk+1:=by rw [if_pos mL];exact gZ
  refine bQ (aG rfl (ag ((cG (n:=1) Tryz.underlying9 rfl rfl (by rw [List.length_drop];omega)).to (v':=S (s.drop (bk+2))) (by rw [List.drop_drop])) (aT rfl (J eC (ax fun fq=>?_)))));have jQ:b2≤s.length:=by omega
  rw [← gZ];have k5:=cd bA s b2;have k6:aj bA s b2≤s.length:=cy (by omega);refine bQ (aG rfl (cP (bF gJ rfl) (ef _ s b2 bf jQ) fun jn R=>?_));replace E:=E.then R;refine ak 5 rfl (J fq (ab fun fE=>ak 2 rfl (J fE ?_)));refine aI rfl (fun jc=>?_) (fun jc=>?_)
  ·have bE:aj bA s b2=b2:=by omega
   exact ab fun fa=>aT rfl (J fa (aZ (aO (by simp) (au rfl rfl ⟨by rw [et ay he cC aq dc e4 fs bE],E⟩))))
  have bE:¬ aj bA s b2=b2:=by omega
  exact ca (aw cS (ab fun fL=>aG rfl (ag (dQ rfl rfl) (aT rfl (J fL (aZ (au rfl rfl ⟨by first | (rw [di ay he cC aq dc e4 fs bE];exact congrArg Value.bool (decide_eq_decide.2 (drop_nil (by omega)))) | (rw [dh ay he cC aq dc e4];exact congrArg Value.bool (decide_eq_decide.2 (drop_nil (by omega)))),E⟩)))))))
 refine ak 2 rfl ?_;refine ar ((b' (c:=y) Tryz.underlying9 rfl rfl (by decide) (by rw [show((0:Int)).toNat=0 from rfl,List.getElem?_drop,Nat.add_zero];exact gv))) ?_;refine ar (lT rfl rfl) ?_;refine cT (fun oQ:(y.toNat:Int)=45=>?_) (fun oQ=>?_);rotate_left
 ·refine ak 2 rfl (J eb (aE rfl ?_));have mL:(aC s (bk+1) [43]||aC s (bk+1) [45])=false:=by
   first | (rw [bC gv,bC gv,bN (fun h=>kY (by rw [h];rfl)),bN (fun h=>oQ (by rw [h];rfl))];rfl) | (rw [bZ (show s.length≤bk+1 by have:=Classical.not_not.1 iD;rw [drop_nil (by omega)] at this;omega) (by simp),bZ (show s.length≤bk+1 by have:=Classical.not_not.1 iD;rw [drop_nil (by omega)] at this;omega) (by simp)];rfl)
  obtain⟨b2,gZ⟩:∃ b2,b2=bk+1:=⟨_,rfl⟩;have fs:b2=if aC s (bk+1) [43]||aC s (bk+1) [45] then bk+2 else bk+1:=by rw [if_neg (by rw [mL];simp)];exact gZ
  refine ca (aw eC (ax fun hE=>?_));have jQ:b2≤s.length:=by omega
  rw [← gZ];have k5:=cd bA s b2;have k6:aj bA s b2≤s.length:=cy (by omega);refine bQ (aG rfl (cP (bF gJ rfl) (ef _ s b2 bf jQ) fun iw R=>?_));replace E:=E.then R;refine ak 5 rfl (J hE (ab fun ij=>ak 2 rfl (J ij ?_)));refine aI rfl (fun jc=>?_) (fun jc=>?_)
  ·have bE:aj bA s b2=b2:=by omega
   exact ab fun jS=>aT rfl (J jS (aZ (aO (by simp) (au rfl rfl ⟨by rw [et ay he cC aq dc e4 fs bE],E⟩))))
  have bE:¬ aj bA s b2=b2:=by omega
  exact ca (aw cS (ab fun jT=>aG rfl (ag (dQ rfl rfl) (aT rfl (J jT (aZ (au rfl rfl ⟨by first | (rw [di ay he cC aq dc e4 fs bE];exact congrArg Value.bool (decide_eq_decide.2 (drop_nil (by omega)))) | (rw [dh ay he cC aq dc e4];exact congrArg Value.bool (decide_eq_decide.2 (drop_nil (by omega)))),E⟩)))))))
 refine ak 2 rfl (J eb (aD rfl ?_));have mL:(aC s (bk+1) [43]||aC s (bk+1) [45])=true:=by
  rw [bC gv,bC gv,Bool.or_eq_true,decide_eq_true_eq,decide_eq_true_eq]
  first | (left;exact du (by rw [kY];rfl)) | (right;exact du (by rw [oQ];rfl))
 have zu:bk+2≤s.length:=(List.getElem?_eq_some_iff.1 gv).1;obtain⟨b2,gZ⟩:∃ b2,b2=bk+2:=⟨_,rfl⟩;have fs:b2=if aC s (bk+1) [43]||aC s (bk+1) [45] then bk+2 else bk+1:=by rw [if_pos mL];exact gZ
 refine bQ (aG rfl (ag ((cG (n:=1) Tryz.underlying9 rfl rfl (by rw [List.length_drop];omega)).to (v':=S (s.drop (bk+2))) (by rw [List.drop_drop])) (aT rfl (J eC (ax fun gX=>?_)))));have jQ:b2≤s.length:=by omega
 rw [← gZ];have k5:=cd bA s b2;have k6:aj bA s b2≤s.length:=cy (by omega);refine bQ (aG rfl (cP (bF gJ rfl) (ef _ s b2 bf jQ) fun jC R=>?_));replace E:=E.then R;refine ak 5 rfl (J gX (ab fun hn=>ak 2 rfl (J hn ?_)));refine aI rfl (fun jc=>?_) (fun jc=>?_)
 ·have bE:aj bA s b2=b2:=by omega
  exact ab fun hD=>aT rfl (J hD (aZ (aO (by simp) (au rfl rfl ⟨by rw [et ay he cC aq dc e4 fs bE],E⟩))))
 have bE:¬ aj bA s b2=b2:=by omega
 exact ca (aw cS (ab fun ho=>aG rfl (ag (dQ rfl rfl) (aT rfl (J ho (aZ (au rfl rfl ⟨by first | (rw [di ay he cC aq dc e4 fs bE];exact congrArg Value.bool (decide_eq_decide.2 (drop_nil (by omega)))) | (rw [dh ay he cC aq dc e4];exact congrArg Value.bool (decide_eq_decide.2 (drop_nil (by omega)))),E⟩)))))))
set_option maxRecDepth 10000
theorem kT:Tryz.prog.underlying 176=some (.interface (Tryz.prog.methodsAt 176)):=by kernel_rfl
theorem Lw:aQ Tryz.prog 156:=aQ.of Tryz.func156 (by kernel_rfl) (by kernel_rfl)
theorem Lx:aQ Tryz.prog 181:=aQ.of Tryz.func181 (by kernel_rfl) (by kernel_rfl)
theorem wv:aQ Tryz.prog 30:=aQ.of Tryz.func30 (by kernel_rfl) (by kernel_rfl)
theorem I2 (w:World) (g:Nat) (s:aa) (k:Nat) (sk:Value) (B:aF w g 75 [S s,.int .i64 (k:Int),sk]) (bf:s.length≤65536) (hk:k≤s.length) (e4:Env w) (dA:Nj<g):Calls Tryz.prog 149 [.pointer (some ⟨g,0,none⟩)].toArray w (M7 124 [g] w (iM s k) (fun x u w'=>∃ us,u = .agg us.toArray∧(∀ (A:List Nat) (w:World),ao A w x.1.D us)∧aF w' g 75 [S s,.int .i64 (x.2:Int),sk])):=by
 refine enter Tryz.func149 rfl rfl rfl (l:=[(0,_)]) ⟨rfl,trivial⟩ ?_;have E:=Mod.refl [g] w;refine ab fun aV=>bt cB rfl fun g1 aB bR=>?_;have bH:=bR.le E;have k7:=bR.ne B;replace B:=B.I bR.mod;replace E:=E.then bR.mod;have U:=bR.az;refine J aV (ax fun aL=>?_);have b1:g1≠g:=Ne.symm k7;have I3:=bH;refine bQ (ak 2 rfl (ag (av da rfl) (ag (bc dE rfl (B.cell rfl)) (aT rfl (J aL (ax fun aW=>eB (bU (σ:=Nat) (fun p=>[(0,.pointer (some ⟨g,0,none⟩)),(2,.pointer (some ⟨g1,0,none⟩)),(3,.int .i64 (k:Int))]) (fun p aB=>(k≤p∧p≤s.length∧aj eK s p=aj eK s k)∧aF aB g1 25 [.int .i64 0,.bool false,.int .i64 0,S [],.slice none 0 0,.slice none 0 0]∧aF aB g 75 [S s,.int .i64 (p:Int),sk]∧Mod [g] w aB) (fun p=>s.length-p) (k) ⟨rfl,rfl,rfl,trivial⟩ (⟨⟨Nat.le_refl _,hk,rfl⟩,U,B,E⟩) ?_)))))));rintro p cN ⟨⟨alr,cp,zi⟩,U,B,E⟩;refine ax fun br=>ax fun bI=>?_
 by_cases bJ:(p:Int)<(s.length:Int)
 rotate_left
 ·refine bT wide (by kernel_rfl) (f' 2 rfl rfl (ai (fun R=>(av da rfl)) (ai (fun R=>(bc dE rfl ((B.I R).cell rfl))) (f' 2 rfl rfl (ai (fun R=>(av ft rfl)) (ai (fun R=>(bc bs rfl ((B.I R).cell rfl))) (ai (fun R=>(bw Tryz.underlying9 rfl)) (f' 2 rfl rfl (eV rfl (bN bJ) (eV rfl (bN bJ) (eV rfl (bN bJ) (eV rfl (bN bJ) (eV rfl (bN bJ) ?_)))))))))))));refine eV rfl (bN bJ) (eV rfl (bN bJ) (eV rfl (bN bJ) (eV rfl (bN bJ) (eV rfl (bN bJ) (eV rfl (bN bJ) (ai (fun R=>(ji (bN bJ) rfl rfl)) (bV rfl fun rZ R=>?_)))))));replace B:=B.I R;replace U:=U.I R;replace E:=E.then R;refine aw bI (aE rfl ?_);have tU:p=aj eK s k:=by
   rw [← zi]
   first | exact(k2 (by omega)).symm | exact(lq bj nV).symm
  refine bm (aO (by simp) (aO (by simp) (bS (aw aW (ax fun cU=>?_)))));have Nk:((s.drop k).take (aj eK s k-k)).length≤1000000:=by rw [List.length_take,List.length_drop];omega
  refine bT wide (by kernel_rfl) (f' 2 rfl rfl (ai (fun R=>(av ft rfl)) (ai (fun R=>(bc bs rfl ((B.I R).cell rfl))) (f' 3 rfl rfl (ai (fun R=>(av da rfl)) (ai (fun R=>(bc dE rfl ((B.I R).cell rfl))) (ai (fun R=>((y' Tryz.underlying9 rfl rfl rfl (by simp only [hU,iB];omega)).to (v':=S ((s.drop k).take (aj eK s k-k))) (by simp only [hU,iB,Int.toNat_natCast];rw [tU]))) (ai (fun R=>(cr rfl)) (bV rfl fun xG R=>?_)))))))));replace B:=B.I R;replace U:=U.I R;replace E:=E.then R;refine aw cU (ab fun b7=>aG rfl (fA (bF Lw rfl) (Lc _ ((s.drop k).take (aj eK s k-k)) Nk (e4.oP dA E).err) rfl fun cO yQ aA=>?_));obtain⟨n,als,rfl,I4,R⟩:=aA;replace B:=B.I R;replace U:=U.I R;replace E:=E.then R;refine ak 5 rfl (J b7 (ax fun cS=>eB (ab fun de=>aG rfl (cP (bF Lx rfl) (Gg _ ((s.drop k).take (aj eK s k-k)) Nk) fun Fz R=>?_))));replace B:=B.I R;replace U:=U.I R;replace E:=E.then R;refine ak 2 rfl (J de ?_);refine a7 rfl (fun zv=>?_) (fun zv=>?_)
  ·have tW:(gH ((s.drop k).take (aj eK s k-k))).1=false:=by simpa using zv
   refine bQ ?_;refine fQ (bF gf rfl) (eX _ 4) rfl (fun cQ aA=>aA.elim) (fun lW Bi aA=>?_) fun cO Bi aA=>?_
   ·obtain⟨rfl,rfl⟩:=aA;exact bx (by simp) (aO (by simp) (ed ⟨4,by unfold iM h6;rw [if_pos tW];rfl,by decide,rfl,E⟩))
   exact aA.elim
  have tW:¬ (gH ((s.drop k).take (aj eK s k-k))).1=false:=by simpa using zv
  refine ax fun dG=>?_
  by_cases uC:als = .nilIface
  rotate_left
  ·obtain⟨kA,⟨alu,alv,rfl⟩,_⟩:=I4.resolve_left (fun h=>uC h.2);refine bQ (aG rfl (ag ((Rn kT rfl)) (ak 15 rfl (J dG (aD rfl ?_)))));have nw:h6 ((s.drop k).take (aj eK s k-k)) = .error 7:=by
    unfold h6;rw [if_neg tW]
    first | rw [mY kA] | (rw [kJ s7,if_neg (by rintro⟨h1,aq,aU⟩;first | exact iF h1 | omega)])
   refine bQ ?_;refine fQ (bF gf rfl) (eX _ 7) rfl (fun cQ aA=>aA.elim) (fun lW MG aA=>?_) fun cO MG aA=>?_
   ·obtain⟨rfl,rfl⟩:=aA;exact bx (by simp) (aO (by simp) (ed ⟨7,by unfold iM;rw [nw];rfl,by decide,rfl,E⟩))
   exact aA.elim
  obtain s7:Lib.atoiAll ((s.drop k).take (aj eK s k-k)) = .ok n:=I4.elim (·.1) (fun h=>by obtain⟨_,⟨alu,alv,e⟩,_⟩:=h;rw [uC] at e;cases e);obtain⟨cC,gS⟩:=xl s7;subst uC
  by_cases iF:Lib.itoa n≠((s.drop k).take (aj eK s k-k))
  ·refine bQ (aG rfl (ag ((r9 kT rfl)) (ak 2 rfl (fD (bF mA rfl) (mB _ n cC gS (e4.oP dA E).xP) fun WO R=>?_))));replace B:=B.I R;replace U:=U.I R;replace E:=E.then R;refine ar (ec rfl) (ar (eu rfl rfl) (ak 2 rfl (aaG rfl (bh iF) (aaG rfl (bh iF) (ag (lU (bh iF) rfl rfl) (ak 5 rfl (J dG (aD rfl ?_))))))));have nw:h6 ((s.drop k).take (aj eK s k-k)) = .error 7:=by
    unfold h6;rw [if_neg tW]
    first | rw [mY kA] | (rw [kJ s7,if_neg (by rintro⟨h1,aq,aU⟩;first | exact iF h1 | omega)])
   refine bQ ?_;refine fQ (bF gf rfl) (eX _ 7) rfl (fun cQ aA=>aA.elim) (fun lW IF aA=>?_) fun cO IF aA=>?_
   ·obtain⟨rfl,rfl⟩:=aA;exact bx (by simp) (aO (by simp) (ed ⟨7,by unfold iM;rw [nw];rfl,by decide,rfl,E⟩))
   exact aA.elim
  by_cases nR:n > 9007199254740991
  ·refine bQ (aG rfl (ag ((r9 kT rfl)) (ak 2 rfl (fD (bF mA rfl) (mB _ n cC gS (e4.oP dA E).xP) fun WQ R=>?_))));replace B:=B.I R;replace U:=U.I R;replace E:=E.then R;refine ar (ec rfl) (ar (eu rfl rfl) (ak 2 rfl (Cn rfl (bN iF) (ec rfl) (Cn rfl (bN iF) (gq rfl rfl) (ag (ji (bN iF) rfl rfl) (aG rfl (aaG rfl (bh nR) (aaG rfl (bh nR) (ag (lU (bh nR) rfl rfl) (aT rfl (J dG (aD rfl ?_))))))))))));have nw:h6 ((s.drop k).take (aj eK s k-k)) = .error 7:=by
    unfold h6;rw [if_neg tW]
    first | rw [mY kA] | (rw [kJ s7,if_neg (by rintro⟨h1,aq,aU⟩;first | exact iF h1 | omega)])
   refine bQ ?_;refine fQ (bF gf rfl) (eX _ 7) rfl (fun cQ aA=>aA.elim) (fun lW ME aA=>?_) fun cO ME aA=>?_
   ·obtain⟨rfl,rfl⟩:=aA;exact bx (by simp) (aO (by simp) (ed ⟨7,by unfold iM;rw [nw];rfl,by decide,rfl,E⟩))
   exact aA.elim
  by_cases Iq:n < -9007199254740991
  ·refine bQ (aG rfl (ag ((r9 kT rfl)) (ak 2 rfl (fD (bF mA rfl) (mB _ n cC gS (e4.oP dA E).xP) fun PA R=>?_))));replace B:=B.I R;replace U:=U.I R;replace E:=E.then R;refine ar (ec rfl) (ar (eu rfl rfl) (ak 2 rfl (Cn rfl (bN iF) (ec rfl) (Cn rfl (bN iF) (gq rfl rfl) (ag (ji (bN iF) rfl rfl) (aG rfl (Cn rfl (bN nR) (ec rfl) (Cn rfl (bN nR) (cI rfl rfl) (ag (ji (bN nR) rfl rfl) (aT rfl (J dG ?_)))))))))));refine aI rfl (fun rA=>?_) (fun rA=>absurd Iq rA);have nw:h6 ((s.drop k).take (aj eK s k-k)) = .error 7:=by
    unfold h6;rw [if_neg tW]
    first | rw [mY kA] | (rw [kJ s7,if_neg (by rintro⟨h1,aq,aU⟩;first | exact iF h1 | omega)])
   refine bQ ?_;refine fQ (bF gf rfl) (eX _ 7) rfl (fun cQ aA=>aA.elim) (fun lW MF aA=>?_) fun cO MF aA=>?_
   ·obtain⟨rfl,rfl⟩:=aA;exact bx (by simp) (aO (by simp) (ed ⟨7,by unfold iM;rw [nw];rfl,by decide,rfl,E⟩))
   exact aA.elim
  refine bQ (aG rfl (ag ((r9 kT rfl)) (ak 2 rfl (fD (bF mA rfl) (mB _ n cC gS (e4.oP dA E).xP) fun PB R=>?_))));replace B:=B.I R;replace U:=U.I R;replace E:=E.then R;refine ar (ec rfl) (ar (eu rfl rfl) (ak 2 rfl (Cn rfl (bN iF) (ec rfl) (Cn rfl (bN iF) (gq rfl rfl) (ag (ji (bN iF) rfl rfl) (aG rfl (Cn rfl (bN nR) (ec rfl) (Cn rfl (bN nR) (cI rfl rfl) (ag (ji (bN nR) rfl rfl) (aT rfl (J dG (aI rfl (fun rA=>absurd rA Iq) (fun rA=>?_)))))))))))));have nw:h6 ((s.drop k).take (aj eK s k-k)) = .ok n:=by
   unfold h6;rw [if_neg tW,kJ s7,if_pos ⟨Classical.not_not.1 iF,by omega,by omega⟩]
  refine ca (bx (by simp) (aw cS (ab fun eC=>aG rfl (cP (bF DS rfl) (ya _ n) fun PD R=>?_))));replace B:=B.I R;replace U:=U.I R;replace E:=E.then R;refine bo (vs:=[_,_,_,_,_,_]) aK U rfl rfl rfl (by simp [Value.oneCell']) (by simp) fun FF acG=>?_;replace B:=B.ne acG.mod (Ne.symm b1);replace E:=E.own acG.mod I3;replace U:aF FF g1 _ [_,_,_,_,_,_]:=acG.az;exact J eC (aZ (I5 (vs:=[_,_,_,_,_,_]) rfl aK rfl rfl (U.cs rfl) ⟨(JV.hp n,aj eK s k),by unfold iM;rw [nw];rfl,⟨_,rfl,fun A w=>JV.od,by rw [← tU];exact B⟩,E⟩))
 obtain⟨c,bj⟩:∃ c,s[p]? = some c:=⟨_,List.getElem?_eq_getElem (by omega)⟩;rcases nV:eK c with _ | _
 rotate_left
 ·refine bT wide (by kernel_rfl) (f' 2 rfl rfl (ai (fun R=>(av da rfl)) (ai (fun R=>(bc dE rfl ((B.I R).cell rfl))) (f' 2 rfl rfl (ai (fun R=>(av ft rfl)) (ai (fun R=>(bc bs rfl ((B.I R).cell rfl))) (ai (fun R=>(bw Tryz.underlying9 rfl)) (f' 2 rfl rfl (aM (bh bJ) (fun R=>(ec rfl)) (aM (bh bJ) (fun R=>(ee rfl)) (aM (bh bJ) (fun R=>(av ft rfl)) (aM (bh bJ) (fun R=>(bc bs rfl ((B.I R).cell rfl))) (aM (bh bJ) (fun R=>(ec rfl)) ?_)))))))))))));refine aM (bh bJ) (fun R=>(ee rfl)) (aM (bh bJ) (fun R=>(av da rfl)) (aM (bh bJ) (fun R=>(bc dE rfl ((B.I R).cell rfl))) (aM (bh bJ) (fun R=>(b' Tryz.underlying9 rfl rfl (by omega) (by rw [Int.toNat_natCast];exact bj))) (Fc rfl (bh bJ) (fun cQ R=>bF sL rfl) (fun cQ R=>B4 _ [43,45,46,48,49,50,51,52,53,54,55,56,57,69,101] c) rfl rfl (aM (bh bJ) (fun R=>(dr rfl rfl)) (ai (fun R=>(lU (bh bJ) rfl rfl)) (bV rfl fun tD R=>?_)))))));replace B:=B.I R;replace U:=U.I R;replace E:=E.then R;refine aw bI ?_;refine a7 rfl (fun sZ=>?_) (fun sZ=>absurd (((Lr c).trans nV).symm.trans sZ) (by decide))
  skip
  refine ca (aw br (eB (bQ (ak 2 rfl (ag (av da rfl) (ag (bc dE rfl (B.cell rfl)) (ag (cW (r:=((p+1:Nat):Int)) rfl rfl (by rw [wrap64_in _ (by omega)];omega)) (ag (ee rfl) (ag (av da rfl) (ea dE B rfl rfl rfl (by simp) fun tE s8=>?_))))))))));replace U:=U.ne s8.mod b1;replace E:=E.trans s8.mod;replace B:aF tE g _ [_,_,_]:=s8.az;exact cF (bx (by simp) (fJ (σ:=Nat) (s:=p) (p+1) ⟨rfl,rfl,rfl,trivial⟩ ⟨⟨by omega,by omega,by rw [wc bj nV];exact zi⟩,U,B,E⟩ (by omega)))
 refine bT wide (by kernel_rfl) (f' 2 rfl rfl (ai (fun R=>(av da rfl)) (ai (fun R=>(bc dE rfl ((B.I R).cell rfl))) (f' 2 rfl rfl (ai (fun R=>(av ft rfl)) (ai (fun R=>(bc bs rfl ((B.I R).cell rfl))) (ai (fun R=>(bw Tryz.underlying9 rfl)) (f' 2 rfl rfl (aM (bh bJ) (fun R=>(ec rfl)) (aM (bh bJ) (fun R=>(ee rfl)) (aM (bh bJ) (fun R=>(av ft rfl)) (aM (bh bJ) (fun R=>(bc bs rfl ((B.I R).cell rfl))) (aM (bh bJ) (fun R=>(ec rfl)) ?_)))))))))))));refine aM (bh bJ) (fun R=>(ee rfl)) (aM (bh bJ) (fun R=>(av da rfl)) (aM (bh bJ) (fun R=>(bc dE rfl ((B.I R).cell rfl))) (aM (bh bJ) (fun R=>(b' Tryz.underlying9 rfl rfl (by omega) (by rw [Int.toNat_natCast];exact bj))) (Fc rfl (bh bJ) (fun cQ R=>bF sL rfl) (fun cQ R=>B4 _ [43,45,46,48,49,50,51,52,53,54,55,56,57,69,101] c) rfl rfl (aM (bh bJ) (fun R=>(dr rfl rfl)) (ai (fun R=>(lU (bh bJ) rfl rfl)) (bV rfl fun fV R=>?_)))))));replace B:=B.I R;replace U:=U.I R;replace E:=E.then R;refine aw bI (a7 rfl (fun sZ=>absurd (((Lr c).trans nV).symm.trans sZ) (by decide)) (fun sZ=>?_));have tU:p=aj eK s k:=by
  rw [← zi]
  first | exact(k2 (by omega)).symm | exact(lq bj nV).symm
 refine bm (aO (by simp) (aO (by simp) (bS (aw aW (ax fun bW=>?_)))));have Nk:((s.drop k).take (aj eK s k-k)).length≤1000000:=by rw [List.length_take,List.length_drop];omega
 refine bT wide (by kernel_rfl) (f' 2 rfl rfl (ai (fun R=>(av ft rfl)) (ai (fun R=>(bc bs rfl ((B.I R).cell rfl))) (f' 3 rfl rfl (ai (fun R=>(av da rfl)) (ai (fun R=>(bc dE rfl ((B.I R).cell rfl))) (ai (fun R=>((y' Tryz.underlying9 rfl rfl rfl (by simp only [hU,iB];omega)).to (v':=S ((s.drop k).take (aj eK s k-k))) (by simp only [hU,iB,Int.toNat_natCast];rw [tU]))) (ai (fun R=>(cr rfl)) (bV rfl fun ic R=>?_)))))))));replace B:=B.I R;replace U:=U.I R;replace E:=E.then R;refine aw bW (ab fun cb=>aG rfl (fA (bF Lw rfl) (Lc _ ((s.drop k).take (aj eK s k-k)) Nk (e4.oP dA E).err) rfl fun cO jn aA=>?_));obtain⟨n,als,rfl,I4,R⟩:=aA;replace B:=B.I R;replace U:=U.I R;replace E:=E.then R;refine ak 5 rfl (J cb (ax fun cx=>eB (ab fun cH=>aG rfl (cP (bF Lx rfl) (Gg _ ((s.drop k).take (aj eK s k-k)) Nk) fun jC R=>?_))));replace B:=B.I R;replace U:=U.I R;replace E:=E.then R;refine ak 2 rfl (J cH ?_);refine a7 rfl (fun zv=>?_) (fun zv=>?_)
 ·have tW:(gH ((s.drop k).take (aj eK s k-k))).1=false:=by simpa using zv
  refine bQ ?_;refine fQ (bF gf rfl) (eX _ 4) rfl (fun cQ aA=>aA.elim) (fun lW iw aA=>?_) fun cO iw aA=>?_
  ·obtain⟨rfl,rfl⟩:=aA;exact bx (by simp) (aO (by simp) (ed ⟨4,by unfold iM h6;rw [if_pos tW];rfl,by decide,rfl,E⟩))
  exact aA.elim
 have tW:¬ (gH ((s.drop k).take (aj eK s k-k))).1=false:=by simpa using zv
 refine ax fun b5=>?_
 by_cases uC:als = .nilIface
 rotate_left
 ·obtain⟨kA,⟨alu,alv,rfl⟩,_⟩:=I4.resolve_left (fun h=>uC h.2);refine bQ (aG rfl (ag ((Rn kT rfl)) (ak 15 rfl (J b5 (aD rfl ?_)))));have nw:h6 ((s.drop k).take (aj eK s k-k)) = .error 7:=by
   unfold h6;rw [if_neg tW]
   first | rw [mY kA] | (rw [kJ s7,if_neg (by rintro⟨h1,aq,aU⟩;first | exact iF h1 | omega)])
  refine bQ ?_;refine fQ (bF gf rfl) (eX _ 7) rfl (fun cQ aA=>aA.elim) (fun lW uE aA=>?_) fun cO uE aA=>?_
  ·obtain⟨rfl,rfl⟩:=aA;exact bx (by simp) (aO (by simp) (ed ⟨7,by unfold iM;rw [nw];rfl,by decide,rfl,E⟩))
  exact aA.elim
 obtain s7:Lib.atoiAll ((s.drop k).take (aj eK s k-k)) = .ok n:=I4.elim (·.1) (fun h=>by obtain⟨_,⟨alu,alv,e⟩,_⟩:=h;rw [uC] at e;cases e);obtain⟨cC,gS⟩:=xl s7;subst uC
 by_cases iF:Lib.itoa n≠((s.drop k).take (aj eK s k-k))
 ·refine bQ (aG rfl (ag ((r9 kT rfl)) (ak 2 rfl (fD (bF mA rfl) (mB _ n cC gS (e4.oP dA E).xP) fun n' R=>?_))));replace B:=B.I R;replace U:=U.I R;replace E:=E.then R;refine ar (ec rfl) (ar (eu rfl rfl) (ak 2 rfl (aaG rfl (bh iF) (aaG rfl (bh iF) (ag (lU (bh iF) rfl rfl) (ak 5 rfl (J b5 (aD rfl ?_))))))));have nw:h6 ((s.drop k).take (aj eK s k-k)) = .error 7:=by
   unfold h6;rw [if_neg tW]
   first | rw [mY kA] | (rw [kJ s7,if_neg (by rintro⟨h1,aq,aU⟩;first | exact iF h1 | omega)])
  refine bQ ?_;refine fQ (bF gf rfl) (eX _ 7) rfl (fun cQ aA=>aA.elim) (fun lW lY aA=>?_) fun cO lY aA=>?_
  ·obtain⟨rfl,rfl⟩:=aA;exact bx (by simp) (aO (by simp) (ed ⟨7,by unfold iM;rw [nw];rfl,by decide,rfl,E⟩))
  exact aA.elim
 by_cases nR:n > 9007199254740991
 ·refine bQ (aG rfl (ag ((r9 kT rfl)) (ak 2 rfl (fD (bF mA rfl) (mB _ n cC gS (e4.oP dA E).xP) fun iy R=>?_))));replace B:=B.I R;replace U:=U.I R;replace E:=E.then R;refine ar (ec rfl) (ar (eu rfl rfl) (ak 2 rfl (Cn rfl (bN iF) (ec rfl) (Cn rfl (bN iF) (gq rfl rfl) (ag (ji (bN iF) rfl rfl) (aG rfl (aaG rfl (bh nR) (aaG rfl (bh nR) (ag (lU (bh nR) rfl rfl) (aT rfl (J b5 (aD rfl ?_))))))))))));have nw:h6 ((s.drop k).take (aj eK s k-k)) = .error 7:=by
   unfold h6;rw [if_neg tW]
   first | rw [mY kA] | (rw [kJ s7,if_neg (by rintro⟨h1,aq,aU⟩;first | exact iF h1 | omega)])
  refine bQ ?_;refine fQ (bF gf rfl) (eX _ 7) rfl (fun cQ aA=>aA.elim) (fun lW kr aA=>?_) fun cO kr aA=>?_
  ·obtain⟨rfl,rfl⟩:=aA;exact bx (by simp) (aO (by simp) (ed ⟨7,by unfold iM;rw [nw];rfl,by decide,rfl,E⟩))
  exact aA.elim
 by_cases Iq:n < -9007199254740991
 ·refine bQ (aG rfl (ag ((r9 kT rfl)) (ak 2 rfl (fD (bF mA rfl) (mB _ n cC gS (e4.oP dA E).xP) fun qa R=>?_))));replace B:=B.I R;replace U:=U.I R;replace E:=E.then R;refine ar (ec rfl) (ar (eu rfl rfl) (ak 2 rfl (Cn rfl (bN iF) (ec rfl) (Cn rfl (bN iF) (gq rfl rfl) (ag (ji (bN iF) rfl rfl) (aG rfl (Cn rfl (bN nR) (ec rfl) (Cn rfl (bN nR) (cI rfl rfl) (ag (ji (bN nR) rfl rfl) (aT rfl (J b5 ?_)))))))))));refine aI rfl (fun rA=>?_) (fun rA=>absurd Iq rA);have nw:h6 ((s.drop k).take (aj eK s k-k)) = .error 7:=by
   unfold h6;rw [if_neg tW]
   first | rw [mY kA] | (rw [kJ s7,if_neg (by rintro⟨h1,aq,aU⟩;first | exact iF h1 | omega)])
  refine bQ ?_;refine fQ (bF gf rfl) (eX _ 7) rfl (fun cQ aA=>aA.elim) (fun lW oC aA=>?_) fun cO oC aA=>?_
  ·obtain⟨rfl,rfl⟩:=aA;exact bx (by simp) (aO (by simp) (ed ⟨7,by unfold iM;rw [nw];rfl,by decide,rfl,E⟩))
  exact aA.elim
 refine bQ (aG rfl (ag ((r9 kT rfl)) (ak 2 rfl (fD (bF mA rfl) (mB _ n cC gS (e4.oP dA E).xP) fun qJ R=>?_))));replace B:=B.I R;replace U:=U.I R;replace E:=E.then R;refine ar (ec rfl) (ar (eu rfl rfl) (ak 2 rfl (Cn rfl (bN iF) (ec rfl) (Cn rfl (bN iF) (gq rfl rfl) (ag (ji (bN iF) rfl rfl) (aG rfl (Cn rfl (bN nR) (ec rfl) (Cn rfl (bN nR) (cI rfl rfl) (ag (ji (bN nR) rfl rfl) (aT rfl (J b5 (aI rfl (fun rA=>absurd rA Iq) (fun rA=>?_)))))))))))));have nw:h6 ((s.drop k).take (aj eK s k-k)) = .ok n:=by
  unfold h6;rw [if_neg tW,kJ s7,if_pos ⟨Classical.not_not.1 iF,by omega,by omega⟩]
 refine ca (bx (by simp) (aw cx (ab fun bX=>aG rfl (cP (bF DS rfl) (ya _ n) fun qd R=>?_))));replace B:=B.I R;replace U:=U.I R;replace E:=E.then R;refine bo (vs:=[_,_,_,_,_,_]) aK U rfl rfl rfl (by simp [Value.oneCell']) (by simp) fun rz xQ=>?_;replace B:=B.ne xQ.mod (Ne.symm b1);replace E:=E.own xQ.mod I3;replace U:aF rz g1 _ [_,_,_,_,_,_]:=xQ.az;exact J bX (aZ (I5 (vs:=[_,_,_,_,_,_]) rfl aK rfl rfl (U.cs rfl) ⟨(JV.hp n,aj eK s k),by unfold iM;rw [nw];rfl,⟨_,rfl,fun A w=>JV.od,by rw [← tU];exact B⟩,E⟩))
theorem qp (w:World) (x:Bool):Calls Tryz.prog 30 [.bool x].toArray w (bL fun u w'=>u = .agg #[.int .i64 1,.bool x,.int .i64 0,S [],.slice none 0 0,.slice none 0 0]∧Mod [] w w'):=by
 refine enter Tryz.func30 rfl rfl rfl (l:=[(0,_)]) ⟨rfl,trivial⟩ ?_;have E:=Mod.refl [] w;refine ab fun aV=>bt cB rfl fun g1 aB bR=>?_;have bH:=bR.le E;replace E:=E.then bR.mod;have U:=bR.az;refine J aV (ab fun aL=>aG rfl (ag (a' (cs:=[_,_,_,_,_,_]) gW cB rfl rfl) (bo (vs:=[_,_,_,_,_,_]) aK U rfl rfl rfl (by simp [Value.oneCell']) (by simp) fun cN DT=>?_)));replace E:=E.own DT.mod bH;replace U:aF cN g1 _ [_,_,_,_,_,_]:=DT.az;exact J aL (aZ (kj (vs:=[_,_,_,_,_,_]) rfl aK rfl rfl (U.cs rfl) ⟨rfl,E⟩))
def W3:List aa:=[JV.jV,JV.iT,JV.gF]
def V3:List JV:=[JV.gQ,.mk 1 true 0 [] [] [],.mk 1 false 0 [] [] []]
/-- the word that stands at a place -/
def ht (s:aa) (k:Nat):Option (JV×Nat):=
 if aC s k JV.jV then some (JV.gQ,k+4)else if aC s k JV.iT then some (.mk 1 true 0 [] [] [],k+4)else if aC s k JV.gF then some (.mk 1 false 0 [] [] [],k+5)else none
theorem JV.zw {A:List Nat} {w:World} {b:Bool}:ao A w (JV.mk 1 b 0 [] [] []).D [.int .i64 1,.bool b,.int .i64 0,S [],.slice none 0 0,.slice none 0 0]:=
 JV.cv (A:=A) (w:=w) (v:=.mk 1 b 0 [] [] []) (al:=none) (am:=none) (cl:=0) (cm:=0) ba.en ba.en
theorem Gh (s x:aa) (k:Nat):decide (x.length≤(s.drop k).length∧(s.drop k).take x.length=x)=aC s k x:=oM x (s.drop k)
theorem Xu (w:World) (g:Nat) (s:aa) (k:Nat) (sk:Value) (B:aF w g 75 [S s,.int .i64 (k:Int),sk]) (bf:s.length≤65536) (hk:k≤s.length):Calls Tryz.prog 146 [.pointer (some ⟨g,0,none⟩)].toArray w (bL fun u w'=>∃ us,u = .tuple #[.agg us.toArray,.bool (ht s k).isSome]∧((ht s k).isSome=true→∃ v q,ht s k=some (v,q)∧(∀ (A:List Nat) (w:World),ao A w v.D us)∧aF w' g 75 [S s,.int .i64 (q:Int),sk])∧((ht s k).isSome=false→ht s k=none∧us = [.int .i64 0,.bool false,.int .i64 0,S [],.slice none 0 0,.slice none 0 0]∧aF w' g 75 [S s,.int .i64 (k:Int),sk])∧Mod [g] w w'):=by
 refine enter Tryz.func146 rfl rfl rfl (l:=[(0,_)]) ⟨rfl,trivial⟩ ?_;have E:=Mod.refl [g] w;refine ab fun aV=>bt cB rfl fun g1 aB bR=>?_;have bH:=bR.le E;have k7:=bR.ne B;replace B:=B.I bR.mod;replace E:=E.then bR.mod;have U:=bR.az;refine aT rfl (J aV (ax fun aL=>ax fun aW=>?_));have b1:g1≠g:=Ne.symm k7;have I3:=bH;refine bQ (bD (cs:=[_,_,_]) jz I6 rfl rfl rfl (by decide) rfl fun g2 cN cK=>?_);have b4:=cK.le E;have tX:=cK.ne B;have bP:=cK.ne U;replace B:=B.I cK.mod;replace U:=U.I cK.mod;replace E:=E.then cK.mod;have ah:=cK.az;have Ro:g2≠g:=Ne.symm tX;have Ly:g1≠g2:=bP;have u0:=b4;refine ag (bl Tryz.underlying26 rfl) (aG rfl (J aW (eB (bU (σ:=Nat) (fun i=>[(0,.pointer (some ⟨g,0,none⟩)),(2,.pointer (some ⟨g1,0,none⟩)),(6,.slice (some ⟨g2,0,none⟩) 3 3),(7,.int .i64 3),(8,.int .i64 (i:Int))]) (fun i aB=>(i≤3∧∀ (j:Nat) (y:aa),j<i→W3[j]? = some y→aC s k y=false)∧aF aB g1 25 [.int .i64 0,.bool false,.int .i64 0,S [],.slice none 0 0,.slice none 0 0]∧aF aB g2 9 [S JV.jV,S JV.iT,S JV.gF]∧aF aB g 75 [S s,.int .i64 (k:Int),sk]∧Mod [g] w aB) (fun i=>3-i) (0) ⟨rfl,rfl,rfl,rfl,rfl,trivial⟩ (⟨⟨by omega,fun j y h=>by omega⟩,U,ah,B,E⟩) ?_))));rintro i fV ⟨⟨hi,I7⟩,U,ah,B,E⟩;refine ab fun br=>ag (cI rfl rfl) (J br (ax fun bI=>?_));refine aI rfl (fun k0=>?_) (fun k0=>?_);rotate_left
 ·obtain rfl:i=3:=by omega
  have acJ:ht s k=none:=by unfold ht;rw [if_neg (by rw [I7 0 _ (by omega) rfl];simp),if_neg (by rw [I7 1 _ (by omega) rfl];simp),if_neg (by rw [I7 2 _ (by omega) rfl];simp)]
  refine bm (aO (by simp) (aO (by simp) (bS (aw aL (ab fun b7=>ag (a' (cs:=[_,_,_,_,_,_]) gW cB rfl rfl) (bo (vs:=[_,_,_,_,_,_]) aK U rfl rfl rfl (by simp [Value.oneCell']) (by simp) fun rZ qT=>?_))))));replace B:=B.ne qT.mod (Ne.symm b1);replace ah:=ah.ne qT.mod (Ne.symm Ly);replace E:=E.own qT.mod I3;replace U:aF rZ g1 _ [_,_,_,_,_,_]:=qT.az;exact aT rfl (J b7 (aZ (js (vs:=[_,_,_,_,_,_]) rfl aK rfl rfl (U.cs rfl) rfl ⟨_,by rw [acJ];rfl,⟨fun h=>(by rw [acJ] at h;cases h),fun _=>⟨acJ,rfl,B⟩,E⟩⟩)))
 obtain⟨x,ae⟩:∃ x,W3[i]? = some x:=⟨_,List.getElem?_eq_getElem (show i<3 by omega)⟩;refine ca (aw bI (ax fun bW=>eB (ab fun cb=>aG rfl (ag (b6 jz rfl rfl (by omega)) ?_))));refine ag (bc bs rfl (by rw [Int.toNat_natCast,Addr.add_lit,Nat.zero_add,Nat.mul_one];exact ah.cell (v:=S x) (by rw [show([S JV.jV,S JV.iT,S JV.gF]:List Value)=W3.map S from rfl,List.getElem?_map,ae];rfl))) ?_;refine ak 2 rfl (J cb (ax fun cx=>bT wide (by kernel_rfl) (f' 2 rfl rfl (ai (fun R=>(av ft rfl)) (ai (fun R=>(bc bs rfl ((B.I R).cell rfl))) (f' 2 rfl rfl (ai (fun R=>(av da rfl)) (ai (fun R=>(bc dE rfl ((B.I R).cell rfl))) (ai (fun R=>(cG Tryz.underlying9 rfl rfl hk)) (ai (fun R=>(ec rfl)) (BQ (fun cQ R=>bF uX rfl) (fun cQ R=>uY _ (s.drop k) x) rfl rfl (bV rfl fun ic R=>?_))))))))))));replace B:=B.I R;replace U:=U.I R;replace ah:=ah.I R;replace E:=E.then R;refine aw cx ?_;refine a7 rfl (fun Bj=>?_) (fun Bj=>?_);rotate_left
 ·rw [Gh] at Bj;have iq:aC s k x=false:=Bj;refine ca (bx (by simp) (aw bW (bQ (ag (aN rfl rfl (by omega)) (aG rfl (cF ?_))))));exact fJ (σ:=Nat) (s:=i) (i+1) ⟨rfl,rfl,rfl,rfl,rfl,trivial⟩ ⟨⟨by omega,fun j y h aY=>by
   by_cases d':j<i
   ·exact I7 j y d' aY
   obtain rfl:j=i:=by omega
   rw [ae] at aY;injection aY with aY
   subst aY;exact iq⟩,U,ah,B,E⟩ (by omega)
 rw [Gh] at Bj;have iq:aC s k x=true:=Bj;have oF:=c6 iq (by intro e;subst e;have:=(List.mem_of_getElem? ae);simp [W3,JV.jV,JV.iT,JV.gF] at this);refine ax fun cH=>?_
 by_cases iF:i=0
 ·subst iF;obtain rfl:x=JV.jV:=by simpa [W3] using ae.symm
  refine bQ (ak 2 rfl (ag (av da rfl) (ag (bc dE rfl (B.cell rfl)) (aG rfl (ag (bw Tryz.underlying9 rfl) (ag (cW (r:=((k+4:Nat):Int)) rfl rfl (by rw [wrap64_in _ (by omega)];first | rfl | (simp;done) | omega)) (ag (ee rfl) (ag (av da rfl) (ea dE B rfl rfl rfl (by simp) fun jn hx=>?_)))))))));replace U:=U.ne hx.mod b1;replace ah:=ah.ne hx.mod Ro;replace E:=E.trans hx.mod;replace B:aF jn g _ [_,_,_]:=hx.az;refine J cH (ab fun b5=>ag (a' (cs:=[_,_,_,_,_,_]) gW cB rfl rfl) (cP (bF wv rfl) (qp _ true) fun jC R=>?_));replace B:=B.I R;replace U:=U.I R;replace ah:=ah.I R;replace E:=E.then R;refine cP (bF wv rfl) (qp _ false) fun iw R=>?_;replace B:=B.I R;replace U:=U.I R;replace ah:=ah.I R;replace E:=E.then R;refine bD (cs:=[_,_,_,_,_,_,_,_,_,_,_,_,_,_,_,_,_,_]) kk cB rfl rfl rfl (by decide) rfl fun g3 n' eQ=>?_;have dJ:=eQ.le E;have acH:=eQ.ne B;have eM:=eQ.ne U;have cJ:=eQ.ne ah;replace B:=B.I eQ.mod;replace U:=U.I eQ.mod;replace ah:=ah.I eQ.mod;replace E:=E.then eQ.mod;have bz:=eQ.az;refine aG rfl (ag (b6 kk rfl rfl (by omega)) (ag ((a8 (vs:=[_,_,_,_,_,_]) aK rfl rfl (bz.cs (o:=0) rfl))) (bo (vs:=[_,_,_,_,_,_]) aK U rfl rfl rfl (by simp [Value.oneCell']) (by simp) fun lY ox=>?_)));replace B:=B.ne ox.mod (Ne.symm b1);replace ah:=ah.ne ox.mod (Ne.symm Ly);replace bz:=bz.ne ox.mod (Ne.symm eM);replace E:=E.own ox.mod I3;replace U:aF lY g1 _ [_,_,_,_,_,_]:=ox.az;refine aT rfl (J b5 (aZ (bx (by simp) (aO (by simp) (aO (by simp) (bx (by simp) (aO (by simp) ?_)))))));have zx:ht s k=some (JV.gQ,k+4):=by unfold ht;rw [if_pos iq]
  exact js (vs:=[_,_,_,_,_,_]) rfl aK rfl rfl (U.cs rfl) rfl ⟨_,by rw [zx];rfl,⟨fun _=>⟨_,_,zx,fun A w=>JV.gR,B⟩,fun h=>(by rw [zx] at h;cases h),E⟩⟩
 by_cases nR:i=1
 rotate_left
 ·obtain rfl:i=2:=by omega
  obtain rfl:x=JV.gF:=by simpa [W3] using ae.symm
  refine bQ (ak 2 rfl (ag (av da rfl) (ag (bc dE rfl (B.cell rfl)) (aG rfl (ag (bw Tryz.underlying9 rfl) (ag (cW (r:=((k+5:Nat):Int)) rfl rfl (by rw [wrap64_in _ (by omega)];first | rfl | (simp;done) | omega)) (ag (ee rfl) (ag (av da rfl) (ea dE B rfl rfl rfl (by simp) fun qd wy=>?_)))))))));replace U:=U.ne wy.mod b1;replace ah:=ah.ne wy.mod Ro;replace E:=E.trans wy.mod;replace B:aF qd g _ [_,_,_]:=wy.az;refine J cH (ab fun cU=>ag (a' (cs:=[_,_,_,_,_,_]) gW cB rfl rfl) (cP (bF wv rfl) (qp _ true) fun rz R=>?_));replace B:=B.I R;replace U:=U.I R;replace ah:=ah.I R;replace E:=E.then R;refine cP (bF wv rfl) (qp _ false) fun uE R=>?_;replace B:=B.I R;replace U:=U.I R;replace ah:=ah.I R;replace E:=E.then R;refine bD (cs:=[_,_,_,_,_,_,_,_,_,_,_,_,_,_,_,_,_,_]) kk cB rfl rfl rfl (by decide) rfl fun g5 tD fC=>?_;have oB:=fC.le E;have alw:=fC.ne B;have nO:=fC.ne U;have pr:=fC.ne ah;replace B:=B.I fC.mod;replace U:=U.I fC.mod;replace ah:=ah.I fC.mod;replace E:=E.then fC.mod;have dL:=fC.az;refine aG rfl (ag (b6 kk rfl rfl (by omega)) (ag ((a8 (vs:=[_,_,_,_,_,_]) aK rfl rfl (dL.cs (o:=12) rfl))) (bo (vs:=[_,_,_,_,_,_]) aK U rfl rfl rfl (by simp [Value.oneCell']) (by simp) fun tE s8=>?_)));replace B:=B.ne s8.mod (Ne.symm b1);replace ah:=ah.ne s8.mod (Ne.symm Ly);replace dL:=dL.ne s8.mod (Ne.symm nO);replace E:=E.own s8.mod I3;replace U:aF tE g1 _ [_,_,_,_,_,_]:=s8.az;refine aT rfl (J cU (aZ (bx (by simp) (aO (by simp) (aO (by simp) (bx (by simp) (aO (by simp) ?_)))))));have zx:ht s k=some (JV.mk 1 false 0 [] [] [],k+5):=by unfold ht;rw [if_neg (by rw [I7 0 _ (by omega) rfl];simp),if_neg (by rw [I7 1 _ (by omega) rfl];simp),if_pos iq]
  exact js (vs:=[_,_,_,_,_,_]) rfl aK rfl rfl (U.cs rfl) rfl ⟨_,by rw [zx];rfl,⟨fun _=>⟨_,_,zx,fun A w=>JV.zw,B⟩,fun h=>(by rw [zx] at h;cases h),E⟩⟩
 subst nR;obtain rfl:x=JV.iT:=by simpa [W3] using ae.symm
 refine bQ (ak 2 rfl (ag (av da rfl) (ag (bc dE rfl (B.cell rfl)) (aG rfl (ag (bw Tryz.underlying9 rfl) (ag (cW (r:=((k+4:Nat):Int)) rfl rfl (by rw [wrap64_in _ (by omega)];first | rfl | (simp;done) | omega)) (ag (ee rfl) (ag (av da rfl) (ea dE B rfl rfl rfl (by simp) fun iy jK=>?_)))))))));replace U:=U.ne jK.mod b1;replace ah:=ah.ne jK.mod Ro;replace E:=E.trans jK.mod;replace B:aF iy g _ [_,_,_]:=jK.az;refine J cH (ab fun bX=>ag (a' (cs:=[_,_,_,_,_,_]) gW cB rfl rfl) (cP (bF wv rfl) (qp _ true) fun kr R=>?_));replace B:=B.I R;replace U:=U.I R;replace ah:=ah.I R;replace E:=E.then R;refine cP (bF wv rfl) (qp _ false) fun qa R=>?_;replace B:=B.I R;replace U:=U.I R;replace ah:=ah.I R;replace E:=E.then R;refine bD (cs:=[_,_,_,_,_,_,_,_,_,_,_,_,_,_,_,_,_,_]) kk cB rfl rfl rfl (by decide) rfl fun g4 oC N4=>?_;have fO:=N4.le E;have acI:=N4.ne B;have gE:=N4.ne U;have e2:=N4.ne ah;replace B:=B.I N4.mod;replace U:=U.I N4.mod;replace ah:=ah.I N4.mod;replace E:=E.then N4.mod;have bg:=N4.az;refine aG rfl (ag (b6 kk rfl rfl (by omega)) (ag ((a8 (vs:=[_,_,_,_,_,_]) aK rfl rfl (bg.cs (o:=6) rfl))) (bo (vs:=[_,_,_,_,_,_]) aK U rfl rfl rfl (by simp [Value.oneCell']) (by simp) fun qJ wx=>?_)));replace B:=B.ne wx.mod (Ne.symm b1);replace ah:=ah.ne wx.mod (Ne.symm Ly);replace bg:=bg.ne wx.mod (Ne.symm gE);replace E:=E.own wx.mod I3;replace U:aF qJ g1 _ [_,_,_,_,_,_]:=wx.az;refine aT rfl (J bX (aZ (bx (by simp) (aO (by simp) (aO (by simp) (bx (by simp) (aO (by simp) ?_)))))));have zx:ht s k=some (JV.mk 1 true 0 [] [] [],k+4):=by unfold ht;rw [if_neg (by rw [I7 0 _ (by omega) rfl];simp),if_pos iq]
 exact js (vs:=[_,_,_,_,_,_]) rfl aK rfl rfl (U.cs rfl) rfl ⟨_,by rw [zx];rfl,⟨fun _=>⟨_,_,zx,fun A w=>JV.zw,B⟩,fun h=>(by rw [zx] at h;cases h),E⟩⟩
end Go.Proofs.YtnihidkbkhcfoaaGreatDoor.V
namespace Go.Proofs.YtnihidkbkhcfoaaGreatDoor.V
open Go Go.Proofs Go.Sort
abbrev dR:={x:(aa×JV)×List Value // x.2.length=6∧∀ v∈x.2,v.oneCell'=true}
instance:Inhabited dR:=⟨⟨(([],JV.gQ),[.int .i64 0,.int .i64 0,.int .i64 0,.int .i64 0,.int .i64 0,.int .i64 0]),rfl,by decide⟩⟩
def dR.key (x:dR):aa:=x.1.1.1
def dR.enc (x:dR):List Value:=S x.key::x.1.2
theorem dR.y7 (x:dR):x.enc.length=7:=by simp [dR.enc,x.2.1]
theorem dR.Qo (x:dR):∀ v∈x.enc,v.oneCell'=true:=fun v bK=>by
 rcases List.mem_cons.1 bK with rfl | bK
 ·rfl
 exact x.2.2 v bK
def MQ (x y:dR):Int:=Lib.compareBytes x.key y.key
theorem yh (x y:dR):ltOf MQ x y=eR x.key y.key:=by
 unfold ltOf MQ;rw [vU,Bool.eq_iff_iff,decide_eq_true_eq,rS]
theorem JK {a b c:aa} (h:eR a b=false) (k:eR b c=false):eR a c=false:=by
 cases iq:eR a c with
 | false=>rfl
 | true=>
  rcases ma a b with h1 | h1 | h1
  ·rw [h1] at h;cases h
  ·subst h1;rw [iq] at k;cases k
  rw [gh h1 iq] at k;cases k
theorem Qp:SWO (ltOf MQ):=by
 refine⟨fun x=>?_,fun x y z h k=>?_,fun x y z h k=>?_⟩
 ·rw [yh];exact df _
 ·rw [yh] at h k ⊢;exact gh h k
 rw [yh] at h k ⊢;exact JK h k
theorem CI {α:Type} (enc:α→List Value) {k:Nat} (hk:∀ x,(enc x).length=k) (b3:0<k):∀ (l:List α) (t:Nat),(l.map enc).flatten[t]? = (l[t / k]?).bind fun x=>(enc x)[t % k]?
 | [],t=>by simp
 | x::l,t=>by
  rw [List.map_cons,List.flatten_cons]
  rcases Nat.lt_or_ge t k with h | h
  ·rw [List.getElem?_append_left (by rw [hk];exact h),Nat.div_eq_of_lt h,Nat.mod_eq_of_lt h]
   rfl
  rw [List.getElem?_append_right (by rw [hk];exact h),hk,CI enc hk b3 l (t-k)]
  obtain⟨u,rfl⟩:∃ u,t=u+k:=⟨t-k,by omega⟩
  rw [Nat.add_sub_cancel,Nat.add_mod_right,Nat.add_div_right _ b3]
  rfl
theorem pJ (d:Array dR):(flatK dR.enc 7 d).toList=(d.toList.map dR.enc).flatten:=by
 apply List.ext_getElem?;intro t;rw [CI dR.enc dR.y7 (by decide)];rcases Nat.lt_or_ge t (d.size*7)with h | h
 ·have h1:t / 7<d.size:=by omega
  have aq:t % 7<7:=Nat.mod_lt _ (by decide);have e:=get_flatK dR.enc 7 d t h;rw [getElem!_pos (flatK dR.enc 7 d) t (by rw [size_flatK];exact h),getElem!_pos d _ h1] at e;rw [Array.getElem?_toList,Array.getElem?_toList,Array.getElem?_eq_getElem (by rw [size_flatK];exact h),e,Array.getElem?_eq_getElem h1];have aU:t % 7<(dR.enc d[t / 7]).length:=by rw [dR.y7];exact aq
  show _=(dR.enc d[t / 7])[t % 7]?;rw [List.getElem?_eq_getElem aU,getElem!_pos (dR.enc d[t / 7]) _ aU]
 rw [List.getElem?_eq_none (by simp;omega),List.getElem?_eq_none (by simp;omega)];rfl
theorem xd {w:World} {e n g o c:Nat} {d:Array dR} (O:Own w e 7 (.slice (some ⟨g,o,none⟩) n c) n (d.toList.map dR.enc).flatten):HoldsK dR.enc 7 w g o d∧g<w.heap.size∧d.size=n:=by
 have cg:=O.len;rw [← pJ,Array.length_toList,size_flatK] at cg;rcases O.2 with⟨h,_⟩ | ⟨EX,vd,c',cs,h,eh,h1,aq,aU,bM⟩
 ·cases h
 cases h;refine⟨fun j d'=>⟨?_,eh.frozen _⟩,eh.lt,by omega⟩;rw [← pJ] at bM;apply eh.cell;have u5:(flatK dR.enc 7 d).toList[j]? = some (flatK dR.enc 7 d)[j]!:=by rw [Array.getElem?_toList,Array.getElem?_eq_getElem d',getElem!_pos (flatK dR.enc 7 d) j d']
 rw [size_flatK] at d';rw [← bM,List.getElem?_take,if_pos (by omega),List.getElem?_drop] at u5;exact u5
theorem FT {w:World} {e n g o c m:Nat} {d s4:Array dR} {os:Array Obj} (O:Own w e 7 (.slice (some ⟨g,o,none⟩) n c) n (d.toList.map dR.enc).flatten) (bf:s4.size=d.size) :
  Own (sortWorldK dR.enc 7 w g o m s4 os) e 7 (.slice (some ⟨g,o,none⟩) n c) n (s4.toList.map dR.enc).flatten∧Mod [g] w (sortWorldK dR.enc 7 w g o m s4 os):=by
 have bY:=(xd O).2.2
 have cg:=O.len
 rcases O.2 with⟨h,_⟩ | ⟨EX,vd,c',cs,h,eh,h1,aq,aU,bM⟩
 ·cases h
 cases h
 have bJ:=eh.lt
 have E9:g<(putRowK dR.enc 7 (Sort.ahead w m) g o s4).heap.size:=by rw [size_putRowK];exact bJ
 have iq:(putRowK dR.enc 7 (Sort.ahead w m) g o s4).heap=w.heap.modify g (onCells (putCells id o (flatK dR.enc 7 s4))):=rfl
 have aie:Mod [g] w (sortWorldK dR.enc 7 w g o m s4 os):=by
  refine⟨rfl,rfl,rfl,?_,fun i hi ae=>?_⟩
  ·unfold sortWorldK
   rw [size_grow,size_putRowK]
   exact Nat.le_add_right _ _
  unfold sortWorldK
  rw [heap_grow_old _ _ (by rw [size_putRowK];exact hi),iq,Array.getElem?_modify,if_neg (fun e=>ae (by simp [e]))]
 refine⟨⟨by rw [← pJ];simp [bf,bY],.inr ⟨g,o,c,(putCells id o (flatK dR.enc 7 s4) cs.toArray).toList,rfl,?_,h1,aq,?_,?_⟩⟩,aie⟩
 ·unfold aF sortWorldK
  rw [heap_grow_old _ _ E9,iq,Array.getElem?_modify,if_pos rfl,eh]
  rfl
 ·simp only [putCells,Array.toList_mapIdx,List.length_mapIdx]
  exact aU
 rw [← pJ]
 apply List.ext_getElem?
 intro t
 rw [List.getElem?_take]
 rcases Nat.lt_or_ge t (n*7)with h | h
 ·rw [if_pos h,List.getElem?_drop]
  have cL:o+t<cs.length:=by have:=Nat.mul_le_mul_right 7 h1;omega
  have eW:t<(flatK dR.enc 7 s4).size:=by rw [size_flatK,bf,bY];exact h
  rw [Array.getElem?_toList,Array.getElem?_toList,Array.getElem?_eq_getElem eW]
  simp only [putCells,Array.getElem?_mapIdx,List.getElem?_toArray,List.getElem?_eq_getElem cL,Option.map_some]
  rw [if_pos ⟨by omega,by omega⟩,Nat.add_sub_cancel_left,getElem!_pos (flatK dR.enc 7 s4) t eW]
  rfl
 rw [if_neg (by omega),List.getElem?_eq_none (by simp [bf,bY];omega)]
theorem FR {A:List Nat} {w:World}:∀ (acc:List (aa×JV)) (vs:List Value),ao A w (acc.map JV.hP).flatten vs→∃ rows:List dR,rows.map (·.1.1)=acc∧(rows.map dR.enc).flatten=vs∧∀ r∈rows,ao A w (JV.hP r.1.1) r.enc
 | [],vs,h=>⟨[],rfl,(List.eq_nil_of_length_eq_zero (by simpa using h.length)).symm,by simp⟩
 | p::acc,vs,h=>by
  rw [List.map_cons,List.flatten_cons] at h
  obtain⟨h1,aq⟩:=h.cut
  rw [JV.x4] at h1 aq
  obtain⟨rows,bk,b2,kV⟩:=FR acc _ aq
  obtain⟨u,us,Ig,afz,apq⟩:=h1
  have hu:u=S p.1:=by simp only [ba] at afz;exact afz.1
  subst hu
  refine⟨⟨(p,us),JV.cells_one apq⟩::rows,by rw [List.map_cons,bk],?_,fun r bq=>?_⟩
  ·rw [List.map_cons,List.flatten_cons,b2]
   show(S p.1::us)++_=_
   rw [← Ig,List.take_append_drop]
  rcases List.mem_cons.1 bq with rfl | bq
  ·exact⟨_,us,rfl,afz,apq⟩
  exact kV r bq
theorem y8 {A:List Nat} {w:World}:∀ (rows:List dR),(∀ r∈rows,ao A w (JV.hP r.1.1) r.enc)→ao A w ((rows.map (·.1.1)).map JV.hP).flatten (rows.map dR.enc).flatten
 | [],_=>ao.mO
 | r::rows,h=>by
  simp only [List.map_cons,List.flatten_cons]
  exact(h r (List.mem_cons_self ..)).append (y8 rows fun x ae=>h x (List.mem_cons_of_mem _ ae))
theorem GY (k:aa) (x:JV):∀ acc:List (aa×JV),(acc.map (·.1)).Nodup→(look (ek acc) k=some x↔(k,x)∈acc):=by
 intro acc;rw [← List.reverse_reverse acc];generalize acc.reverse=l
 induction l with
 | nil=>intro _;simp [ek,look]
 | cons p l dK=>
  intro ck;rw [List.reverse_cons,List.map_append,List.nodup_append] at ck;rw [List.reverse_cons,mW,Cg]
  by_cases h:k=p.1
  ·rw [if_pos h];have aq:(k,x)∉l.reverse:=fun ae=>ck.2.2 k (List.mem_map.2 ⟨_,ae,rfl⟩) p.1 (by simp) h;simp only [List.mem_append,aq,false_or,List.mem_singleton,Option.some.injEq];constructor
   ·rintro rfl;rw [h]
   rintro rfl;rfl
  rw [if_neg h,dK ck.1];simp only [List.mem_append,List.mem_singleton];constructor
  ·exact .inl
  rintro(ae | rfl)
  ·exact ae
  exact absurd rfl h
theorem JL (acc:List (aa×JV)):er (ek acc):=by
 rw [← List.reverse_reverse acc];generalize acc.reverse=l
 induction l with
 | nil=>exact List.Pairwise.nil
 | cons p l dK=>rw [List.reverse_cons,mW];exact qk dK
theorem GZ {acc m:List (aa×JV)} (ck:(acc.map (·.1)).Nodup) (cp:m.Perm acc) (ay:er m):m=ek acc:=by
 refine Ct ay (JL acc) fun k=>?_;have h1:∀ x,look m k=some x↔look (ek acc) k=some x:=fun x=>by
  rw [GY k x acc ck,← cp.mem_iff];exact⟨k8,fun h=>oi ay h⟩
 cases aq:look m k with
 | some x=>exact((h1 x).1 aq).symm
 | none=>
  cases aU:look (ek acc) k with
  | none=>rfl
  | some x=>rw [(h1 x).2 aU] at aq;cases aq
theorem DH {acc:List (aa×JV)} {rows:List dR} {s4:Array dR} (ck:(acc.map (·.1)).Nodup) (bq:rows.map (·.1.1)=acc) (cp:PermIn 0 rows.toArray.size rows.toArray s4) (bf:SortedIn (ltOf MQ) 0 rows.toArray.size s4) :
  s4.toList.Perm rows∧s4.toList.map (·.1.1)=ek acc:=by
 obtain⟨h1,_,aU⟩:=cp
 have JM:s4.toList.Perm rows:=by
  have bk:rows.toArray.extract 0 rows.toArray.size=rows.toArray:=Array.extract_size
  have b2:s4.extract 0 rows.toArray.size=s4:=by rw [← h1];exact Array.extract_size
  rw [bk,b2] at aU
  exact aU
 refine⟨JM,GZ ck (bq▸JM.map _) ?_⟩
 have IL:(s4.toList.map dR.key).Nodup:=by
  rw [← bq,List.map_map] at ck
  exact((JM.map dR.key).nodup_iff).2 ck
 unfold er
 rw [List.pairwise_map,List.pairwise_iff_getElem]
 intro i j hi d' xC
 have bM:=bf i j (Nat.zero_le _) xC (by rw [← h1];simpa using d')
 rw [yh,getElem!_pos _ _ (by simpa using d'),getElem!_pos _ _ (by simpa using hi)] at bM
 have cL:=(List.pairwise_iff_getElem.1 IL) i j (by simpa using hi) (by simpa using d') xC
 rw [List.getElem_map,List.getElem_map] at cL
 rcases ma (dR.key s4.toList[i]) (dR.key s4.toList[j])with h | h | h
 ·exact h
 ·exact absurd h cL
 rw [Array.getElem_toList,Array.getElem_toList] at h
 rw [h] at bM;cases bM
end Go.Proofs.YtnihidkbkhcfoaaGreatDoor.V
