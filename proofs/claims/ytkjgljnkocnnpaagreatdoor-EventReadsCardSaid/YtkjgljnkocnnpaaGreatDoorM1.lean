/-
  A part of the proof: parts of own slices; copy into a part; append of zeros; the entry for slices.overlaps; truths held against one another; drawn operations that look at two slots of which something is known. No condition of its own.
-/
import Derived.Test.YtkjgljnkocnnpaaGreatDoorM0
import Derived.StillTail
import Derived.Laws.StructEq
import Derived.Lib.Overlaps
set_option linter.all false
namespace Go.Proofs.YtkjgljnkocnnpaaGreatDoor.V
open Go
/-! ## Regions that draw their order
Of each operation's value something is known that lasts in all later worlds; an operation uses what is known of those slots alone that it looks at. So one walk of the order of the text serves every order. -/
abbrev lj:=Nat→Option (Value→World→Prop)
def lj.put (N:lj) (o:Oper) (V:Value→World→Prop):lj:=match o.dst with
 | some d=>fun t=>if t=d then some V else N t
 | none=>N
def lj.on (ops:Array Oper) (N:lj) (o:Oper) (a:Act) (w:World):Prop:=∀ t V,t∈o.looksAt ops→N t=some V→V (a.tmps.getD t undef) w
def lj.all (N:lj) (n:Nat) (a:Act) (w:World):Prop:=a.tmps.size=n∧∀ t V,N t=some V→V (a.tmps.getD t undef) w
def qf (P:Program) (aBn:World→World→Prop) (w:World) (V:Value→World→Prop):Result Next→Prop
 | .ok (.value u) w'=>aBn w w'∧V u w'
 | .ok .skip w'=>aBn w w'∧V undef w'
 | .ok (.enter f args) w'=>w'=w∧Calls P f args w (bH fun v ahP=>aBn w ahP∧V v ahP)
 | _=>False
section
variable {P:Program} {ops:Array Oper} {md:Region.Mode} {aBn:World→World→Prop} {C:World→Prop} {n:Nat} {ds:List Deferred}
structure aBq (P:Program) (ops:Array Oper) (aBn:World→World→Prop) (C:World→Prop) (n:Nat) (N:lj) (o:Oper) (V:Value→World→Prop):Prop where
 lasts:∀ v w w',aBn w w'→V v w→V v w'
 fits:∀ d,o.dst=some d→d<n
 run:∀ a w,C w→lj.on ops N o a w→
  if Region.wanted o (yielded ops a.tmps)then qf P aBn w V ((execOp a.eval o).run P w)else V undef w
def JS (P:Program) (md:Region.Mode) (ops:Array Oper) (aBn:World→World→Prop) (C:World→Prop) (n:Nat) (Fin:lj→Prop):Nat→Array Bool→lj→Prop
 | 0,listed,N=>Region.ready md ops listed = []∧Fin N
 | fuel+1,listed,N=>(Region.ready md ops listed = []→Fin N)∧
  ∀ i∈Region.ready md ops listed,∀ o,ops[i]? = some o→∃ V,aBq P ops aBn C n N o V∧JS P md ops aBn C n Fin fuel (listed.setIfInBounds i true) (N.put o V)
structure Cu (aBn:World→World→Prop) (C:World→Prop):Prop where
 refl:∀ w,aBn w w
 trans:∀ a b c,aBn a b→aBn b c→aBn a c
 keeps:∀ w w',aBn w w'→C w→C w'
theorem xz {N:lj} {o:Oper} {V:Value→World→Prop} {a:Act} {w w':World} {v:Value} (cb:∀ t aBo,N t=some aBo→∀ v w w',aBn w w'→aBo v w→aBo v w') (dR:aBn w w') (gy:N.all n a w) (qW:V v w') (bT:∀ d,o.dst=some d→d<n):(N.put o V).all n (a.put o.dst v) w':=by
 unfold lj.put;cases fv:o.dst with
 | none=>exact⟨gy.1,fun t aBo j1=>cb t aBo j1 _ _ _ dR (gy.2 t aBo j1)⟩
 | some d=>
  refine⟨by simp [Act.put,gy.1],fun t aBo j1=>?_⟩
  dsimp only at j1
  by_cases ahQ:t=d
  ·subst ahQ;rw [aL rfl] at j1;injection j1 with j1
   subst j1;have:=bT t fv;simp [Act.put,gy.1,this];exact qW
  rw [ak ahQ] at j1;have:=cb t aBo j1 _ _ _ dR (gy.2 t aBo j1);simpa [Act.put,Array.getElem?_setIfInBounds_ne (Ne.symm ahQ)] using this
def lj.lasts (aBn:World→World→Prop) (N:lj):Prop:=∀ t aBo,N t=some aBo→∀ v w w',aBn w w'→aBo v w→aBo v w'
theorem lj.lasts.put {N:lj} (h:N.lasts aBn) {o:Oper} {V:Value→World→Prop} (qW:∀ v w w',aBn w w'→V v w→V v w'):(N.put o V).lasts aBn:=by
 intro t aBo j1;unfold lj.put at j1;cases fv:o.dst with
 | none=>rw [fv] at j1;exact h t aBo j1
 | some d=>
  rw [fv] at j1
  dsimp only at j1
  split at j1
  ·injection j1 with j1;subst j1;exact qW
  exact h t aBo j1
theorem wv {o:Oper} {i:Nat} {N:lj} {V:Value→World→Prop} {a:Act} {w:World} {Q:Exit→Act→World→Prop} {K:Act→World→Prop} (pS:Cu aBn C) (adg:N.lasts aBn) (hi:ops[i]? = some o) (rF:aBq P ops aBn C n N o V) (h4:C w) (gy:N.all n a w)
  (nI:∀ ye w',(ye.defers=a.defers)→C w'→aBn w w'→(N.put o V).all n ye w'→K ye w'):wpOp P ops Q i K a w:=by
 unfold wpOp
 simp only [hi]
 have bo:=rF.run a w h4 (fun t aBo _ j1=>gy.2 t aBo j1)
 have Pb:∀ v,(a.put o.dst v).defers=a.defers:=fun v=>by cases o.dst <;> rfl
 split
 rotate_left
 ·rename_i hw
  rw [ak hw] at bo
  exact nI _ _ (Pb _) h4 (pS.refl w) (xz adg (pS.refl w) gy bo rF.fits)
 rename_i hw
 rw [aL hw] at bo
 refine .inl ?_
 unfold Oper.wp
 generalize (execOp a.eval o).run P w=r at *
 cases r with
 | halt h w'=>exact bo.elim
 | ok x w'=>
  cases x <;> simp only [qf] at bo <;> simp only [Oper.upon]
  case value u=>exact nI _ _ (Pb _) (pS.keeps _ _ bo.1 h4) bo.1 (xz adg bo.1 gy bo.2 rF.fits)
  case skip=>exact nI _ _ (Pb _) (pS.keeps _ _ bo.1 h4) bo.1 (xz adg bo.1 gy bo.2 rF.fits)
  case enter f args=>
   obtain⟨rfl,aZ⟩:=bo
   refine aZ.mono fun e ahP he=>?_
   cases e with
   | returned v=>exact nI _ _ (Pb _) (pS.keeps _ _ he.1 h4) he.1 (xz adg he.1 gy he.2 rF.fits)
   | panicked c=>exact he.elim
   | outgrown=>exact he.elim
theorem zN {Q:Exit→Act→World→Prop} {Fin:lj→Prop} {w0:World} {ds:List Deferred} (pS:Cu aBn C)
  (xA:∀ N a w,N.lasts aBn→a.defers=ds→C w→aBn w0 w→N.all n a w→Fin N→Q .normal a w):∀ (fuel:Nat) (listed:Array Bool) (N:lj) (a:Act) (w:World),N.lasts aBn→a.defers=ds→C w→aBn w0 w→N.all n a w→
  JS P md ops aBn C n Fin fuel listed N→wpAny P md ops Q fuel listed a w
 | 0,listed,N,a,w,cg,h1,aq,bb,bP,h=>⟨h.1,xA N a w cg h1 aq bb bP h.2⟩
 | fuel+1,listed,N,a,w,cg,h1,aq,bb,bP,h=>by
  refine⟨fun bo=>xA N a w cg h1 aq bb bP (h.1 bo),fun i hi=>?_⟩
  obtain⟨_,o,fv,_⟩:=mem_ready.1 hi
  obtain⟨V,rF,iI⟩:=h.2 i hi o fv
  exact wv pS cg fv rF aq bP fun ye w' bT h4 dR gy=>zN pS xA fuel _ _ ye w' (cg.put rF.lasts) (bT.trans h1) h4 (pS.trans _ _ _ bb dR) gy iI
theorem aBq.past {N:lj} {o xB:Oper} {V akt:Value→World→Prop} (h:aBq P ops aBn C n (N.put xB akt) o V) (cu:∀ d,xB.dst=some d→d∉o.looksAt ops):aBq P ops aBn C n N o V:=by
 refine⟨h.lasts,h.fits,fun a w h4 gy=>h.run a w h4 fun t aBo bW j1=>?_⟩;unfold lj.put at j1;cases bT:xB.dst with
 | none=>rw [bT] at j1;exact gy t aBo bW j1
 | some d=>
  rw [bT] at j1
  dsimp only at j1
  split at j1
  ·rename_i he;subst he;exact absurd bW (cu _ bT)
  exact gy t aBo bW j1
theorem aBq.ahead {N:lj} {o xB:Oper} {V akt:Value→World→Prop} (h:aBq P ops aBn C n N o V) (cu:∀ d,xB.dst=some d→d∉o.looksAt ops):aBq P ops aBn C n (N.put xB akt) o V:=by
 refine⟨h.lasts,h.fits,fun a w h4 gy=>h.run a w h4 fun t aBo bW j1=>?_⟩;refine gy t aBo bW ?_;unfold lj.put;cases bT:xB.dst with
 | none=>exact j1
 | some d=>
  dsimp only
  rw [ak (fun he=>by subst he;exact cu _ bT bW)];exact j1
theorem lj.put_comm (N:lj) {o xB:Oper} (V akt:Value→World→Prop) (h:∀ d,o.dst=some d→xB.dst≠some d):(N.put o V).put xB akt=(N.put xB akt).put o V:=by
 unfold lj.put;cases fv:o.dst with
 | none=>cases xB.dst <;> rfl
 | some d=>
  cases Xl:xB.dst with
  | none=>rfl
  | some vi=>
   have cH:vi≠d:=fun e=>h d fv (by rw [Xl,e])
   funext t
   dsimp only
   by_cases h1:t=d
   ·subst h1
    by_cases aq:t=vi
    ·exact absurd aq.symm cH
    simp [aq]
   simp [h1]
theorem JT {Fin:lj→Prop} {i:Nat} {Dt:Oper} {V:Value→World→Prop} (hi:ops[i]? = some Dt) :
  ∀ (fuel:Nat) (listed:Array Bool) (N:lj),
   (∀ j u1,ops[j]? = some u1→j≠i→listed.getD j true=false→(∀ e∈u1.after,Region.binds md e=true→e.on≠i)→Dt.apart ops u1=true)→
   i∈Region.ready md ops listed→aBq P ops aBn C n N Dt V→
   JS P md ops aBn C n Fin fuel (listed.setIfInBounds i true) (N.put Dt V)→JS P md ops aBn C n Fin (fuel+1) listed N:=by
 intro fuel
 induction fuel with
 | zero=>
  intro listed N _ bo rF H
  refine⟨fun h=>(by rw [h] at bo;cases bo),fun j eD o fv=>?_⟩
  by_cases oY:j=i
  ·subst oY
   have:o=Dt:=Option.some.inj (fv.symm.trans hi)
   subst this
   exact⟨V,rF,H⟩
  have:=ready_mono eD oY
  rw [H.1] at this
  cases this
 | succ fuel ea=>
  intro listed N uu bo rF H
  refine⟨fun h=>(by rw [h] at bo;cases bo),fun j eD o fv=>?_⟩
  by_cases oY:j=i
  ·subst oY
   have:o=Dt:=Option.some.inj (fv.symm.trans hi)
   subst this
   exact⟨V,rF,H⟩
  obtain⟨Xm,Xn,iI⟩:=H.2 j (ready_mono eD oY) o fv
  obtain⟨zO,u1,Au,lD⟩:=mem_ready.1 eD
  have:o=u1:=Option.some.inj (fv.symm.trans Au)
  subst this
  have si:∀ e∈o.after,Region.binds md e=true→e.on≠i:=fun e he aW heq=>by
   have h1:=lD e he aW
   have cg:=(mem_ready.1 bo).1
   rw [heq] at h1
   rcases Nat.lt_or_ge i listed.size with fW | fW
   ·simp [fW] at cg h1;rw [cg] at h1;cases h1
   simp [Array.getElem?_eq_none fW] at h1
  obtain⟨e6,a2,a3⟩:=Oper.apart_spec (uu j o Au oY zO si)
  refine⟨Xm,Xn.past e6,ea (listed.setIfInBounds j true) (N.put o Xm) (fun k ok hk Xo mz jN=>?_) (ready_mono bo (Ne.symm oY)) (rF.ahead a3) ?_⟩
  ·refine uu k ok hk Xo ?_ jN
   by_cases JU:j=k
   ·subst JU;exact zO
   rw [getD_set_ne true JU] at mz;exact mz
  rw [Array.setIfInBounds_comm _ _ oY,← lj.put_comm N V Xm a2]
  exact iI
def TW (P:Program) (ops:Array Oper) (aBn:World→World→Prop) (C:World→Prop) (n:Nat) (Fin:lj→Prop):List Oper→lj→Prop
 | [],N=>Fin N
 | o::rest,N=>∃ V,aBq P ops aBn C n N o V∧TW P ops aBn C n Fin rest (N.put o V)
theorem Fh {Fin:lj→Prop}:∀ (l:List Oper) (k:Nat) (listed:Array Bool) (N:lj),(∀ j,l[j]? = ops[k+j]?)→
  Region.lexFrom md ops l.length k listed=true→TW P ops aBn C n Fin l N→JS P md ops aBn C n Fin l.length listed N
 | [],_,_,_,_,ev,h=>⟨by simpa [Region.lexFrom] using ev,h⟩
 | o::l,k,listed,N,cb,ev,h=>by
  have cg:ops[k]? = some o:=by simpa using (cb 0).symm
  simp only [List.length_cons,Region.lexFrom,Bool.and_eq_true] at ev
  obtain⟨⟨bo,dn⟩,Hc⟩:=ev
  obtain⟨V,rF,iI⟩:=h
  exact JT cg l.length listed N (Region.free_spec cg dn) (by simpa using bo) rF
   (Fh l (k+1) _ _ (fun j=>by have:=cb (j+1);simpa [Nat.add_assoc,Nat.add_comm 1 j] using this) Hc iI)
/-! ### .. with operations behind it that come one behind the other -/
def Cv (P:Program) (md:Region.Mode) (ops:Array Oper) (aBn:World→World→Prop) (C:World→Prop) (n m:Nat) (L:Array Bool→lj→Prop):Nat→Array Bool→lj→Prop
 | 0,listed,N=>L listed N
 | f+1,listed,N=>Region.ready md ops listed≠[]∧
  ∀ i∈Region.ready md ops listed,i<m∧∀ o,ops[i]? = some o→∃ V,aBq P ops aBn C n N o V∧Cv P md ops aBn C n m L f (listed.setIfInBounds i true) (N.put o V)
theorem xC {Q:Exit→Act→World→Prop} {L:Array Bool→lj→Prop} {w0:World} {ds:List Deferred} {m g:Nat} (pS:Cu aBn C)
  (xA:∀ listed N a w,N.lasts aBn→a.defers=ds→C w→aBn w0 w→N.all n a w→L listed N→wpAny P md ops Q g listed a w):∀ (f:Nat) (listed:Array Bool) (N:lj) (a:Act) (w:World),N.lasts aBn→a.defers=ds→C w→aBn w0 w→N.all n a w→
  Cv P md ops aBn C n m L f listed N→wpAny P md ops Q (f+g) listed a w
 | 0,listed,N,a,w,cg,h1,aq,bb,bP,h=>by rw [Nat.zero_add];exact xA listed N a w cg h1 aq bb bP h
 | f+1,listed,N,a,w,cg,h1,aq,bb,bP,h=>by
  rw [show f+1+g=(f+g)+1 by omega]
  refine⟨fun bo=>absurd bo h.1,fun i hi=>?_⟩
  obtain⟨_,o,fv,_⟩:=mem_ready.1 hi
  obtain⟨V,rF,iI⟩:=(h.2 i hi).2 o fv
  exact wv pS cg fv rF aq bP fun ye w' bT h4 dR gy=>xC pS xA f _ _ ye w' (cg.put rF.lasts) (bT.trans h1) h4 (pS.trans _ _ _ bb dR) gy iI
theorem Hd {m i:Nat} {Dt:Oper} {V:Value→World→Prop} {L:Array Bool→lj→Prop} (hi:ops[i]? = some Dt)
  (bh:Region.sinkB md ops m=true) (aZ:Region.chainB md ops m=true) (cu:m<ops.size) (Xp:i<m)
  (M5:∀ listed N,L listed N→∀ j∈Region.ready md ops listed,m≤j) :
  ∀ (f:Nat) (listed:Array Bool) (N:lj),HeadInv md ops m listed→
   (∀ j u1,ops[j]? = some u1→j≠i→listed.getD j true=false→(∀ e∈u1.after,Region.binds md e=true→e.on≠i)→Dt.apart ops u1=true)→
   i∈Region.ready md ops listed→aBq P ops aBn C n N Dt V→
   Cv P md ops aBn C n m L f (listed.setIfInBounds i true) (N.put Dt V)→Cv P md ops aBn C n m L (f+1) listed N:=by
 intro f
 induction f with
 | zero=>
  intro listed N inv _ bo rF H
  have mz:=(mem_ready.1 bo).1
  refine⟨fun h=>(by rw [h] at bo;cases bo),fun j eD=>?_⟩
  have DW:j<m:=by
   rcases Nat.lt_or_ge j m with h | h
   ·exact h
   exact absurd eD (tail_waits bh aZ cu inv _ i rfl Xp mz j h)
  refine⟨DW,fun o fv=>?_⟩
  by_cases oY:j=i
  ·subst oY
   have:o=Dt:=Option.some.inj (fv.symm.trans hi)
   subst this
   exact⟨V,rF,H⟩
  have:=M5 _ _ H j (ready_mono eD oY)
  omega
 | succ f ea=>
  intro listed N inv uu bo rF H
  have mz:=(mem_ready.1 bo).1
  refine⟨fun h=>(by rw [h] at bo;cases bo),fun j eD=>?_⟩
  have DW:j<m:=by
   rcases Nat.lt_or_ge j m with h | h
   ·exact h
   exact absurd eD (tail_waits bh aZ cu inv _ i rfl Xp mz j h)
  refine⟨DW,fun o fv=>?_⟩
  by_cases oY:j=i
  ·subst oY
   have:o=Dt:=Option.some.inj (fv.symm.trans hi)
   subst this
   exact⟨V,rF,H⟩
  obtain⟨Xm,Xn,iI⟩:=(H.2 j (ready_mono eD oY)).2 o fv
  obtain⟨zO,u1,Au,lD⟩:=mem_ready.1 eD
  have:o=u1:=Option.some.inj (fv.symm.trans Au)
  subst this
  have si:∀ e∈o.after,Region.binds md e=true→e.on≠i:=fun e he aW heq=>by
   have h1:=lD e he aW
   rw [heq,getD_both mz] at h1
   cases h1
  obtain⟨e6,a2,a3⟩:=Oper.apart_spec (uu j o Au oY zO si)
  refine⟨Xm,Xn.past e6,ea (listed.setIfInBounds j true) (N.put o Xm) (inv.set eD DW) (fun k ok hk Xo mz jN=>?_) (ready_mono bo (Ne.symm oY)) (rF.ahead a3) ?_⟩
  ·refine uu k ok hk Xo ?_ jN
   by_cases JU:j=k
   ·subst JU;exact zO
   rw [getD_set_ne true JU] at mz;exact mz
  rw [Array.setIfInBounds_comm _ _ oY,← lj.put_comm N V Xm a2]
  exact iI
theorem Cw {m g:Nat} {Fin:lj→Prop} (bh:Region.sinkB md ops m=true) (aZ:Region.chainB md ops m=true) (cu:m<ops.size) :
  ∀ (l:List Oper) (k:Nat) (listed:Array Bool) (N:lj),(∀ j,j<l.length→l[j]? = ops[k+j]?)→k+l.length=m→HeadInv md ops m listed→
  Region.lexHead md ops g l.length k listed=true→TW P ops aBn C n Fin l N→
  Cv P md ops aBn C n m (fun oZ afg=>Region.seqB md ops g m oZ=true∧Fin afg) l.length listed N
 | [],k,listed,N,_,hk,_,ev,h=>by
  have:k=m:=by simpa using hk
  subst this
  exact⟨by simpa [Region.lexHead] using ev,h⟩
 | o::l,k,listed,N,cb,hk,inv,ev,h=>by
  have cg:ops[k]? = some o:=by simpa using (cb 0 (by simp)).symm
  simp only [List.length_cons,Region.lexHead,Bool.and_eq_true] at ev
  obtain⟨⟨bo,dn⟩,Hc⟩:=ev
  have anh:k<m:=by simp only [List.length_cons] at hk;omega
  have qt:k∈Region.ready md ops listed:=by simpa using bo
  obtain⟨V,rF,iI⟩:=h
  exact Hd cg bh aZ cu anh (fun oZ afg pS=>seqB_ready pS.1) l.length listed N inv (Region.free_spec cg dn) qt rF
   (Cw bh aZ cu l (k+1) _ _ (fun j eD=>by have:=cb (j+1) (by simp;omega);simpa [Nat.add_assoc,Nat.add_comm 1 j] using this) (by simp only [List.length_cons] at hk;omega) (inv.set qt anh) Hc iI)
end
def o0 (t:Nat):List (Nat×(Value→World→Prop))→Option (Value→World→Prop)
 | []=>none
 | (s,v)::r=>match Nat.beq s t with
  | true=>some v
  | false=>o0 t r
def tx (l:List (Nat×Value)) (M:List (Nat×(Value→World→Prop))):lj:=fun t=>match iF t l with
 | some v=>some fun u _=>u=v
 | none=>o0 t M
section
variable {P:Program} {ops:Array Oper} {Q:Exit→Act→World→Prop} {n:Nat} {ds:List Deferred} {l:List (Nat×Value)} {M:List (Nat×(Value→World→Prop))} {w w':World} {a:Act}
variable {rest:List Oper} {d:Nat} {op:Op} {ty:TypeId} {pos:String} {af:Array Edge} {Fin:lj→Prop}
theorem later (w:World):Cu (Mod []) (Mod [] w):=⟨Mod.refl [],fun _ _ _ h k=>h.trans k,fun _ _ h k=>k.trans h⟩
abbrev hj (P:Program) (ops:Array Oper) (w:World) (n:Nat) (Fin:lj→Prop) (rest:List Oper) (l:List (Nat×Value)) (M:List (Nat×(Value→World→Prop))):Prop:=TW P ops (Mod []) (Mod [] w) n Fin rest (tx l M)
def Pc (Q:Exit→Act→World→Prop) (n:Nat) (ds:List Deferred) (w:World) (N:lj):Prop:=∀ a w',a.defers=ds→Mod [] w w'→N.all n a w'→Q .normal a w'
theorem u2 (l:List (Nat×Value)):(tx l []).lasts (Mod []):=by
 intro t aBo j1;unfold tx at j1
 split at j1
 ·injection j1 with j1;subst j1;exact fun _ _ _ _ h=>h
 simp [o0] at j1
theorem AX {l:List (Nat×Value)} (aE:Has n ds l a):(tx l []).all n a w:=by
 refine⟨aE.size,fun t aBo j1=>?_⟩;unfold tx at j1
 split at j1
 ·rename_i v bI
  injection j1 with j1
  subst j1;simp [aE.get t v bI]
 simp [o0] at j1
theorem cn {id:Nat} {lo:List Oper} (hm:P.follows .mixedOrders=true) (ev:Region.lexB .any lo.toArray=true) (h:hj P lo.toArray w n (Pc Q n ds w) lo l []):k2 P (.region id lo.toArray true) Q n ds l w:=by
 intro a aE;simp only [Region.lexB,Bool.and_eq_true] at ev;refine wp_region_any hm (zN (n:=n) (ds:=ds) (w0:=w) (Fin:=Pc Q n ds w) (later w) (fun N a w' _ bT h4 _ gy jA=>jA a w' bT h4 gy) _ _ (tx l []) a _ (u2 l) aE.defers (Mod.drew [] w) (Mod.drew [] w) (AX aE) ?_);have:=Fh (md:=.any) lo 0 (Array.replicate lo.toArray.size false) (tx l []) (by simp) (by simpa using ev.2) h;simpa using this
theorem B4 {id:Nat} {lo:List Oper} (m:Nat) (hm:P.follows .mixedOrders=true) (ev:Region.lexTailB .any lo.toArray m=true)
  (h:hj P lo.toArray w n (fun N=>∀ a w',a.defers=ds→Mod [] w w'→N.all n a w'→wpList P lo.toArray Q (lo.drop m) a w') (lo.take m) l []):k2 P (.region id lo.toArray true) Q n ds l w:=by
 intro a aE
 simp only [Region.lexTailB,Bool.and_eq_true,decide_eq_true_eq] at ev
 obtain⟨⟨⟨⟨vz,cu⟩,bh⟩,aZ⟩,ani⟩:=ev
 have azJ:m<lo.length:=by simpa using cu
 have Dz:(lo.take m).length=m:=by simp;omega
 have adh:(lo.drop m).length=lo.toArray.size-m:=by simp
 have JW:HeadInv .any lo.toArray m (Array.replicate lo.toArray.size false):=
  ⟨by simp,fun j u1 _ cb=>(by rw [getD_replicate_false] at cb;cases cb),fun t _ bW=>getD_in (by simpa using bW) (getD_replicate_false _ _)⟩
 have H:=Cw (md:=.any) (g:=lo.toArray.size-m) bh aZ cu (lo.take m) 0 _ (tx l []) (fun j eD=>by
  have xt:j<m:=by rw [Dz] at eD;exact eD
  simp [xt]) (by simpa using Dz) JW (by rw [Dz];exact ani) h
 refine wp_region_any hm ?_
 have:=xC (n:=n) (ds:=ds) (w0:=w) (Q:=Q) (g:=lo.toArray.size-m) (later w) (fun listed N a w' _ bT h4 _ gy pS=>by
  have:=wpAny_of_seq (md:=.any) (Q':=Q) (lo.drop m) m listed a w' (fun j=>by simp [List.getElem?_drop]) (by rw [adh];exact pS.1) (pS.2 a w' bT h4 gy)
  rwa [adh] at this) _ _ (tx l []) a _ (u2 l) aE.defers (Mod.drew [] w) (Mod.drew [] w) (AX aE) H
 rw [Dz,show m+(lo.toArray.size-m)=lo.toArray.size by omega] at this
 exact this
theorem xD {l:List (Nat×Value)} {M:List (Nat×(Value→World→Prop))} (bT:a.defers=ds) (h:(tx l M).all n a w):Has n ds (l.filter fun p=>decide (p.1<n)) a:=by
 refine⟨h.1,bT,fun t v bI=>?_⟩;have bM:t<n:=by
  clear h
  induction l with
  | nil=>simp [iF] at bI
  | cons p r ea=>
   obtain⟨s,u⟩:=p
   by_cases bh:s<n
   ·simp only [List.filter_cons,bh,decide_true,if_true,iF] at bI;cases aW:Nat.beq s t with
    | true=>have:=Nat.eq_of_beq_eq_true aW;omega
    | false=>rw [aW] at bI;exact ea bI
   simp only [List.filter_cons,bh,decide_false] at bI;exact ea bI
 have mX:iF t l=some v:=by
  clear h
  induction l with
  | nil=>simp [iF] at bI
  | cons p r ea=>
   obtain⟨s,u⟩:=p
   by_cases bh:s<n
   ·simp only [List.filter_cons,bh,decide_true,if_true,iF] at bI ⊢;cases aW:Nat.beq s t with
    | true=>rw [aW] at bI;exact bI
    | false=>rw [aW] at bI;exact ea bI
   simp only [List.filter_cons,bh,decide_false] at bI;simp only [iF];cases aW:Nat.beq s t with
   | true=>have:=Nat.eq_of_beq_eq_true aW;omega
   | false=>exact ea bI
 have:=h.2 t (fun u _=>u=v) (by simp [tx,mX]);rw [← h.1] at bM;simp [bM] at this;simp [bM,this]
def zP (n:Nat):List (Nat×Value)→Bool
 | []=>true
 | (t,_)::r=>Nat.blt t n&&zP n r
theorem lr {n:Nat}:∀ {l:List (Nat×Value)},zP n l=true→(l.filter fun p=>decide (p.1<n))=l
 | [],_=>rfl
 | (t,v)::r,h=>by
  simp only [zP,Bool.and_eq_true,Nat.blt_eq] at h
  simp [List.filter_cons,h.1,lr h.2]
theorem cq (dn:zP n l=true) (h:∀ w',Mod [] w w'→fH Q .normal n ds l w'):hj P ops w n (Pc Q n ds w) [] l M:=by
 intro a w' bT h4 gy;have:=xD bT gy;rw [lr dn] at this;exact h w' h4 a this
theorem Xq {t:Nat} {V:Value→World→Prop} (dn:zP n l=true) (bW:iF t l=none) (eX:o0 t M=some V) (Xr:Nat.blt t n=true) (h:∀ w' v,Mod [] w w'→V v w'→fH Q .normal n ds ((t,v)::l) w'):hj P ops w n (Pc Q n ds w) [] l M:=by
 intro a w' bT h4 gy;have h1:=xD bT gy;rw [lr dn] at h1;have zQ:t<a.tmps.size:=by rw [gy.1];simpa [Nat.blt_eq] using Xr
 have aq:=gy.2 t V (by simp [tx,bW,eX]);have bb:a.tmps.getD t undef=a.tmps[t]:=by simp [zQ]
 rw [bb] at aq;refine h w' _ h4 aq a ⟨h1.size,h1.defers,fun s v bI=>?_⟩;simp only [iF] at bI;cases aW:Nat.beq t s with
 | true=>
  rw [aW] at bI;have:=Nat.eq_of_beq_eq_true aW;subst this;injection bI with bI
  subst bI;simp [zQ]
 | false=>rw [aW] at bI;exact h1.get s v bI
theorem oF {uv:List Oper} (dn:zP n l=true) (h:∀ w',Mod [] w w'→fI P ops Q uv n ds l w'):hj P ops w n (fun N=>∀ a w',a.defers=ds→Mod [] w w'→N.all n a w'→wpList P ops Q uv a w') [] l M:=by
 intro a w' bT h4 gy;have:=xD bT gy;rw [lr dn] at this;exact h w' h4 a this
theorem mN {uv:List Oper} {t:Nat} {V:Value→World→Prop} (dn:zP n l=true) (bW:iF t l=none) (eX:o0 t M=some V) (Xr:Nat.blt t n=true) (h:∀ w' v,Mod [] w w'→V v w'→fI P ops Q uv n ds ((t,v)::l) w') :
  hj P ops w n (fun N=>∀ a w',a.defers=ds→Mod [] w w'→N.all n a w'→wpList P ops Q uv a w') [] l M:=by
 intro a w' bT h4 gy
 have h1:=xD bT gy
 rw [lr dn] at h1
 have zQ:t<a.tmps.size:=by rw [gy.1];simpa [Nat.blt_eq] using Xr
 have aq:=gy.2 t V (by simp [tx,bW,eX])
 have bb:a.tmps.getD t undef=a.tmps[t]:=by simp [zQ]
 rw [bb] at aq
 refine h w' _ h4 aq a ⟨h1.size,h1.defers,fun s v bI=>?_⟩
 simp only [iF] at bI
 cases aW:Nat.beq t s with
 | true=>
  rw [aW] at bI
  have:=Nat.eq_of_beq_eq_true aW
  subst this
  injection bI with bI
  subst bI
  simp [zQ]
 | false=>rw [aW] at bI;exact h1.get s v bI
def gf:Op→Bool
 | .select ..=>false
 | _=>true
theorem vA {V:Value→World→Prop} (qW:∀ v aJ cX,Mod [] aJ cX→V v aJ→V v cX) (bT:Nat.blt d n=true) (bh:gf op=true)
  (bo:∀ (ρ:Operand→Value) aJ,Mod [] w aJ→(∀ x u,bf l x=some u→ρ x=u)→(∀ t aBo,iF t l=none→o0 t M=some aBo→(∃ x∈op.operands.toList,x = .tmp t)→aBo (ρ (.tmp t)) aJ)→
   qf P (Mod []) aJ V ((execOp ρ ⟨some d,op,ty,pos,af,none⟩).run P aJ)) :
  aBq P ops (Mod []) (Mod [] w) n (tx l M) ⟨some d,op,ty,pos,af,none⟩ V:=by
 refine⟨qW,fun vi tX=>by injection tX with tX;subst tX;simpa [Nat.blt_eq] using bT,fun a aJ h4 gy=>?_⟩
 rw [aL (by simp [Region.wanted])]
 let ρ:Operand→Value:=fun x=>match bf l x with
  | some u=>u
  | none=>a.eval x
 have y1:∀ t,(∃ x∈op.operands.toList,x = .tmp t)→t∈Oper.looksAt ops ⟨some d,op,ty,pos,af,none⟩:=by
  rintro t ⟨x,ae,rfl⟩
  unfold Oper.looksAt
  exact List.mem_append_left _ (List.mem_filterMap.2 ⟨.tmp t,ae,rfl⟩)
 have gw:∀ x∈op.operands,a.eval x=ρ x:=by
  intro x ae
  show a.eval x=match bf l x with | some u=>u | none=>a.eval x
  cases bI:bf l x with
  | none=>rfl
  | some u=>
   cases x with
   | tmp t=>
    have:=gy t (fun oO _=>oO=u) (y1 t ⟨_,by simpa using ae,rfl⟩) (by simp only [bf] at bI;simp [tx,bI])
    simpa [Act.eval] using this
   | const c=>simp only [bf] at bI;injection bI
   | global g=>simp only [bf] at bI;injection bI
   | func f=>simp only [bf] at bI;injection bI
 have he:=execOp_congr ⟨some d,op,ty,pos,af,none⟩ (fun cs b h=>by dsimp only at h;rw [h] at bh;simp [gf] at bh) gw
 rw [he]
 refine bo ρ aJ h4 (fun x u ae=>?_) (fun t aBo bW j1 ae=>?_)
 ·show(match bf l x with | some u=>u | none=>a.eval x)=u
  rw [ae]
 have h1:=gy t aBo (y1 t ae) (by simp [tx,bW,j1])
 show aBo (match bf l (.tmp t)with | some u=>u | none=>a.eval (.tmp t)) aJ
 simp only [bf,bW]
 simpa [Act.eval] using h1
theorem lu {o:Oper} (bT:o.dst=some d) (v:Value):(tx l M).put o (fun u _=>u=v)=tx ((d,v)::l) M:=by
 funext t
 unfold lj.put tx;simp only [bT,iF]
 by_cases h:t=d
 ·subst h;simp
 have:Nat.beq d t=false:=by
  cases aW:Nat.beq d t
  ·rfl
  exact absurd (Nat.eq_of_beq_eq_true aW).symm h
 simp [h,this]
theorem od {o:Oper} (bT:o.dst=some d) (cb:iF d l=none) (V:Value→World→Prop):(tx l M).put o V=tx l ((d,V)::M):=by
 funext t
 unfold lj.put tx;simp only [bT,o0]
 by_cases h:t=d
 ·subst h;simp [cb]
 have:Nat.beq d t=false:=by
  cases aW:Nat.beq d t
  ·rfl
  exact absurd (Nat.eq_of_beq_eq_true aW).symm h
 simp [h,this]
theorem asg {v:Value} (bo:∀ aJ,Mod [] w aJ→bE P l ⟨some d,op,ty,pos,af,none⟩ aJ v aJ) (bT:Nat.blt d n=true) (bh:gf op=true) (h:hj P ops w n Fin rest ((d,v)::l) M) :
  hj P ops w n Fin (⟨some d,op,ty,pos,af,none⟩::rest) l M:=by
 refine⟨fun u _=>u=v,vA (fun _ _ _ _ h=>h) bT bh fun ρ aJ h4 h1 aq=>?_,?_⟩
 ·rw [bo aJ h4 ρ h1];exact⟨Mod.refl [] aJ,rfl⟩
 rw [lu rfl];exact h
theorem aqu (V:Value→World→Prop) (qW:∀ v aJ cX,Mod [] aJ cX→V v aJ→V v cX) (bo:∀ aJ,Mod [] w aJ→∃ v cX,bE P l ⟨some d,op,ty,pos,af,none⟩ aJ v cX∧Mod [] aJ cX∧V v cX) (bT:Nat.blt d n=true) (bh:gf op=true) (cb:iF d l=none)
  (h:hj P ops w n Fin rest l ((d,V)::M)):hj P ops w n Fin (⟨some d,op,ty,pos,af,none⟩::rest) l M:=by
 refine⟨V,vA qW bT bh fun ρ aJ h4 h1 aq=>?_,?_⟩
 ·obtain⟨v,cX,e,hm,bI⟩:=bo aJ h4
  rw [e ρ h1]
  exact⟨hm,bI⟩
 rw [od rfl cb];exact h
theorem El {f:FuncId} {args:Array Value} {v:Value} (bo:∀ aJ,Mod [] w aJ→lQ P l ⟨some d,op,ty,pos,af,none⟩ aJ f args) (aZ:∀ aJ,Mod [] w aJ→Calls P f args aJ (bH fun u cX=>u=v∧Mod [] aJ cX)) (bT:Nat.blt d n=true) (bh:gf op=true) (h:hj P ops w n Fin rest ((d,v)::l) M) :
  hj P ops w n Fin (⟨some d,op,ty,pos,af,none⟩::rest) l M:=by
 refine⟨fun u _=>u=v,vA (fun _ _ _ _ h=>h) bT bh fun ρ aJ h4 h1 aq=>?_,?_⟩
 ·rw [bo aJ h4 ρ h1]
  exact⟨rfl,(aZ aJ h4).mono fun e cX he=>by cases e <;> first | exact⟨he.2,he.1⟩ | exact he⟩
 rw [lu rfl];exact h
theorem Av {f:FuncId} {args:Array Value} (V:Value→World→Prop) (qW:∀ v aJ cX,Mod [] aJ cX→V v aJ→V v cX) (bo:∀ aJ,Mod [] w aJ→lQ P l ⟨some d,op,ty,pos,af,none⟩ aJ f args) (aZ:∀ aJ,Mod [] w aJ→Calls P f args aJ (bH fun u cX=>V u cX∧Mod [] aJ cX)) (bT:Nat.blt d n=true) (bh:gf op=true) (cb:iF d l=none)
  (h:hj P ops w n Fin rest l ((d,V)::M)):hj P ops w n Fin (⟨some d,op,ty,pos,af,none⟩::rest) l M:=by
 refine⟨V,vA qW bT bh fun ρ aJ h4 h1 aq=>?_,?_⟩
 ·rw [bo aJ h4 ρ h1]
  exact⟨rfl,(aZ aJ h4).mono fun e cX he=>by cases e <;> first | exact⟨he.2,he.1⟩ | exact he⟩
 rw [od rfl cb];exact h
theorem Cx {V:Value→World→Prop} {t:Nat} {aBo:Value→World→Prop} (bW:iF t l=none) (eX:o0 t M=some aBo) (ae:∃ x∈op.operands.toList,x = .tmp t) (qW:∀ v aJ cX,Mod [] aJ cX→V v aJ→V v cX) (bT:Nat.blt d n=true) (bh:gf op=true)
  (bo:∀ (ρ:Operand→Value) aJ u,Mod [] w aJ→aBo u aJ→(∀ x v,bf ((t,u)::l) x=some v→ρ x=v)→qf P (Mod []) aJ V ((execOp ρ ⟨some d,op,ty,pos,af,none⟩).run P aJ)) :
  aBq P ops (Mod []) (Mod [] w) n (tx l M) ⟨some d,op,ty,pos,af,none⟩ V:=by
 refine vA qW bT bh fun ρ aJ h4 h1 aq=>bo ρ aJ (ρ (.tmp t)) h4 (aq t aBo bW eX ae) fun x v bI=>?_
 cases x with
 | tmp s=>
  simp only [bf,iF] at bI
  cases aW:Nat.beq t s with
  | true=>
   rw [aW] at bI
   have:=Nat.eq_of_beq_eq_true aW
   subst this
   injection bI
  | false=>rw [aW] at bI;exact h1 _ _ bI
 | const c=>exact h1 _ _ bI
 | global g=>exact h1 _ _ bI
 | func f=>exact h1 _ _ bI
theorem JX (V:Value→World→Prop) (qW:∀ v aJ cX,Mod [] aJ cX→V v aJ→V v cX) (t:Nat) {aBo:Value→World→Prop} (bW:iF t l=none) (eX:o0 t M=some aBo) (ae:∃ x∈op.operands.toList,x = .tmp t) (bo:∀ aJ u,Mod [] w aJ→aBo u aJ→∃ v cX,bE P ((t,u)::l) ⟨some d,op,ty,pos,af,none⟩ aJ v cX∧Mod [] aJ cX∧V v cX)
  (bT:Nat.blt d n=true) (bh:gf op=true) (cb:iF d l=none) (h:hj P ops w n Fin rest l ((d,V)::M)) :
  hj P ops w n Fin (⟨some d,op,ty,pos,af,none⟩::rest) l M:=by
 refine⟨V,Cx bW eX ae qW bT bh fun ρ aJ u h4 j1 h1=>?_,?_⟩
 ·obtain⟨v,cX,e,hm,bI⟩:=bo aJ u h4 j1
  rw [e ρ h1]
  exact⟨hm,bI⟩
 rw [od rfl cb];exact h
theorem as2 {f:FuncId} {args:Value→Array Value} {v:Value} (t:Nat) {aBo:Value→World→Prop} (bW:iF t l=none) (eX:o0 t M=some aBo) (ae:∃ x∈op.operands.toList,x = .tmp t) (bo:∀ aJ u,Mod [] w aJ→aBo u aJ→lQ P ((t,u)::l) ⟨some d,op,ty,pos,af,none⟩ aJ f (args u)) (aZ:∀ aJ u,Mod [] w aJ→aBo u aJ→Calls P f (args u) aJ (bH fun u cX=>u=v∧Mod [] aJ cX)) (bT:Nat.blt d n=true) (bh:gf op=true) (h:hj P ops w n Fin rest ((d,v)::l) M) :
  hj P ops w n Fin (⟨some d,op,ty,pos,af,none⟩::rest) l M:=by
 refine⟨fun u _=>u=v,Cx bW eX ae (fun _ _ _ _ h=>h) bT bh fun ρ aJ u h4 j1 h1=>?_,?_⟩
 ·rw [bo aJ u h4 j1 ρ h1]
  exact⟨rfl,(aZ aJ u h4 j1).mono fun e cX he=>by cases e <;> first | exact⟨he.2,he.1⟩ | exact he⟩
 rw [lu rfl];exact h
theorem afh {f:FuncId} {args:Value→Array Value} (V:Value→World→Prop) (qW:∀ v aJ cX,Mod [] aJ cX→V v aJ→V v cX) (t:Nat) {aBo:Value→World→Prop} (bW:iF t l=none) (eX:o0 t M=some aBo) (ae:∃ x∈op.operands.toList,x = .tmp t) (bo:∀ aJ u,Mod [] w aJ→aBo u aJ→lQ P ((t,u)::l) ⟨some d,op,ty,pos,af,none⟩ aJ f (args u)) (aZ:∀ aJ u,Mod [] w aJ→aBo u aJ→Calls P f (args u) aJ (bH fun u cX=>V u cX∧Mod [] aJ cX)) (bT:Nat.blt d n=true) (bh:gf op=true) (cb:iF d l=none)
  (h:hj P ops w n Fin rest l ((d,V)::M)):hj P ops w n Fin (⟨some d,op,ty,pos,af,none⟩::rest) l M:=by
 refine⟨V,Cx bW eX ae qW bT bh fun ρ aJ u h4 j1 h1=>?_,?_⟩
 ·rw [bo aJ u h4 j1 ρ h1]
  exact⟨rfl,(aZ aJ u h4 j1).mono fun e cX he=>by cases e <;> first | exact⟨he.2,he.1⟩ | exact he⟩
 rw [od rfl cb];exact h
end
section
variable {P:Program} {ops:Array Oper} {Q:Exit→Act→World→Prop} {n:Nat} {ds:List Deferred} {l:List (Nat×Value)} {M:List (Nat×(Value→World→Prop))} {w w':World} {a:Act}
variable {rest:List Oper} {d:Nat} {op:Op} {ty:TypeId} {pos:String} {af:Array Edge} {Fin:lj→Prop} {j:Nat} {want b:Bool}
/-! ## Guarded operations -/
def Cy (ops:Array Oper) (l:List (Nat×Value)) (j:Nat):Option Bool:=match (ops[j]?).bind (·.dst)with
 | some t=>match iF t l with
  | some (.bool b)=>some b
  | _=>none
 | none=>none
theorem JY (h:Cy ops l j=some b):∃ t,(ops[j]?).bind (·.dst)=some t∧iF t l=some (.bool b):=by
 unfold Cy at h
 split at h
 ·rename_i t bW
  split at h
  ·rename_i gv aW
   injection h with h
   subst h;exact⟨t,bW,aW⟩
  cases h
 cases h
theorem uw (aE:Has n ds l a) (h:Cy ops l j=some b):yielded ops a.tmps j=some b:=by
 obtain⟨t,h1,aq⟩:=JY h;unfold yielded;rw [h1];simp [aE.get t _ aq]
theorem mc {v:Value} (dY:Cy ops l j=some b) (aW:b=want) (bo:bE P l ⟨some d,op,ty,pos,af,some (j,want)⟩ w v w') (bT:Nat.blt d n=true) (h:fI P ops Q rest n ds ((d,v)::l) w') :
  fI P ops Q (⟨some d,op,ty,pos,af,some (j,want)⟩::rest) n ds l w:=by
 intro a aE
 refine wpList_step fun K nI=>?_
 have hw:Region.wanted ⟨some d,op,ty,pos,af,some (j,want)⟩ (yielded ops a.tmps)=true:=by
  simp [Region.wanted,uw aE dY,aW]
 rw [aL hw]
 have:=bo a.eval (fun x u ae=>aE.rX ae)
 simp only [Oper.wp,this,Oper.upon]
 exact nI _ _ (h _ (aE.put bT v))
theorem as3 {f:FuncId} {args:Array Value} {sG:Value→World→Prop} (dY:Cy ops l j=some b) (aW:b=want) (bo:lQ P l ⟨some d,op,ty,pos,af,some (j,want)⟩ w f args) (aZ:Calls P f args w (bH sG)) (bT:Nat.blt d n=true) (h:∀ v w',sG v w'→fI P ops Q rest n ds ((d,v)::l) w') :
  fI P ops Q (⟨some d,op,ty,pos,af,some (j,want)⟩::rest) n ds l w:=by
 intro a aE
 refine wpList_step fun K nI=>?_
 have hw:Region.wanted ⟨some d,op,ty,pos,af,some (j,want)⟩ (yielded ops a.tmps)=true:=by
  simp [Region.wanted,uw aE dY,aW]
 rw [aL hw]
 have:=bo a.eval (fun x u ae=>aE.rX ae)
 simp only [Oper.wp,this,Oper.upon]
 refine aZ.mono fun e w' he=>?_
 cases e with
 | returned v=>exact nI _ _ (h v w' he _ (aE.put bT v))
 | panicked c=>exact he.elim
 | outgrown=>exact he.elim
theorem as4 (dY:Cy ops l j=some b) (aW:b≠want) (bT:Nat.blt d n=true) (h:fI P ops Q rest n ds ((d,undef)::l) w) :
  fI P ops Q (⟨some d,op,ty,pos,af,some (j,want)⟩::rest) n ds l w:=by
 intro a aE
 refine wpList_step fun K nI=>?_
 have hw:¬ (Region.wanted ⟨some d,op,ty,pos,af,some (j,want)⟩ (yielded ops a.tmps)=true):=by
  simp [Region.wanted,uw aE dY,aW]
 rw [ak hw]
 exact nI _ _ (h _ (aE.put bT undef))
/-! .. in regions that draw -/
theorem Cz {a:Act} {aJ:World} {o:Oper} (fv:o.guard=some (j,want)) (dY:Cy ops l j=some b) (gy:lj.on ops (tx l M) o a aJ):Region.wanted o (yielded ops a.tmps)=(b == want):=by
 obtain⟨t,h1,aq⟩:=JY dY;have y1:t∈Oper.looksAt ops o:=by
  unfold Oper.looksAt;rw [fv];exact List.mem_append_right _ (by simp [h1])
 have:=gy t (fun u _=>u = .bool b) y1 (by simp [tx,aq]);have bM:t<a.tmps.size:=by
  rcases Nat.lt_or_ge t a.tmps.size with h | h
  ·exact h
  simp [Array.getElem?_eq_none h] at this;cases this
 simp [bM] at this;have ba:yielded ops a.tmps j=some b:=by
  unfold yielded;rw [h1];simp [bM,this]
 simp [Region.wanted,fv,ba]
theorem adi {V:Value→World→Prop} (dY:Cy ops l j=some b) (aW:b=want) (h:aBq P ops (Mod []) (Mod [] w) n (tx l M) ⟨some d,op,ty,pos,af,none⟩ V):aBq P ops (Mod []) (Mod [] w) n (tx l M) ⟨some d,op,ty,pos,af,some (j,want)⟩ V:=by
 refine⟨h.lasts,h.fits,fun a aJ h4 gy=>?_⟩;have hw:=Cz (o:=⟨some d,op,ty,pos,af,some (j,want)⟩) rfl dY gy;rw [hw,aW];simp only [beq_self_eq_true,if_true];have:=h.run a aJ h4 (fun t aBo bW j1=>gy t aBo (by
  unfold Oper.looksAt at bW ⊢;simp only [List.append_nil] at bW;exact List.mem_append_left _ bW) j1)
 rw [aL (by simp [Region.wanted])] at this;exact this
theorem as5 (dY:Cy ops l j=some b) (aW:b≠want) (bT:Nat.blt d n=true):aBq P ops (Mod []) (Mod [] w) n (tx l M) ⟨some d,op,ty,pos,af,some (j,want)⟩ (fun u _=>u=undef):=by
 refine⟨fun _ _ _ _ h=>h,fun vi tX=>by injection tX with tX;subst tX;simpa [Nat.blt_eq] using bT,fun a aJ h4 gy=>?_⟩;have hw:=Cz (o:=⟨some d,op,ty,pos,af,some (j,want)⟩) rfl dY gy;have:(b == want)=false:=by simp [aW]
 rw [hw,this];simp
theorem RO {v:Value} (dY:Cy ops l j=some b) (aW:b=want) (bo:∀ aJ,Mod [] w aJ→bE P l ⟨some d,op,ty,pos,af,none⟩ aJ v aJ) (bT:Nat.blt d n=true) (bh:gf op=true) (h:hj P ops w n Fin rest ((d,v)::l) M) :
  hj P ops w n Fin (⟨some d,op,ty,pos,af,some (j,want)⟩::rest) l M:=by
 refine⟨fun u _=>u=v,adi dY aW (vA (fun _ _ _ _ h=>h) bT bh fun ρ aJ h4 h1 aq=>?_),?_⟩
 ·rw [bo aJ h4 ρ h1];exact⟨Mod.refl [] aJ,rfl⟩
 rw [lu rfl];exact h
theorem H5 {f:FuncId} {args:Array Value} {v:Value} (dY:Cy ops l j=some b) (aW:b=want) (bo:∀ aJ,Mod [] w aJ→lQ P l ⟨some d,op,ty,pos,af,none⟩ aJ f args) (aZ:∀ aJ,Mod [] w aJ→Calls P f args aJ (bH fun u cX=>u=v∧Mod [] aJ cX)) (bT:Nat.blt d n=true) (bh:gf op=true) (h:hj P ops w n Fin rest ((d,v)::l) M) :
  hj P ops w n Fin (⟨some d,op,ty,pos,af,some (j,want)⟩::rest) l M:=by
 refine⟨fun u _=>u=v,adi dY aW (vA (fun _ _ _ _ h=>h) bT bh fun ρ aJ h4 h1 aq=>?_),?_⟩
 ·rw [bo aJ h4 ρ h1]
  exact⟨rfl,(aZ aJ h4).mono fun e cX he=>by cases e <;> first | exact⟨he.2,he.1⟩ | exact he⟩
 rw [lu rfl];exact h
theorem anj {f:FuncId} {args:Array Value} (V:Value→World→Prop) (qW:∀ v aJ cX,Mod [] aJ cX→V v aJ→V v cX) (dY:Cy ops l j=some b) (aW:b=want) (bo:∀ aJ,Mod [] w aJ→lQ P l ⟨some d,op,ty,pos,af,none⟩ aJ f args) (aZ:∀ aJ,Mod [] w aJ→Calls P f args aJ (bH fun u cX=>V u cX∧Mod [] aJ cX)) (bT:Nat.blt d n=true) (bh:gf op=true) (cb:iF d l=none)
  (h:hj P ops w n Fin rest l ((d,V)::M)):hj P ops w n Fin (⟨some d,op,ty,pos,af,some (j,want)⟩::rest) l M:=by
 refine⟨V,adi dY aW (vA qW bT bh fun ρ aJ h4 h1 aq=>?_),?_⟩
 ·rw [bo aJ h4 ρ h1]
  exact⟨rfl,(aZ aJ h4).mono fun e cX he=>by cases e <;> first | exact⟨he.2,he.1⟩ | exact he⟩
 rw [od rfl cb];exact h
theorem as6 (dY:Cy ops l j=some b) (aW:b≠want) (bT:Nat.blt d n=true) (h:hj P ops w n Fin rest ((d,undef)::l) M) :
  hj P ops w n Fin (⟨some d,op,ty,pos,af,some (j,want)⟩::rest) l M:=
 ⟨fun u _=>u=undef,as5 dY aW bT,by rw [lu rfl];exact h⟩
/-! ## A call's begin and end -/
def vB (i:Nat):List Value→List (Nat×Value)
 | []=>[]
 | v::r=>(i,v)::vB (i+1) r
theorem u3:∀ (vs:List Value) (i t:Nat) (v:Value),iF t (vB i vs)=some v→i≤t∧vs[t-i]? = some v
 | [],_,_,_,h=>by simp [vB,iF] at h
 | u::r,i,t,v,h=>by
  simp only [vB,iF] at h
  cases aW:Nat.beq i t with
  | true=>
   rw [aW] at h
   have:=Nat.eq_of_beq_eq_true aW
   subst this
   exact⟨Nat.le_refl _,by simpa using h⟩
  | false=>
   rw [aW] at h
   obtain⟨h1,aq⟩:=u3 r (i+1) t v h
   refine⟨by omega,?_⟩
   rw [show t-i=(t-(i+1))+1 by omega]
   simpa using aq
theorem enter {f:FuncId} {fn:Func} {c:Code} {vs:List Value} {aBn:Ending→World→Prop} (dn:P.funcs[f]? = some fn) (aW:fn.body=some c) (cu:fn.ntmps=n) (hle:Nat.ble vs.length n=true) (bh:Sub (vB 0 vs) l)
  (h:k2 P c (bodyPost P fn aBn) n [] l w):Calls P f vs.toArray w aBn:=by
 have afi:vs.length≤n:=by simpa using hle
 have aE:Has n [] (vB 0 vs) {tmps:=vs.toArray++Array.replicate (fn.ntmps-vs.toArray.size) undef,defers:=[]}:=by
  refine⟨by rw [Array.size_append,Array.size_replicate,List.size_toArray,cu];omega,rfl,fun t v bI=>?_⟩
  obtain⟨_,aq⟩:=u3 vs 0 t v bI
  rw [Nat.sub_zero] at aq
  have bM:=(List.getElem?_eq_some_iff.1 aq).1
  dsimp only
  rw [Array.getElem?_append_left (by simpa using bM)]
  simpa using aq
 exact calls_of_wp dn aW (h _ (aE.sub bh))
theorem Xs {f:FuncId} {fn:Func} {c:Code} {aBn:Ending→World→Prop} (dn:P.funcs[f]? = some fn) (aW:fn.body=some c) (h:k2 P c (bodyPost P fn aBn) fn.ntmps [] [] w) (hle:Nat.ble 0 fn.ntmps=true:=by exact rfl):Calls P f ([]:List Value).toArray w aBn:=enter (l:=[]) dn aW rfl hle trivial h
theorem l9 {a0:Value} {f:FuncId} {fn:Func} {c:Code} {aBn:Ending→World→Prop} (dn:P.funcs[f]? = some fn) (aW:fn.body=some c) (h:k2 P c (bodyPost P fn aBn) fn.ntmps [] [(0,a0)] w) (hle:Nat.ble 1 fn.ntmps=true:=by exact rfl):Calls P f ([a0]:List Value).toArray w aBn:=enter (l:=[(0,a0)]) dn aW rfl hle ⟨rfl,trivial⟩ h
theorem la {a0 e6:Value} {f:FuncId} {fn:Func} {c:Code} {aBn:Ending→World→Prop} (dn:P.funcs[f]? = some fn) (aW:fn.body=some c) (h:k2 P c (bodyPost P fn aBn) fn.ntmps [] [(0,a0),(1,e6)] w) (hle:Nat.ble 2 fn.ntmps=true:=by exact rfl):Calls P f ([a0,e6]:List Value).toArray w aBn:=enter (l:=[(0,a0),(1,e6)]) dn aW rfl hle ⟨rfl,rfl,trivial⟩ h
theorem CA {a0 e6 a2:Value} {f:FuncId} {fn:Func} {c:Code} {aBn:Ending→World→Prop} (dn:P.funcs[f]? = some fn) (aW:fn.body=some c) (h:k2 P c (bodyPost P fn aBn) fn.ntmps [] [(0,a0),(1,e6),(2,a2)] w) (hle:Nat.ble 3 fn.ntmps=true:=by exact rfl):Calls P f ([a0,e6,a2]:List Value).toArray w aBn:=enter (l:=[(0,a0),(1,e6),(2,a2)]) dn aW rfl hle ⟨rfl,rfl,rfl,trivial⟩ h
theorem Xt {a0 e6 a2 a3:Value} {f:FuncId} {fn:Func} {c:Code} {aBn:Ending→World→Prop} (dn:P.funcs[f]? = some fn) (aW:fn.body=some c) (h:k2 P c (bodyPost P fn aBn) fn.ntmps [] [(0,a0),(1,e6),(2,a2),(3,a3)] w) (hle:Nat.ble 4 fn.ntmps=true:=by exact rfl):Calls P f ([a0,e6,a2,a3]:List Value).toArray w aBn:=enter (l:=[(0,a0),(1,e6),(2,a2),(3,a3)]) dn aW rfl hle ⟨rfl,rfl,rfl,rfl,trivial⟩ h
theorem Fi {f:FuncId} {fn:Func} {c:Code} {aBn:Ending→World→Prop} (dn:P.funcs[f]? = some fn) (aW:fn.body=some c) (h:Mod [] w w→k2 P c (bodyPost P fn aBn) fn.ntmps [] [] w) (hle:Nat.ble 0 fn.ntmps=true:=by exact rfl):Calls P f ([]:List Value).toArray w aBn:=Xs dn aW (h (Mod.refl [] w)) hle
theorem bs {a0:Value} {f:FuncId} {fn:Func} {c:Code} {aBn:Ending→World→Prop} (dn:P.funcs[f]? = some fn) (aW:fn.body=some c) (h:Mod [] w w→k2 P c (bodyPost P fn aBn) fn.ntmps [] [(0,a0)] w) (hle:Nat.ble 1 fn.ntmps=true:=by exact rfl):Calls P f ([a0]:List Value).toArray w aBn:=l9 dn aW (h (Mod.refl [] w)) hle
theorem cY {a0 e6:Value} {f:FuncId} {fn:Func} {c:Code} {aBn:Ending→World→Prop} (dn:P.funcs[f]? = some fn) (aW:fn.body=some c) (h:Mod [] w w→k2 P c (bodyPost P fn aBn) fn.ntmps [] [(0,a0),(1,e6)] w) (hle:Nat.ble 2 fn.ntmps=true:=by exact rfl):Calls P f ([a0,e6]:List Value).toArray w aBn:=la dn aW (h (Mod.refl [] w)) hle
theorem iZ {a0 e6 a2:Value} {f:FuncId} {fn:Func} {c:Code} {aBn:Ending→World→Prop} (dn:P.funcs[f]? = some fn) (aW:fn.body=some c) (h:Mod [] w w→k2 P c (bodyPost P fn aBn) fn.ntmps [] [(0,a0),(1,e6),(2,a2)] w) (hle:Nat.ble 3 fn.ntmps=true:=by exact rfl):Calls P f ([a0,e6,a2]:List Value).toArray w aBn:=CA dn aW (h (Mod.refl [] w)) hle
theorem RR {a0 e6 a2 a3:Value} {f:FuncId} {fn:Func} {c:Code} {aBn:Ending→World→Prop} (dn:P.funcs[f]? = some fn) (aW:fn.body=some c) (h:Mod [] w w→k2 P c (bodyPost P fn aBn) fn.ntmps [] [(0,a0),(1,e6),(2,a2),(3,a3)] w) (hle:Nat.ble 4 fn.ntmps=true:=by exact rfl):Calls P f ([a0,e6,a2,a3]:List Value).toArray w aBn:=Xt dn aW (h (Mod.refl [] w)) hle
variable {fn:Func} {sG:Value→World→Prop} {t t' M6:Nat} {v v' JZ:Value}
theorem xE (aE:Has n ds l a) (h:iF t l=some v):a.tmps.getD t undef=v:=by simp [aE.get t v h]
theorem ank (bo:fn.results = #[]) (h:sG (.tuple #[]) w):fH (bodyPost P fn (bH sG)) .ret n [] l w:=fun a aE=>⟨aE.defers,_,results_none bo _ _ _,h⟩
theorem Wi (bo:fn.results = #[]) (h:sG (.tuple #[]) w):fH (bodyPost P fn (bH sG)) .normal n [] l w:=fun a aE=>⟨aE.defers,_,results_none bo _ _ _,h⟩
theorem aG (bo:fn.results = #[.tmp t]) (bI:iF t l=some v) (h:sG v w):fH (bodyPost P fn (bH sG)) .ret n [] l w:=fun a aE=>⟨aE.defers,_,results_tmp bo _ _ _,by rw [xE aE bI];exact h⟩
theorem cj (bo:fn.results = #[.tmp t,.tmp t']) (bI:iF t l=some v) (mX:iF t' l=some v') (h:sG (.tuple #[v,v']) w):fH (bodyPost P fn (bH sG)) .ret n [] l w:=fun a aE=>⟨aE.defers,_,results_tmp2 bo _ _ _,by rw [xE aE bI,xE aE mX];exact h⟩
theorem nt (bo:fn.results = #[.tmp t,.tmp t',.tmp M6]) (bI:iF t l=some v) (mX:iF t' l=some v') (J0:iF M6 l=some JZ) (h:sG (.tuple #[v,v',JZ]) w):fH (bodyPost P fn (bH sG)) .ret n [] l w:=fun a aE=>
 ⟨aE.defers,.tuple #[v,v',JZ],by simp [results,bo,aE.get _ _ bI,aE.get _ _ mX,aE.get _ _ J0],h⟩
theorem O2 {ad:Addr} {vs:List Value} {T c:Nat} (bo:fn.results = #[.cell t T]) (bW:lG P T c=true) (bI:iF t l=some (.pointer (some ad))) (aZ:vs.length=c) (mr:pF w ad vs) (h:sG (.agg vs.toArray) w):fH (bodyPost P fn (bH sG)) .ret n [] l w:=fun a aE=>
 ⟨aE.defers,.agg vs.toArray,by simp [results,bo,aE.get _ _ bI,asAddr,hY bW aZ mr],h⟩
theorem gT {a0 e6 a2 a3 a4 a5:Value} {ad:Addr} {T:Nat} (bo:fn.results = #[.cell t T]) (bW:lG P T 6=true) (bI:iF t l=some (.pointer (some ad))) (mr:pF w ad [a0,e6,a2,a3,a4,a5]) (h:sG (.agg ([a0,e6,a2,a3,a4,a5]:List Value).toArray) w):fH (bodyPost P fn (bH sG)) .ret n [] l w:=O2 bo bW bI rfl mr h
theorem Xu {a0 e6 a2 a3 a4 a5 qz vo vp a9 pZ ob a12 sw qA q1 q2:Value} {ad:Addr} {T:Nat} (bo:fn.results = #[.cell t T]) (bW:lG P T 17=true) (bI:iF t l=some (.pointer (some ad))) (mr:pF w ad [a0,e6,a2,a3,a4,a5,qz,vo,vp,a9,pZ,ob,a12,sw,qA,q1,q2]) (h:sG (.agg ([a0,e6,a2,a3,a4,a5,qz,vo,vp,a9,pZ,ob,a12,sw,qA,q1,q2]:List Value).toArray) w):fH (bodyPost P fn (bH sG)) .ret n [] l w:=O2 bo bW bI rfl mr h
theorem Xv {ad:Addr} {vs:List Value} {T c:Nat} (bo:fn.results = #[.cell t T,.tmp t']) (bW:lG P T c=true) (bI:iF t l=some (.pointer (some ad))) (aZ:vs.length=c) (mr:pF w ad vs) (mX:iF t' l=some v') (h:sG (.tuple #[.agg vs.toArray,v']) w):fH (bodyPost P fn (bH sG)) .ret n [] l w:=fun a aE=>
 ⟨aE.defers,.tuple #[.agg vs.toArray,v'],by simp [results,bo,aE.get _ _ bI,aE.get _ _ mX,asAddr,hY bW aZ mr],h⟩
theorem jO {a0 e6 a2 a3 a4 a5:Value} {ad:Addr} {T:Nat} (bo:fn.results = #[.cell t T,.tmp t']) (bW:lG P T 6=true) (bI:iF t l=some (.pointer (some ad))) (mr:pF w ad [a0,e6,a2,a3,a4,a5]) (mX:iF t' l=some v') (h:sG (.tuple #[.agg ([a0,e6,a2,a3,a4,a5]:List Value).toArray,v']) w):fH (bodyPost P fn (bH sG)) .ret n [] l w:=Xv bo bW bI rfl mr mX h
theorem gL {a0 e6 a2 a3 a4 a5 qz vo vp a9 pZ ob a12 sw qA q1 q2:Value} {ad:Addr} {T:Nat} (bo:fn.results = #[.cell t T,.tmp t']) (bW:lG P T 17=true) (bI:iF t l=some (.pointer (some ad))) (mr:pF w ad [a0,e6,a2,a3,a4,a5,qz,vo,vp,a9,pZ,ob,a12,sw,qA,q1,q2]) (mX:iF t' l=some v') (h:sG (.tuple #[.agg ([a0,e6,a2,a3,a4,a5,qz,vo,vp,a9,pZ,ob,a12,sw,qA,q1,q2]:List Value).toArray,v']) w):fH (bodyPost P fn (bH sG)) .ret n [] l w:=Xv bo bW bI rfl mr mX h
theorem adj {ad:Addr} {vs:List Value} {T c:Nat} (bo:fn.results = #[.cell t T,.tmp t',.tmp M6]) (bW:lG P T c=true) (bI:iF t l=some (.pointer (some ad))) (aZ:vs.length=c) (mr:pF w ad vs) (mX:iF t' l=some v') (J0:iF M6 l=some JZ) (h:sG (.tuple #[.agg vs.toArray,v',JZ]) w):fH (bodyPost P fn (bH sG)) .ret n [] l w:=fun a aE=>
 ⟨aE.defers,.tuple #[.agg vs.toArray,v',JZ],by simp [results,bo,aE.get _ _ bI,aE.get _ _ mX,aE.get _ _ J0,asAddr,hY bW aZ mr],h⟩
theorem cp {a0 e6 a2 a3 a4 a5:Value} {ad:Addr} {T:Nat} (bo:fn.results = #[.cell t T,.tmp t',.tmp M6]) (bW:lG P T 6=true) (bI:iF t l=some (.pointer (some ad))) (mr:pF w ad [a0,e6,a2,a3,a4,a5]) (mX:iF t' l=some v') (J0:iF M6 l=some JZ) (h:sG (.tuple #[.agg ([a0,e6,a2,a3,a4,a5]:List Value).toArray,v',JZ]) w):fH (bodyPost P fn (bH sG)) .ret n [] l w:=adj bo bW bI rfl mr mX J0 h
end
section
variable {P:Program} {ops:Array Oper} {Q:Exit→Act→World→Prop} {n:Nat} {ds:List Deferred} {l:List (Nat×Value)} {M:List (Nat×(Value→World→Prop))} {w w':World} {Fin:lj→Prop} {rest:List Oper} {d:Nat} {op:Op} {ty:TypeId} {pos:String} {af:Array Edge} {j:Nat} {b c want:Bool} {v:Value} {x:Operand}
theorem aqt (dY:Cy ops l j=some b) (aW:b=c) (h:fI P ops Q rest n ds ((d,undef)::l) w) (aZ:(c != want)=true:=by exact rfl) (bT:Nat.blt d n=true:=by exact rfl):fI P ops Q (⟨some d,op,ty,pos,af,some (j,want)⟩::rest) n ds l w:=
 as4 dY (fun e=>by subst aW;subst e;simp at aZ) bT h
theorem fP (dY:Cy ops l j=some b) (aW:b=c) (h:hj P ops w n Fin rest ((d,undef)::l) M) (aZ:(c != want)=true:=by exact rfl) (bT:Nat.blt d n=true:=by exact rfl):hj P ops w n Fin (⟨some d,op,ty,pos,af,some (j,want)⟩::rest) l M:=
 as6 dY (fun e=>by subst aW;subst e;simp at aZ) bT h
theorem ah (bo:bE P l ⟨some d,op,ty,pos,af,none⟩ w v w') (h:fI P ops Q rest n ds ((d,v)::l) w') (bT:Nat.blt d n=true:=by exact rfl):fI P ops Q (⟨some d,op,ty,pos,af,none⟩::rest) n ds l w:=hg bo bT h
theorem aa' (dY:Cy ops l j=some b) (aW:b=want) (bo:bE P l ⟨some d,op,ty,pos,af,some (j,want)⟩ w v w') (h:fI P ops Q rest n ds ((d,v)::l) w') (bT:Nat.blt d n=true:=by exact rfl):fI P ops Q (⟨some d,op,ty,pos,af,some (j,want)⟩::rest) n ds l w:=mc dY aW bo bT h
theorem aO (ae:bf l x=some v) (h:fI P ops Q rest n ds ((d,v)::l) w) (bT:Nat.blt d n=true:=by exact rfl):fI P ops Q (⟨some d,.move x,ty,pos,af,none⟩::rest) n ds l w:=hg (fj ae) bT h
theorem a7 (ae:bf l x=some v) (h:fI P ops Q rest n ds ((d,v)::l) w) (bT:Nat.blt d n=true:=by exact rfl):fI P ops Q (⟨some d,.assign x,ty,pos,af,none⟩::rest) n ds l w:=hg (cS ae) bT h
theorem J {K:Act→World→Prop} {y:Code} {Q2:Exit→Act→World→Prop} (nI:∀ n ds l w,k2 P y Q2 n ds l w→∀ a,Has n ds l a→K a w) (h:k2 P y Q2 n ds l w):fI P ops (Exit.then K Q) [] n ds l w:=cx (dq (nI _ _ _ _ h))
theorem av {K:Act→World→Prop} {y:Code} {Q2:Exit→Act→World→Prop} (nI:∀ n ds l w,k2 P y Q2 n ds l w→∀ a,Has n ds l a→K a w) (h:k2 P y Q2 n ds l w):fH (Exit.then K Q) .normal n ds l w:=dq (nI _ _ _ _ h)
theorem aB {x y:Code} (h:∀ {K:Act→World→Prop},(∀ n ds l w,k2 P y Q n ds l w→∀ a,Has n ds l a→K a w)→k2 P x (Exit.then K Q) n ds l w):k2 P (.seq x y) Q n ds l w:=mU fun _ aq=>h aq
theorem aa {lo:List Oper} {id:Nat} {y:Code} (h:∀ {K:Act→World→Prop},(∀ n ds l w,k2 P y Q n ds l w→∀ a,Has n ds l a→K a w)→fI P lo.toArray (Exit.then K Q) lo n ds l w):k2 P (.seq (.region id lo.toArray false) y) Q n ds l w:=mU fun _ aq=>b5 (h aq)
theorem ax (bo:∀ {aJ},Mod [] w aJ→bE P l ⟨some d,op,ty,pos,af,none⟩ aJ v aJ) (h:hj P ops w n Fin rest ((d,v)::l) M) (bT:Nat.blt d n=true:=by exact rfl) (bh:gf op=true:=by exact rfl):hj P ops w n Fin (⟨some d,op,ty,pos,af,none⟩::rest) l M:=asg (fun _ e=>bo e) bT bh h
theorem a8 (aW:b=want) (bo:∀ {aJ},Mod [] w aJ→bE P l ⟨some d,op,ty,pos,af,none⟩ aJ v aJ) (h:hj P ops w n Fin rest ((d,v)::l) M) (dY:Cy ops l j=some b:=by exact rfl) (bT:Nat.blt d n=true:=by exact rfl) (bh:gf op=true:=by exact rfl):hj P ops w n Fin (⟨some d,op,ty,pos,af,some (j,want)⟩::rest) l M:=RO dY aW (fun _ e=>bo e) bT bh h
theorem ay (bo:bE P l ⟨some d,op,ty,pos,af,some (j,want)⟩ w v w') (h:fI P ops Q rest n ds ((d,v)::l) w') (dY:Cy ops l j=some want:=by exact rfl) (bT:Nat.blt d n=true:=by exact rfl):fI P ops Q (⟨some d,op,ty,pos,af,some (j,want)⟩::rest) n ds l w:=mc dY rfl bo bT h
theorem Xw {f:FuncId} {args:Array Value} (bo:lQ P l ⟨some d,op,ty,pos,af,none⟩ w f args) (aZ:Calls P f args w (bH fun u w'=>u=v∧Mod [] w w')) (h:∀ w',Mod [] w w'→fI P ops Q rest n ds ((d,v)::l) w') (bT:Nat.blt d n=true:=by exact rfl):fI P ops Q (⟨some d,op,ty,pos,af,none⟩::rest) n ds l w:=Bn bo aZ bT fun _ w' aH=>aH.1▸h w' aH.2
theorem gN {f:FuncId} {args:Array Value} (bo:lQ P l ⟨some d,op,ty,pos,af,some (j,want)⟩ w f args) (aZ:Calls P f args w (bH fun u w'=>u=v∧Mod [] w w')) (h:∀ w',Mod [] w w'→fI P ops Q rest n ds ((d,v)::l) w') (dY:Cy ops l j=some want:=by exact rfl) (bT:Nat.blt d n=true:=by exact rfl):fI P ops Q (⟨some d,op,ty,pos,af,some (j,want)⟩::rest) n ds l w:=as3 dY rfl bo aZ bT fun _ w' aH=>aH.1▸h w' aH.2
theorem cG {M:List Nat} {w0:World} {f:FuncId} {args:Array Value} (E:Mod M w0 w) (bo:lQ P l ⟨some d,op,ty,pos,af,none⟩ w f args) (aZ:Calls P f args w (bH fun u w'=>u=v∧Mod [] w w')) (h:∀ w',Mod [] w w'→Mod M w0 w'→fI P ops Q rest n ds ((d,v)::l) w') (bT:Nat.blt d n=true:=by exact rfl):fI P ops Q (⟨some d,op,ty,pos,af,none⟩::rest) n ds l w:=Bn bo aZ bT fun _ w' aH=>aH.1▸h w' aH.2 (E.then aH.2)
theorem bD {p:Prop} [h:Decidable p] (cc:p):decide p=true:=decide_eq_true cc
theorem cr {p:Prop} [h:Decidable p] (cc:¬ p):decide p=false:=decide_eq_false cc
theorem ew {a:Bool} (h:¬ a=true):a=false:=Bool.eq_false_iff.2 h
end
theorem bZ':(∀ b,(true&&b)=b)∧(∀ b,(b&&true)=b)∧(∀ b,(false&&b)=false)∧(∀ b,(b&&false)=false)∧(∀ b,(true||b)=true)∧(∀ b,(b||true)=true)∧(∀ b,(false||b)=b)∧(∀ b,(b||false)=b)∧(!true)=false∧(!false)=true:=by simp
section
variable {A A' M:List Nat} {w w':World}
theorem bq.b1 {d:D} {u:Value} (h:bq A w d u) (k:Mod [] w w'):bq A w' d u:=bq.to k (by simp) (fun x ae=>.inl ae) d u h
theorem bq.toM {d:D} {u:Value} (h:bq A w d u) (k:Mod M w w') (eX:∀ x∈M,x∈A):bq A w' d u:=bq.to k eX (fun x ae=>.inl ae) d u h
theorem bq.eu {d:D} {u:Value} (h:bq A w d u) (dy:∀ x∈A',x∈A):bq A' w d u:=bq.to (Mod.refl [] w) (by simp) (fun x ae=>.inl (dy x ae)) d u h
theorem bq.more {d:D} {u:Value} (h:bq A w d u) (dy:∀ x∈A',x∈A∨w.heap.size≤x):bq A' w d u:=bq.to (Mod.refl [] w) (by simp) dy d u h
theorem ao.b1 {ds:List D} {us:List Value} (h:ao A w ds us) (k:Mod [] w w'):ao A w' ds us:=ao.to k (by simp) (fun x ae=>.inl ae) ds us h
theorem ao.toM {ds:List D} {us:List Value} (h:ao A w ds us) (k:Mod M w w') (eX:∀ x∈M,x∈A):ao A w' ds us:=ao.to k eX (fun x ae=>.inl ae) ds us h
theorem ao.eu {ds:List D} {us:List Value} (h:ao A w ds us) (dy:∀ x∈A',x∈A):ao A' w ds us:=ao.to (Mod.refl [] w) (by simp) (fun x ae=>.inl (dy x ae)) ds us h
theorem ao.more {ds:List D} {us:List Value} (h:ao A w ds us) (dy:∀ x∈A',x∈A∨w.heap.size≤x):ao A' w ds us:=ao.to (Mod.refl [] w) (by simp) dy ds us h
/-! ### rows of values that are their own reading -/
variable {α:Type}
def flat (sz:Nat) (cells:α→List Value) (xs:List α):D:=.jH sz (xs.map fun x=>(cells x).map D.v)
theorem He:∀ {cs us:List Value},ao A w (cs.map D.v) us→us=cs
 | [],us,h=>by simpa [ao] using h
 | c::cs,us,h=>by
  simp only [List.map_cons,ao] at h
  obtain⟨u,ga,rfl,h1,aq⟩:=h
  rw [h1.np,He aq]
theorem CB:∀ {cs:List Value},(∀ c∈cs,c.oneCell'=true)→ao A w (cs.map D.v) cs
 | [],_=>rfl
 | c::cs,h=>ao.ig (bq.cN (h c (by simp))) (CB fun x ae=>h x (by simp [ae]))
theorem hh {sz:Nat} {cells:α→List Value} {xs:List α} {u:Value} (h:bq A w (flat sz cells xs) u):∃ ad c,u = .slice ad xs.length c∧xs.length≤c∧c≤9223372036854775807:=by
 obtain⟨ad,c,h1,aq,bb⟩:=h.vL;simp only [List.length_map] at h1 aq;exact⟨ad,c,h1,aq,bb⟩
theorem h7 {sz n c i:Nat} {cells:α→List Value} {xs:List α} {ad:Option Addr} {x:α} (h:bq A w (flat sz cells xs) (.slice ad n c)) (hi:xs[i]? = some x):∃ a,ad=some a∧pF w (a.add (i*sz)) (cells x)∧(cells x).length=sz:=by
 obtain⟨a,us,h1,aq,bb,bP,_⟩:=bq.at_ (i:=i) (r:=(cells x).map D.v) h (by simp [hi]);have:=He aq;subst this;exact⟨a,h1,bP,bb⟩
theorem vC (cells:α→List Value) (xs:List α):(xs.map fun x=>(cells x).map D.v).flatten=((xs.map cells).flatten).map D.v:=by
 induction xs with
 | nil=>rfl
 | cons x xs ea=>simp [ea]
theorem Own.flat {e sz n:Nat} {v:Value} {cells:α→List Value} {xs:List α} (h:Own w e sz v n ((xs.map cells).flatten)) (cb:∀ x∈xs,(cells x).length=sz) (h1:∀ x∈xs,∀ c∈cells x,c.oneCell'=true) (cu:xs.length=n) (dy:∀ x∈bk v,x∉A):bq A w (flat sz cells xs) v:=by
 refine h.rep ?_ ?_ (by simpa using cu) dy
 ·rw [vC];exact CB fun c aZ=>by
   obtain⟨cs,aq,bb⟩:=List.mem_flatten.1 aZ;obtain⟨x,bP,rfl⟩:=List.mem_map.1 aq;exact h1 x bP c bb
 intro r bo;obtain⟨x,bP,rfl⟩:=List.mem_map.1 bo;simp [cb x bP]
theorem Src.flat {P:Program} {s8 yu sz:Nat} {cells:α→List Value} {xs:List α} {v:Value} (hk:P.underlying s8=some (.slice yu)) (h:bq A w (flat sz cells xs) v):Src P sz s8 v xs.length ((xs.map cells).flatten) w:=by
 obtain⟨vs,h1,aq,bb⟩:=Src.rep (P:=P) hk h;rw [vC] at h1;have:=He h1;subst this;simpa using bb
end
/-! ## Structs held against each other -/
section
variable {P:Program} {n:Nat} {l:List (Nat×Value)} {w w':World}
variable {d:Nat} {ty:TypeId} {pos:String} {af:Array Edge}
variable {dd:Option Nat} {gg:Option (Nat×Bool)} {x y z:Operand} {t t':TypeId}
def anl:Value→Value→Option Bool
 | .int _ a,.int _ b=>some (decide (a=b))
 | .bool a,.bool b=>some (decide (a=b))
 | .string a,.string b=>some (decide (a.data.toList=b.data.toList))
 | _,_=>none
def Fj:List Value→List Value→Option Bool
 | [],[]=>some true
 | u::us,v::vs=>match anl u v,Fj us vs with
  | some a,some b=>some (a&&b)
  | _,_=>none
 | _,_=>none
def okF (P:Program):List Field→Nat→List Value→List Value→Bool
 | [],_,[],[]=>true
 | f::rY,i,u::us,v::vs=>f.name != "_" && f.offset == i&&pa P f.type&&(match P.underlying f.type,u,v with
  | some (.int _),.int k _,.int kS _=>k == kS
  | some .bool,.bool _,.bool _=>true
  | some .string,.string _,.string _=>true
  | _,_,_=>false)&&okF P rY (i+1) us vs
 | _,_,_,_=>false
def adk (P:Program) (t:Nat) (us vs:List Value):Bool:=match P.underlying t with
 | some (.struct rY)=>!P.stoodInHeld t && !P.eqGuardType P.depth t&&okF P rY.toList 0 us vs
 | _=>false
theorem vD {dp:Nat}:∀ (rY:List Field) (i:Nat) (us vs:List Value) (xs M0:Array Value) (b:Bool),okF P rY i us vs=true→(∀ j u,us[j]? = some u→xs[i+j]? = some u)→(∀ j u,vs[j]? = some u→M0[i+j]? = some u)→Fj us vs=some b→
  (Op.eqFields (dp+1) xs M0 rY).run P w = .ok b w
 | [],i,us,vs,xs,M0,b,h,ae,ba,aW=>by
  cases us <;> cases vs <;> simp [okF] at h
  simp [Fj] at aW
  subst aW
  simp [Op.eqFields]
 | f::rY,i,us,vs,xs,M0,b,h,ae,ba,aW=>by
  cases us with
  | nil=>simp [okF] at h
  | cons u us=>
   cases vs with
   | nil=>simp [okF] at h
   | cons v vs=>
    simp only [okF,Bool.and_eq_true,bne_iff_ne,ne_eq,beq_iff_eq] at h
    obtain⟨⟨⟨⟨h1,aq⟩,bb⟩,bP⟩,cZ⟩:=h
    obtain⟨ac',inf,fy,lL,lZ,l2⟩:=u0 bb
    simp only [Fj] at aW
    split at aW
    rotate_left
    ·cases aW
    rename_i dN fz bu ee
    injection aW with aW
    have ea:=vD (dp:=dp) rY (i+1) us vs xs M0 fz cZ (fun j oO eD=>by have:=ae (j+1) oO (by simpa using eD);rwa [show i+(j+1)=i+1+j by omega] at this) (fun j oO eD=>by have:=ba (j+1) oO (by simpa using eD);rwa [show i+(j+1)=i+1+j by omega] at this) ee
    have anm:=ae 0 u rfl
    have RS:=ba 0 v rfl
    rw [Nat.add_zero] at anm RS
    have Gv:(part f.type xs f.offset).run P w = .ok u w:=by simp [part,mb fy,lZ,aq,anm]
    have HS:(part f.type M0 f.offset).run P w = .ok v w:=by simp [part,mb fy,lZ,aq,RS]
    have e:(Op.equalIn (dp+1) f.type u v).run P w = .ok dN w:=by
     rw [fy] at bP
     cases ac' <;> cases u <;> (try (simp at bP;done)) <;> cases v <;> (try (simp at bP;done)) <;> simp only [anl] at bu <;> injection bu with bu <;> subst bu
     ·rw [run_equalIn_bool' w dp f.type _ _ fy,uq]
     ·simp only [beq_iff_eq] at bP
      subst bP
      rw [run_equalIn_int w dp f.type _ _ _ _ fy,uq]
     rw [run_equalIn_string w dp f.type _ _ fy,ByteArray.toList_eq,ByteArray.toList_eq,uq]
    simp only [Op.eqFields,h1,ne_eq,not_false_eq_true,if_true,Sem.run_bind,Gv,HS,e,Result.andThen_ok]
    cases dN
    ·simp at aW ⊢
     exact aW
    simp at aW ⊢
    rw [ea,aW]
theorem RT {us vs:List Value} {b:Bool} (bh:adk P t us vs=true) (aW:Fj us vs=some b) (x y:Operand):((do eqGuard .neq t x y (.agg us.toArray) (.agg vs.toArray);binOp .neq t (.agg us.toArray) (.agg vs.toArray)):Sem Value).run P w = .ok (.bool (!b)) w:=by
 unfold adk at bh
 split at bh
 ·rename_i rY h1
  simp only [Bool.and_eq_true,Bool.not_eq_true'] at bh;obtain⟨⟨aq,bb⟩,bP⟩:=bh;have cZ:P.fieldsOf t=rY:=by simp [Program.fieldsOf,h1]
  have fy:=run_equalIn_agg (P:=P) w 9999 t us.toArray vs.toArray (by rw [cZ];exact h1) aq;rw [cZ] at fy;have lL:=vD (P:=P) (w:=w) (dp:=9998) rY.toList 0 us vs us.toArray vs.toArray b bP (fun j u eD=>by simpa using eD) (fun j u eD=>by simpa using eD) aW;rw [Sem.run_bind,run_eqGuard_agg w .neq t x y _ _ bb];simp only [Result.andThen_ok];rw [run_neq_struct];rw [show(10000:Nat)=9999+1 from rfl,fy,show(9999:Nat)=9998+1 from rfl,lL];rfl
 cases bh
theorem adl {us vs:List Value} {b:Bool} (bh:adk P t us vs=true) (ae:bf l x=some (.agg us.toArray)) (ba:bf l y=some (.agg vs.toArray)) (aW:Fj us vs=some b):bE P l ⟨dd,.binOp .neq t x y t',ty,pos,af,gg⟩ w (.bool (!b)) w:=fun ρ h=>by
 have:=RT (w:=w) bh aW x y;simp only [execOp,h _ _ ae,h _ _ ba,Sem.run_bind];rw [Sem.run_bind] at this;rw [this];rfl
end
/-! ## Regions that draw: some operations first, a head in whatever order, a tail one behind the other
'ps': operations that touch no memory (their value is the same in all worlds): they may be taken first. 'hs': the head. 'ts': the tail: each waits for the one ahead of it, the first for the head. -/
section
variable {P:Program} {ops:Array Oper} {md:Region.Mode} {aBn:World→World→Prop} {C:World→Prop} {n:Nat} {ds:List Deferred} {Q:Exit→Act→World→Prop} {w w':World} {l:List (Nat×Value)} {a:Act}
def nx (listed:Array Bool):List Nat→Array Bool
 | []=>listed
 | i::r=>nx (listed.setIfInBounds i true) r
def sx (md:Region.Mode) (ops:Array Oper):List Nat→Array Bool→Bool
 | [],listed=>(Region.ready md ops listed).isEmpty
 | t::iz,listed=>decide (Region.ready md ops listed = [t])&&sx md ops iz (listed.setIfInBounds t true)
def CC (md:Region.Mode) (ops:Array Oper) (iz:List Nat):List Nat→Array Bool→Bool
 | [],listed=>sx md ops iz listed
 | i::bh,listed=>(Region.ready md ops listed).contains i&&Region.free md ops listed i&&CC md ops iz bh (listed.setIfInBounds i true)
def y2 (md:Region.Mode) (ops:Array Oper):List Nat→Array Bool→Bool
 | [],_=>true
 | i::gC,listed=>(Region.ready md ops listed).contains i&&Region.free md ops listed i&&y2 md ops gC (listed.setIfInBounds i true)
def CD (md:Region.Mode) (ops:Array Oper) (t0:Nat):List Nat→Bool
 | []=>true
 | i::bh=>(bh ++ [t0]).any (fun j=>Region.waitsFor md ops j i)&&CD md ops t0 bh
def AY (md:Region.Mode) (ops:Array Oper):Nat→List Nat→Bool
 | _,[]=>true
 | p,t::iz=>Region.waitsFor md ops t p&&AY md ops t iz
def J' (md:Region.Mode) (ops:Array Oper) (listed:Array Bool):Bool:=
 (List.range ops.size).all fun j=>!listed.getD j false||match ops[j]? with
  | some u1=>u1.after.all fun e=>!Region.binds md e||listed.getD e.on false
  | none=>true
structure sy (md:Region.Mode) (ops:Array Oper) (bh:List Nat) (iz:List Nat) (listed:Array Bool):Prop where
 size:listed.size=ops.size
 closed:∀ j u1,ops[j]? = some u1→listed.getD j false=true→∀ e∈u1.after,Region.binds md e=true→listed.getD e.on false=true
 tail:∀ t∈iz,listed.getD t true=false
theorem sy.set {bh iz:List Nat} {i:Nat} {listed:Array Bool} (inv:sy md ops bh iz listed) (hi:i∈Region.ready md ops listed) (Xp:i∉iz):sy md ops bh iz (listed.setIfInBounds i true):=by
 obtain⟨_,Dt,as7,lD⟩:=mem_ready.1 hi;refine⟨by simp [inv.size],fun j u1 eD cb e he aW=>?_,fun t bW=>by rw [getD_set_ne true (fun e=>by subst e;exact Xp bW)];exact inv.tail t bW⟩
 by_cases z6:i=j
 ·subst z6;have:u1=Dt:=Option.some.inj (eD.symm.trans as7);subst this;exact getD_set_true (lD e he aW)
 rw [getD_set_ne false z6] at cb;exact getD_set_true (inv.closed j u1 eD cb e he aW)
theorem xF {ts0:List Nat} {listed:Array Bool}:∀ (iz:List Nat) (p:Nat),(∀ t∈p::iz,t∈ts0)→AY md ops p iz=true→(∀ t∈ts0,listed.getD t true=false)→∀ t∈iz,t∉Region.ready md ops listed
 | [],_,_,_,_,t,bW=>by cases bW
 | t1::iz,p,k9,aZ,mz,t,bW=>by
  simp only [AY,Bool.and_eq_true] at aZ
  rcases cB bW with rfl | GO
  ·intro bo
   obtain⟨_,ann,Xx,lD⟩:=mem_ready.1 bo
   obtain⟨xB,Xl,e,he,aW,RU⟩:=Region.waitsFor_spec aZ.1
   have:xB=ann:=Option.some.inj (Xl.symm.trans Xx)
   subst this
   have aq:=lD e he aW
   rw [RU,getD_both (mz p (k9 p (by simp)))] at aq
   cases aq
  exact xF iz t1 (fun t bW=>k9 t (by simp at bW ⊢;exact .inr bW)) aZ.2 mz t GO
theorem rl {t0:Nat} {listed:Array Bool} (jV:listed.size=ops.size) (lJ:∀ j u1,ops[j]? = some u1→listed.getD j false=true→∀ e∈u1.after,Region.binds md e=true→listed.getD e.on false=true) :
  ∀ (bh:List Nat),CD md ops t0 bh=true→∀ i∈bh,listed.getD i true=false→t0∉Region.ready md ops listed
 | [],_,i,hi,_=>by cases hi
 | cg::bh,cb,i,hi,mz=>by
  simp only [CD,Bool.and_eq_true] at cb
  rcases cB hi with rfl | as8
  rotate_left
  ·exact rl jV lJ bh cb.2 i as8 mz
  obtain⟨j,eD,hw⟩:=List.any_eq_true.1 cb.1
  obtain⟨u1,Au,e,he,aW,RU⟩:=Region.waitsFor_spec hw
  rcases List.mem_append.1 eD with xt | xt
  ·cases ano:listed.getD j false with
   | true=>
    have aq:=lJ j u1 Au ano e he aW
    rw [RU,getD_both mz] at aq
    cases aq
   | false=>
    have as9:j<listed.size:=by rw [jV];exact(Array.getElem?_eq_some_iff.1 Au).1
    exact rl jV lJ bh cb.2 j xt (getD_in as9 ano)
  simp only [List.mem_singleton] at xt
  subst xt
  intro bo
  obtain⟨_,ann,Xx,lD⟩:=mem_ready.1 bo
  have:u1=ann:=Option.some.inj (Au.symm.trans Xx)
  subst this
  have aq:=lD e he aW
  rw [RU,getD_both mz] at aq
  cases aq
def Fk (P:Program) (md:Region.Mode) (ops:Array Oper) (aBn:World→World→Prop) (C:World→Prop) (n:Nat) (iz:List Nat) (L:Array Bool→lj→Prop):Nat→Array Bool→lj→Prop
 | 0,listed,N=>L listed N
 | f+1,listed,N=>Region.ready md ops listed≠[]∧
  ∀ i∈Region.ready md ops listed,i∉iz∧∀ o,ops[i]? = some o→∃ V,aBq P ops aBn C n N o V∧Fk P md ops aBn C n iz L f (listed.setIfInBounds i true) (N.put o V)
theorem ux {L:Array Bool→lj→Prop} {w0:World} {ds:List Deferred} {iz:List Nat} {g:Nat} (pS:Cu aBn C)
  (xA:∀ listed N a w,N.lasts aBn→a.defers=ds→C w→aBn w0 w→N.all n a w→L listed N→wpAny P md ops Q g listed a w):∀ (f:Nat) (listed:Array Bool) (N:lj) (a:Act) (w:World),N.lasts aBn→a.defers=ds→C w→aBn w0 w→N.all n a w→
  Fk P md ops aBn C n iz L f listed N→wpAny P md ops Q (f+g) listed a w
 | 0,listed,N,a,w,cg,h1,aq,bb,bP,h=>by rw [Nat.zero_add];exact xA listed N a w cg h1 aq bb bP h
 | f+1,listed,N,a,w,cg,h1,aq,bb,bP,h=>by
  rw [show f+1+g=(f+g)+1 by omega]
  refine⟨fun bo=>absurd bo h.1,fun i hi=>?_⟩
  obtain⟨_,o,fv,_⟩:=mem_ready.1 hi
  obtain⟨V,rF,iI⟩:=(h.2 i hi).2 o fv
  exact wv pS cg fv rF aq bP fun ye w' bT h4 dR gy=>ux pS xA f _ _ ye w' (cg.put rF.lasts) (bT.trans h1) h4 (pS.trans _ _ _ bb dR) gy iI
theorem zR {i:Nat} {Dt:Oper} {V:Value→World→Prop} {L:Array Bool→lj→Prop} {vP iz:List Nat} (hi:ops[i]? = some Dt) (Xp:i∉iz)
  (hw:∀ listed,sy md ops vP iz listed→listed.getD i true=false→∀ t∈iz,t∉Region.ready md ops listed)
  (M5:∀ listed N,L listed N→∀ j∈Region.ready md ops listed,j∈iz) :
  ∀ (f:Nat) (listed:Array Bool) (N:lj),sy md ops vP iz listed→
   (∀ j u1,ops[j]? = some u1→j≠i→listed.getD j true=false→(∀ e∈u1.after,Region.binds md e=true→e.on≠i)→Dt.apart ops u1=true)→
   i∈Region.ready md ops listed→aBq P ops aBn C n N Dt V→
   Fk P md ops aBn C n iz L f (listed.setIfInBounds i true) (N.put Dt V)→Fk P md ops aBn C n iz L (f+1) listed N:=by
 intro f
 induction f with
 | zero=>
  intro listed N inv _ bo rF H
  have mz:=(mem_ready.1 bo).1
  refine⟨fun h=>(by rw [h] at bo;cases bo),fun j eD=>?_⟩
  have DW:j∉iz:=fun bW=>hw listed inv mz j bW eD
  refine⟨DW,fun o fv=>?_⟩
  by_cases oY:j=i
  ·subst oY
   have:o=Dt:=Option.some.inj (fv.symm.trans hi)
   subst this
   exact⟨V,rF,H⟩
  exact absurd (M5 _ _ H j (ready_mono eD oY)) DW
 | succ f ea=>
  intro listed N inv uu bo rF H
  have mz:=(mem_ready.1 bo).1
  refine⟨fun h=>(by rw [h] at bo;cases bo),fun j eD=>?_⟩
  have DW:j∉iz:=fun bW=>hw listed inv mz j bW eD
  refine⟨DW,fun o fv=>?_⟩
  by_cases oY:j=i
  ·subst oY
   have:o=Dt:=Option.some.inj (fv.symm.trans hi)
   subst this
   exact⟨V,rF,H⟩
  obtain⟨Xm,Xn,iI⟩:=(H.2 j (ready_mono eD oY)).2 o fv
  obtain⟨zO,u1,Au,lD⟩:=mem_ready.1 eD
  have:o=u1:=Option.some.inj (fv.symm.trans Au)
  subst this
  have si:∀ e∈o.after,Region.binds md e=true→e.on≠i:=fun e he aW heq=>by
   have h1:=lD e he aW
   rw [heq,getD_both mz] at h1
   cases h1
  obtain⟨e6,a2,a3⟩:=Oper.apart_spec (uu j o Au oY zO si)
  refine⟨Xm,Xn.past e6,ea (listed.setIfInBounds j true) (N.put o Xm) (inv.set eD DW) (fun k ok hk Xo mz jN=>?_) (ready_mono bo (Ne.symm oY)) (rF.ahead a3) ?_⟩
  ·refine uu k ok hk Xo ?_ jN
   by_cases JU:j=k
   ·subst JU;exact zO
   rw [getD_set_ne true JU] at mz;exact mz
  rw [Array.setIfInBounds_comm _ _ oY,← lj.put_comm N V Xm a2]
  exact iI
def pick (ops:Array Oper) (is:List Nat):List Oper:=is.filterMap (ops[·]?)
theorem Ka {iz:List Nat} {listed:Array Bool} (h:sx md ops iz listed=true):∀ j∈Region.ready md ops listed,j∈iz:=by
 cases iz with
 | nil=>intro j eD;simp only [sx,List.isEmpty_iff] at h;rw [h] at eD;cases eD
 | cons t iz=>
  intro j eD;simp only [sx,Bool.and_eq_true,decide_eq_true_eq] at h;rw [h.1] at eD;simp only [List.mem_singleton] at eD;exact eD▸List.mem_cons_self ..
theorem Fl {vP iz:List Nat} {Fin:lj→Prop} (hw:∀ listed,sy md ops vP iz listed→(∃ i∈vP,listed.getD i true=false)→∀ t∈iz,t∉Region.ready md ops listed) :
  ∀ (bh:List Nat) (listed:Array Bool) (N:lj),(∀ i∈bh,i∈vP)→(∀ i∈bh,i∉iz)→sy md ops vP iz listed→
  CC md ops iz bh listed=true→TW P ops aBn C n Fin (pick ops bh) N→
  Fk P md ops aBn C n iz (fun oZ afg=>sx md ops iz oZ=true∧Fin afg) bh.length listed N
 | [],listed,N,_,_,_,ev,h=>⟨by simpa [CC] using ev,h⟩
 | i::bh,listed,N,k9,M7,inv,ev,h=>by
  simp only [CC,Bool.and_eq_true] at ev
  obtain⟨⟨bo,dn⟩,Hc⟩:=ev
  have qt:i∈Region.ready md ops listed:=by simpa using bo
  obtain⟨mz,o,fv,_⟩:=mem_ready.1 qt
  have cc:pick ops (i::bh)=o::pick ops bh:=by simp [pick,List.filterMap_cons,fv]
  rw [cc] at h
  obtain⟨V,rF,iI⟩:=h
  exact zR fv (M7 i (by simp)) (fun listed inv hu=>hw listed inv ⟨i,k9 i (by simp),hu⟩) (fun oZ afg pS=>Ka pS.1) bh.length listed N inv (Region.free_spec fv dn) qt rF
   (Fl hw bh _ _ (fun i hi=>k9 i (by simp [hi])) (fun i hi=>M7 i (by simp [hi])) (inv.set qt (M7 i (by simp))) Hc iI)
theorem ny:∀ (iz:List Nat) (listed:Array Bool) (a:Act) (w:World),sx md ops iz listed=true→wpList P ops Q (pick ops iz) a w→wpAny P md ops Q iz.length listed a w
 | [],listed,a,w,ev,h=>⟨by simpa [sx] using ev,h⟩
 | t::iz,listed,a,w,ev,h=>by
  simp only [sx,Bool.and_eq_true,decide_eq_true_eq] at ev
  have bo:t∈Region.ready md ops listed:=by rw [ev.1];simp
  obtain⟨_,o,fv,_⟩:=mem_ready.1 bo
  have cc:pick ops (t::iz)=o::pick ops iz:=by simp [pick,List.filterMap_cons,fv]
  rw [cc] at h
  refine⟨fun h1=>(by rw [ev.1] at h1;cases h1),fun i hi=>?_⟩
  rw [ev.1] at hi
  have as':i=t:=by simpa using hi
  subst as'
  have hw:wpOp P ops Q i (wpList P ops Q (pick ops iz)) a w:=by unfold wpOp;simp only [fv];exact h
  exact wpOp_mono (fun ye w' fW=>ny iz _ ye w' ev.2 fW) hw
def adm (P:Program) (n:Nat) (K:List (Nat×Value)→Prop):List Oper→List (Nat×Value)→Prop
 | [],l=>K l
 | o::rest,l=>∃ d v,o.dst=some d∧o.guard=none∧gf o.op=true∧Nat.blt d n=true∧(∀ w,bE P l o w v w)∧adm P n K rest ((d,v)::l)
theorem jG {K:List (Nat×Value)→Prop} (h:K l):adm P n K [] l:=h
theorem abV {K:List (Nat×Value)→Prop} {rest:List Oper} {d:Nat} {op:Op} {ty:TypeId} {pos:String} {af:Array Edge} {v:Value} (bo:∀ w,bE P l ⟨some d,op,ty,pos,af,none⟩ w v w) (bT:Nat.blt d n=true) (bh:gf op=true) (h:adm P n K rest ((d,v)::l)) :
  adm P n K (⟨some d,op,ty,pos,af,none⟩::rest) l:=⟨d,v,rfl,rfl,bh,bT,bo,h⟩
theorem rm (Fm:∀ c a w,¬ Q (.panic c) a w) (vz:∀ (j:Nat) (o:Oper) cs b,ops[j]? = some o→o.op≠.select cs b) {K:List (Nat×Value)→Prop} {g:Nat}:∀ (gC:List Nat) (listed:Array Bool) (l:List (Nat×Value)) (a:Act),Has n ds l a→y2 md ops gC listed=true→adm P n K (pick ops gC) l→
  (∀ l a,Has n ds l a→K l→wpAny P md ops Q g (nx listed gC) a w)→wpAny P md ops Q (gC.length+g) listed a w
 | [],listed,l,a,aE,_,h,nI=>by
  have:([]:List Nat).length+g=g:=by simp
  rw [this]
  exact nI l a aE h
 | i::gC,listed,l,a,aE,ev,h,nI=>by
  simp only [y2,Bool.and_eq_true] at ev
  obtain⟨⟨bo,dn⟩,Hc⟩:=ev
  have qt:i∈Region.ready md ops listed:=by simpa using bo
  obtain⟨_,o,fv,_⟩:=mem_ready.1 qt
  have cc:pick ops (i::gC)=o::pick ops gC:=by simp [pick,List.filterMap_cons,fv]
  rw [cc] at h
  obtain⟨d,v,h1,aq,bb,bP,cZ,fy⟩:=h
  have hlen:(i::gC).length+g=(gC.length+g)+1:=by simp;omega
  rw [hlen]
  have ba:Yields P ops o v a:=.inl ⟨by simp [Region.wanted,aq],fun w=>cZ w a.eval (fun x u ae=>aE.rX ae)⟩
  have y0:Has n ds ((d,v)::l) (a.put o.dst v):=by rw [h1];exact aE.put bP v
  exact wpAny_first fv vz (fun c a w e8=>absurd e8 (Fm c _ w)) (gC.length+g) listed a w (Region.free_spec fv dn) qt ba
   (rm Fm vz gC (listed.setIfInBounds i true) ((d,v)::l) (a.put o.dst v) y0 Hc fy nI)
def Xy (ops:Array Oper) (gC bh:List Nat) (t0:Nat) (iz:List Nat):Bool:=
 Region.noSelect ops&&decide (gC.length+(bh.length+(iz.length+1))=ops.size)&&y2 .any ops gC (Array.replicate ops.size false) &&
 J' .any ops (nx (Array.replicate ops.size false) gC)&&(t0::iz).all (fun t=>!(nx (Array.replicate ops.size false) gC).getD t true) &&
 bh.all (fun i=>!(t0::iz).contains i)&&CD .any ops t0 bh&&AY .any ops t0 iz&&CC .any ops (t0::iz) bh (nx (Array.replicate ops.size false) gC)
theorem wx:∀ (gC:List Nat) (listed:Array Bool),(nx listed gC).size=listed.size
 | [],_=>rfl
 | i::gC,listed=>by simp [nx,wx gC]
theorem ks {id:Nat} {lo:List Oper} (gC bh:List Nat) (t0:Nat) (iz:List Nat) (hm:P.follows .mixedOrders=true) (ev:Xy lo.toArray gC bh t0 iz=true) (Fm:∀ c a w,¬ Q (.panic c) a w)
  (h:adm P n (fun l=>hj P lo.toArray w n (fun N=>∀ a w',a.defers=ds→Mod [] w w'→N.all n a w'→wpList P lo.toArray Q (pick lo.toArray (t0::iz)) a w') (pick lo.toArray bh) l []) (pick lo.toArray gC) l):k2 P (.region id lo.toArray true) Q n ds l w:=by
 intro a aE
 unfold Xy at ev
 simp only [Bool.and_eq_true,decide_eq_true_eq] at ev
 obtain⟨⟨⟨⟨⟨⟨⟨⟨vz,hlen⟩,cc⟩,lJ⟩,Dz⟩,ahR⟩,M8⟩,ahS⟩,Kb⟩:=ev
 refine wp_region_any hm ?_
 rw [← hlen]
 have jV:(nx (Array.replicate lo.toArray.size false) gC).size=lo.toArray.size:=by rw [wx];simp
 have Xz:∀ t∈t0::iz,(nx (Array.replicate lo.toArray.size false) gC).getD t true=false:=fun t bW=>by
  have:=List.all_eq_true.1 Dz t bW
  simpa using this
 have JW:sy .any lo.toArray bh (t0::iz) (nx (Array.replicate lo.toArray.size false) gC):=by
  refine⟨jV,fun j u1 eD cb e he aW=>?_,Xz⟩
  have h1:=List.all_eq_true.1 lJ j (List.mem_range.2 (Array.getElem?_eq_some_iff.1 eD).1)
  rw [cb,eD] at h1
  simp only [Bool.not_true,Bool.false_or,Array.all_eq_true_iff_forall_mem] at h1
  have aq:=h1 e he
  rw [aW] at aq
  simpa using aq
 have hw:∀ listed,sy .any lo.toArray bh (t0::iz) listed→(∃ i∈bh,listed.getD i true=false)→∀ t∈t0::iz,t∉Region.ready .any lo.toArray listed:=by
  rintro listed inv ⟨i,hi,mz⟩ t bW
  rcases cB bW with rfl | GO
  ·exact rl inv.size inv.closed bh M8 i hi mz
  exact xF (ts0:=t0::iz) iz t0 (fun t h=>h) ahS inv.tail t GO
 have M9:(Array.replicate (gC.length+(bh.length+(iz.length+1))) false)=Array.replicate lo.toArray.size false:=by rw [hlen]
 rw [M9]
 refine rm (n:=n) (ds:=ds) Fm (Region.noSelect_spec vz) gC _ l a aE cc h fun l a aE kp=>?_
 have H:=Fl (md:=.any) hw bh _ (tx l []) (fun i hi=>hi) (fun i hi=>by
  have:=List.all_eq_true.1 ahR i hi
  simpa using this) JW Kb kp
 exact ux (n:=n) (ds:=ds) (w0:=w) (Q:=Q) (g:=iz.length+1) (later w) (fun listed N a w' _ bT h4 _ gy pS=>ny (md:=.any) (t0::iz) listed a w' pS.1 (pS.2 a w' bT h4 gy)) _ _ (tx l []) a _ (u2 l) aE.defers (Mod.drew [] w) (Mod.drew [] w) (AX aE) H
end
section
variable {P:Program} {ops:Array Oper} {Q:Exit→Act→World→Prop} {n:Nat} {ds:List Deferred} {l:List (Nat×Value)} {w w':World} {a:Act}
variable {rest:List Oper} {d:Nat} {op:Op} {ty:TypeId} {pos:String} {af:Array Edge}
variable {dd:Option Nat} {gg:Option (Nat×Bool)} {x y z:Operand} {t t':TypeId} {k kS:IntKind} {m gZ r:Int}
/-! ## Operations whose value is told in other words -/
theorem Own.put {e sz c g:Nat} {v:Value} {vs:List Value} (h:Own w e sz v c vs) (k:Mod [g] w w') (D:∀ x∈bk v,x≠g):Own w' e sz v c vs:=h.mod k fun x ae dY=>D x ae (by simpa using dY)
theorem j6.bU {e sz c g T:Nat} {cs:List Value} {v:Value} {vs:List Value} (N:j6 w w' g T cs) (h:Own w e sz v c vs):∀ x∈bk v,x≠g:=fun x ae=>Nat.ne_of_lt (N.at_▸h.lt x ae)
theorem App.ne {e sz c g T:Nat} {cs:List Value} {v v':Value} {vs:List Value} (h:App w w' e sz v v' c vs) (D:∀ x∈bk v,x≠g) (B:aF w g T cs):∀ x∈bk v',x≠g:=fun x ae=>by
 rcases h.lH x ae with h1 | h1
 ·exact D x h1
 have:=B.lt;omega
theorem App.ge {e sz c:Nat} {w0:World} {M:List Nat} {v v':Value} {vs:List Value} (h:App w w' e sz v v' c vs) (L:∀ x∈bk v,w0.heap.size≤x) (E:Mod M w0 w):∀ x∈bk v',w0.heap.size≤x:=fun x ae=>by
 rcases h.lH x ae with h1 | h1
 ·exact L x h1
 exact Nat.le_trans E.size h1
theorem pF.I {ad:Addr} {vs:List Value} (h:pF w ad vs) (k:Mod [] w w'):pF w' ad vs:=h.mod k (by simp)
theorem oH {b:Bool} {u:Value} (aW:b=true) (ae:bf l x=some (.bool b)) (ba:bf l y=some u):bE P l ⟨dd,.pick x y z,ty,pos,af,gg⟩ w u w:=fun ρ h=>by
 subst aW;simp [execOp,h _ _ ae,h _ _ ba,asBool]
theorem hG {b:Bool} {v:Value} (aW:b=false) (ae:bf l x=some (.bool b)) (cP:bf l z=some v):bE P l ⟨dd,.pick x y z,ty,pos,af,gg⟩ w v w:=fun ρ h=>by
 subst aW;simp [execOp,h _ _ ae,h _ _ cP,asBool]
theorem bE.to {o:Oper} {v v':Value} (h:bE P l o w v w') (e:v=v'):bE P l o w v' w':=e▸h
theorem jm (ae:bf l x=some (.int k m)) (ba:bf l y=some (.int k gZ)) (bo:k.wrap (m+gZ)=r):bE P l ⟨dd,.binOp .add t x y t',ty,pos,af,gg⟩ w (.int k r) w:=bo▸sT ae ba
theorem aS (ae:bf l x=some (.int k m)) (ba:bf l y=some (.int k gZ)) (bo:k.wrap (m+gZ)=r:=by rw [wrap64_in _ (by omega)];omega):bE P l ⟨dd,.binOp .add t x y t',ty,pos,af,gg⟩ w (.int k r) w:=jm ae ba bo
theorem AU (ae:bf l x=some (.int k m)) (ba:bf l y=some (.int k gZ)) (bo:k.wrap (m-gZ)=r):bE P l ⟨dd,.binOp .sub t x y t',ty,pos,af,gg⟩ w (.int k r) w:=bo▸hB ae ba
theorem eZ (ae:bf l x=some (.int k m)) (ba:bf l y=some (.int k gZ)) (bo:k.wrap (m-gZ)=r:=by rw [wrap64_in _ (by omega)];omega):bE P l ⟨dd,.binOp .sub t x y t',ty,pos,af,gg⟩ w (.int k r) w:=AU ae ba bo
theorem rk (ae:bf l x=some (.int k m)) (ba:bf l y=some (.int k gZ)) (bo:k.wrap (m*gZ)=r):bE P l ⟨dd,.binOp .mul t x y t',ty,pos,af,gg⟩ w (.int k r) w:=bo▸Xh ae ba
theorem Bt (ae:bf l x=some (.int k m)) (ba:bf l y=some (.int k gZ)) (bo:k.wrap (m*gZ)=r:=by rw [wrap64_in _ (by omega)];omega):bE P l ⟨dd,.binOp .mul t x y t',ty,pos,af,gg⟩ w (.int k r) w:=rk ae ba bo
theorem abt (ae:bf l x=some (.int k m)) (ba:bf l y=some (.int kS gZ)) (cg:0≤gZ) (bo:m.fdiv (2 ^ (min gZ.toNat k.bits))=r):bE P l ⟨dd,.binOp .shr t x y t',ty,pos,af,gg⟩ w (.int k r) w:=bo▸Cq ae ba cg
theorem e9 {d0:TypeDesc} (bh:P.underlying t=some d0) (bW:P.underlying t'=some (.int kS)) (ae:bf l x=some (.int k m)) (bo:kS.wrap m=r):bE P l ⟨dd,.convert t t' x,ty,pos,af,gg⟩ w (.int kS r) w:=bo▸uT bh bW ae
theorem im (z:Int) (h:0≤z∧z≤18446744073709551615):IntKind.u64.wrap z=z:=by
 simp only [IntKind.wrap,IntKind.bits,IntKind.signed,Bool.false_and];exact Int.emod_eq_of_lt h.1 (by omega)
theorem du (z:Int) (h:0≤z∧z≤255):IntKind.u8.wrap z=z:=by
 simp only [IntKind.wrap,IntKind.bits,IntKind.signed,Bool.false_and];exact Int.emod_eq_of_lt h.1 (by omega)
theorem P0 (m:Int):m.fdiv (2 ^ (min (1:Int).toNat 64))=m / 2:=by
 rw [show(2:Int) ^ (min (1:Int).toNat 64)=2 from rfl];exact Int.fdiv_eq_ediv_of_nonneg _ (by omega)
theorem LQ (i j:Nat):((i:Int)+j) / 2=((i+j) / 2:Nat):=by omega
end
section
variable {P:Program} {ops:Array Oper} {Q:Exit→Act→World→Prop} {n:Nat} {ds:List Deferred} {l:List (Nat×Value)} {w w':World} {a:Act}
variable {rest:List Oper} {d:Nat} {op:Op} {ty:TypeId} {pos:String} {af:Array Edge}
variable {dd:Option Nat} {gg:Option (Nat×Bool)} {x y z:Operand} {t t':TypeId} {k kS:IntKind} {m gZ:Int} {b gv:Bool}
theorem Own.take {e sz n c m:Nat} {ad:Option Addr} {vs:List Value} (O:Own w e sz (.slice ad n c) n vs) (hm:m≤n):Own w e sz (.slice ad m c) m (vs.take (m*sz)):=by
 have hle:m*sz≤n*sz:=Nat.mul_le_mul_right _ hm;have cb:=O.1;rcases O.2 with⟨cg,ahM⟩ | ⟨g,o,aa6,cs,bI,ev,eQ,h3,uc,rG⟩
 ·injection cg with bu ee kH
  subst bu;subst kH;subst ee;have:m=0:=by omega
  subst this;simpa using Own.nil w e sz
 injection bI with bu ee kH
 subst bu;subst kH;refine⟨by rw [List.length_take];omega,.inr ⟨g,o,c,cs,rfl,ev,by omega,h3,uc,?_⟩⟩;rw [← rG,List.take_take]
 congr 1
 omega
theorem Own.extend {e sz n c m:Nat} {ad:Addr} {vs:List Value} (O:Own w e sz (.slice (some ad) n c) n vs) (hm:n≤m) (aZ:m≤c):∃ kW,Own w e sz (.slice (some ad) m c) m kW∧kW.take (n*sz)=vs:=by
 have hle:n*sz≤m*sz:=Nat.mul_le_mul_right _ hm;have Fa:m*sz≤c*sz:=Nat.mul_le_mul_right _ aZ;have cb:=O.1;rcases O.2 with⟨cg,ahM⟩ | ⟨g,o,aa6,cs,bI,ev,eQ,h3,uc,rG⟩
 ·cases cg
 injection bI with bu ee kH
 injection bu with bu
 subst bu;subst kH;refine⟨(cs.drop o).take (m*sz),⟨by rw [List.length_take,List.length_drop];omega,.inr ⟨g,o,c,cs,rfl,ev,aZ,h3,uc,rfl⟩⟩,?_⟩;rw [← rG,List.take_take]
 congr 1
 omega
theorem uN {s8 e sz fM N c lo k c':Nat} {ad:Addr} {u:Value} {vs news:List Value} (bW:kU P t e sz fM=true) (O:Own w e sz (.slice (some ad) N c) N vs) (ae:bf l x=some (.slice (nO (some ad) c lo sz) (N-lo) (c-lo))) (ba:bf l y=some u)
  (cb:(Builtin.lenOf u).run P w = .ok c' w) (hk:Nat.min c' (N-lo)=k) (lJ:(Builtin.firstCells sz k u).run P w = .ok news.toArray w) (tq:news.length=k*sz) (yX:∀ u∈news,u.oneCell'=true) (Ms:lo≤N) (bT:Nat.blt d n=true)
  (h:∀ w',Own w' e sz (.slice (some ad) N c) N (vs.take (lo*sz)++news++vs.drop ((lo+k)*sz))→Mod [ad.block] w w'→w'.heap.size=w.heap.size→fI P ops Q rest n ds ((d,.int .i64 k)::l) w') :
  fI P ops Q (⟨some d,.call {callee:=.builtin .copy,args:=#[x,y],argTypes:=#[t,s8]},ty,pos,af,none⟩::rest) n ds l w:=by
 obtain⟨i,z,h1,aq,bb,bP,cZ,fy⟩:=jZ bW
 rcases O.2 with⟨cg,_⟩ | ⟨g,o,cap,cs,bI,ev,eQ,h3,uc,rG⟩
 ·cases cg
 injection bI with bu ee kH
 injection bu with bu
 subst bu;subst kH
 have azK:k≤N-lo:=by rw [← hk];exact Nat.min_le_right _ _
 have hle:(lo+k)*sz≤N*sz:=Nat.mul_le_mul_right _ (by omega)
 have Fa:N*sz≤c*sz:=Nat.mul_le_mul_right _ eQ
 have pb:=O.1
 have afj:(lo+k)*sz=lo*sz+k*sz:=Nat.add_mul _ _ _
 obtain⟨aJ,hf,cc⟩:=jc (P:=P) ev (o:=o+lo*sz) (vs:=news) (by rw [tq];omega) yX
 have nu:∃ aJ,(match nO (some ⟨g,o,none⟩) c lo sz with | some a=>storeCells a news | none=>pure ()).run P w = .ok () aJ∧Own aJ e sz (.slice (some ⟨g,o,none⟩) N c) N (vs.take (lo*sz)++news++vs.drop ((lo+k)*sz))∧Mod [g] w aJ∧aJ.heap.size=w.heap.size:=by
  by_cases anp:c=lo
  ·have bg:k=0:=by omega
   subst bg
   have cH:news = []:=List.eq_nil_of_length_eq_zero (by simpa using tq)
   subst cH
   refine⟨w,?_,?_,Mod.refl _ w,rfl⟩
   ·simp [nO,anp,storeCells]
   simpa using O
  refine⟨aJ,?_,⟨?_,.inr ⟨g,o,c,_,rfl,cc.ar,eQ,h3,by simp [splice];omega,?_⟩⟩,cc.mod,cc.size⟩
  ·simpa [nO,anp,Addr.add_lit] using hf
  ·simp only [List.length_append,List.length_take,List.length_drop,tq,pb]
   omega
  subst rG
  apply List.ext_getElem?
  intro j
  simp only [splice,tq]
  simp only [List.getElem?_take,List.getElem?_drop,List.getElem?_append,List.length_append,List.length_take,List.length_drop,tq]
  repeat' split
  all_goals first
   | omega
   | rfl
   | (congr 1;omega)
   | skip
 obtain⟨aJ,hf,hO,eX,bh⟩:=nu
 refine hg (v:=.int .i64 k) (w':=aJ) (fun ρ gw=>?_) bT (h aJ hO eX bh)
 subst bb
 cases dy:nO (some (⟨g,o,none⟩:Addr)) c lo i.size with
 | none=>
  rw [dy] at hf
  simp [execOp,resolve,invoke,builtin,gw _ _ ae,gw _ _ ba,Builtin.copy_,run_underlying h1,dj aq,cb,hk,lJ,goInt,dy]
  simpa using hf
 | some a=>
  rw [dy] at hf
  simp [execOp,resolve,invoke,builtin,gw _ _ ae,gw _ _ ba,Builtin.copy_,run_underlying h1,dj aq,cb,hk,lJ,goInt,dy]
  simp at hf
  simp [hf]
theorem Hf {t s8 e sz fM c c':Nat} {v:Value} {vs ft:List Value} (bW:kU P t e sz fM=true) (cP:gX P e ft) (hT:ft.length=sz) (M':P.underlying s8=some (.int .i64)) (O:Own w e sz v c vs) (jV:0<sz) (yX:∀ u∈ft,u.oneCell'=true)
  (aW:(c+c')*fM≤140737488355328) (fu:c+c'≤9223372036854775807) (ty:Nat) :
  ∃ v' w' news,(Builtin.append_ #[t,s8] ty #[v,.int .i64 c']).run P w = .ok v' w'∧App w w' e sz v v' (c+c') (vs++news)∧news.length=c'*sz∧(∀ u∈news,u.oneCell'=true)∧((∀ ad aa6,v = .slice ad c aa6→aa6<c+c')→(∀ x∈bk v',w.heap.size≤x)∧Mod [] w w'):=by
 obtain⟨i,z,h1,aq,bb,bP,cZ,fy⟩:=jZ bW
 obtain⟨vy,Ha,lL,lZ,l2⟩:=qe cP
 have ahN:vy=i:=Option.some.inj (lL.symm.trans aq)
 subst ahN
 have WI:Ha=z:=Option.some.inj (lZ.symm.trans cZ)
 subst WI
 subst bb;subst bP
 have tq:(Builtin.zeroCells Ha.cells c').toList.length=c'*vy.size:=by rw [Array.length_toList,size_zeroCells,fy]
 have Bo:∀ u∈(Builtin.zeroCells Ha.cells c').toList,u.oneCell'=true:=by
  intro u hu
  rw [l2] at hu
  simp only [Builtin.zeroCells,Array.toList_map,List.mem_map] at hu
  obtain⟨j,_,rfl⟩:=hu
  have bM:j % ft.toArray.size<ft.length:=by
   simp only [List.size_toArray]
   exact Nat.mod_lt _ (by omega)
  have:ft.toArray[j % ft.toArray.size]! = ft[j % ft.toArray.size]:=by
   simp only [List.size_toArray] at bM ⊢
   simp [bM]
  rw [this]
  exact yX _ (List.getElem_mem bM)
 have hlen:(vs++(Builtin.zeroCells Ha.cells c').toList).length=(c+c')*vy.size:=by rw [List.length_append,O.1,tq,Nat.add_mul]
 have hw:IntKind.i64.wrap (c':Int)=c':=wrap64_in _ (by omega)
 have adn:¬ ((c':Int)<0):=by omega
 have ss:¬ ((c':Int)*(vy.bytes:Int) > 281474976710656):=by
  have:c'*vy.bytes≤(c+c')*vy.bytes:=Nat.mul_le_mul_right _ (by omega)
  have bb:(c':Int)*(vy.bytes:Int)=((c'*vy.bytes:Nat):Int):=by simp
  rw [bb]
  omega
 have afk:c'*vy.size=0→Builtin.zeroCells Ha.cells c' = #[]:=fun cg=>Array.eq_empty_of_size_eq_zero (by rw [size_zeroCells,fy];exact cg)
 have grow:∀ (base:Option Addr) (cap:Nat),cap<c+c'→(Builtin.firstCells vy.size c (.slice base c cap)).run P w.drew = .ok vs.toArray w.drew→
   ∃ v' w',(Builtin.append_ #[t,s8] ty #[.slice base c cap,.int .i64 c']).run P w = .ok v' w'∧App w w' e vy.size (.slice base c cap) v' (c+c') (vs++(Builtin.zeroCells Ha.cells c').toList)∧(∀ x∈bk v',w.heap.size≤x)∧Mod [] w w':=by
  intro base cap ti hold
  have mQ:=growslice_fits ti aW
  have cu:¬ (c+c'≤cap):=by omega
  have afl:¬ (9223372036854775807<((c:Int)+(c':Int))):=by omega
  have afm:¬ (281474976710656<Builtin.nextslicecap (c+c') cap*vy.bytes):=by omega
  have bo:(Builtin.append_ #[t,s8] ty #[.slice base c cap,.int .i64 c']).run P w =
   .ok (.slice (some ⟨w.heap.size,0,none⟩) (c+c') (grownCap w (c+c') cap e))
    (w.drew.alloc (.cells ((vs++(Builtin.zeroCells Ha.cells c').toList).toArray++Builtin.zeroCells Ha.cells (grownCap w (c+c') cap e-(c+c'))) e)):=by
   by_cases cg:c'*vy.size=0
   ·have XA:=afk cg
    simp [Builtin.append_,run_underlying h1,run_underlying M',sizeOf,typeInfo,zeroValue,aq,cZ,asInt,asIntOf,hw,adn,ss,cu,afl,afm,Question.forced,hold,newRow,grownCap,cg,XA]
   simp [Builtin.append_,run_underlying h1,run_underlying M',sizeOf,typeInfo,zeroValue,aq,cZ,asInt,asIntOf,hw,adn,ss,cu,afl,afm,Question.forced,hold,newRow,grownCap,cg]
   congr 2
   apply Array.toList_inj.1
   simp
  have e5:=grownCap_ge w (c+c') cap e
  generalize gy:(Builtin.zeroCells Ha.cells c').toList=news at *
  have ev:aF (w.drew.alloc (.cells ((vs++news).toArray++Builtin.zeroCells Ha.cells (grownCap w (c+c') cap e-(c+c'))) e)) w.heap.size e ((vs++news)++(Builtin.zeroCells Ha.cells (grownCap w (c+c') cap e-(c+c'))).toList):=by
   have:=heap_alloc_new w.drew (.cells ((vs++news).toArray++Builtin.zeroCells Ha.cells (grownCap w (c+c') cap e-(c+c'))) e)
   unfold aF
   refine this.trans ?_
   congr 2
   apply Array.toList_inj.1
   simp
  refine⟨_,_,bo,⟨⟨hlen,.inr ⟨w.heap.size,0,_,_,rfl,ev,e5,grownCap_le_maxLen w (c+c') cap e (by simp only [maxLen];omega),?_,?_⟩⟩,?_,?_⟩,?_,?_⟩
  ·have hT:(Builtin.zeroCells Ha.cells (grownCap w (c+c') cap e-(c+c'))).toList.length=(grownCap w (c+c') cap e-(c+c'))*vy.size:=by
    rw [Array.length_toList,size_zeroCells,fy]
   rw [List.length_append,hlen,hT,← Nat.add_mul]
   have:c+c'+(grownCap w (c+c') cap e-(c+c'))=grownCap w (c+c') cap e:=by omega
   rw [this]
   omega
  ·rw [List.drop_zero,← hlen]
   exact List.take_left
  ·exact⟨rfl,rfl,rfl,by simp,fun j eD _=>RowKit.Below.heap_alloc w.drew _ j eD⟩
  ·intro x ae
   simp [bk] at ae
   exact .inr (by omega)
  ·intro x ae
   simp [bk] at ae
   omega
  exact⟨rfl,rfl,rfl,by simp,fun j eD _=>RowKit.Below.heap_alloc w.drew _ j eD⟩
 rcases O.2 with⟨rfl,cg⟩ | ⟨g,o,cap,cs,rfl,ev,eQ,h3,uc,rG⟩
 ·subst cg
  have nG:vs = []:=List.eq_nil_of_length_eq_zero (by simpa using O.1)
  subst nG
  rcases Nat.eq_zero_or_pos c' with cg | cg
  ·subst cg
   refine⟨.slice none 0 0,w,[],?_,⟨by simpa using Own.nil w e vy.size,Mod.refl _ w,fun x ae=>.inl ae⟩,by simp,by simp,fun kf=>absurd (kf _ _ rfl) (by omega)⟩
   have ata:IntKind.i64.wrap 0=0:=by decide
   simp [Builtin.append_,run_underlying h1,run_underlying M',sizeOf,typeInfo,aq,asInt,asIntOf,ata]
  obtain⟨v',w',bo,dy,ahT⟩:=grow none 0 (by omega) (run_firstCells_none w.drew vy.size 0 0 0)
  exact⟨v',w',_,bo,dy,tq,Bo,fun _=>ahT⟩
 by_cases pc:c+c'≤cap
 rotate_left
 ·obtain⟨v',w',bo,dy,ahT⟩:=grow (some ⟨g,o,none⟩) cap (by omega) (run_firstCells_some w.drew vy.size c _ c cap vs O.1 (fun j x ae=>by have:=O.cs j x ae;simpa using this))
  exact⟨v',w',_,bo,dy,tq,Bo,fun _=>ahT⟩
 have hle:(c+c')*vy.size≤cap*vy.size:=Nat.mul_le_mul_right _ pc
 generalize gy:(Builtin.zeroCells Ha.cells c')=awx at *
 have mQ:o+c*vy.size+awx.toList.length≤cs.length:=by rw [tq];rw [Nat.add_mul] at hle;omega
 obtain⟨aJ,hf,cc⟩:=jc (P:=P) ev mQ Bo
 refine⟨.slice (some ⟨g,o,none⟩) (c+c') cap,aJ,awx.toList,?_,⟨⟨hlen,.inr ⟨g,o,cap,_,rfl,cc.ar,pc,h3,?_,?_⟩⟩,?_,fun x ae=>.inl ae⟩,tq,Bo,fun kf=>absurd (kf _ _ rfl) (by omega)⟩
 ·by_cases cg:c'*vy.size=0
  ·have XA:=afk cg
   rw [XA] at hf
   simp at hf
   simp [Builtin.append_,run_underlying h1,run_underlying M',sizeOf,typeInfo,zeroValue,aq,cZ,asInt,asIntOf,hw,adn,ss,pc,Addr.add_lit,cg,hf]
  simp [Builtin.append_,run_underlying h1,run_underlying M',sizeOf,typeInfo,zeroValue,aq,cZ,asInt,asIntOf,hw,adn,ss,pc,Addr.add_lit,cg,gy,hf]
 ·simp only [splice,List.length_append,List.length_take,List.length_drop]
  omega
 ·have bu:List.take (o+c*vy.size) cs=List.take o cs++vs:=by rw [← rG,List.take_add]
  have Wf:(List.take o cs).length=o:=by rw [List.length_take];omega
  rw [splice,bu,List.append_assoc,List.append_assoc,List.drop_left' Wf,← List.append_assoc,← hlen,List.take_left]
 exact cc.mod
theorem LR {t s8 e sz fM c c':Nat} {v:Value} {vs ft:List Value} (bW:kU P t e sz fM=true) (cP:gX P e ft) (hT:ft.length=sz) (M':P.underlying s8=some (.int .i64)) (ae:bf l x=some v) (ba:bf l y=some (.int .i64 c')) (O:Own w e sz v c vs) (jV:0<sz) (yX:∀ u∈ft,u.oneCell'=true)
  (aW:(c+c')*fM≤140737488355328) (fu:c+c'≤9223372036854775807) (bT:Nat.blt d n=true)
  (h:∀ v' w' news,App w w' e sz v v' (c+c') (vs++news)→news.length=c'*sz→(∀ u∈news,u.oneCell'=true)→((∀ ad aa6,v = .slice ad c aa6→aa6<c+c')→(∀ x∈bk v',w.heap.size≤x)∧Mod [] w w')→fI P ops Q rest n ds ((d,v')::l) w') :
  fI P ops Q (⟨some d,.call {callee:=.builtin .append,args:=#[x,y],argTypes:=#[t,s8]},ty,pos,af,none⟩::rest) n ds l w:=by
 obtain⟨v',w',news,bo,dy,aq,bb,bP⟩:=Hf (P:=P) bW cP hT M' O jV yX aW fu ty
 refine hg (v:=v') (w':=w') (fun ρ gw=>?_) bT (h v' w' news dy aq bb bP)
 simp [execOp,resolve,invoke,builtin,gw _ _ ae,gw _ _ ba,bo]
/-! ### slices.overlaps -/
def akV (P:Program) (f:FuncId) (aku aqy:TypeId):Prop:=∀ args w,(callFunc f args).run P w=((Extern.SlicesOverlaps.overlaps #[aku,aku] #[aqy] args).run P w).andThen fun v w'=>.ok (.value v) w'
theorem Ic {aku aqy e sz fM f i j c1 c2:Nat} {e6 a2:Addr} (dn:akV P f aku aqy) (bW:kU P aku e sz fM=true) (ae:bf l x=some (.slice (some e6) i c1)) (ba:bf l y=some (.slice (some a2) j c2))
  {g1 g2:Nat} {aqz af4:Nat} (GS:e6=⟨g1,aqz,none⟩) (DP:a2=⟨g2,af4,none⟩) {awy awz:Nat} {fE abw:List Value} (iu:aF w g1 awy fE) (eb:aF w g2 awz abw) (cH:g1≠g2) (aq:abw≠[]) {iz:Array TypeId} :
  bE P l ⟨dd,.call {callee:=.value (.func f),args:=#[x,y],argTypes:=iz},ty,pos,af,gg⟩ w (.bool false) w:=fun ρ gw=>by
 subst GS;subst DP
 obtain⟨vy,z,h1,Gz,bb,bP,cZ,fy⟩:=jZ bW
 have ee:ρ (.func f) = .func (.func f) #[] #[]:=gw _ _ rfl
 have atb:=Lib.run_overlaps_apart (P:=P) w aku aqy e h1 vy.size (fun w'=>dj Gz) ⟨g1,aqz,none⟩ ⟨g2,af4,none⟩ i c1 j c2 cH awy awz fE.length abw.length (by have:=iu;unfold aF at this;simp [World.shape?,this]) (by have:=eb;unfold aF at this;simp [World.shape?,this]) (by simpa using aq) (iu.frozen aqz) (iu.frozen _)
 have:=dn #[.slice (some ⟨g1,aqz,none⟩) i c1,.slice (some ⟨g2,af4,none⟩) j c2] w
 rw [atb] at this
 simp [execOp,resolve,ee,gw _ _ ae,gw _ _ ba,Deferred.ofValue,invoke] at this ⊢
 simpa using this
theorem xo {e sz N c i:Nat} {ad:Addr} {vs us:List Value} {T:TypeId} (bW:lG P T sz=true) (O:Own w e sz (.slice (some ad) N c) N vs) (ae:bf l x=some (.pointer (some (ad.add (i*sz))))) (ba:bf l y=some (.agg us.toArray)) (cb:us.length=sz) (yX:∀ u∈us,u.oneCell'=true) (hi:i<N)
  (h:∀ w',Own w' e sz (.slice (some ad) N c) N (vs.take (i*sz)++us++vs.drop ((i+1)*sz))→Mod [ad.block] w w'→w'.heap.size=w.heap.size→fI P ops Q rest n ds l w') :
  fI P ops Q (⟨none,.store T x y,ty,pos,af,none⟩::rest) n ds l w:=by
 rcases O.2 with⟨cg,_⟩ | ⟨g,o,cap,cs,bI,ev,eQ,h3,uc,rG⟩
 ·cases cg
 injection bI with bu ee kH
 injection bu with bu
 subst bu;subst kH
 have hle:(i+1)*sz≤N*sz:=Nat.mul_le_mul_right _ (by omega)
 have Fa:N*sz≤c*sz:=Nat.mul_le_mul_right _ eQ
 have pb:=O.1
 have afj:(i+1)*sz=i*sz+sz:=by rw [Nat.add_mul];omega
 rw [Addr.add_lit] at ae
 refine oa (vs:=us) bW ev ae ba cb yX (by omega) fun w' cc=>?_
 refine h w' ⟨?_,.inr ⟨g,o,c,_,rfl,cc.ar,eQ,h3,by simp [splice];omega,?_⟩⟩ cc.mod cc.size
 ·simp only [List.length_append,List.length_take,List.length_drop,cb,pb]
  omega
 subst rG
 apply List.ext_getElem?
 intro j
 simp only [splice,cb]
 simp only [List.getElem?_take,List.getElem?_drop,List.getElem?_append,List.length_append,List.length_take,List.length_drop,cb]
 repeat' split
 all_goals first
  | omega
  | rfl
  | (congr 1;omega)
  | skip
theorem JH {α:Type} {sz:Nat} {cells:α→List Value} {xs:List α} (cb:∀ x,(cells x).length=sz) (i:Nat):((xs.map cells).flatten).take (i*sz)=((xs.take i).map cells).flatten:=by
 induction xs generalizing i with
 | nil=>simp
 | cons x xs ea=>
  cases i with
  | zero=>simp
  | succ i=>
   simp only [List.map_cons,List.flatten_cons,List.take_succ_cons];rw [List.take_append,cb,Nat.add_mul,Nat.one_mul,List.take_of_length_le (by rw [cb];omega),Nat.add_sub_cancel,ea]
theorem JG {α:Type} {sz:Nat} {cells:α→List Value} {xs:List α} (cb:∀ x,(cells x).length=sz) (i:Nat):((xs.map cells).flatten).drop (i*sz)=((xs.drop i).map cells).flatten:=by
 induction xs generalizing i with
 | nil=>simp
 | cons x xs ea=>
  cases i with
  | zero=>simp
  | succ i=>
   simp only [List.map_cons,List.flatten_cons,List.drop_succ_cons];rw [List.drop_append,cb,Nat.add_mul,Nat.one_mul,List.drop_eq_nil_of_le (by rw [cb];omega),Nat.add_sub_cancel,ea,List.nil_append]
theorem Na {α:Type} {A:List Nat} {sz n c:Nat} {cells:α→List Value} {xs:List α} (h:bq A w (flat sz cells xs) (.slice none n c)):xs = []:=by
 cases xs with
 | nil=>rfl
 | cons x xs=>
  obtain⟨a,aE,_⟩:=h7 (i:=0) h rfl;cases aE
theorem yK (ad:Option Addr) (c sz:Nat):nO ad c 0 sz=ad:=by
 unfold nO
 split
 ·rfl
 cases ad with
 | none=>rfl
 | some a=>simp [Addr.add_zero']
theorem P4 (g o c lo sz:Nat):∃ xB,nO (some (⟨g,o,none⟩:Addr)) c lo sz=some ⟨g,xB,none⟩:=by
 unfold nO
 split
 ·exact⟨o,rfl⟩
 exact⟨o+lo*sz,by simp [Addr.add_lit]⟩
theorem z8 (sz k:Nat) (b:Option Addr) (i c vy c':Nat):Builtin.firstCells sz k (.slice b i c)=Builtin.firstCells sz k (.slice b vy c'):=by cases b <;> rfl
theorem FX {ad:Option Addr} {c c' e sz fM hi:Nat} {h:Operand} (bW:kU P t e sz fM=true) (ae:bf l x=some (.slice ad c c')) (kf:bf l h=some (.int .i64 (hi:Int))) (aW:hi≤c') (aZ:c≤c') :
  bE P l ⟨dd,.slice t x none (some h) none,ty,pos,af,gg⟩ w (.slice ad hi c') w:=by
 have:=Jm (P:=P) (w:=w) (dd:=dd) (ty:=ty) (pos:=pos) (af:=af) (gg:=gg) bW ae (lo:=none) (pl:=none) (hi:=some h) (ph:=some (.i64,(hi:Int))) rfl (by simp [vW,kf]) (by simp only [ib,iR];omega) aZ
 refine this.to ?_
 simp [ib,iR,yK]
theorem lk {ad:Option Addr} {c c' e sz fM lo:Nat} {h:Operand} (bW:kU P t e sz fM=true) (ae:bf l x=some (.slice ad c c')) (kf:bf l h=some (.int .i64 (lo:Int))) (aW:lo≤c) (aZ:c≤c') :
  bE P l ⟨dd,.slice t x (some h) none none,ty,pos,af,gg⟩ w (.slice (nO ad c' lo sz) (c-lo) (c'-lo)) w:=by
 have:=Jm (P:=P) (w:=w) (dd:=dd) (ty:=ty) (pos:=pos) (af:=af) (gg:=gg) bW ae (hi:=none) (ph:=none) (lo:=some h) (pl:=some (.i64,(lo:Int))) (by simp [vW,kf]) rfl (by simp only [ib,iR];omega) aZ
 refine this.to ?_
 simp [ib,iR]
end
section
variable {P:Program} {ops:Array Oper} {Q:Exit→Act→World→Prop} {n:Nat} {ds:List Deferred} {l:List (Nat×Value)} {M:List (Nat×(Value→World→Prop))} {w w':World} {a:Act}
variable {rest:List Oper} {d:Nat} {op:Op} {ty:TypeId} {pos:String} {af:Array Edge} {Fin:lj→Prop} {j:Nat} {want b:Bool}
variable {dd:Option Nat} {gg:Option (Nat×Bool)} {x y z:Operand} {t t':TypeId}
theorem N9 {b gv:Bool} (he:P.underlying t=some .bool) (ae:bf l x=some (.bool b)) (ba:bf l y=some (.bool gv)):bE P l ⟨dd,.binOp .neq t x y t',ty,pos,af,gg⟩ w (.bool (b != gv)) w:=fun ρ h=>by
 simp [execOp,eqGuard,h _ _ ae,h _ _ ba,binOp,run_equal_bool w t b gv he];cases b <;> cases gv <;> rfl
theorem ahU {V:Value→World→Prop} {t s:Nat} {aBo RV:Value→World→Prop} (bW:iF t l=none) (eX:o0 t M=some aBo) (ae:∃ x∈op.operands.toList,x = .tmp t) (k7:iF s l=none) (Nb:o0 s M=some RV) (DX:∃ x∈op.operands.toList,x = .tmp s) (qW:∀ v aJ cX,Mod [] aJ cX→V v aJ→V v cX) (bT:Nat.blt d n=true) (bh:gf op=true)
  (bo:∀ (ρ:Operand→Value) aJ u oO,Mod [] w aJ→aBo u aJ→RV oO aJ→(∀ x v,bf ((t,u)::(s,oO)::l) x=some v→ρ x=v)→qf P (Mod []) aJ V ((execOp ρ ⟨some d,op,ty,pos,af,none⟩).run P aJ)) :
  aBq P ops (Mod []) (Mod [] w) n (tx l M) ⟨some d,op,ty,pos,af,none⟩ V:=by
 refine vA qW bT bh fun ρ aJ h4 h1 aq=>bo ρ aJ (ρ (.tmp t)) (ρ (.tmp s)) h4 (aq t aBo bW eX ae) (aq s RV k7 Nb DX) fun x v bI=>?_
 cases x with
 | tmp r=>
  simp only [bf,iF] at bI
  cases aW:Nat.beq t r with
  | true=>
   rw [aW] at bI
   have:=Nat.eq_of_beq_eq_true aW
   subst this
   injection bI
  | false=>
   rw [aW] at bI
   cases wa:Nat.beq s r with
   | true=>
    rw [wa] at bI
    have:=Nat.eq_of_beq_eq_true wa
    subst this
    injection bI
   | false=>rw [wa] at bI;exact h1 _ _ bI
 | const c=>exact h1 _ _ bI
 | global g=>exact h1 _ _ bI
 | func f=>exact h1 _ _ bI
theorem anq {f:FuncId} {args:Value→Array Value} {v:Value} (t:Nat) {aBo:Value→World→Prop} (dY:Cy ops l j=some b) (aW:b=want) (bW:iF t l=none) (eX:o0 t M=some aBo) (ae:∃ x∈op.operands.toList,x = .tmp t)
  (bo:∀ aJ u,Mod [] w aJ→aBo u aJ→lQ P ((t,u)::l) ⟨some d,op,ty,pos,af,none⟩ aJ f (args u)) (aZ:∀ aJ u,Mod [] w aJ→aBo u aJ→Calls P f (args u) aJ (bH fun r cX=>r=v∧Mod [] aJ cX)) (bT:Nat.blt d n=true) (bh:gf op=true) (h:hj P ops w n Fin rest ((d,v)::l) M) :
  hj P ops w n Fin (⟨some d,op,ty,pos,af,some (j,want)⟩::rest) l M:=by
 refine⟨fun u _=>u=v,adi dY aW (Cx bW eX ae (fun _ _ _ _ h=>h) bT bh fun ρ aJ u h4 j1 h1=>?_),?_⟩
 ·rw [bo aJ u h4 j1 ρ h1]
  exact⟨rfl,(aZ aJ u h4 j1).mono fun e cX he=>by cases e <;> first | exact⟨he.2,he.1⟩ | exact he⟩
 rw [lu rfl];exact h
theorem Calls.imp {f:FuncId} {args:Array Value} {sG awA:Value→World→Prop} (h:Calls P f args w (bH sG)) (hi:∀ u w',sG u w'→awA u w'):Calls P f args w (bH awA):=
 h.mono fun e cX he=>by cases e <;> first | exact hi _ _ he | exact he
theorem Gd {u:List UInt8} {k:IntKind} {m:Int} (bW:P.underlying t=some .string) (ae:bf l x=some (S u)) (ba:bf l y=some (.int k m)) (cg:0≤m) (aW:m.toNat<u.length) (bT:Nat.blt d n=true)
  (h:∀ c:UInt8,u[m.toNat]? = some c→fI P ops Q rest n ds ((d,.int .u8 c.toNat)::l) w):fI P ops Q (⟨some d,.index t x y,ty,pos,af,none⟩::rest) n ds l w:=
 hg (hM bW ae ba cg (List.getElem?_eq_getElem aW)) bT (h _ (List.getElem?_eq_getElem aW))
theorem pF.first {ad:Addr} {v:Value} {vs:List Value} (h:pF w ad (v::vs)):w.cell? ad=some v:=by
 have:=h 0 v rfl
 rwa [Addr.add_zero'] at this
end
end Go.Proofs.YtkjgljnkocnnpaaGreatDoor.V
