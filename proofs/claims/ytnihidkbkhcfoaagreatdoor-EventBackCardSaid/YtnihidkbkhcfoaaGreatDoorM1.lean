/-
  A part of the proof: parts of own slices; copy into a part; append of zeros; the entry for slices.overlaps; truths held against one another; drawn operations that look at two slots of which something is known; an argument's reading opened: what its cells stand for, and how great it is; behind the call: true, and each argument reads as it did, where nothing that was there has turned; strings compared by the library's stand-in; values of several cells in a slot; rows of cells; a slice that is built in a region whose order is drawn; a guard on a truth that was not asked; JSON values: what they stand for in memory, and what Same, rises, Get and Find say of them, in plain Lean. No condition of its own.
-/
import Derived.Test.YtnihidkbkhcfoaaGreatDoorM0
import Derived.Laws.StructEq
import Derived.Lib.Overlaps
import Derived.OpenShut
import Derived.DataReads
import Derived.ProofKit
import Derived.Carry
import Derived.WalkKit
import Derived.Lib.Bytealg
set_option linter.unusedVariables false
set_option linter.unusedSimpArgs false
namespace Go.Proofs.YtnihidkbkhcfoaaGreatDoor.V
open Go
def pA (t:Nat):List (Nat×(Value→World→Prop))→Option (Value→World→Prop)
 | []=>none
 | (s,v)::r=>match Nat.beq s t with
  | true=>some v
  | false=>pA t r
def qM (l:List (Nat×Value)) (M:List (Nat×(Value→World→Prop))):iE:=fun t=>match iN t l with
 | some v=>some fun u _=>u=v
 | none=>pA t M
section
variable {P:Program} {ops:Array Oper} {Q:Exit→Act→World→Prop} {n:Nat} {ds:List Deferred} {l:List (Nat×Value)} {M:List (Nat×(Value→World→Prop))} {w w':World} {a:Act}
variable {rest:List Oper} {d:Nat} {op:Op} {ty:TypeId} {pos:String} {af:Array Edge} {Fin:iE→Prop}
theorem later (w:World):xi (Mod []) (Mod [] w):=⟨Mod.refl [],fun _ _ _ h k=>h.trans k,fun _ _ h k=>k.trans h⟩
abbrev gh (P:Program) (ops:Array Oper) (w:World) (n:Nat) (Fin:iE→Prop) (rest:List Oper) (l:List (Nat×Value)) (M:List (Nat×(Value→World→Prop))):Prop:=TW P ops (Mod []) (Mod [] w) n Fin rest (qM l M)
def Hl (Q:Exit→Act→World→Prop) (n:Nat) (ds:List Deferred) (w:World) (N:iE):Prop:=∀ a w',a.defers=ds→Mod [] w w'→N.all n a w'→Q .normal a w'
theorem qN (l:List (Nat×Value)):(qM l []).lasts (Mod []):=by
 intro t apw hZ;unfold qM at hZ
 split at hZ
 ·injection hZ with hZ;subst hZ;exact fun _ _ _ _ h=>h
 simp [pA] at hZ
theorem vG {l:List (Nat×Value)} (ax:Has n ds l a):(qM l []).all n a w:=by
 refine⟨ax.size,fun t apw hZ=>?_⟩;unfold qM at hZ
 split at hZ
 ·rename_i v bw
  injection hZ with hZ
  subst hZ;simp [ax.get t v bw]
 simp [pA] at hZ
theorem bK {id:Nat} {lo:List Oper} (hm:P.follows .mixedOrders=true) (dT:Region.lexB .any lo.toArray=true) (h:gh P lo.toArray w n (Hl Q n ds w) lo l []):nV P (.region id lo.toArray true) Q n ds l w:=by
 intro a ax;simp only [Region.lexB,Bool.and_eq_true] at dT;refine wp_region_any hm (u1 (n:=n) (ds:=ds) (w0:=w) (Fin:=Hl Q n ds w) (later w) (fun N a w' _ bL h0 _ hj qO=>qO a w' bL h0 hj) _ _ (qM l []) a _ (qN l) ax.defers (Mod.drew [] w) (Mod.drew [] w) (vG ax) ?_);have:=zs (md:=.any) lo 0 (Array.replicate lo.toArray.size false) (qM l []) (by simp) (by simpa using dT.2) h;simpa using this
theorem wX {id:Nat} {lo:List Oper} (m:Nat) (hm:P.follows .mixedOrders=true) (dT:Region.lexTailB .any lo.toArray m=true)
  (h:gh P lo.toArray w n (fun N=>∀ a w',a.defers=ds→Mod [] w w'→N.all n a w'→wpList P lo.toArray Q (lo.drop m) a w') (lo.take m) l []):nV P (.region id lo.toArray true) Q n ds l w:=by
 intro a ax
 simp only [Region.lexTailB,Bool.and_eq_true,decide_eq_true_eq] at dT
 obtain⟨⟨⟨⟨q7,bW⟩,aN⟩,a6⟩,ac0⟩:=dT
 have anJ:m<lo.length:=by simpa using bW
 have A2:(lo.take m).length=m:=by simp;omega
 have Q6:(lo.drop m).length=lo.toArray.size-m:=by simp
 have CX:HeadInv .any lo.toArray m (Array.replicate lo.toArray.size false):=
  ⟨by simp,fun j qL _ bM=>(by rw [getD_replicate_false] at bM;cases bM),fun t _ bQ=>getD_in (by simpa using bQ) (getD_replicate_false _ _)⟩
 have H:=xk (md:=.any) (g:=lo.toArray.size-m) aN a6 bW (lo.take m) 0 _ (qM l []) (fun j dG=>by
  have sM:j<m:=by rw [A2] at dG;exact dG
  simp [sM]) (by simpa using A2) CX (by rw [A2];exact ac0) h
 refine wp_region_any hm ?_
 have:=sW (n:=n) (ds:=ds) (w0:=w) (Q:=Q) (g:=lo.toArray.size-m) (later w) (fun listed N a w' _ bL h0 _ hj nn=>by
  have:=wpAny_of_seq (md:=.any) (Q':=Q) (lo.drop m) m listed a w' (fun j=>by simp [List.getElem?_drop]) (by rw [Q6];exact nn.1) (nn.2 a w' bL h0 hj)
  rwa [Q6] at this) _ _ (qM l []) a _ (qN l) ax.defers (Mod.drew [] w) (Mod.drew [] w) (vG ax) H
 rw [A2,show m+(lo.toArray.size-m)=lo.toArray.size by omega] at this
 exact this
theorem vH {l:List (Nat×Value)} {M:List (Nat×(Value→World→Prop))} (bL:a.defers=ds) (h:(qM l M).all n a w):Has n ds (l.filter fun p=>decide (p.1<n)) a:=by
 refine⟨h.1,bL,fun t v bw=>?_⟩;have bk:t<n:=by
  clear h
  induction l with
  | nil=>simp [iN] at bw
  | cons p r dh=>
   obtain⟨s,u⟩:=p
   by_cases aN:s<n
   ·simp only [List.filter_cons,aN,decide_true,if_true,iN] at bw;cases aH:Nat.beq s t with
    | true=>have:=Nat.eq_of_beq_eq_true aH;omega
    | false=>rw [aH] at bw;exact dh bw
   simp only [List.filter_cons,aN,decide_false] at bw;exact dh bw
 have od:iN t l=some v:=by
  clear h
  induction l with
  | nil=>simp [iN] at bw
  | cons p r dh=>
   obtain⟨s,u⟩:=p
   by_cases aN:s<n
   ·simp only [List.filter_cons,aN,decide_true,if_true,iN] at bw ⊢;cases aH:Nat.beq s t with
    | true=>rw [aH] at bw;exact bw
    | false=>rw [aH] at bw;exact dh bw
   simp only [List.filter_cons,aN,decide_false] at bw;simp only [iN];cases aH:Nat.beq s t with
   | true=>have:=Nat.eq_of_beq_eq_true aH;omega
   | false=>exact dh bw
 have:=h.2 t (fun u _=>u=v) (by simp [qM,od]);rw [← h.1] at bk;simp [bk] at this;simp [bk,this]
def xl (n:Nat):List (Nat×Value)→Bool
 | []=>true
 | (t,_)::r=>Nat.blt t n&&xl n r
theorem kb {n:Nat}:∀ {l:List (Nat×Value)},xl n l=true→(l.filter fun p=>decide (p.1<n))=l
 | [],_=>rfl
 | (t,v)::r,h=>by
  simp only [xl,Bool.and_eq_true,Nat.blt_eq] at h
  simp [List.filter_cons,h.1,kb h.2]
theorem bN (dm:xl n l=true) (h:∀ w',Mod [] w w'→hd Q .normal n ds l w'):gh P ops w n (Hl Q n ds w) [] l M:=by
 intro a w' bL h0 hj;have:=vH bL hj;rw [kb dm] at this;exact h w' h0 a this
theorem Nl {t:Nat} {V:Value→World→Prop} (dm:xl n l=true) (bQ:iN t l=none) (eb:pA t M=some V) (Xb:Nat.blt t n=true) (h:∀ w' v,Mod [] w w'→V v w'→hd Q .normal n ds ((t,v)::l) w'):gh P ops w n (Hl Q n ds w) [] l M:=by
 intro a w' bL h0 hj;have h1:=vH bL hj;rw [kb dm] at h1;have CY:t<a.tmps.size:=by rw [hj.1];simpa [Nat.blt_eq] using Xb
 have aj:=hj.2 t V (by simp [qM,bQ,eb]);have aF:a.tmps.getD t undef=a.tmps[t]:=by simp [CY]
 rw [aF] at aj;refine h w' _ h0 aj a ⟨h1.size,h1.defers,fun s v bw=>?_⟩;simp only [iN] at bw;cases aH:Nat.beq t s with
 | true=>
  rw [aH] at bw;have:=Nat.eq_of_beq_eq_true aH;subst this;injection bw with bw
  subst bw;simp [CY]
 | false=>rw [aH] at bw;exact h1.get s v bw
theorem ml {xm:List Oper} (dm:xl n l=true) (h:∀ w',Mod [] w w'→fC P ops Q xm n ds l w'):gh P ops w n (fun N=>∀ a w',a.defers=ds→Mod [] w w'→N.all n a w'→wpList P ops Q xm a w') [] l M:=by
 intro a w' bL h0 hj;have:=vH bL hj;rw [kb dm] at this;exact h w' h0 a this
theorem qG {xm:List Oper} {t:Nat} {V:Value→World→Prop} (dm:xl n l=true) (bQ:iN t l=none) (eb:pA t M=some V) (Xb:Nat.blt t n=true) (h:∀ w' v,Mod [] w w'→V v w'→fC P ops Q xm n ds ((t,v)::l) w') :
  gh P ops w n (fun N=>∀ a w',a.defers=ds→Mod [] w w'→N.all n a w'→wpList P ops Q xm a w') [] l M:=by
 intro a w' bL h0 hj
 have h1:=vH bL hj
 rw [kb dm] at h1
 have CY:t<a.tmps.size:=by rw [hj.1];simpa [Nat.blt_eq] using Xb
 have aj:=hj.2 t V (by simp [qM,bQ,eb])
 have aF:a.tmps.getD t undef=a.tmps[t]:=by simp [CY]
 rw [aF] at aj
 refine h w' _ h0 aj a ⟨h1.size,h1.defers,fun s v bw=>?_⟩
 simp only [iN] at bw
 cases aH:Nat.beq t s with
 | true=>
  rw [aH] at bw
  have:=Nat.eq_of_beq_eq_true aH
  subst this
  injection bw with bw
  subst bw
  simp [CY]
 | false=>rw [aH] at bw;exact h1.get s v bw
def fa:Op→Bool
 | .select ..=>false
 | _=>true
theorem sX {V:Value→World→Prop} (oO:∀ v aE cY,Mod [] aE cY→V v aE→V v cY) (bL:Nat.blt d n=true) (aN:fa op=true)
  (bf:∀ (ρ:Operand→Value) aE,Mod [] w aE→(∀ x u,aT l x=some u→ρ x=u)→(∀ t apw,iN t l=none→pA t M=some apw→(∃ x∈op.operands.toList,x = .tmp t)→apw (ρ (.tmp t)) aE)→
   ow P (Mod []) aE V ((execOp ρ ⟨some d,op,ty,pos,af,none⟩).run P aE)) :
  apy P ops (Mod []) (Mod [] w) n (qM l M) ⟨some d,op,ty,pos,af,none⟩ V:=by
 refine⟨oO,fun rA pY=>by injection pY with pY;subst pY;simpa [Nat.blt_eq] using bL,fun a aE h0 hj=>?_⟩
 rw [if_pos (by simp [Region.wanted])]
 let ρ:Operand→Value:=fun x=>match aT l x with
  | some u=>u
  | none=>a.eval x
 have ug:∀ t,(∃ x∈op.operands.toList,x = .tmp t)→t∈Oper.looksAt ops ⟨some d,op,ty,pos,af,none⟩:=by
  rintro t ⟨x,ab,rfl⟩
  unfold Oper.looksAt
  exact List.mem_append_left _ (List.mem_filterMap.2 ⟨.tmp t,ab,rfl⟩)
 have e2:∀ x∈op.operands,a.eval x=ρ x:=by
  intro x ab
  show a.eval x=match aT l x with | some u=>u | none=>a.eval x
  cases bw:aT l x with
  | none=>rfl
  | some u=>
   cases x with
   | tmp t=>
    have:=hj t (fun m' _=>m'=u) (ug t ⟨_,by simpa using ab,rfl⟩) (by simp only [aT] at bw;simp [qM,bw])
    simpa [Act.eval] using this
   | const c=>simp only [aT] at bw;injection bw
   | global g=>simp only [aT] at bw;injection bw
   | func f=>simp only [aT] at bw;injection bw
 have he:=execOp_congr ⟨some d,op,ty,pos,af,none⟩ (fun cs b h=>by dsimp only at h;rw [h] at aN;simp [fa] at aN) e2
 rw [he]
 refine bf ρ aE h0 (fun x u ab=>?_) (fun t apw bQ hZ ab=>?_)
 ·show(match aT l x with | some u=>u | none=>a.eval x)=u
  rw [ab]
 have h1:=hj t apw (ug t ab) (by simp [qM,bQ,hZ])
 show apw (match aT l (.tmp t)with | some u=>u | none=>a.eval (.tmp t)) aE
 simp only [aT,bQ]
 simpa [Act.eval] using h1
theorem kN {o:Oper} (bL:o.dst=some d) (v:Value):(qM l M).put o (fun u _=>u=v)=qM ((d,v)::l) M:=by
 funext t
 unfold iE.put qM;simp only [bL,iN]
 by_cases h:t=d
 ·subst h;simp
 have:Nat.beq d t=false:=by
  cases aH:Nat.beq d t
  ·rfl
  exact absurd (Nat.eq_of_beq_eq_true aH).symm h
 simp [h,this]
theorem me {o:Oper} (bL:o.dst=some d) (bM:iN d l=none) (V:Value→World→Prop):(qM l M).put o V=qM l ((d,V)::M):=by
 funext t
 unfold iE.put qM;simp only [bL,pA]
 by_cases h:t=d
 ·subst h;simp [bM]
 have:Nat.beq d t=false:=by
  cases aH:Nat.beq d t
  ·rfl
  exact absurd (Nat.eq_of_beq_eq_true aH).symm h
 simp [h,this]
theorem ahC {v:Value} (bf:∀ aE,Mod [] w aE→bo P l ⟨some d,op,ty,pos,af,none⟩ aE v aE) (bL:Nat.blt d n=true) (aN:fa op=true) (h:gh P ops w n Fin rest ((d,v)::l) M) :
  gh P ops w n Fin (⟨some d,op,ty,pos,af,none⟩::rest) l M:=by
 refine⟨fun u _=>u=v,sX (fun _ _ _ _ h=>h) bL aN fun ρ aE h0 h1 aj=>?_,?_⟩
 ·rw [bf aE h0 ρ h1];exact⟨Mod.refl [] aE,rfl⟩
 rw [kN rfl];exact h
theorem ahJ (V:Value→World→Prop) (oO:∀ v aE cY,Mod [] aE cY→V v aE→V v cY) (bf:∀ aE,Mod [] w aE→∃ v cY,bo P l ⟨some d,op,ty,pos,af,none⟩ aE v cY∧Mod [] aE cY∧V v cY) (bL:Nat.blt d n=true) (aN:fa op=true) (bM:iN d l=none)
  (h:gh P ops w n Fin rest l ((d,V)::M)):gh P ops w n Fin (⟨some d,op,ty,pos,af,none⟩::rest) l M:=by
 refine⟨V,sX oO bL aN fun ρ aE h0 h1 aj=>?_,?_⟩
 ·obtain⟨v,cY,e,hm,bw⟩:=bf aE h0
  rw [e ρ h1]
  exact⟨hm,bw⟩
 rw [me rfl bM];exact h
theorem Gy {f:FuncId} {args:Array Value} {v:Value} (bf:∀ aE,Mod [] w aE→kL P l ⟨some d,op,ty,pos,af,none⟩ aE f args) (a6:∀ aE,Mod [] w aE→Calls P f args aE (bI fun u cY=>u=v∧Mod [] aE cY)) (bL:Nat.blt d n=true) (aN:fa op=true) (h:gh P ops w n Fin rest ((d,v)::l) M) :
  gh P ops w n Fin (⟨some d,op,ty,pos,af,none⟩::rest) l M:=by
 refine⟨fun u _=>u=v,sX (fun _ _ _ _ h=>h) bL aN fun ρ aE h0 h1 aj=>?_,?_⟩
 ·rw [bf aE h0 ρ h1]
  exact⟨rfl,(a6 aE h0).mono fun e cY he=>by cases e <;> first | exact⟨he.2,he.1⟩ | exact he⟩
 rw [kN rfl];exact h
theorem Q7 {f:FuncId} {args:Array Value} (V:Value→World→Prop) (oO:∀ v aE cY,Mod [] aE cY→V v aE→V v cY) (bf:∀ aE,Mod [] w aE→kL P l ⟨some d,op,ty,pos,af,none⟩ aE f args) (a6:∀ aE,Mod [] w aE→Calls P f args aE (bI fun u cY=>V u cY∧Mod [] aE cY)) (bL:Nat.blt d n=true) (aN:fa op=true) (bM:iN d l=none)
  (h:gh P ops w n Fin rest l ((d,V)::M)):gh P ops w n Fin (⟨some d,op,ty,pos,af,none⟩::rest) l M:=by
 refine⟨V,sX oO bL aN fun ρ aE h0 h1 aj=>?_,?_⟩
 ·rw [bf aE h0 ρ h1]
  exact⟨rfl,(a6 aE h0).mono fun e cY he=>by cases e <;> first | exact⟨he.2,he.1⟩ | exact he⟩
 rw [me rfl bM];exact h
theorem FV {V:Value→World→Prop} {t:Nat} {apw:Value→World→Prop} (bQ:iN t l=none) (eb:pA t M=some apw) (ab:∃ x∈op.operands.toList,x = .tmp t) (oO:∀ v aE cY,Mod [] aE cY→V v aE→V v cY) (bL:Nat.blt d n=true) (aN:fa op=true)
  (bf:∀ (ρ:Operand→Value) aE u,Mod [] w aE→apw u aE→(∀ x v,aT ((t,u)::l) x=some v→ρ x=v)→ow P (Mod []) aE V ((execOp ρ ⟨some d,op,ty,pos,af,none⟩).run P aE)) :
  apy P ops (Mod []) (Mod [] w) n (qM l M) ⟨some d,op,ty,pos,af,none⟩ V:=by
 refine sX oO bL aN fun ρ aE h0 h1 aj=>bf ρ aE (ρ (.tmp t)) h0 (aj t apw bQ eb ab) fun x v bw=>?_
 cases x with
 | tmp s=>
  simp only [aT,iN] at bw
  cases aH:Nat.beq t s with
  | true=>
   rw [aH] at bw
   have:=Nat.eq_of_beq_eq_true aH
   subst this
   injection bw
  | false=>rw [aH] at bw;exact h1 _ _ bw
 | const c=>exact h1 _ _ bw
 | global g=>exact h1 _ _ bw
 | func f=>exact h1 _ _ bw
theorem Q8 (V:Value→World→Prop) (oO:∀ v aE cY,Mod [] aE cY→V v aE→V v cY) (t:Nat) {apw:Value→World→Prop} (bQ:iN t l=none) (eb:pA t M=some apw) (ab:∃ x∈op.operands.toList,x = .tmp t) (bf:∀ aE u,Mod [] w aE→apw u aE→∃ v cY,bo P ((t,u)::l) ⟨some d,op,ty,pos,af,none⟩ aE v cY∧Mod [] aE cY∧V v cY)
  (bL:Nat.blt d n=true) (aN:fa op=true) (bM:iN d l=none) (h:gh P ops w n Fin rest l ((d,V)::M)) :
  gh P ops w n Fin (⟨some d,op,ty,pos,af,none⟩::rest) l M:=by
 refine⟨V,FV bQ eb ab oO bL aN fun ρ aE u h0 hZ h1=>?_,?_⟩
 ·obtain⟨v,cY,e,hm,bw⟩:=bf aE u h0 hZ
  rw [e ρ h1]
  exact⟨hm,bw⟩
 rw [me rfl bM];exact h
theorem Tx {f:FuncId} {args:Value→Array Value} (V:Value→World→Prop) (oO:∀ v aE cY,Mod [] aE cY→V v aE→V v cY) (t:Nat) {apw:Value→World→Prop} (bQ:iN t l=none) (eb:pA t M=some apw) (ab:∃ x∈op.operands.toList,x = .tmp t) (bf:∀ aE u,Mod [] w aE→apw u aE→kL P ((t,u)::l) ⟨some d,op,ty,pos,af,none⟩ aE f (args u)) (a6:∀ aE u,Mod [] w aE→apw u aE→Calls P f (args u) aE (bI fun u cY=>V u cY∧Mod [] aE cY)) (bL:Nat.blt d n=true) (aN:fa op=true) (bM:iN d l=none)
  (h:gh P ops w n Fin rest l ((d,V)::M)):gh P ops w n Fin (⟨some d,op,ty,pos,af,none⟩::rest) l M:=by
 refine⟨V,FV bQ eb ab oO bL aN fun ρ aE u h0 hZ h1=>?_,?_⟩
 ·rw [bf aE u h0 hZ ρ h1]
  exact⟨rfl,(a6 aE u h0 hZ).mono fun e cY he=>by cases e <;> first | exact⟨he.2,he.1⟩ | exact he⟩
 rw [me rfl bM];exact h
end
section
variable {P:Program} {ops:Array Oper} {Q:Exit→Act→World→Prop} {n:Nat} {ds:List Deferred} {l:List (Nat×Value)} {M:List (Nat×(Value→World→Prop))} {w w':World} {a:Act}
variable {rest:List Oper} {d:Nat} {op:Op} {ty:TypeId} {pos:String} {af:Array Edge} {Fin:iE→Prop} {j:Nat} {want b:Bool}
/-! ## Guarded operations -/
def xn (ops:Array Oper) (l:List (Nat×Value)) (j:Nat):Option Bool:=match (ops[j]?).bind (·.dst)with
 | some t=>match iN t l with
  | some (.bool b)=>some b
  | _=>none
 | none=>none
theorem CZ (h:xn ops l j=some b):∃ t,(ops[j]?).bind (·.dst)=some t∧iN t l=some (.bool b):=by
 unfold xn at h
 split at h
 ·rename_i t bQ
  split at h
  ·rename_i eA aH
   injection h with h
   subst h;exact⟨t,bQ,aH⟩
  cases h
 cases h
theorem p' (ax:Has n ds l a) (h:xn ops l j=some b):yielded ops a.tmps j=some b:=by
 obtain⟨t,h1,aj⟩:=CZ h;unfold yielded;rw [h1];simp [ax.get t _ aj]
theorem mK {v:Value} (cN:xn ops l j=some b) (aH:b=want) (bf:bo P l ⟨some d,op,ty,pos,af,some (j,want)⟩ w v w') (bL:Nat.blt d n=true) (h:fC P ops Q rest n ds ((d,v)::l) w') :
  fC P ops Q (⟨some d,op,ty,pos,af,some (j,want)⟩::rest) n ds l w:=by
 intro a ax
 refine wpList_step fun K lT=>?_
 have hw:Region.wanted ⟨some d,op,ty,pos,af,some (j,want)⟩ (yielded ops a.tmps)=true:=by
  simp [Region.wanted,p' ax cN,aH]
 rw [if_pos hw]
 have:=bf a.eval (fun x u ab=>ax.nU ab)
 simp only [Oper.wp,this,Oper.upon]
 exact lT _ _ (h _ (ax.put bL v))
theorem aib {f:FuncId} {args:Array Value} {vm:Value→World→Prop} (cN:xn ops l j=some b) (aH:b=want) (bf:kL P l ⟨some d,op,ty,pos,af,some (j,want)⟩ w f args) (a6:Calls P f args w (bI vm)) (bL:Nat.blt d n=true) (h:∀ v w',vm v w'→fC P ops Q rest n ds ((d,v)::l) w') :
  fC P ops Q (⟨some d,op,ty,pos,af,some (j,want)⟩::rest) n ds l w:=by
 intro a ax
 refine wpList_step fun K lT=>?_
 have hw:Region.wanted ⟨some d,op,ty,pos,af,some (j,want)⟩ (yielded ops a.tmps)=true:=by
  simp [Region.wanted,p' ax cN,aH]
 rw [if_pos hw]
 have:=bf a.eval (fun x u ab=>ax.nU ab)
 simp only [Oper.wp,this,Oper.upon]
 refine a6.mono fun e w' he=>?_
 cases e with
 | returned v=>exact lT _ _ (h v w' he _ (ax.put bL v))
 | panicked c=>exact he.elim
 | outgrown=>exact he.elim
theorem aic (cN:xn ops l j=some b) (aH:b≠want) (bL:Nat.blt d n=true) (h:fC P ops Q rest n ds ((d,undef)::l) w) :
  fC P ops Q (⟨some d,op,ty,pos,af,some (j,want)⟩::rest) n ds l w:=by
 intro a ax
 refine wpList_step fun K lT=>?_
 have hw:¬ (Region.wanted ⟨some d,op,ty,pos,af,some (j,want)⟩ (yielded ops a.tmps)=true):=by
  simp [Region.wanted,p' ax cN,aH]
 rw [if_neg hw]
 exact lT _ _ (h _ (ax.put bL undef))
/-! .. in regions that draw -/
theorem xo {a:Act} {aE:World} {o:Oper} (dV:o.guard=some (j,want)) (cN:xn ops l j=some b) (hj:iE.on ops (qM l M) o a aE):Region.wanted o (yielded ops a.tmps)=(b == want):=by
 obtain⟨t,h1,aj⟩:=CZ cN;have ug:t∈Oper.looksAt ops o:=by
  unfold Oper.looksAt;rw [dV];exact List.mem_append_right _ (by simp [h1])
 have:=hj t (fun u _=>u = .bool b) ug (by simp [qM,aj]);have bk:t<a.tmps.size:=by
  rcases Nat.lt_or_ge t a.tmps.size with h | h
  ·exact h
  simp [Array.getElem?_eq_none h] at this;cases this
 simp [bk] at this;have aR:yielded ops a.tmps j=some b:=by
  unfold yielded;rw [h1];simp [bk,this]
 simp [Region.wanted,dV,aR]
theorem Q9 {V:Value→World→Prop} (cN:xn ops l j=some b) (aH:b=want) (h:apy P ops (Mod []) (Mod [] w) n (qM l M) ⟨some d,op,ty,pos,af,none⟩ V):apy P ops (Mod []) (Mod [] w) n (qM l M) ⟨some d,op,ty,pos,af,some (j,want)⟩ V:=by
 refine⟨h.lasts,h.fits,fun a aE h0 hj=>?_⟩;have hw:=xo (o:=⟨some d,op,ty,pos,af,some (j,want)⟩) rfl cN hj;rw [hw,aH];simp only [beq_self_eq_true,if_true];have:=h.run a aE h0 (fun t apw bQ hZ=>hj t apw (by
  unfold Oper.looksAt at bQ ⊢;simp only [List.append_nil] at bQ;exact List.mem_append_left _ bQ) hZ)
 rw [if_pos (by simp [Region.wanted])] at this;exact this
theorem aid (cN:xn ops l j=some b) (aH:b≠want) (bL:Nat.blt d n=true):apy P ops (Mod []) (Mod [] w) n (qM l M) ⟨some d,op,ty,pos,af,some (j,want)⟩ (fun u _=>u=undef):=by
 refine⟨fun _ _ _ _ h=>h,fun rA pY=>by injection pY with pY;subst pY;simpa [Nat.blt_eq] using bL,fun a aE h0 hj=>?_⟩;have hw:=xo (o:=⟨some d,op,ty,pos,af,some (j,want)⟩) rfl cN hj;have:(b == want)=false:=by simp [aH]
 rw [hw,this];simp
theorem Jr {v:Value} (cN:xn ops l j=some b) (aH:b=want) (bf:∀ aE,Mod [] w aE→bo P l ⟨some d,op,ty,pos,af,none⟩ aE v aE) (bL:Nat.blt d n=true) (aN:fa op=true) (h:gh P ops w n Fin rest ((d,v)::l) M) :
  gh P ops w n Fin (⟨some d,op,ty,pos,af,some (j,want)⟩::rest) l M:=by
 refine⟨fun u _=>u=v,Q9 cN aH (sX (fun _ _ _ _ h=>h) bL aN fun ρ aE h0 h1 aj=>?_),?_⟩
 ·rw [bf aE h0 ρ h1];exact⟨Mod.refl [] aE,rfl⟩
 rw [kN rfl];exact h
theorem HY {f:FuncId} {args:Array Value} {v:Value} (cN:xn ops l j=some b) (aH:b=want) (bf:∀ aE,Mod [] w aE→kL P l ⟨some d,op,ty,pos,af,none⟩ aE f args) (a6:∀ aE,Mod [] w aE→Calls P f args aE (bI fun u cY=>u=v∧Mod [] aE cY)) (bL:Nat.blt d n=true) (aN:fa op=true) (h:gh P ops w n Fin rest ((d,v)::l) M) :
  gh P ops w n Fin (⟨some d,op,ty,pos,af,some (j,want)⟩::rest) l M:=by
 refine⟨fun u _=>u=v,Q9 cN aH (sX (fun _ _ _ _ h=>h) bL aN fun ρ aE h0 h1 aj=>?_),?_⟩
 ·rw [bf aE h0 ρ h1]
  exact⟨rfl,(a6 aE h0).mono fun e cY he=>by cases e <;> first | exact⟨he.2,he.1⟩ | exact he⟩
 rw [kN rfl];exact h
theorem ac1 {f:FuncId} {args:Array Value} (V:Value→World→Prop) (oO:∀ v aE cY,Mod [] aE cY→V v aE→V v cY) (cN:xn ops l j=some b) (aH:b=want) (bf:∀ aE,Mod [] w aE→kL P l ⟨some d,op,ty,pos,af,none⟩ aE f args) (a6:∀ aE,Mod [] w aE→Calls P f args aE (bI fun u cY=>V u cY∧Mod [] aE cY)) (bL:Nat.blt d n=true) (aN:fa op=true) (bM:iN d l=none)
  (h:gh P ops w n Fin rest l ((d,V)::M)):gh P ops w n Fin (⟨some d,op,ty,pos,af,some (j,want)⟩::rest) l M:=by
 refine⟨V,Q9 cN aH (sX oO bL aN fun ρ aE h0 h1 aj=>?_),?_⟩
 ·rw [bf aE h0 ρ h1]
  exact⟨rfl,(a6 aE h0).mono fun e cY he=>by cases e <;> first | exact⟨he.2,he.1⟩ | exact he⟩
 rw [me rfl bM];exact h
theorem aie (cN:xn ops l j=some b) (aH:b≠want) (bL:Nat.blt d n=true) (h:gh P ops w n Fin rest ((d,undef)::l) M) :
  gh P ops w n Fin (⟨some d,op,ty,pos,af,some (j,want)⟩::rest) l M:=
 ⟨fun u _=>u=undef,aid cN aH bL,by rw [kN rfl];exact h⟩
/-! ## A call's begin and end -/
def q8 (i:Nat):List Value→List (Nat×Value)
 | []=>[]
 | v::r=>(i,v)::q8 (i+1) r
theorem qP:∀ (vs:List Value) (i t:Nat) (v:Value),iN t (q8 i vs)=some v→i≤t∧vs[t-i]? = some v
 | [],_,_,_,h=>by simp [q8,iN] at h
 | u::r,i,t,v,h=>by
  simp only [q8,iN] at h
  cases aH:Nat.beq i t with
  | true=>
   rw [aH] at h
   have:=Nat.eq_of_beq_eq_true aH
   subst this
   exact⟨Nat.le_refl _,by simpa using h⟩
  | false=>
   rw [aH] at h
   obtain⟨h1,aj⟩:=qP r (i+1) t v h
   refine⟨by omega,?_⟩
   rw [show t-i=(t-(i+1))+1 by omega]
   simpa using aj
theorem enter {f:FuncId} {fn:Func} {c:Code} {vs:List Value} {apv:Ending→World→Prop} (dm:P.funcs[f]? = some fn) (aH:fn.body=some c) (bW:fn.ntmps=n) (hle:Nat.ble vs.length n=true) (aN:Sub (q8 0 vs) l)
  (h:nV P c (bodyPost P fn apv) n [] l w):Calls P f vs.toArray w apv:=by
 have Ty:vs.length≤n:=by simpa using hle
 have ax:Has n [] (q8 0 vs) {tmps:=vs.toArray++Array.replicate (fn.ntmps-vs.toArray.size) undef,defers:=[]}:=by
  refine⟨by rw [Array.size_append,Array.size_replicate,List.size_toArray,bW];omega,rfl,fun t v bw=>?_⟩
  obtain⟨_,aj⟩:=qP vs 0 t v bw
  rw [Nat.sub_zero] at aj
  have bk:=(List.getElem?_eq_some_iff.1 aj).1
  dsimp only
  rw [Array.getElem?_append_left (by simpa using bk)]
  simpa using aj
 exact calls_of_wp dm aH (h _ (ax.sub aN))
variable {fn:Func} {vm:Value→World→Prop} {t t' Xc:Nat} {v v' Xd:Value}
theorem sY (ax:Has n ds l a) (h:iN t l=some v):a.tmps.getD t undef=v:=by simp [ax.get t v h]
theorem ac2 (bf:fn.results = #[]) (h:vm (.tuple #[]) w):hd (bodyPost P fn (bI vm)) .ret n [] l w:=fun a ax=>⟨ax.defers,_,results_none bf _ _ _,h⟩
theorem Mk (bf:fn.results = #[]) (h:vm (.tuple #[]) w):hd (bodyPost P fn (bI vm)) .normal n [] l w:=fun a ax=>⟨ax.defers,_,results_none bf _ _ _,h⟩
theorem ar (bf:fn.results = #[.tmp t]) (bw:iN t l=some v) (h:vm v w):hd (bodyPost P fn (bI vm)) .ret n [] l w:=fun a ax=>⟨ax.defers,_,results_tmp bf _ _ _,by rw [sY ax bw];exact h⟩
theorem ei (bf:fn.results = #[.tmp t,.tmp t']) (bw:iN t l=some v) (od:iN t' l=some v') (h:vm (.tuple #[v,v']) w):hd (bodyPost P fn (bI vm)) .ret n [] l w:=fun a ax=>⟨ax.defers,_,results_tmp2 bf _ _ _,by rw [sY ax bw,sY ax od];exact h⟩
theorem p2 (bf:fn.results = #[.tmp t,.tmp t',.tmp Xc]) (bw:iN t l=some v) (od:iN t' l=some v') (ac3:iN Xc l=some Xd) (h:vm (.tuple #[v,v',Xd]) w):hd (bodyPost P fn (bI vm)) .ret n [] l w:=fun a ax=>
 ⟨ax.defers,.tuple #[v,v',Xd],by simp [results,bf,ax.get _ _ bw,ax.get _ _ od,ax.get _ _ ac3],h⟩
theorem kr {ad:Addr} {vs:List Value} {T c:Nat} (bf:fn.results = #[.cell t T]) (bQ:pJ P T c=true) (bw:iN t l=some (.pointer (some ad))) (a6:vs.length=c) (rB:pd w ad vs) (h:vm (.agg vs.toArray) w):hd (bodyPost P fn (bI vm)) .ret n [] l w:=fun a ax=>
 ⟨ax.defers,.agg vs.toArray,by simp [results,bf,ax.get _ _ bw,asAddr,gq bQ a6 rB],h⟩
theorem iO {ad:Addr} {vs:List Value} {T c:Nat} (bf:fn.results = #[.cell t T,.tmp t']) (bQ:pJ P T c=true) (bw:iN t l=some (.pointer (some ad))) (a6:vs.length=c) (rB:pd w ad vs) (od:iN t' l=some v') (h:vm (.tuple #[.agg vs.toArray,v']) w):hd (bodyPost P fn (bI vm)) .ret n [] l w:=fun a ax=>
 ⟨ax.defers,.tuple #[.agg vs.toArray,v'],by simp [results,bf,ax.get _ _ bw,ax.get _ _ od,asAddr,gq bQ a6 rB],h⟩
end
section
variable {P:Program} {ops:Array Oper} {Q:Exit→Act→World→Prop} {n:Nat} {ds:List Deferred} {l:List (Nat×Value)} {M:List (Nat×(Value→World→Prop))} {w w':World} {Fin:iE→Prop} {rest:List Oper} {d:Nat} {op:Op} {ty:TypeId} {pos:String} {af:Array Edge} {j:Nat} {b c want:Bool} {v:Value} {x:Operand}
theorem Tm (cN:xn ops l j=some b) (aH:b=c) (h:fC P ops Q rest n ds ((d,undef)::l) w) (a6:(c != want)=true:=by exact rfl) (bL:Nat.blt d n=true:=by exact rfl):fC P ops Q (⟨some d,op,ty,pos,af,some (j,want)⟩::rest) n ds l w:=
 aic cN (fun e=>by subst aH;subst e;simp at a6) bL h
theorem eX (cN:xn ops l j=some b) (aH:b=c) (h:gh P ops w n Fin rest ((d,undef)::l) M) (a6:(c != want)=true:=by exact rfl) (bL:Nat.blt d n=true:=by exact rfl):gh P ops w n Fin (⟨some d,op,ty,pos,af,some (j,want)⟩::rest) l M:=
 aie cN (fun e=>by subst aH;subst e;simp at a6) bL h
theorem ao (bf:bo P l ⟨some d,op,ty,pos,af,none⟩ w v w') (h:fC P ops Q rest n ds ((d,v)::l) w') (bL:Nat.blt d n=true:=by exact rfl):fC P ops Q (⟨some d,op,ty,pos,af,none⟩::rest) n ds l w:=e9 bf bL h
theorem zh (cN:xn ops l j=some b) (aH:b=want) (bf:bo P l ⟨some d,op,ty,pos,af,some (j,want)⟩ w v w') (h:fC P ops Q rest n ds ((d,v)::l) w') (bL:Nat.blt d n=true:=by exact rfl):fC P ops Q (⟨some d,op,ty,pos,af,some (j,want)⟩::rest) n ds l w:=mK cN aH bf bL h
theorem aQ (ab:aT l x=some v) (h:fC P ops Q rest n ds ((d,v)::l) w) (bL:Nat.blt d n=true:=by exact rfl):fC P ops Q (⟨some d,.move x,ty,pos,af,none⟩::rest) n ds l w:=e9 (dQ ab) bL h
theorem bb (ab:aT l x=some v) (h:fC P ops Q rest n ds ((d,v)::l) w) (bL:Nat.blt d n=true:=by exact rfl):fC P ops Q (⟨some d,.assign x,ty,pos,af,none⟩::rest) n ds l w:=e9 (cI ab) bL h
theorem R {K:Act→World→Prop} {y:Code} {Q2:Exit→Act→World→Prop} (lT:∀ n ds l w,nV P y Q2 n ds l w→∀ a,Has n ds l a→K a w) (h:nV P y Q2 n ds l w):fC P ops (Exit.then K Q) [] n ds l w:=eG (fv (lT _ _ _ _ h))
theorem az {K:Act→World→Prop} {y:Code} {Q2:Exit→Act→World→Prop} (lT:∀ n ds l w,nV P y Q2 n ds l w→∀ a,Has n ds l a→K a w) (h:nV P y Q2 n ds l w):hd (Exit.then K Q) .normal n ds l w:=fv (lT _ _ _ _ h)
theorem ay {x y:Code} (h:∀ {K:Act→World→Prop},(∀ n ds l w,nV P y Q n ds l w→∀ a,Has n ds l a→K a w)→nV P x (Exit.then K Q) n ds l w):nV P (.seq x y) Q n ds l w:=l7 fun _ aj=>h aj
theorem ae {lo:List Oper} {id:Nat} {y:Code} (h:∀ {K:Act→World→Prop},(∀ n ds l w,nV P y Q n ds l w→∀ a,Has n ds l a→K a w)→fC P lo.toArray (Exit.then K Q) lo n ds l w):nV P (.seq (.region id lo.toArray false) y) Q n ds l w:=l7 fun _ aj=>b8 (h aj)
theorem ah (bf:∀ {aE},Mod [] w aE→bo P l ⟨some d,op,ty,pos,af,none⟩ aE v aE) (h:gh P ops w n Fin rest ((d,v)::l) M) (bL:Nat.blt d n=true:=by exact rfl) (aN:fa op=true:=by exact rfl):gh P ops w n Fin (⟨some d,op,ty,pos,af,none⟩::rest) l M:=ahC (fun _ e=>bf e) bL aN h
theorem aI (aH:b=want) (bf:∀ {aE},Mod [] w aE→bo P l ⟨some d,op,ty,pos,af,none⟩ aE v aE) (h:gh P ops w n Fin rest ((d,v)::l) M) (cN:xn ops l j=some b:=by exact rfl) (bL:Nat.blt d n=true:=by exact rfl) (aN:fa op=true:=by exact rfl):gh P ops w n Fin (⟨some d,op,ty,pos,af,some (j,want)⟩::rest) l M:=Jr cN aH (fun _ e=>bf e) bL aN h
theorem aw (bf:bo P l ⟨some d,op,ty,pos,af,some (j,want)⟩ w v w') (h:fC P ops Q rest n ds ((d,v)::l) w') (cN:xn ops l j=some want:=by exact rfl) (bL:Nat.blt d n=true:=by exact rfl):fC P ops Q (⟨some d,op,ty,pos,af,some (j,want)⟩::rest) n ds l w:=mK cN rfl bf bL h
theorem cD {f:FuncId} {args:Array Value} (bf:kL P l ⟨some d,op,ty,pos,af,none⟩ w f args) (a6:Calls P f args w (bI fun u w'=>u=v∧Mod [] w w')) (h:∀ w',Mod [] w w'→fC P ops Q rest n ds ((d,v)::l) w') (bL:Nat.blt d n=true:=by exact rfl):fC P ops Q (⟨some d,op,ty,pos,af,none⟩::rest) n ds l w:=fP bf a6 bL fun _ w' aB=>aB.1▸h w' aB.2
theorem fF {f:FuncId} {args:Array Value} (bf:kL P l ⟨some d,op,ty,pos,af,some (j,want)⟩ w f args) (a6:Calls P f args w (bI fun u w'=>u=v∧Mod [] w w')) (h:∀ w',Mod [] w w'→fC P ops Q rest n ds ((d,v)::l) w') (cN:xn ops l j=some want:=by exact rfl) (bL:Nat.blt d n=true:=by exact rfl):fC P ops Q (⟨some d,op,ty,pos,af,some (j,want)⟩::rest) n ds l w:=aib cN rfl bf a6 bL fun _ w' aB=>aB.1▸h w' aB.2
theorem bB {p:Prop} [h:Decidable p] (bJ:p):decide p=true:=decide_eq_true bJ
theorem bX {p:Prop} [h:Decidable p] (bJ:¬ p):decide p=false:=decide_eq_false bJ
theorem eo {a:Bool} (h:¬ a=true):a=false:=Bool.eq_false_iff.2 h
end
theorem bZ':(∀ b,(true&&b)=b)∧(∀ b,(b&&true)=b)∧(∀ b,(false&&b)=false)∧(∀ b,(b&&false)=false)∧(∀ b,(true||b)=true)∧(∀ b,(b||true)=true)∧(∀ b,(false||b)=b)∧(∀ b,(b||false)=b)∧(!true)=false∧(!false)=true:=by simp
section
variable {A A' M:List Nat} {w w':World}
theorem aS.bE {d:D} {u:Value} (h:aS A w d u) (k:Mod [] w w'):aS A w' d u:=aS.to k (by simp) (fun x ab=>.inl ab) d u h
theorem aS.toM {d:D} {u:Value} (h:aS A w d u) (k:Mod M w w') (eb:∀ x∈M,x∈A):aS A w' d u:=aS.to k eb (fun x ab=>.inl ab) d u h
theorem aS.fN {d:D} {u:Value} (h:aS A w d u) (du:∀ x∈A',x∈A):aS A' w d u:=aS.to (Mod.refl [] w) (by simp) (fun x ab=>.inl (du x ab)) d u h
theorem aS.more {d:D} {u:Value} (h:aS A w d u) (du:∀ x∈A',x∈A∨w.heap.size≤x):aS A' w d u:=aS.to (Mod.refl [] w) (by simp) du d u h
theorem ak.bE {ds:List D} {us:List Value} (h:ak A w ds us) (k:Mod [] w w'):ak A w' ds us:=ak.to k (by simp) (fun x ab=>.inl ab) ds us h
theorem ak.toM {ds:List D} {us:List Value} (h:ak A w ds us) (k:Mod M w w') (eb:∀ x∈M,x∈A):ak A w' ds us:=ak.to k eb (fun x ab=>.inl ab) ds us h
theorem ak.fN {ds:List D} {us:List Value} (h:ak A w ds us) (du:∀ x∈A',x∈A):ak A' w ds us:=ak.to (Mod.refl [] w) (by simp) (fun x ab=>.inl (du x ab)) ds us h
theorem ak.more {ds:List D} {us:List Value} (h:ak A w ds us) (du:∀ x∈A',x∈A∨w.heap.size≤x):ak A' w ds us:=ak.to (Mod.refl [] w) (by simp) du ds us h
/-! ### rows of values that are their own reading -/
variable {α:Type}
def flat (sz:Nat) (cells:α→List Value) (xs:List α):D:=.iW sz (xs.map fun x=>(cells x).map D.v)
theorem A3:∀ {cs us:List Value},ak A w (cs.map D.v) us→us=cs
 | [],us,h=>by simpa [ak] using h
 | c::cs,us,h=>by
  simp only [List.map_cons,ak] at h
  obtain⟨u,gH,rfl,h1,aj⟩:=h
  rw [h1.ku,A3 aj]
theorem xp:∀ {cs:List Value},(∀ c∈cs,c.oneCell'=true)→ak A w (cs.map D.v) cs
 | [],_=>rfl
 | c::cs,h=>ak.fL (aS.cC (h c (by simp))) (xp fun x ab=>h x (by simp [ab]))
theorem hS {sz:Nat} {cells:α→List Value} {xs:List α} {u:Value} (h:aS A w (flat sz cells xs) u):∃ ad c,u = .slice ad xs.length c∧xs.length≤c∧c≤9223372036854775807:=by
 obtain⟨ad,c,h1,aj,aF⟩:=h.Ab;simp only [List.length_map] at h1 aj;exact⟨ad,c,h1,aj,aF⟩
theorem ff {sz n c i:Nat} {cells:α→List Value} {xs:List α} {ad:Option Addr} {x:α} (h:aS A w (flat sz cells xs) (.slice ad n c)) (hi:xs[i]? = some x):∃ a,ad=some a∧pd w (a.add (i*sz)) (cells x)∧(cells x).length=sz:=by
 obtain⟨a,us,h1,aj,aF,bn,_⟩:=aS.at_ (i:=i) (r:=(cells x).map D.v) h (by simp [hi]);have:=A3 aj;subst this;exact⟨a,h1,bn,aF⟩
theorem q9 (cells:α→List Value) (xs:List α):(xs.map fun x=>(cells x).map D.v).flatten=((xs.map cells).flatten).map D.v:=by
 induction xs with
 | nil=>rfl
 | cons x xs dh=>simp [dh]
theorem Own.flat {e sz n:Nat} {v:Value} {cells:α→List Value} {xs:List α} (h:Own w e sz v n ((xs.map cells).flatten)) (bM:∀ x∈xs,(cells x).length=sz) (h1:∀ x∈xs,∀ c∈cells x,c.oneCell'=true) (bW:xs.length=n) (du:∀ x∈aL v,x∉A):aS A w (flat sz cells xs) v:=by
 refine h.rep ?_ ?_ (by simpa using bW) du
 ·rw [q9];exact xp fun c a6=>by
   obtain⟨cs,aj,aF⟩:=List.mem_flatten.1 a6;obtain⟨x,bn,rfl⟩:=List.mem_map.1 aj;exact h1 x bn c aF
 intro r bf;obtain⟨x,bn,rfl⟩:=List.mem_map.1 bf;simp [bM x bn]
theorem Src.flat {P:Program} {o1 uM sz:Nat} {cells:α→List Value} {xs:List α} {v:Value} (hk:P.underlying o1=some (.slice uM)) (h:aS A w (flat sz cells xs) v):Src P sz o1 v xs.length ((xs.map cells).flatten) w:=by
 obtain⟨vs,h1,aj,aF⟩:=Src.rep (P:=P) hk h;rw [q9] at h1;have:=A3 h1;subst this;simpa using aF
end
/-! ## Structs held against each other -/
section
variable {P:Program} {n:Nat} {l:List (Nat×Value)} {w w':World}
variable {d:Nat} {ty:TypeId} {pos:String} {af:Array Edge}
variable {dd:Option Nat} {gg:Option (Nat×Bool)} {x y z:Operand} {t t':TypeId}
def ac4:Value→Value→Option Bool
 | .int _ a,.int _ b=>some (decide (a=b))
 | .bool a,.bool b=>some (decide (a=b))
 | .string a,.string b=>some (decide (a.data.toList=b.data.toList))
 | _,_=>none
def zt:List Value→List Value→Option Bool
 | [],[]=>some true
 | u::us,v::vs=>match ac4 u v,zt us vs with
  | some a,some b=>some (a&&b)
  | _,_=>none
 | _,_=>none
def okF (P:Program):List Field→Nat→List Value→List Value→Bool
 | [],_,[],[]=>true
 | f::nW,i,u::us,v::vs=>f.name != "_" && f.offset == i&&mY P f.type&&(match P.underlying f.type,u,v with
  | some (.int _),.int k _,.int jH _=>k == jH
  | some .bool,.bool _,.bool _=>true
  | some .string,.string _,.string _=>true
  | _,_,_=>false)&&okF P nW (i+1) us vs
 | _,_,_,_=>false
def Ra (P:Program) (t:Nat) (us vs:List Value):Bool:=match P.underlying t with
 | some (.struct nW)=>!P.stoodInHeld t && !P.eqGuardType P.depth t&&okF P nW.toList 0 us vs
 | _=>false
theorem q' {dp:Nat}:∀ (nW:List Field) (i:Nat) (us vs:List Value) (xs FN:Array Value) (b:Bool),okF P nW i us vs=true→(∀ j u,us[j]? = some u→xs[i+j]? = some u)→(∀ j u,vs[j]? = some u→FN[i+j]? = some u)→zt us vs=some b→
  (Op.eqFields (dp+1) xs FN nW).run P w = .ok b w
 | [],i,us,vs,xs,FN,b,h,ab,aR,aH=>by
  cases us <;> cases vs <;> simp [okF] at h
  simp [zt] at aH
  subst aH
  simp [Op.eqFields]
 | f::nW,i,us,vs,xs,FN,b,h,ab,aR,aH=>by
  cases us with
  | nil=>simp [okF] at h
  | cons u us=>
   cases vs with
   | nil=>simp [okF] at h
   | cons v vs=>
    simp only [okF,Bool.and_eq_true,bne_iff_ne,ne_eq,beq_iff_eq] at h
    obtain⟨⟨⟨⟨h1,aj⟩,aF⟩,bn⟩,ch⟩:=h
    obtain⟨QX,inf,eB,kv,j0,lQ⟩:=qK aF
    simp only [zt] at aH
    split at aH
    rotate_left
    ·cases aH
    rename_i ev eW aV bs
    injection aH with aH
    have dh:=q' (dp:=dp) nW (i+1) us vs xs FN eW ch (fun j m' dG=>by have:=ab (j+1) m' (by simpa using dG);rwa [show i+(j+1)=i+1+j by omega] at this) (fun j m' dG=>by have:=aR (j+1) m' (by simpa using dG);rwa [show i+(j+1)=i+1+j by omega] at this) bs
    have ac5:=ab 0 u rfl
    have ac6:=aR 0 v rfl
    rw [Nat.add_zero] at ac5 ac6
    have ET:(part f.type xs f.offset).run P w = .ok u w:=by simp [part,i' eB,j0,aj,ac5]
    have Ef:(part f.type FN f.offset).run P w = .ok v w:=by simp [part,i' eB,j0,aj,ac6]
    have e:(Op.equalIn (dp+1) f.type u v).run P w = .ok ev w:=by
     rw [eB] at bn
     cases QX <;> cases u <;> (try (simp at bn;done)) <;> cases v <;> (try (simp at bn;done)) <;> simp only [ac4] at aV <;> injection aV with aV <;> subst aV
     ·rw [run_equalIn_bool' w dp f.type _ _ eB,p8]
     ·simp only [beq_iff_eq] at bn
      subst bn
      rw [run_equalIn_int w dp f.type _ _ _ _ eB,p8]
     rw [run_equalIn_string w dp f.type _ _ eB,ByteArray.toList_eq,ByteArray.toList_eq,p8]
    simp only [Op.eqFields,h1,ne_eq,not_false_eq_true,if_true,Sem.run_bind,ET,Ef,e,Result.andThen_ok]
    cases ev
    ·simp at aH ⊢
     exact aH
    simp at aH ⊢
    rw [dh,aH]
theorem Js {us vs:List Value} {b:Bool} (aN:Ra P t us vs=true) (aH:zt us vs=some b) (x y:Operand):((do eqGuard .neq t x y (.agg us.toArray) (.agg vs.toArray);binOp .neq t (.agg us.toArray) (.agg vs.toArray)):Sem Value).run P w = .ok (.bool (!b)) w:=by
 unfold Ra at aN
 split at aN
 ·rename_i nW h1
  simp only [Bool.and_eq_true,Bool.not_eq_true'] at aN;obtain⟨⟨aj,aF⟩,bn⟩:=aN;have ch:P.fieldsOf t=nW:=by simp [Program.fieldsOf,h1]
  have eB:=run_equalIn_agg (P:=P) w 9999 t us.toArray vs.toArray (by rw [ch];exact h1) aj;rw [ch] at eB;have kv:=q' (P:=P) (w:=w) (dp:=9998) nW.toList 0 us vs us.toArray vs.toArray b bn (fun j u dG=>by simpa using dG) (fun j u dG=>by simpa using dG) aH;rw [Sem.run_bind,run_eqGuard_agg w .neq t x y _ _ aF];simp only [Result.andThen_ok];rw [run_neq_struct];rw [show(10000:Nat)=9999+1 from rfl,eB,show(9999:Nat)=9998+1 from rfl,kv];rfl
 cases aN
theorem Rb {us vs:List Value} {b:Bool} (aN:Ra P t us vs=true) (ab:aT l x=some (.agg us.toArray)) (aR:aT l y=some (.agg vs.toArray)) (aH:zt us vs=some b):bo P l ⟨dd,.binOp .neq t x y t',ty,pos,af,gg⟩ w (.bool (!b)) w:=fun ρ h=>by
 have:=Js (w:=w) aN aH x y;simp only [execOp,h _ _ ab,h _ _ aR,Sem.run_bind];rw [Sem.run_bind] at this;rw [this];rfl
end
/-! ## Regions that draw: some operations first, a head in whatever order, a tail one behind the other
'ps': operations that touch no memory (their value is the same in all worlds): they may be taken first. 'hs': the head. 'ts': the tail: each waits for the one ahead of it, the first for the head. -/
section
variable {P:Program} {ops:Array Oper} {md:Region.Mode} {apv:World→World→Prop} {C:World→Prop} {n:Nat} {ds:List Deferred} {Q:Exit→Act→World→Prop} {w w':World} {l:List (Nat×Value)} {a:Act}
def kc (listed:Array Bool):List Nat→Array Bool
 | []=>listed
 | i::r=>kc (listed.setIfInBounds i true) r
def ox (md:Region.Mode) (ops:Array Oper):List Nat→Array Bool→Bool
 | [],listed=>(Region.ready md ops listed).isEmpty
 | t::fV,listed=>decide (Region.ready md ops listed = [t])&&ox md ops fV (listed.setIfInBounds t true)
def xq (md:Region.Mode) (ops:Array Oper) (fV:List Nat):List Nat→Array Bool→Bool
 | [],listed=>ox md ops fV listed
 | i::aN,listed=>(Region.ready md ops listed).contains i&&Region.free md ops listed i&&xq md ops fV aN (listed.setIfInBounds i true)
def uh (md:Region.Mode) (ops:Array Oper):List Nat→Array Bool→Bool
 | [],_=>true
 | i::hI,listed=>(Region.ready md ops listed).contains i&&Region.free md ops listed i&&uh md ops hI (listed.setIfInBounds i true)
def xr (md:Region.Mode) (ops:Array Oper) (t0:Nat):List Nat→Bool
 | []=>true
 | i::aN=>(aN ++ [t0]).any (fun j=>Region.waitsFor md ops j i)&&xr md ops t0 aN
def vI (md:Region.Mode) (ops:Array Oper):Nat→List Nat→Bool
 | _,[]=>true
 | p,t::fV=>Region.waitsFor md ops t p&&vI md ops t fV
def C0 (md:Region.Mode) (ops:Array Oper) (listed:Array Bool):Bool:=
 (List.range ops.size).all fun j=>!listed.getD j false||match ops[j]? with
  | some qL=>qL.after.all fun e=>!Region.binds md e||listed.getD e.on false
  | none=>true
structure oy (md:Region.Mode) (ops:Array Oper) (aN:List Nat) (fV:List Nat) (listed:Array Bool):Prop where
 size:listed.size=ops.size
 closed:∀ j qL,ops[j]? = some qL→listed.getD j false=true→∀ e∈qL.after,Region.binds md e=true→listed.getD e.on false=true
 tail:∀ t∈fV,listed.getD t true=false
theorem oy.set {aN fV:List Nat} {i:Nat} {listed:Array Bool} (inv:oy md ops aN fV listed) (hi:i∈Region.ready md ops listed) (Nk:i∉fV):oy md ops aN fV (listed.setIfInBounds i true):=by
 obtain⟨_,yd,aif,jK⟩:=mem_ready.1 hi;refine⟨by simp [inv.size],fun j qL dG bM e he aH=>?_,fun t bQ=>by rw [getD_set_ne true (fun e=>by subst e;exact Nk bQ)];exact inv.tail t bQ⟩
 by_cases u9:i=j
 ·subst u9;have:qL=yd:=Option.some.inj (dG.symm.trans aif);subst this;exact getD_set_true (jK e he aH)
 rw [getD_set_ne false u9] at bM;exact getD_set_true (inv.closed j qL dG bM e he aH)
theorem sZ {ts0:List Nat} {listed:Array Bool}:∀ (fV:List Nat) (p:Nat),(∀ t∈p::fV,t∈ts0)→vI md ops p fV=true→(∀ t∈ts0,listed.getD t true=false)→∀ t∈fV,t∉Region.ready md ops listed
 | [],_,_,_,_,t,bQ=>by cases bQ
 | t1::fV,p,ik,a6,jw,t,bQ=>by
  simp only [vI,Bool.and_eq_true] at a6
  rcases List.mem_cons.1 bQ with rfl | AK
  ·intro bf
   obtain⟨_,ac7,Nn,jK⟩:=mem_ready.1 bf
   obtain⟨sV,Ng,e,he,aH,Jt⟩:=Region.waitsFor_spec a6.1
   have:sV=ac7:=Option.some.inj (Ng.symm.trans Nn)
   subst this
   have aj:=jK e he aH
   rw [Jt,getD_both (jw p (ik p (by simp)))] at aj
   cases aj
  exact sZ fV t1 (fun t bQ=>ik t (by simp at bQ ⊢;exact .inr bQ)) a6.2 jw t AK
theorem nx {t0:Nat} {listed:Array Bool} (ha:listed.size=ops.size) (lF:∀ j qL,ops[j]? = some qL→listed.getD j false=true→∀ e∈qL.after,Region.binds md e=true→listed.getD e.on false=true) :
  ∀ (aN:List Nat),xr md ops t0 aN=true→∀ i∈aN,listed.getD i true=false→t0∉Region.ready md ops listed
 | [],_,i,hi,_=>by cases hi
 | bD::aN,bM,i,hi,jw=>by
  simp only [xr,Bool.and_eq_true] at bM
  rcases List.mem_cons.1 hi with rfl | aih
  rotate_left
  ·exact nx ha lF aN bM.2 i aih jw
  obtain⟨j,dG,hw⟩:=List.any_eq_true.1 bM.1
  obtain⟨qL,vn,e,he,aH,Jt⟩:=Region.waitsFor_spec hw
  rcases List.mem_append.1 dG with sM | sM
  ·cases ac8:listed.getD j false with
   | true=>
    have aj:=lF j qL vn ac8 e he aH
    rw [Jt,getD_both jw] at aj
    cases aj
   | false=>
    have aii:j<listed.size:=by rw [ha];exact(Array.getElem?_eq_some_iff.1 vn).1
    exact nx ha lF aN bM.2 j sM (getD_in aii ac8)
  simp only [List.mem_singleton] at sM
  subst sM
  intro bf
  obtain⟨_,ac7,Nn,jK⟩:=mem_ready.1 bf
  have:qL=ac7:=Option.some.inj (vn.symm.trans Nn)
  subst this
  have aj:=jK e he aH
  rw [Jt,getD_both jw] at aj
  cases aj
def zu (P:Program) (md:Region.Mode) (ops:Array Oper) (apv:World→World→Prop) (C:World→Prop) (n:Nat) (fV:List Nat) (L:Array Bool→iE→Prop):Nat→Array Bool→iE→Prop
 | 0,listed,N=>L listed N
 | f+1,listed,N=>Region.ready md ops listed≠[]∧
  ∀ i∈Region.ready md ops listed,i∉fV∧∀ o,ops[i]? = some o→∃ V,apy P ops apv C n N o V∧zu P md ops apv C n fV L f (listed.setIfInBounds i true) (N.put o V)
theorem qa {L:Array Bool→iE→Prop} {w0:World} {ds:List Deferred} {fV:List Nat} {g:Nat} (nn:xi apv C)
  (sU:∀ listed N a w,N.lasts apv→a.defers=ds→C w→apv w0 w→N.all n a w→L listed N→wpAny P md ops Q g listed a w):∀ (f:Nat) (listed:Array Bool) (N:iE) (a:Act) (w:World),N.lasts apv→a.defers=ds→C w→apv w0 w→N.all n a w→
  zu P md ops apv C n fV L f listed N→wpAny P md ops Q (f+g) listed a w
 | 0,listed,N,a,w,bD,h1,aj,aF,bn,h=>by rw [Nat.zero_add];exact sU listed N a w bD h1 aj aF bn h
 | f+1,listed,N,a,w,bD,h1,aj,aF,bn,h=>by
  rw [show f+1+g=(f+g)+1 by omega]
  refine⟨fun bf=>absurd bf h.1,fun i hi=>?_⟩
  obtain⟨_,o,dV,_⟩:=mem_ready.1 hi
  obtain⟨V,pz,f'⟩:=(h.2 i hi).2 o dV
  exact r0 nn bD dV pz aj bn fun yc w' bL h0 kX hj=>qa nn sU f _ _ yc w' (bD.put pz.lasts) (bL.trans h1) h0 (nn.trans _ _ _ aF kX) hj f'
theorem u3 {i:Nat} {yd:Oper} {V:Value→World→Prop} {L:Array Bool→iE→Prop} {sq fV:List Nat} (hi:ops[i]? = some yd) (Nk:i∉fV)
  (hw:∀ listed,oy md ops sq fV listed→listed.getD i true=false→∀ t∈fV,t∉Region.ready md ops listed)
  (FU:∀ listed N,L listed N→∀ j∈Region.ready md ops listed,j∈fV) :
  ∀ (f:Nat) (listed:Array Bool) (N:iE),oy md ops sq fV listed→
   (∀ j qL,ops[j]? = some qL→j≠i→listed.getD j true=false→(∀ e∈qL.after,Region.binds md e=true→e.on≠i)→yd.apart ops qL=true)→
   i∈Region.ready md ops listed→apy P ops apv C n N yd V→
   zu P md ops apv C n fV L f (listed.setIfInBounds i true) (N.put yd V)→zu P md ops apv C n fV L (f+1) listed N:=by
 intro f
 induction f with
 | zero=>
  intro listed N inv _ bf pz H
  have jw:=(mem_ready.1 bf).1
  refine⟨fun h=>(by rw [h] at bf;cases bf),fun j dG=>?_⟩
  have yz:j∉fV:=fun bQ=>hw listed inv jw j bQ dG
  refine⟨yz,fun o dV=>?_⟩
  by_cases lh:j=i
  ·subst lh
   have:o=yd:=Option.some.inj (dV.symm.trans hi)
   subst this
   exact⟨V,pz,H⟩
  exact absurd (FU _ _ H j (ready_mono dG lh)) yz
 | succ f dh=>
  intro listed N inv p9 bf pz H
  have jw:=(mem_ready.1 bf).1
  refine⟨fun h=>(by rw [h] at bf;cases bf),fun j dG=>?_⟩
  have yz:j∉fV:=fun bQ=>hw listed inv jw j bQ dG
  refine⟨yz,fun o dV=>?_⟩
  by_cases lh:j=i
  ·subst lh
   have:o=yd:=Option.some.inj (dV.symm.trans hi)
   subst this
   exact⟨V,pz,H⟩
  obtain⟨Nh,Ni,f'⟩:=(H.2 j (ready_mono dG lh)).2 o dV
  obtain⟨u2,qL,vn,jK⟩:=mem_ready.1 dG
  have:o=qL:=Option.some.inj (dV.symm.trans vn)
  subst this
  have og:∀ e∈o.after,Region.binds md e=true→e.on≠i:=fun e he aH heq=>by
   have h1:=jK e he aH
   rw [heq,getD_both jw] at h1
   cases h1
  obtain⟨sa,a2,a3⟩:=Oper.apart_spec (p9 j o vn lh u2 og)
  refine⟨Nh,Ni.past sa,dh (listed.setIfInBounds j true) (N.put o Nh) (inv.set dG yz) (fun k ok hk Nj jw kz=>?_) (ready_mono bf (Ne.symm lh)) (pz.ahead a3) ?_⟩
  ·refine p9 k ok hk Nj ?_ kz
   by_cases CW:j=k
   ·subst CW;exact u2
   rw [getD_set_ne true CW] at jw;exact jw
  rw [Array.setIfInBounds_comm _ _ lh,← iE.put_comm N V Nh a2]
  exact f'
def pick (ops:Array Oper) (is:List Nat):List Oper:=is.filterMap (ops[·]?)
theorem C1 {fV:List Nat} {listed:Array Bool} (h:ox md ops fV listed=true):∀ j∈Region.ready md ops listed,j∈fV:=by
 cases fV with
 | nil=>intro j dG;simp only [ox,List.isEmpty_iff] at h;rw [h] at dG;cases dG
 | cons t fV=>
  intro j dG;simp only [ox,Bool.and_eq_true,decide_eq_true_eq] at h;rw [h.1] at dG;simp only [List.mem_singleton] at dG;exact dG▸List.mem_cons_self ..
theorem zv {sq fV:List Nat} {Fin:iE→Prop} (hw:∀ listed,oy md ops sq fV listed→(∃ i∈sq,listed.getD i true=false)→∀ t∈fV,t∉Region.ready md ops listed) :
  ∀ (aN:List Nat) (listed:Array Bool) (N:iE),(∀ i∈aN,i∈sq)→(∀ i∈aN,i∉fV)→oy md ops sq fV listed→
  xq md ops fV aN listed=true→TW P ops apv C n Fin (pick ops aN) N→
  zu P md ops apv C n fV (fun lj Tw=>ox md ops fV lj=true∧Fin Tw) aN.length listed N
 | [],listed,N,_,_,_,dT,h=>⟨by simpa [xq] using dT,h⟩
 | i::aN,listed,N,ik,FW,inv,dT,h=>by
  simp only [xq,Bool.and_eq_true] at dT
  obtain⟨⟨bf,dm⟩,A0⟩:=dT
  have nJ:i∈Region.ready md ops listed:=by simpa using bf
  obtain⟨jw,o,dV,_⟩:=mem_ready.1 nJ
  have bJ:pick ops (i::aN)=o::pick ops aN:=by simp [pick,List.filterMap_cons,dV]
  rw [bJ] at h
  obtain⟨V,pz,f'⟩:=h
  exact u3 dV (FW i (by simp)) (fun listed inv hu=>hw listed inv ⟨i,ik i (by simp),hu⟩) (fun lj Tw nn=>C1 nn.1) aN.length listed N inv (Region.free_spec dV dm) nJ pz
   (zv hw aN _ _ (fun i hi=>ik i (by simp [hi])) (fun i hi=>FW i (by simp [hi])) (inv.set nJ (FW i (by simp))) A0 f')
theorem kd:∀ (fV:List Nat) (listed:Array Bool) (a:Act) (w:World),ox md ops fV listed=true→wpList P ops Q (pick ops fV) a w→wpAny P md ops Q fV.length listed a w
 | [],listed,a,w,dT,h=>⟨by simpa [ox] using dT,h⟩
 | t::fV,listed,a,w,dT,h=>by
  simp only [ox,Bool.and_eq_true,decide_eq_true_eq] at dT
  have bf:t∈Region.ready md ops listed:=by rw [dT.1];simp
  obtain⟨_,o,dV,_⟩:=mem_ready.1 bf
  have bJ:pick ops (t::fV)=o::pick ops fV:=by simp [pick,List.filterMap_cons,dV]
  rw [bJ] at h
  refine⟨fun h1=>(by rw [dT.1] at h1;cases h1),fun i hi=>?_⟩
  rw [dT.1] at hi
  have aij:i=t:=by simpa using hi
  subst aij
  have hw:wpOp P ops Q i (wpList P ops Q (pick ops fV)) a w:=by unfold wpOp;simp only [dV];exact h
  exact wpOp_mono (fun yc w' fb=>kd fV _ yc w' dT.2 fb) hw
def Rc (P:Program) (n:Nat) (K:List (Nat×Value)→Prop):List Oper→List (Nat×Value)→Prop
 | [],l=>K l
 | o::rest,l=>∃ d v,o.dst=some d∧o.guard=none∧fa o.op=true∧Nat.blt d n=true∧(∀ w,bo P l o w v w)∧Rc P n K rest ((d,v)::l)
theorem kU {K:List (Nat×Value)→Prop} (h:K l):Rc P n K [] l:=h
theorem Tn {K:List (Nat×Value)→Prop} {rest:List Oper} {d:Nat} {op:Op} {ty:TypeId} {pos:String} {af:Array Edge} {v:Value} (bf:∀ w,bo P l ⟨some d,op,ty,pos,af,none⟩ w v w) (bL:Nat.blt d n=true) (aN:fa op=true) (h:Rc P n K rest ((d,v)::l)) :
  Rc P n K (⟨some d,op,ty,pos,af,none⟩::rest) l:=⟨d,v,rfl,rfl,aN,bL,bf,h⟩
theorem ny (zw:∀ c a w,¬ Q (.panic c) a w) (q7:∀ (j:Nat) (o:Oper) cs b,ops[j]? = some o→o.op≠.select cs b) {K:List (Nat×Value)→Prop} {g:Nat}:∀ (hI:List Nat) (listed:Array Bool) (l:List (Nat×Value)) (a:Act),Has n ds l a→uh md ops hI listed=true→Rc P n K (pick ops hI) l→
  (∀ l a,Has n ds l a→K l→wpAny P md ops Q g (kc listed hI) a w)→wpAny P md ops Q (hI.length+g) listed a w
 | [],listed,l,a,ax,_,h,lT=>by
  have:([]:List Nat).length+g=g:=by simp
  rw [this]
  exact lT l a ax h
 | i::hI,listed,l,a,ax,dT,h,lT=>by
  simp only [uh,Bool.and_eq_true] at dT
  obtain⟨⟨bf,dm⟩,A0⟩:=dT
  have nJ:i∈Region.ready md ops listed:=by simpa using bf
  obtain⟨_,o,dV,_⟩:=mem_ready.1 nJ
  have bJ:pick ops (i::hI)=o::pick ops hI:=by simp [pick,List.filterMap_cons,dV]
  rw [bJ] at h
  obtain⟨d,v,h1,aj,aF,bn,ch,eB⟩:=h
  have hlen:(i::hI).length+g=(hI.length+g)+1:=by simp;omega
  rw [hlen]
  have aR:Yields P ops o v a:=.inl ⟨by simp [Region.wanted,aj],fun w=>ch w a.eval (fun x u ab=>ax.nU ab)⟩
  have ue:Has n ds ((d,v)::l) (a.put o.dst v):=by rw [h1];exact ax.put bn v
  exact wpAny_first dV q7 (fun c a w eE=>absurd eE (zw c _ w)) (hI.length+g) listed a w (Region.free_spec dV dm) nJ aR
   (ny zw q7 hI (listed.setIfInBounds i true) ((d,v)::l) (a.put o.dst v) ue A0 eB lT)
def Np (ops:Array Oper) (hI aN:List Nat) (t0:Nat) (fV:List Nat):Bool:=
 Region.noSelect ops&&decide (hI.length+(aN.length+(fV.length+1))=ops.size)&&uh .any ops hI (Array.replicate ops.size false) &&
 C0 .any ops (kc (Array.replicate ops.size false) hI)&&(t0::fV).all (fun t=>!(kc (Array.replicate ops.size false) hI).getD t true) &&
 aN.all (fun i=>!(t0::fV).contains i)&&xr .any ops t0 aN&&vI .any ops t0 fV&&xq .any ops (t0::fV) aN (kc (Array.replicate ops.size false) hI)
theorem r1:∀ (hI:List Nat) (listed:Array Bool),(kc listed hI).size=listed.size
 | [],_=>rfl
 | i::hI,listed=>by simp [kc,r1 hI]
theorem nY {id:Nat} {lo:List Oper} (hI aN:List Nat) (t0:Nat) (fV:List Nat) (hm:P.follows .mixedOrders=true) (dT:Np lo.toArray hI aN t0 fV=true) (zw:∀ c a w,¬ Q (.panic c) a w)
  (h:Rc P n (fun l=>gh P lo.toArray w n (fun N=>∀ a w',a.defers=ds→Mod [] w w'→N.all n a w'→wpList P lo.toArray Q (pick lo.toArray (t0::fV)) a w') (pick lo.toArray aN) l []) (pick lo.toArray hI) l):nV P (.region id lo.toArray true) Q n ds l w:=by
 intro a ax
 unfold Np at dT
 simp only [Bool.and_eq_true,decide_eq_true_eq] at dT
 obtain⟨⟨⟨⟨⟨⟨⟨⟨q7,hlen⟩,bJ⟩,lF⟩,A2⟩,Xe⟩,FX⟩,Xf⟩,Xg⟩:=dT
 refine wp_region_any hm ?_
 rw [← hlen]
 have ha:(kc (Array.replicate lo.toArray.size false) hI).size=lo.toArray.size:=by rw [r1];simp
 have Nq:∀ t∈t0::fV,(kc (Array.replicate lo.toArray.size false) hI).getD t true=false:=fun t bQ=>by
  have:=List.all_eq_true.1 A2 t bQ
  simpa using this
 have CX:oy .any lo.toArray aN (t0::fV) (kc (Array.replicate lo.toArray.size false) hI):=by
  refine⟨ha,fun j qL dG bM e he aH=>?_,Nq⟩
  have h1:=List.all_eq_true.1 lF j (List.mem_range.2 (Array.getElem?_eq_some_iff.1 dG).1)
  rw [bM,dG] at h1
  simp only [Bool.not_true,Bool.false_or,Array.all_eq_true_iff_forall_mem] at h1
  have aj:=h1 e he
  rw [aH] at aj
  simpa using aj
 have hw:∀ listed,oy .any lo.toArray aN (t0::fV) listed→(∃ i∈aN,listed.getD i true=false)→∀ t∈t0::fV,t∉Region.ready .any lo.toArray listed:=by
  rintro listed inv ⟨i,hi,jw⟩ t bQ
  rcases List.mem_cons.1 bQ with rfl | AK
  ·exact nx inv.size inv.closed aN FX i hi jw
  exact sZ (ts0:=t0::fV) fV t0 (fun t h=>h) Xf inv.tail t AK
 have FY:(Array.replicate (hI.length+(aN.length+(fV.length+1))) false)=Array.replicate lo.toArray.size false:=by rw [hlen]
 rw [FY]
 refine ny (n:=n) (ds:=ds) zw (Region.noSelect_spec q7) hI _ l a ax bJ h fun l a ax jY=>?_
 have H:=zv (md:=.any) hw aN _ (qM l []) (fun i hi=>hi) (fun i hi=>by
  have:=List.all_eq_true.1 Xe i hi
  simpa using this) CX Xg jY
 exact qa (n:=n) (ds:=ds) (w0:=w) (Q:=Q) (g:=fV.length+1) (later w) (fun listed N a w' _ bL h0 _ hj nn=>kd (md:=.any) (t0::fV) listed a w' nn.1 (nn.2 a w' bL h0 hj)) _ _ (qM l []) a _ (qN l) ax.defers (Mod.drew [] w) (Mod.drew [] w) (vG ax) H
end
section
variable {P:Program} {ops:Array Oper} {Q:Exit→Act→World→Prop} {n:Nat} {ds:List Deferred} {l:List (Nat×Value)} {w w':World} {a:Act}
variable {rest:List Oper} {d:Nat} {op:Op} {ty:TypeId} {pos:String} {af:Array Edge}
variable {dd:Option Nat} {gg:Option (Nat×Bool)} {x y z:Operand} {t t':TypeId} {k jH:IntKind} {m gR r:Int}
/-! ## Operations whose value is told in other words -/
theorem Own.put {e sz c g:Nat} {v:Value} {vs:List Value} (h:Own w e sz v c vs) (k:Mod [g] w w') (D:∀ x∈aL v,x≠g):Own w' e sz v c vs:=h.mod k fun x ab cN=>D x ab (by simpa using cN)
theorem j5.cd {e sz c g T:Nat} {cs:List Value} {v:Value} {vs:List Value} (N:j5 w w' g T cs) (h:Own w e sz v c vs):∀ x∈aL v,x≠g:=fun x ab=>Nat.ne_of_lt (N.at_▸h.lt x ab)
theorem App.ne {e sz c g T:Nat} {cs:List Value} {v v':Value} {vs:List Value} (h:App w w' e sz v v' c vs) (D:∀ x∈aL v,x≠g) (B:aD w g T cs):∀ x∈aL v',x≠g:=fun x ab=>by
 rcases h.kn x ab with h1 | h1
 ·exact D x h1
 have:=B.lt;omega
theorem App.ge {e sz c:Nat} {w0:World} {M:List Nat} {v v':Value} {vs:List Value} (h:App w w' e sz v v' c vs) (L:∀ x∈aL v,w0.heap.size≤x) (E:Mod M w0 w):∀ x∈aL v',w0.heap.size≤x:=fun x ab=>by
 rcases h.kn x ab with h1 | h1
 ·exact L x h1
 exact Nat.le_trans E.size h1
theorem pd.I {ad:Addr} {vs:List Value} (h:pd w ad vs) (k:Mod [] w w'):pd w' ad vs:=h.mod k (by simp)
theorem lU {b:Bool} {u:Value} (aH:b=true) (ab:aT l x=some (.bool b)) (aR:aT l y=some u):bo P l ⟨dd,.pick x y z,ty,pos,af,gg⟩ w u w:=fun ρ h=>by
 subst aH;simp [execOp,h _ _ ab,h _ _ aR,asBool]
theorem ky {b:Bool} {v:Value} (aH:b=false) (ab:aT l x=some (.bool b)) (cO:aT l z=some v):bo P l ⟨dd,.pick x y z,ty,pos,af,gg⟩ w v w:=fun ρ h=>by
 subst aH;simp [execOp,h _ _ ab,h _ _ cO,asBool]
theorem bo.to {o:Oper} {v v':Value} (h:bo P l o w v w') (e:v=v'):bo P l o w v' w':=e▸h
theorem c7 (ab:aT l x=some (.int k m)) (aR:aT l y=some (.int k gR)) (bf:k.wrap (m+gR)=r):bo P l ⟨dd,.binOp .add t x y t',ty,pos,af,gg⟩ w (.int k r) w:=bf▸p1 ab aR
theorem eL (ab:aT l x=some (.int k m)) (aR:aT l y=some (.int k gR)) (bf:k.wrap (m-gR)=r):bo P l ⟨dd,.binOp .sub t x y t',ty,pos,af,gg⟩ w (.int k r) w:=bf▸ia ab aR
theorem P3 (ab:aT l x=some (.int k m)) (aR:aT l y=some (.int jH gR)) (bD:0≤gR) (bf:m.fdiv (2 ^ (min gR.toNat k.bits))=r):bo P l ⟨dd,.binOp .shr t x y t',ty,pos,af,gg⟩ w (.int k r) w:=bf▸FQ ab aR bD
theorem sd {d0:TypeDesc} (aN:P.underlying t=some d0) (bQ:P.underlying t'=some (.int jH)) (ab:aT l x=some (.int k m)) (bf:jH.wrap m=r):bo P l ⟨dd,.convert t t' x,ty,pos,af,gg⟩ w (.int jH r) w:=bf▸qC aN bQ ab
theorem hy (z:Int) (h:0≤z∧z≤18446744073709551615):IntKind.u64.wrap z=z:=by
 simp only [IntKind.wrap,IntKind.bits,IntKind.signed,Bool.false_and];exact Int.emod_eq_of_lt h.1 (by omega)
theorem xt (z:Int) (h:0≤z∧z≤255):IntKind.u8.wrap z=z:=by
 simp only [IntKind.wrap,IntKind.bits,IntKind.signed,Bool.false_and];exact Int.emod_eq_of_lt h.1 (by omega)
theorem H0 (m:Int):m.fdiv (2 ^ (min (1:Int).toNat 64))=m / 2:=by
 rw [show(2:Int) ^ (min (1:Int).toNat 64)=2 from rfl];exact Int.fdiv_eq_ediv_of_nonneg _ (by omega)
theorem Ev (i j:Nat):((i:Int)+j) / 2=((i+j) / 2:Nat):=by omega
end
section
variable {P:Program} {ops:Array Oper} {Q:Exit→Act→World→Prop} {n:Nat} {ds:List Deferred} {l:List (Nat×Value)} {w w':World} {a:Act}
variable {rest:List Oper} {d:Nat} {op:Op} {ty:TypeId} {pos:String} {af:Array Edge}
variable {dd:Option Nat} {gg:Option (Nat×Bool)} {x y z:Operand} {t t':TypeId} {k jH:IntKind} {m gR:Int} {b eA:Bool}
theorem Own.take {e sz n c m:Nat} {ad:Option Addr} {vs:List Value} (O:Own w e sz (.slice ad n c) n vs) (hm:m≤n):Own w e sz (.slice ad m c) m (vs.take (m*sz)):=by
 have hle:m*sz≤n*sz:=Nat.mul_le_mul_right _ hm;have bM:=O.1;rcases O.2 with⟨bD,W8⟩ | ⟨g,o,PL,cs,bw,dT,fi,gA,qZ,o0⟩
 ·injection bD with aV bs kk
  subst aV;subst kk;subst bs;have:m=0:=by omega
  subst this;simpa using Own.nil w e sz
 injection bw with aV bs kk
 subst aV;subst kk;refine⟨by rw [List.length_take];omega,.inr ⟨g,o,c,cs,rfl,dT,by omega,gA,qZ,?_⟩⟩;rw [← o0,List.take_take]
 congr 1
 omega
theorem Own.extend {e sz n c m:Nat} {ad:Addr} {vs:List Value} (O:Own w e sz (.slice (some ad) n c) n vs) (hm:n≤m) (a6:m≤c):∃ h8,Own w e sz (.slice (some ad) m c) m h8∧h8.take (n*sz)=vs:=by
 have hle:n*sz≤m*sz:=Nat.mul_le_mul_right _ hm;have zm:m*sz≤c*sz:=Nat.mul_le_mul_right _ a6;have bM:=O.1;rcases O.2 with⟨bD,W8⟩ | ⟨g,o,PL,cs,bw,dT,fi,gA,qZ,o0⟩
 ·cases bD
 injection bw with aV bs kk
 injection aV with aV
 subst aV;subst kk;refine⟨(cs.drop o).take (m*sz),⟨by rw [List.length_take,List.length_drop];omega,.inr ⟨g,o,c,cs,rfl,dT,a6,gA,qZ,rfl⟩⟩,?_⟩;rw [← o0,List.take_take]
 congr 1
 omega
theorem qt {o1 e sz fY N c lo k c':Nat} {ad:Addr} {u:Value} {vs news:List Value} (bQ:k2 P t e sz fY=true) (O:Own w e sz (.slice (some ad) N c) N vs) (ab:aT l x=some (.slice (ko (some ad) c lo sz) (N-lo) (c-lo))) (aR:aT l y=some u)
  (bM:(Builtin.lenOf u).run P w = .ok c' w) (hk:Nat.min c' (N-lo)=k) (lF:(Builtin.firstCells sz k u).run P w = .ok news.toArray w) (pt:news.length=k*sz) (xc:∀ u∈news,u.oneCell'=true) (Ff:lo≤N) (bL:Nat.blt d n=true)
  (h:∀ w',Own w' e sz (.slice (some ad) N c) N (vs.take (lo*sz)++news++vs.drop ((lo+k)*sz))→Mod [ad.block] w w'→w'.heap.size=w.heap.size→fC P ops Q rest n ds ((d,.int .i64 k)::l) w') :
  fC P ops Q (⟨some d,.call {callee:=.builtin .copy,args:=#[x,y],argTypes:=#[t,o1]},ty,pos,af,none⟩::rest) n ds l w:=by
 obtain⟨i,z,h1,aj,aF,bn,ch,eB⟩:=hU bQ
 rcases O.2 with⟨bD,_⟩ | ⟨g,o,cap,cs,bw,dT,fi,gA,qZ,o0⟩
 ·cases bD
 injection bw with aV bs kk
 injection aV with aV
 subst aV;subst kk
 have anK:k≤N-lo:=by rw [← hk];exact Nat.min_le_right _ _
 have hle:(lo+k)*sz≤N*sz:=Nat.mul_le_mul_right _ (by omega)
 have zm:N*sz≤c*sz:=Nat.mul_le_mul_right _ fi
 have mv:=O.1
 have Tz:(lo+k)*sz=lo*sz+k*sz:=Nat.add_mul _ _ _
 obtain⟨aE,hc,bJ⟩:=gr (P:=P) dT (o:=o+lo*sz) (vs:=news) (by rw [pt];omega) xc
 have j':∃ aE,(match ko (some ⟨g,o,none⟩) c lo sz with | some a=>storeCells a news | none=>pure ()).run P w = .ok () aE∧Own aE e sz (.slice (some ⟨g,o,none⟩) N c) N (vs.take (lo*sz)++news++vs.drop ((lo+k)*sz))∧Mod [g] w aE∧aE.heap.size=w.heap.size:=by
  by_cases ac9:c=lo
  ·have bA:k=0:=by omega
   subst bA
   have bS:news = []:=List.eq_nil_of_length_eq_zero (by simpa using pt)
   subst bS
   refine⟨w,?_,?_,Mod.refl _ w,rfl⟩
   ·simp [ko,ac9,storeCells]
   simpa using O
  refine⟨aE,?_,⟨?_,.inr ⟨g,o,c,_,rfl,bJ.aA,fi,gA,by simp [splice];omega,?_⟩⟩,bJ.mod,bJ.size⟩
  ·simpa [ko,ac9,Addr.add_lit] using hc
  ·simp only [List.length_append,List.length_take,List.length_drop,pt,mv]
   omega
  subst o0
  apply List.ext_getElem?
  intro j
  simp only [splice,pt]
  simp only [List.getElem?_take,List.getElem?_drop,List.getElem?_append,List.length_append,List.length_take,List.length_drop,pt]
  repeat' split
  all_goals first
   | omega
   | rfl
   | (congr 1;omega)
   | skip
 obtain⟨aE,hc,hO,eb,aN⟩:=j'
 refine e9 (v:=.int .i64 k) (w':=aE) (fun ρ e2=>?_) bL (h aE hO eb aN)
 subst aF
 cases du:ko (some (⟨g,o,none⟩:Addr)) c lo i.size with
 | none=>
  rw [du] at hc
  simp [execOp,resolve,invoke,builtin,e2 _ _ ab,e2 _ _ aR,Builtin.copy_,run_underlying h1,cu aj,bM,hk,lF,goInt,du]
  simpa using hc
 | some a=>
  rw [du] at hc
  simp [execOp,resolve,invoke,builtin,e2 _ _ ab,e2 _ _ aR,Builtin.copy_,run_underlying h1,cu aj,bM,hk,lF,goInt,du]
  simp at hc
  simp [hc]
theorem A4 {t o1 e sz fY c c':Nat} {v:Value} {vs h6:List Value} (bQ:k2 P t e sz fY=true) (cO:hq P e h6) (jP:h6.length=sz) (FZ:P.underlying o1=some (.int .i64)) (O:Own w e sz v c vs) (ha:0<sz) (xc:∀ u∈h6,u.oneCell'=true)
  (aH:(c+c')*fY≤140737488355328) (b9:c+c'≤9223372036854775807) (ty:Nat) :
  ∃ v' w' news,(Builtin.append_ #[t,o1] ty #[v,.int .i64 c']).run P w = .ok v' w'∧App w w' e sz v v' (c+c') (vs++news)∧news.length=c'*sz∧(∀ u∈news,u.oneCell'=true)∧((∀ ad PL,v = .slice ad c PL→PL<c+c')→(∀ x∈aL v',w.heap.size≤x)∧Mod [] w w'):=by
 obtain⟨i,z,h1,aj,aF,bn,ch,eB⟩:=hU bQ
 obtain⟨tA,BC,kv,j0,lQ⟩:=ov cO
 have aik:tA=i:=Option.some.inj (kv.symm.trans aj)
 subst aik
 have MW:BC=z:=Option.some.inj (j0.symm.trans ch)
 subst MW
 subst aF;subst bn
 have pt:(Builtin.zeroCells BC.cells c').toList.length=c'*tA.size:=by rw [Array.length_toList,size_zeroCells,eB]
 have wc:∀ u∈(Builtin.zeroCells BC.cells c').toList,u.oneCell'=true:=by
  intro u hu
  rw [lQ] at hu
  simp only [Builtin.zeroCells,Array.toList_map,List.mem_map] at hu
  obtain⟨j,_,rfl⟩:=hu
  have bk:j % h6.toArray.size<h6.length:=by
   simp only [List.size_toArray]
   exact Nat.mod_lt _ (by omega)
  have:h6.toArray[j % h6.toArray.size]! = h6[j % h6.toArray.size]:=by
   simp only [List.size_toArray] at bk ⊢
   simp [bk]
  rw [this]
  exact xc _ (List.getElem_mem bk)
 have hlen:(vs++(Builtin.zeroCells BC.cells c').toList).length=(c+c')*tA.size:=by rw [List.length_append,O.1,pt,Nat.add_mul]
 have hw:IntKind.i64.wrap (c':Int)=c':=wrap64_in _ (by omega)
 have Re:¬ ((c':Int)<0):=by omega
 have ot:¬ ((c':Int)*(tA.bytes:Int) > 281474976710656):=by
  have:c'*tA.bytes≤(c+c')*tA.bytes:=Nat.mul_le_mul_right _ (by omega)
  have aF:(c':Int)*(tA.bytes:Int)=((c'*tA.bytes:Nat):Int):=by simp
  rw [aF]
  omega
 have TE:c'*tA.size=0→Builtin.zeroCells BC.cells c' = #[]:=fun bD=>Array.eq_empty_of_size_eq_zero (by rw [size_zeroCells,eB];exact bD)
 have grow:∀ (base:Option Addr) (cap:Nat),cap<c+c'→(Builtin.firstCells tA.size c (.slice base c cap)).run P w.drew = .ok vs.toArray w.drew→
   ∃ v' w',(Builtin.append_ #[t,o1] ty #[.slice base c cap,.int .i64 c']).run P w = .ok v' w'∧App w w' e tA.size (.slice base c cap) v' (c+c') (vs++(Builtin.zeroCells BC.cells c').toList)∧(∀ x∈aL v',w.heap.size≤x)∧Mod [] w w':=by
  intro base cap pL hold
  have jL:=growslice_fits pL aH
  have bW:¬ (c+c'≤cap):=by omega
  have TF:¬ (9223372036854775807<((c:Int)+(c':Int))):=by omega
  have TG:¬ (281474976710656<Builtin.nextslicecap (c+c') cap*tA.bytes):=by omega
  have bf:(Builtin.append_ #[t,o1] ty #[.slice base c cap,.int .i64 c']).run P w =
   .ok (.slice (some ⟨w.heap.size,0,none⟩) (c+c') (grownCap w (c+c') cap e))
    (w.drew.alloc (.cells ((vs++(Builtin.zeroCells BC.cells c').toList).toArray++Builtin.zeroCells BC.cells (grownCap w (c+c') cap e-(c+c'))) e)):=by
   by_cases bD:c'*tA.size=0
   ·have Nr:=TE bD
    simp [Builtin.append_,run_underlying h1,run_underlying FZ,sizeOf,typeInfo,zeroValue,aj,ch,asInt,asIntOf,hw,Re,ot,bW,TF,TG,Question.forced,hold,newRow,grownCap,bD,Nr]
   simp [Builtin.append_,run_underlying h1,run_underlying FZ,sizeOf,typeInfo,zeroValue,aj,ch,asInt,asIntOf,hw,Re,ot,bW,TF,TG,Question.forced,hold,newRow,grownCap,bD]
   congr 2
   apply Array.toList_inj.1
   simp
  have eH:=grownCap_ge w (c+c') cap e
  generalize hj:(Builtin.zeroCells BC.cells c').toList=news at *
  have dT:aD (w.drew.alloc (.cells ((vs++news).toArray++Builtin.zeroCells BC.cells (grownCap w (c+c') cap e-(c+c'))) e)) w.heap.size e ((vs++news)++(Builtin.zeroCells BC.cells (grownCap w (c+c') cap e-(c+c'))).toList):=by
   have:=heap_alloc_new w.drew (.cells ((vs++news).toArray++Builtin.zeroCells BC.cells (grownCap w (c+c') cap e-(c+c'))) e)
   unfold aD
   refine this.trans ?_
   congr 2
   apply Array.toList_inj.1
   simp
  refine⟨_,_,bf,⟨⟨hlen,.inr ⟨w.heap.size,0,_,_,rfl,dT,eH,grownCap_le_maxLen w (c+c') cap e (by simp only [maxLen];omega),?_,?_⟩⟩,?_,?_⟩,?_,?_⟩
  ·have jP:(Builtin.zeroCells BC.cells (grownCap w (c+c') cap e-(c+c'))).toList.length=(grownCap w (c+c') cap e-(c+c'))*tA.size:=by
    rw [Array.length_toList,size_zeroCells,eB]
   rw [List.length_append,hlen,jP,← Nat.add_mul]
   have:c+c'+(grownCap w (c+c') cap e-(c+c'))=grownCap w (c+c') cap e:=by omega
   rw [this]
   omega
  ·rw [List.drop_zero,← hlen]
   exact List.take_left
  ·exact⟨rfl,rfl,rfl,by simp,fun j dG _=>RowKit.Below.heap_alloc w.drew _ j dG⟩
  ·intro x ab
   simp [aL] at ab
   exact .inr (by omega)
  ·intro x ab
   simp [aL] at ab
   omega
  exact⟨rfl,rfl,rfl,by simp,fun j dG _=>RowKit.Below.heap_alloc w.drew _ j dG⟩
 rcases O.2 with⟨rfl,bD⟩ | ⟨g,o,cap,cs,rfl,dT,fi,gA,qZ,o0⟩
 ·subst bD
  have oD:vs = []:=List.eq_nil_of_length_eq_zero (by simpa using O.1)
  subst oD
  rcases Nat.eq_zero_or_pos c' with bD | bD
  ·subst bD
   refine⟨.slice none 0 0,w,[],?_,⟨by simpa using Own.nil w e tA.size,Mod.refl _ w,fun x ab=>.inl ab⟩,by simp,by simp,fun jE=>absurd (jE _ _ rfl) (by omega)⟩
   have ail:IntKind.i64.wrap 0=0:=by decide
   simp [Builtin.append_,run_underlying h1,run_underlying FZ,sizeOf,typeInfo,aj,asInt,asIntOf,ail]
  obtain⟨v',w',bf,du,Xh⟩:=grow none 0 (by omega) (run_firstCells_none w.drew tA.size 0 0 0)
  exact⟨v',w',_,bf,du,pt,wc,fun _=>Xh⟩
 by_cases lx:c+c'≤cap
 rotate_left
 ·obtain⟨v',w',bf,du,Xh⟩:=grow (some ⟨g,o,none⟩) cap (by omega) (run_firstCells_some w.drew tA.size c _ c cap vs O.1 (fun j x ab=>by have:=O.cs j x ab;simpa using this))
  exact⟨v',w',_,bf,du,pt,wc,fun _=>Xh⟩
 have hle:(c+c')*tA.size≤cap*tA.size:=Nat.mul_le_mul_right _ lx
 generalize hj:(Builtin.zeroCells BC.cells c')=alE at *
 have jL:o+c*tA.size+alE.toList.length≤cs.length:=by rw [pt];rw [Nat.add_mul] at hle;omega
 obtain⟨aE,hc,bJ⟩:=gr (P:=P) dT jL wc
 refine⟨.slice (some ⟨g,o,none⟩) (c+c') cap,aE,alE.toList,?_,⟨⟨hlen,.inr ⟨g,o,cap,_,rfl,bJ.aA,lx,gA,?_,?_⟩⟩,?_,fun x ab=>.inl ab⟩,pt,wc,fun jE=>absurd (jE _ _ rfl) (by omega)⟩
 ·by_cases bD:c'*tA.size=0
  ·have Nr:=TE bD
   rw [Nr] at hc
   simp at hc
   simp [Builtin.append_,run_underlying h1,run_underlying FZ,sizeOf,typeInfo,zeroValue,aj,ch,asInt,asIntOf,hw,Re,ot,lx,Addr.add_lit,bD,hc]
  simp [Builtin.append_,run_underlying h1,run_underlying FZ,sizeOf,typeInfo,zeroValue,aj,ch,asInt,asIntOf,hw,Re,ot,lx,Addr.add_lit,bD,hj,hc]
 ·simp only [splice,List.length_append,List.length_take,List.length_drop]
  omega
 ·have aV:List.take (o+c*tA.size) cs=List.take o cs++vs:=by rw [← o0,List.take_add]
  have Qy:(List.take o cs).length=o:=by rw [List.length_take];omega
  rw [splice,aV,List.append_assoc,List.append_assoc,List.drop_left' Qy,← List.append_assoc,← hlen,List.take_left]
 exact bJ.mod
theorem Ey {t o1 e sz fY c c':Nat} {v:Value} {vs h6:List Value} (bQ:k2 P t e sz fY=true) (cO:hq P e h6) (jP:h6.length=sz) (FZ:P.underlying o1=some (.int .i64)) (ab:aT l x=some v) (aR:aT l y=some (.int .i64 c')) (O:Own w e sz v c vs) (ha:0<sz) (xc:∀ u∈h6,u.oneCell'=true)
  (aH:(c+c')*fY≤140737488355328) (b9:c+c'≤9223372036854775807) (bL:Nat.blt d n=true)
  (h:∀ v' w' news,App w w' e sz v v' (c+c') (vs++news)→news.length=c'*sz→(∀ u∈news,u.oneCell'=true)→((∀ ad PL,v = .slice ad c PL→PL<c+c')→(∀ x∈aL v',w.heap.size≤x)∧Mod [] w w')→fC P ops Q rest n ds ((d,v')::l) w') :
  fC P ops Q (⟨some d,.call {callee:=.builtin .append,args:=#[x,y],argTypes:=#[t,o1]},ty,pos,af,none⟩::rest) n ds l w:=by
 obtain⟨v',w',news,bf,du,aj,aF,bn⟩:=A4 (P:=P) bQ cO jP FZ O ha xc aH b9 ty
 refine e9 (v:=v') (w':=w') (fun ρ e2=>?_) bL (h v' w' news du aj aF bn)
 simp [execOp,resolve,invoke,builtin,e2 _ _ ab,e2 _ _ aR,bf]
/-! ### slices.overlaps -/
def aaZ (P:Program) (f:FuncId) (aaA afQ:TypeId):Prop:=∀ args w,(callFunc f args).run P w=((Extern.SlicesOverlaps.overlaps #[aaA,aaA] #[afQ] args).run P w).andThen fun v w'=>.ok (.value v) w'
theorem BT {aaA afQ e sz fY f i j c1 c2:Nat} {sa a2:Addr} (dm:aaZ P f aaA afQ) (bQ:k2 P aaA e sz fY=true) (ab:aT l x=some (.slice (some sa) i c1)) (aR:aT l y=some (.slice (some a2) j c2))
  {g1 g2:Nat} {afR Ut:Nat} (F0:sa=⟨g1,afR,none⟩) (C2:a2=⟨g2,Ut,none⟩) {alF alG:Nat} {d' P6:List Value} (fO:aD w g1 alF d') (cH:aD w g2 alG P6) (bS:g1≠g2) (aj:P6≠[]) {fV:Array TypeId} :
  bo P l ⟨dd,.call {callee:=.value (.func f),args:=#[x,y],argTypes:=fV},ty,pos,af,gg⟩ w (.bool false) w:=fun ρ e2=>by
 subst F0;subst C2
 obtain⟨tA,z,h1,Av,aF,bn,ch,eB⟩:=hU bQ
 have bs:ρ (.func f) = .func (.func f) #[] #[]:=e2 _ _ rfl
 have aim:=Lib.run_overlaps_apart (P:=P) w aaA afQ e h1 tA.size (fun w'=>cu Av) ⟨g1,afR,none⟩ ⟨g2,Ut,none⟩ i c1 j c2 bS alF alG d'.length P6.length (by have:=fO;unfold aD at this;simp [World.shape?,this]) (by have:=cH;unfold aD at this;simp [World.shape?,this]) (by simpa using aj) (fO.frozen afR) (fO.frozen _)
 have:=dm #[.slice (some ⟨g1,afR,none⟩) i c1,.slice (some ⟨g2,Ut,none⟩) j c2] w
 rw [aim] at this
 simp [execOp,resolve,bs,e2 _ _ ab,e2 _ _ aR,Deferred.ofValue,invoke] at this ⊢
 simpa using this
theorem sL {e sz N c i:Nat} {ad:Addr} {vs us:List Value} {T:TypeId} (bQ:pJ P T sz=true) (O:Own w e sz (.slice (some ad) N c) N vs) (ab:aT l x=some (.pointer (some (ad.add (i*sz))))) (aR:aT l y=some (.agg us.toArray)) (bM:us.length=sz) (xc:∀ u∈us,u.oneCell'=true) (hi:i<N)
  (h:∀ w',Own w' e sz (.slice (some ad) N c) N (vs.take (i*sz)++us++vs.drop ((i+1)*sz))→Mod [ad.block] w w'→w'.heap.size=w.heap.size→fC P ops Q rest n ds l w') :
  fC P ops Q (⟨none,.store T x y,ty,pos,af,none⟩::rest) n ds l w:=by
 rcases O.2 with⟨bD,_⟩ | ⟨g,o,cap,cs,bw,dT,fi,gA,qZ,o0⟩
 ·cases bD
 injection bw with aV bs kk
 injection aV with aV
 subst aV;subst kk
 have hle:(i+1)*sz≤N*sz:=Nat.mul_le_mul_right _ (by omega)
 have zm:N*sz≤c*sz:=Nat.mul_le_mul_right _ fi
 have mv:=O.1
 have Tz:(i+1)*sz=i*sz+sz:=by rw [Nat.add_mul];omega
 rw [Addr.add_lit] at ab
 refine bd (vs:=us) bQ dT ab aR bM xc (by omega) fun w' bJ=>?_
 refine h w' ⟨?_,.inr ⟨g,o,c,_,rfl,bJ.aA,fi,gA,by simp [splice];omega,?_⟩⟩ bJ.mod bJ.size
 ·simp only [List.length_append,List.length_take,List.length_drop,bM,mv]
  omega
 subst o0
 apply List.ext_getElem?
 intro j
 simp only [splice,bM]
 simp only [List.getElem?_take,List.getElem?_drop,List.getElem?_append,List.length_append,List.length_take,List.length_drop,bM]
 repeat' split
 all_goals first
  | omega
  | rfl
  | (congr 1;omega)
  | skip
theorem CL {α:Type} {sz:Nat} {cells:α→List Value} {xs:List α} (bM:∀ x,(cells x).length=sz) (i:Nat):((xs.map cells).flatten).take (i*sz)=((xs.take i).map cells).flatten:=by
 induction xs generalizing i with
 | nil=>simp
 | cons x xs dh=>
  cases i with
  | zero=>simp
  | succ i=>
   simp only [List.map_cons,List.flatten_cons,List.take_succ_cons];rw [List.take_append,bM,Nat.add_mul,Nat.one_mul,List.take_of_length_le (by rw [bM];omega),Nat.add_sub_cancel,dh]
theorem CK {α:Type} {sz:Nat} {cells:α→List Value} {xs:List α} (bM:∀ x,(cells x).length=sz) (i:Nat):((xs.map cells).flatten).drop (i*sz)=((xs.drop i).map cells).flatten:=by
 induction xs generalizing i with
 | nil=>simp
 | cons x xs dh=>
  cases i with
  | zero=>simp
  | succ i=>
   simp only [List.map_cons,List.flatten_cons,List.drop_succ_cons];rw [List.drop_append,bM,Nat.add_mul,Nat.one_mul,List.drop_eq_nil_of_le (by rw [bM];omega),Nat.add_sub_cancel,dh,List.nil_append]
theorem F1 {α:Type} {A:List Nat} {sz n c:Nat} {cells:α→List Value} {xs:List α} (h:aS A w (flat sz cells xs) (.slice none n c)):xs = []:=by
 cases xs with
 | nil=>rfl
 | cons x xs=>
  obtain⟨a,ax,_⟩:=ff (i:=0) h rfl;cases ax
theorem tW (ad:Option Addr) (c sz:Nat):ko ad c 0 sz=ad:=by
 unfold ko
 split
 ·rfl
 cases ad with
 | none=>rfl
 | some a=>simp [Addr.add_zero']
theorem H5 (g o c lo sz:Nat):∃ sV,ko (some (⟨g,o,none⟩:Addr)) c lo sz=some ⟨g,sV,none⟩:=by
 unfold ko
 split
 ·exact⟨o,rfl⟩
 exact⟨o+lo*sz,by simp [Addr.add_lit]⟩
theorem u' (sz k:Nat) (b:Option Addr) (i c tA c':Nat):Builtin.firstCells sz k (.slice b i c)=Builtin.firstCells sz k (.slice b tA c'):=by cases b <;> rfl
theorem z1 {ad:Option Addr} {c c' e sz fY hi:Nat} {h:Operand} (bQ:k2 P t e sz fY=true) (ab:aT l x=some (.slice ad c c')) (jE:aT l h=some (.int .i64 (hi:Int))) (aH:hi≤c') (a6:c≤c') :
  bo P l ⟨dd,.slice t x none (some h) none,ty,pos,af,gg⟩ w (.slice ad hi c') w:=by
 have:=Cz (P:=P) (w:=w) (dd:=dd) (ty:=ty) (pos:=pos) (af:=af) (gg:=gg) bQ ab (lo:=none) (pl:=none) (hi:=some h) (ph:=some (.i64,(hi:Int))) rfl (by simp [tG,jE]) (by simp only [hb,hP];omega) a6
 refine this.to ?_
 simp [hb,hP,tW]
theorem iw {ad:Option Addr} {c c' e sz fY lo:Nat} {h:Operand} (bQ:k2 P t e sz fY=true) (ab:aT l x=some (.slice ad c c')) (jE:aT l h=some (.int .i64 (lo:Int))) (aH:lo≤c) (a6:c≤c') :
  bo P l ⟨dd,.slice t x (some h) none none,ty,pos,af,gg⟩ w (.slice (ko ad c' lo sz) (c-lo) (c'-lo)) w:=by
 have:=Cz (P:=P) (w:=w) (dd:=dd) (ty:=ty) (pos:=pos) (af:=af) (gg:=gg) bQ ab (hi:=none) (ph:=none) (lo:=some h) (pl:=some (.i64,(lo:Int))) (by simp [tG,jE]) rfl (by simp only [hb,hP];omega) a6
 refine this.to ?_
 simp [hb,hP]
end
section
variable {P:Program} {ops:Array Oper} {Q:Exit→Act→World→Prop} {n:Nat} {ds:List Deferred} {l:List (Nat×Value)} {M:List (Nat×(Value→World→Prop))} {w w':World} {a:Act}
variable {rest:List Oper} {d:Nat} {op:Op} {ty:TypeId} {pos:String} {af:Array Edge} {Fin:iE→Prop} {j:Nat} {want b:Bool}
variable {dd:Option Nat} {gg:Option (Nat×Bool)} {x y z:Operand} {t t':TypeId}
theorem Gz {b eA:Bool} (he:P.underlying t=some .bool) (ab:aT l x=some (.bool b)) (aR:aT l y=some (.bool eA)):bo P l ⟨dd,.binOp .neq t x y t',ty,pos,af,gg⟩ w (.bool (b != eA)) w:=fun ρ h=>by
 simp [execOp,eqGuard,h _ _ ab,h _ _ aR,binOp,run_equal_bool w t b eA he];cases b <;> cases eA <;> rfl
theorem ac' {f:FuncId} {args:Value→Array Value} {v:Value} (t:Nat) {apw:Value→World→Prop} (cN:xn ops l j=some b) (aH:b=want) (bQ:iN t l=none) (eb:pA t M=some apw) (ab:∃ x∈op.operands.toList,x = .tmp t)
  (bf:∀ aE u,Mod [] w aE→apw u aE→kL P ((t,u)::l) ⟨some d,op,ty,pos,af,none⟩ aE f (args u)) (a6:∀ aE u,Mod [] w aE→apw u aE→Calls P f (args u) aE (bI fun r cY=>r=v∧Mod [] aE cY)) (bL:Nat.blt d n=true) (aN:fa op=true) (h:gh P ops w n Fin rest ((d,v)::l) M) :
  gh P ops w n Fin (⟨some d,op,ty,pos,af,some (j,want)⟩::rest) l M:=by
 refine⟨fun u _=>u=v,Q9 cN aH (FV bQ eb ab (fun _ _ _ _ h=>h) bL aN fun ρ aE u h0 hZ h1=>?_),?_⟩
 ·rw [bf aE u h0 hZ ρ h1]
  exact⟨rfl,(a6 aE u h0 hZ).mono fun e cY he=>by cases e <;> first | exact⟨he.2,he.1⟩ | exact he⟩
 rw [kN rfl];exact h
theorem Calls.imp {f:FuncId} {args:Array Value} {vm alH:Value→World→Prop} (h:Calls P f args w (bI vm)) (hi:∀ u w',vm u w'→alH u w'):Calls P f args w (bI alH):=
 h.mono fun e cY he=>by cases e <;> first | exact hi _ _ he | exact he
theorem pd.first {ad:Addr} {v:Value} {vs:List Value} (h:pd w ad (v::vs)):w.cell? ad=some v:=by
 have:=h 0 v rfl
 rwa [Addr.add_zero'] at this
end
section
variable {H:Type} {enc:TypeId×Value→H} {P:Program} {w:World} {n:Nat} {t:TypeId}
def ga (enc:TypeId×Value→H) (P:Program) (w:World) (n:Nat) (t:TypeId) {α:Type} (f:α→List D) (Q:α→Prop):Prop:=
 ∀ cs x,DataW.trod enc P w 0 (fun _=>true) true n t cs=some x→(∀ m∈x.1.weights P t,m≤reachBytes)→∃ a,ak [] w (f a) cs∧Q a
theorem ga.zero {α:Type} {f:α→List D} {Q:α→Prop}:ga enc P w 0 t f Q:=fun cs x h=>by simp [DataW.trod] at h
theorem ga.to {α β:Type} {f:α→List D} {Q:α→Prop} {CH:β→List D} {Q':β→Prop} (h:ga enc P w n t f Q) (g:α→β) (dm:∀ a,CH (g a)=f a) (zw:∀ a,Q a→Q' (g a)):ga enc P w n t CH Q':=fun cs x ab hm=>by
 obtain⟨a,h1,aj⟩:=h cs x ab hm;exact⟨g a,by rw [dm];exact h1,zw a aj⟩
theorem hL (bQ:P.underlying t=some .string):ga enc P w n t (fun s=>[.v (S s)]) (fun s:List UInt8=>s.length≤140737488351232):=fun cs x ab hm=>by
 obtain⟨s,rfl,rfl,_⟩:=DataW.trod_string bQ ab;refine⟨s.data.toList,ak.fL (aS.cC rfl) ak.lN,?_⟩;have:=hm s.data.toList.length (by simp [DataW.weights]);simpa [reachBytes] using this
theorem s0 {k:IntKind} (bQ:P.underlying t=some (.int k)):ga enc P w n t (fun m=>[.v (.int k m)]) (fun m:Int=>(Lit.int k m).wf=true):=fun cs x ab hm=>by
 obtain⟨m,rfl,rfl,h⟩:=DataW.trod_int bQ ab;exact⟨m,ak.fL (aS.cC rfl) ak.lN,h⟩
theorem zx (bQ:P.underlying t=some .bool):ga enc P w n t (fun b=>[.v (.bool b)]) (fun _:Bool=>True):=fun cs x ab hm=>by
 obtain⟨b,rfl,rfl⟩:=DataW.trod_bool bQ ab;exact⟨b,ak.fL (aS.cC rfl) ak.lN,trivial⟩
def A5 (enc:TypeId×Value→H) (P:Program) (w:World) (n tot:Nat) (nW:List Field) (off:Nat) {α:Type} (f:α→List D) (Q:α→Prop):Prop:=
 ∀ (cs:List Value) (xs:List (DataW H×List MemPlace)),cs.length=tot→xs.length=nW.length→(∀ (i:Nat) g,nW[i]? = some g→DataW.trod enc P w 0 (fun _=>true) true n g.type ((cs.drop g.offset).take (P.cellsOf g.type))=xs[i]?)→
  (∀ m∈DataW.weightsEach P (nW.map (·.type)) (xs.map (·.1)),m≤reachBytes)→∃ a,ak [] w (f a) (cs.drop off)∧Q a
theorem s3 {tot:Nat}:A5 enc P w n tot [] tot (fun _:Unit=>[]) (fun _=>True):=fun cs xs h _ _ _=>⟨(),by rw [List.drop_eq_nil_of_le (by omega)];exact ak.lN,trivial⟩
theorem df {tot off k:Nat} {fd:Field} {nW:List Field} {α β:Type} {f:α→List D} {Q:α→Prop} {CH:β→List D} {Q':β→Prop} (dV:fd.offset=off) (hk:P.cellsOf fd.type=k) (h:ga enc P w n fd.type f Q) (fb:A5 enc P w n tot nW (off+k) CH Q') :
  A5 enc P w n tot (fd::nW) off (fun p:α×β=>f p.1++CH p.2) (fun p=>Q p.1∧Q' p.2):=fun cs xs bM ab bf hm=>by
 cases xs with
 | nil=>simp at ab
 | cons x xs=>
  have bD:=bf 0 fd rfl
  simp only [List.getElem?_cons_zero] at bD
  simp only [List.map_cons,DataW.weightsEach,List.mem_append] at hm
  obtain⟨a,ax,zw⟩:=h _ x bD (fun m wu=>hm m (.inl wu))
  obtain⟨b,aH,ain⟩:=fb cs xs bM (by simpa using ab) (fun i g cN=>by simpa using bf (i+1) g (by simpa using cN)) (fun m wu=>hm m (.inr wu))
  refine⟨(a,b),?_,zw,ain⟩
  have:=ax.append aH
  rw [dV,hk] at this
  rwa [← List.drop_drop,List.take_append_drop] at this
theorem nz {tot:Nat} {nW:Array Field} {α:Type} {f:α→List D} {Q:α→Prop} (bQ:P.underlying t=some (.struct nW)) (a6:P.cellsOf t=tot) (h:A5 enc P w n tot nW.toList 0 f Q):ga enc P w (n+1) t f Q:=fun cs x ab hm=>by
 obtain⟨xs,m,bW,rfl,bM,hlen,dm⟩:=DataW.trod_struct bQ ab;obtain rfl:n=m:=by omega
 simp only [DataW.weights,bQ] at hm;have:=h cs xs (bM.trans a6) (by simpa using hlen) (fun i g cN=>dm i g (by simpa using cN)) hm;simpa using this
theorem s4 {α:Type} {apv:Nat→α→Prop}:∀ (k:Nat),(∀ i,i<k→∃ a,apv i a)→∃ l:List α,l.length=k∧∀ i a,l[i]? = some a→apv i a
 | 0,_=>⟨[],rfl,fun i a h=>by simp at h⟩
 | k+1,h=>by
  obtain⟨l,bM,bf⟩:=s4 k fun i hi=>h i (by omega)
  obtain⟨a,ax⟩:=h k (by omega)
  refine⟨l ++ [a],by simp [bM],fun i b aH=>?_⟩
  rcases Nat.lt_trichotomy i l.length with h1 | h1 | h1
  ·rw [List.getElem?_append_left h1] at aH
   exact bf i b aH
  ·subst h1
   simp at aH
   subst aH
   rw [bM]
   exact ax
  rw [List.getElem?_eq_none (by simp;omega)] at aH
  cases aH
theorem pr {e:TypeId}:∀ {ds:List (DataW H)} {d:DataW H},d∈ds→∀ m∈d.weights P e,m∈DataW.weightsAll P e ds
 | rA::ds,d,h,m,hm=>by
  simp only [DataW.weightsAll,List.mem_append]
  rcases List.mem_cons.1 h with rfl | h
  ·exact .inl hm
  exact .inr (pr h m hm)
theorem o5 {e sz fY:Nat} {α:Type} {f:α→List D} {Q:α→Prop} (bQ:P.underlying t=some (.slice e)) (a6:P.cellsOf e=sz) (aH:P.bytesOf e=fY) (ha:0<sz) (h:ga enc P w n e f Q) :
  ga enc P w (n+1) t (fun xs:List α=>[.iW sz (xs.map f)]) (fun xs=>(∀ x∈xs,Q x)∧xs.length*fY≤140737488351232):=fun cs x ab hm=>by
 rcases DataW.trod_slice bQ ab with⟨rfl,rfl⟩ | ⟨a,len,cap,elems,rest,m,bW,rfl,rfl,_,bM,pL,hlen,Mo,wG,_⟩
 ·refine⟨[],ak.fL ?_ ak.lN,by simp,by simp⟩
  simp only [aS,List.map_nil]
  exact⟨none,0,rfl,by simp,by simp,by simp⟩
 obtain rfl:n=m:=by omega
 simp only [DataW.weights,bQ,List.mem_cons,List.mem_append] at hm
 have hw:=hm _ (.inl rfl)
 rw [aH] at hw
 simp only [List.length_map,reachBytes] at hw
 have IK:len*fY≤(elems.length+rest.length)*fY:=Nat.mul_le_mul_right _ (by omega)
 have key:∀ i,i<len→∃ b,Q b∧a.block<w.heap.size∧∃ us,us.length=sz∧ak [] w (f b) us∧pd w (a.add (i*sz)) us:=fun i hi=>by
  have h1:=Mo i hi
  obtain⟨y,aR⟩:∃ y,elems[i]? = some y:=⟨_,List.getElem?_eq_getElem (by omega)⟩
  rw [aR] at h1
  obtain⟨us,aj,aF⟩:=Option.bind_eq_some_iff.1 h1
  rw [a6] at aj
  have bn:=World.cells?_some aj
  obtain⟨b,b9,iD⟩:=h us y aF (fun m wu=>hm m (.inr (.inl (pr (List.mem_map.2 ⟨y,List.mem_of_getElem? aR,rfl⟩) m wu))))
  have hblk:=World.cells?_block aj ha
  rw [kM] at hblk
  have Xi:us.length=sz:=bn.2.1
  exact⟨b,iD,hblk,us,Xi,b9,fun j v bw=>by
   have dG:=(List.getElem?_eq_some_iff.1 bw).1
   have:=bn.2.2 j (by omega)
   rw [this,bw]⟩
 obtain⟨xs,BQ,ada⟩:=s4 len key
 refine⟨xs,ak.fL ?_ ak.lN,fun y aR=>?_,by rw [BQ];omega⟩
 ·rcases Nat.eq_zero_or_pos len with bD | bD
  ·subst bD
   obtain rfl:xs = []:=List.eq_nil_of_length_eq_zero BQ
   simp only [aS,List.map_nil]
   exact⟨some a,cap,rfl,bM,pL,by simp⟩
  obtain⟨_,_,hblk,_⟩:=key 0 bD
  refine aS.Nf (by simp [BQ]) bM pL (by simp) hblk fun i r hi=>?_
  rw [List.getElem?_map] at hi
  obtain⟨y,aR,rfl⟩:=Option.map_eq_some_iff.1 hi
  obtain⟨_,_,us,h1,aj,aF⟩:=ada i y aR
  exact⟨by rw [← aj.length,h1],us,aj,aF⟩
 obtain⟨i,hi⟩:=List.getElem?_of_mem aR
 exact(ada i y hi).1
end
end Go.Proofs.YtnihidkbkhcfoaaGreatDoor.V
namespace Go.Proofs.YtnihidkbkhcfoaaGreatDoor.V
open Go Go.ChangeShapes Go.WideShapes Go.RowKit
section
variable {H:Type} {enc:TypeId×Value→H} {P:Program} {W Tb:World}
theorem qb (bM:laidOutB P=true) (k:Mod [] W Tb):∀ {fV:List TypeId} {vs:List Value} {ds:List (DataW H)} {hI:List MemPlace},(fV.all fun t=>P.readableRec t&&decide (t<P.types.size))=true→
  DataW.TrodAll enc P W 0 (fun _=>true) true fV vs ds hI→(∀ p∈hI,p.block<W.heap.size)→DataW.TrodAll enc P Tb 0 (fun b=>decide (b<W.heap.size)) true fV vs ds hI
 | [],vs,ds,hI,_,h,_=>by
  obtain⟨rfl,rfl,rfl⟩:=trodAll_nil h
  exact trodAll_mk0
 | t::fV,vs,ds,hI,bf,h,bJ=>by
  obtain⟨v,agS,d,agT,a,b,rfl,rfl,rfl,h1,aj⟩:=trodAll_cons h
  simp only [List.all_cons,Bool.and_eq_true,decide_eq_true_eq] at bf
  have ax:∀ p∈a,p.block<W.heap.size:=fun p rY=>bJ p (List.mem_append_left _ rY)
  exact trodAll_cons_mk (Below.trod bM bf.1.1 bf.1.2 h1 k.below ax) (qb bM k bf.2 aj fun p rY=>bJ p (List.mem_append_right _ rY))
theorem Mod.keptBut (k:Mod [] W Tb) (S:MemPlace→Prop):W.keptBut Tb S:=by
 refine⟨k.os,k.output,fun i hi=>?_⟩;rw [k.block i hi (by simp)];cases h:W.heap[i]? with
 | none=>rfl
 | some o=>cases o <;> simp
theorem EU (bM:laidOutB P=true) {f:Func} {s:ChangeSpec} {t:TypeId} {args:Array Value} {ds:List (DataW H)} {before:List MemPlace} (aN:s.vars = []) (bf:f.resultTypes = #[t]) (bQ:P.underlying t=some .bool)
  (uZ:(f.params.toList.all fun t=>P.readableRec t&&decide (t<P.types.size))=true) (F2:s.fn H ds = {results:=[.lit (.bool true)],args:=ds})
  (hp:DataW.Whole enc P f.params.toList s.vars false W args.toList ds [] before) (k:Mod [] W Tb):s.post enc P f false true false false W args (.bool true) Tb:=by
 have bk:=hp.lt
 have aio:=hp
 obtain⟨p,q,du,oO,rfl,agR,ES⟩:=hp
 rw [aN] at oO
 obtain⟨_,rfl⟩:=trodVars_none oO
 have hlen:f.resultTypes.size=1:=by rw [bf];rfl
 refine⟨ds,[],_,[],p,[],aio,?_,?_,?_,k.keptBut _,fun h=>by cases h⟩
 ·rw [List.append_nil,F2,hlen,bf]
  exact trodAll_cons_mk (shut_bool bQ true) trodAll_mk0
 ·rw [List.append_nil,F2]
  exact qb bM k uZ du fun p bJ=>by simpa using bk p (List.mem_append_left _ bJ)
 rw [List.append_nil,F2,aN]
 exact rfl
end
end Go.Proofs.YtnihidkbkhcfoaaGreatDoor.V
namespace Go.Proofs.YtnihidkbkhcfoaaGreatDoor.V
open Go
abbrev U:=List UInt8
structure Slot where
 ty:U
 key:U
 id:U
 deriving DecidableEq
structure eU where
 ty:U
 key:U
 deriving DecidableEq
abbrev Slot.cells (s:Slot):List Value:=[S s.ty,S s.key,S s.id]
abbrev eU.cells (p:eU):List Value:=[S p.ty,S p.key]
abbrev Slot.agg (s:Slot):Value:=.agg s.cells.toArray
abbrev eU.agg (p:eU):Value:=.agg p.cells.toArray
abbrev Slot.pair (s:Slot):eU:=⟨s.ty,s.key⟩
abbrev QS (xs:List Slot):D:=flat 3 Slot.cells xs
abbrev GL (xs:List eU):D:=flat 2 eU.cells xs
abbrev lO (xs:List U):D:=flat 1 (fun s=>[S s]) xs
section
variable {w:World}
theorem pd.c0 {a:Addr} {v:Value} {vs:List Value} (h:pd w a (v::vs)):w.cell? a=some v:=by
 have:=h 0 v rfl
 rwa [Addr.add_zero'] at this
end
/-! ### comparing -/
def n1 (a b:U):Int:=if fA a b then -1 else if a=b then 0 else 1
theorem cS:∀ a:U,fA a a=false
 | []=>rfl
 | c::a=>by simp [fA,Op.bytesLess,cS a]
theorem fo:∀ {a b c:U},fA a b=true→fA b c=true→fA a c=true
 | [],[],_,h,_=>by simp [fA,Op.bytesLess] at h
 | _::_,[],_,h,_=>by simp [fA,Op.bytesLess] at h
 | _,_::_,[],_,h=>by simp [fA,Op.bytesLess] at h
 | [],_::_,_::_,_,_=>by simp [fA,Op.bytesLess]
 | x::a,y::b,z::c,h,fb=>by
  simp only [fA,Op.bytesLess,Bool.or_eq_true,decide_eq_true_eq,Bool.and_eq_true,beq_iff_eq,UInt8.lt_iff_toNat_lt,← UInt8.toNat_inj] at h fb ⊢
  rcases h with h | ⟨h1,aj⟩
  ·rcases fb with fb | ⟨aF,bn⟩
   ·exact .inl (by omega)
   exact .inl (by omega)
  rcases fb with fb | ⟨aF,bn⟩
  ·exact .inl (by omega)
  exact .inr ⟨by omega,fo aj bn⟩
theorem mb {a b:U} (h:fA a b=true):fA b a=false:=by
 cases fb:fA b a with
 | false=>rfl
 | true=>have:=fo h fb;rw [cS] at this;cases this
theorem ou:∀ (a b:U),fA a b=true∨a=b∨fA b a=true
 | [],[]=>.inr (.inl rfl)
 | [],_::_=>.inl (by simp [fA,Op.bytesLess])
 | _::_,[]=>.inr (.inr (by simp [fA,Op.bytesLess]))
 | x::a,y::b=>by
  simp only [fA,Op.bytesLess,Bool.or_eq_true,decide_eq_true_eq,Bool.and_eq_true,beq_iff_eq,UInt8.lt_iff_toNat_lt,← UInt8.toNat_inj,List.cons.injEq]
  rcases Nat.lt_trichotomy x.toNat y.toNat with h | h | h
  ·exact .inl (.inl h)
  ·rcases ou a b with h1 | h1 | h1
   ·exact .inl (.inr ⟨h,h1⟩)
   ·exact .inr (.inl ⟨h,h1⟩)
   exact .inr (.inr (.inr ⟨h.symm,h1⟩))
  exact .inr (.inr (.inl h))
theorem pO {a b:U}:n1 a b<0↔fA a b=true:=by
 unfold n1
 by_cases h:fA a b=true
 ·simp [h]
 by_cases fb:a=b <;> simp [h,fb,cS]
theorem xb {a b:U}:n1 a b=0↔a=b:=by
 unfold n1
 by_cases h:fA a b=true
 ·rw [if_pos h];exact⟨fun fb=>by omega,fun fb=>by subst fb;rw [cS] at h;cases h⟩
 by_cases fb:a=b <;> simp [h,fb,cS]
/-! ### pairs -/
def Lw (p q:eU):Bool:=if p.ty=q.ty then fA p.key q.key else fA p.ty q.ty
def Jf:List Slot→Bool
 | a::b::r=>Lw a.pair b.pair&&Jf (b::r)
 | _=>true
section
variable {P:Program} {l:List (Nat×Value)} {w:World} {ty:TypeId} {pos:String} {af:Array Edge}
variable {dd:Option Nat} {gg:Option (Nat×Bool)} {x y:Operand} {t t':TypeId}
def S0 (P:Program) (f:FuncId):Prop:=∀ args w,(callFunc f args).run P w=((Extern.BytealgCompare.compare args).run P w).andThen fun v w'=>.ok (.value v) w'
theorem HZ {f:FuncId} {a b:List UInt8} (dm:S0 P f) (ab:aT l x=some (S a)) (aR:aT l y=some (S b)) {fV:Array TypeId} :
  bo P l ⟨dd,.call {callee:=.value (.func f),args:=#[x,y],argTypes:=fV},ty,pos,af,gg⟩ w (.int .i64 (Lib.compareBytes a b)) w:=fun ρ e2=>by
 have bs:ρ (.func f) = .func (.func f) #[] #[]:=e2 _ _ rfl
 have a6:=Lib.run_compareString (P:=P) ⟨⟨a⟩⟩ ⟨⟨b⟩⟩ w
 have:=dm #[S a,S b] w
 rw [show(#[S a,S b]:Array Value) = #[.string ⟨⟨a⟩⟩,.string ⟨⟨b⟩⟩] from rfl,a6] at this
 simp [execOp,resolve,bs,e2 _ _ ab,e2 _ _ aR,Deferred.ofValue,invoke] at this ⊢
 simpa using this
end
section
variable {P:Program} {ops:Array Oper} {n:Nat} {l:List (Nat×Value)} {M:List (Nat×(Value→World→Prop))} {w:World} {Fin:iE→Prop} {rest:List Oper} {d:Nat} {ty:TypeId} {pos:String} {af:Array Edge}
theorem Ju {t:TypeId} {hI:List (Nat×Operand)} {us:List (Nat×Value)} {e c sz fY:Nat} {h6 cs:List Value} (V:Value→World→Prop) (oO:∀ v aE cY,Mod [] aE cY→V v aE→V v cY) (bQ:k2 P t e sz fY=true) (cO:hq P e h6) (ab:AY l hI=some us)
  (dm:o4 (fun i=>some (i*sz,sz)) ((List.replicate c h6).flatten) us=some cs) (jP:h6.length=sz) (a6:c*sz≤16777216) (bw:∀ aE g cY,Mod [] w aE→j5 aE cY g e cs→V (.slice (some ⟨g,0,none⟩) c c) cY) (bL:Nat.blt d n=true) (bM:iN d l=none)
  (h:gh P ops w n Fin rest l ((d,V)::M)):gh P ops w n Fin (⟨some d,.buildSlice t c hI.toArray,ty,pos,af,none⟩::rest) l M:=
 ahJ V oO (fun aE k=>⟨_,_,oq bQ cO ab dm jP a6,(j5.mk' aE e cs).mod,bw _ _ _ k (j5.mk' aE e cs)⟩) bL rfl bM h
end
section
variable {P:Program} {ops:Array Oper} {Q:Exit→Act→World→Prop} {n:Nat} {ds:List Deferred} {l:List (Nat×Value)} {M:List (Nat×(Value→World→Prop))} {w:World} {Fin:iE→Prop} {rest:List Oper} {d j t:Nat} {want:Bool} {op:Op} {ty:TypeId} {pos:String} {af:Array Edge}
theorem aip (bQ:(ops[j]?).bind (·.dst)=some t) (bM:iN t l=some undef) (bL:Nat.blt d n=true) (h:fC P ops Q rest n ds ((d,undef)::l) w) :
  fC P ops Q (⟨some d,op,ty,pos,af,some (j,want)⟩::rest) n ds l w:=by
 intro a ax
 refine wpList_step fun K lT=>?_
 have aR:yielded ops a.tmps j=none:=by
  unfold yielded
  rw [bQ]
  show(match a.tmps[t]? with | some (.bool b)=>some b | _=>none)=none
  rw [ax.get t _ bM]
  rfl
 have hw:¬ (Region.wanted ⟨some d,op,ty,pos,af,some (j,want)⟩ (yielded ops a.tmps)=true):=by
  simp [Region.wanted,aR]
 rw [if_neg hw]
 exact lT _ _ (h _ (ax.put bL undef))
theorem aiq (bQ:(ops[j]?).bind (·.dst)=some t) (bM:iN t l=some undef) (bL:Nat.blt d n=true) (h:gh P ops w n Fin rest ((d,undef)::l) M) :
  gh P ops w n Fin (⟨some d,op,ty,pos,af,some (j,want)⟩::rest) l M:=by
 refine⟨fun u _=>u=undef,⟨fun _ _ _ _ h=>h,fun rA pY=>by injection pY with pY;subst pY;simpa [Nat.blt_eq] using bL,fun a aE h0 hj=>?_⟩,by rw [kN rfl];exact h⟩
 have ug:t∈Oper.looksAt ops ⟨some d,op,ty,pos,af,some (j,want)⟩:=by
  unfold Oper.looksAt
  refine List.mem_append_right _ ?_
  simp only
  rw [bQ]
  simp
 have h1:=hj t (fun m' _=>m'=undef) ug (by simp [qM,bM])
 have aR:yielded ops a.tmps j=none:=by
  unfold yielded
  rw [bQ]
  show(match a.tmps[t]? with | some (.bool b)=>some b | _=>none)=none
  rw [Array.getD_eq_getD_getElem?] at h1
  cases cN:a.tmps[t]? with
  | none=>rfl
  | some u=>
   rw [cN] at h1
   simp only [Option.getD_some] at h1
   subst h1
   rfl
 have hw:¬ (Region.wanted ⟨some d,op,ty,pos,af,some (j,want)⟩ (yielded ops a.tmps)=true):=by
  simp [Region.wanted,aR]
 rw [if_neg hw]
end
theorem Own.same {w:World} {e sz m n:Nat} {v:Value} {us vs:List Value} (h:Own w e sz v n vs) (hm:n=m) (bw:vs=us):Own w e sz v m us:=by
 subst hm;subst bw;exact h
section
variable {α:Type}
theorem ka {q:α→Bool}:∀ {xs:List α} {i:Nat},(∀ j y,j<i→xs[j]? = some y→q y=true)→(∀ j y,i≤j→xs[j]? = some y→q y=false)→xs.filter q=xs.take i
 | [],i,_,_=>by simp
 | x::xs,0,h,fb=>by
  have:=ka (xs:=xs) (i:=0) (fun j y dG=>by omega) (fun j y _ aR=>fb (j+1) y (by omega) (by simpa using aR))
  have ab:=fb 0 x (by omega) rfl
  rw [List.filter_cons,ab,this]
  simp
 | x::xs,i+1,h,fb=>by
  have:=ka (xs:=xs) (i:=i) (fun j y dG aR=>h (j+1) y (by omega) (by simpa using aR)) (fun j y dG aR=>fb (j+1) y (by omega) (by simpa using aR))
  have ab:=h 0 x (by omega) rfl
  rw [List.filter_cons,ab,this]
  simp
theorem l3 {q:α→Bool}:∀ {xs:List α} {i:Nat},(∀ j y,j<i→xs[j]? = some y→q y=false)→(∀ j y,i≤j→xs[j]? = some y→q y=true)→xs.filter q=xs.drop i
 | [],i,_,_=>by simp
 | x::xs,0,h,fb=>by
  have:=l3 (xs:=xs) (i:=0) (fun j y dG=>by omega) (fun j y _ aR=>fb (j+1) y (by omega) (by simpa using aR))
  have ab:=fb 0 x (by omega) rfl
  rw [List.filter_cons,ab,this]
  simp
 | x::xs,i+1,h,fb=>by
  have:=l3 (xs:=xs) (i:=i) (fun j y dG aR=>h (j+1) y (by omega) (by simpa using aR)) (fun j y dG aR=>fb (j+1) y (by omega) (by simpa using aR))
  have ab:=h 0 x (by omega) rfl
  rw [List.filter_cons,ab,this]
  simp
end
theorem FG {xs:List Slot}:∀ x∈xs,∀ c∈Slot.cells x,c.oneCell'=true:=by
 intro x _ c a6;simp at a6;rcases a6 with rfl | rfl | rfl <;> rfl
theorem Own.slots {w:World} {e:Nat} {v:Value} {xs:List Slot} (A:List Nat) (h:Own w e 3 v xs.length ((xs.map Slot.cells).flatten)) (du:∀ x∈aL v,x∉A):aS A w (QS xs) v:=Own.flat h (fun _ _=>rfl) FG rfl du
inductive JV where
 | mk (k:Int) (b:Bool) (n:Int) (s:List UInt8) (l:List JV) (m:List (List UInt8×JV))
namespace JV
def kind:JV→Int | .mk k _ _ _ _ _=>k
def is:JV→Bool | .mk _ b _ _ _ _=>b
def num:JV→Int | .mk _ _ n _ _ _=>n
def str:JV→List UInt8 | .mk _ _ _ s _ _=>s
def list:JV→List JV | .mk _ _ _ _ l _=>l
def map:JV→List (List UInt8×JV) | .mk _ _ _ _ _ m=>m
theorem eta (v:JV):v = .mk v.kind v.is v.num v.str v.list v.map:=by cases v;rfl
mutual
def D:JV→List Go.Proofs.YtnihidkbkhcfoaaGreatDoor.V.D
 | .mk k b n s l m=>[.v (.int .i64 k),.v (.bool b),.v (.int .i64 n),.v (S s),.iW 6 (afO l),.iW 7 (afP m)]
def afO:List JV→List (List Go.Proofs.YtnihidkbkhcfoaaGreatDoor.V.D)
 | []=>[]
 | v::r=>v.D::afO r
def afP:List (List UInt8×JV)→List (List Go.Proofs.YtnihidkbkhcfoaaGreatDoor.V.D)
 | []=>[]
 | p::r=>(.v (S p.1)::p.2.D)::afP r
end
abbrev hG (p:List UInt8×JV):List Go.Proofs.YtnihidkbkhcfoaaGreatDoor.V.D:=.v (S p.1)::p.2.D
theorem M3:∀ l:List JV,afO l=l.map D
 | []=>rfl
 | v::r=>by simp [afO,M3 r]
theorem M4:∀ m:List (List UInt8×JV),afP m=m.map hG
 | []=>rfl
 | v::r=>by simp [afP,M4 r]
theorem Hi (v:JV):v.D = [.v (.int .i64 v.kind),.v (.bool v.is),.v (.int .i64 v.num),.v (S v.str),.iW 6 (v.list.map D),.iW 7 (v.map.map hG)]:=by
 cases v;simp [D,kind,is,num,str,list,map,M3,M4]
theorem rF (v:JV):v.D.length=6:=by rw [Hi];rfl
theorem vx (p:List UInt8×JV):(hG p).length=7:=by simp [rF]
mutual
def sz:JV→Nat
 | .mk _ _ _ _ l m=>1+M5 l+M6 m
def M5:List JV→Nat
 | []=>0
 | v::r=>v.sz+M5 r
def M6:List (List UInt8×JV)→Nat
 | []=>0
 | p::r=>p.2.sz+M6 r
end
theorem M7 {l:List JV} {v:JV} (h:v∈l):v.sz≤M5 l:=by
 induction l with
 | nil=>cases h
 | cons a r dh=>
  simp only [M5];rcases List.mem_cons.1 h with rfl | h
  ·omega
  have:=dh h;omega
theorem QU {l:List (List UInt8×JV)} {p:List UInt8×JV} (h:p∈l):p.2.sz≤M6 l:=by
 induction l with
 | nil=>cases h
 | cons a r dh=>
  simp only [M6];rcases List.mem_cons.1 h with rfl | h
  ·omega
  have:=dh h;omega
theorem nI (v:JV):v.sz=1+M5 v.list+M6 v.map:=by cases v;simp [sz,list,map]
theorem hv {v x:JV} (h:x∈v.list):x.sz<v.sz:=by have:=M7 h;rw [nI v];omega
theorem gI {v:JV} {p:List UInt8×JV} (h:p∈v.map):p.2.sz<v.sz:=by have:=QU h;rw [nI v];omega
mutual
def ok:JV→Prop
 | .mk k b n s l m=>s.length≤140737488351232∧l.length≤1599289640400∧m.length≤1353245080300∧M8 l∧M9 m
def M8:List JV→Prop
 | []=>True
 | v::r=>v.ok∧M8 r
def M9:List (List UInt8×JV)→Prop
 | []=>True
 | p::r=>(p.1.length≤140737488351232∧p.2.ok)∧M9 r
end
theorem CM:∀ {l:List JV},M8 l↔∀ v∈l,v.ok
 | []=>by simp [M8]
 | v::r=>by simp [M8,CM (l:=r)]
theorem CN:∀ {l:List (List UInt8×JV)},M9 l↔∀ p∈l,p.1.length≤140737488351232∧p.2.ok
 | []=>by simp [M9]
 | v::r=>by simp [M9,CN (l:=r)]
theorem ok_eq (v:JV):v.ok↔v.str.length≤140737488351232∧v.list.length≤1599289640400∧v.map.length≤1353245080300∧(∀ x∈v.list,x.ok)∧∀ p∈v.map,p.1.length≤140737488351232∧p.2.ok:=by
 cases v;simp [ok,str,list,map,CM,CN]
end JV
end Go.Proofs.YtnihidkbkhcfoaaGreatDoor.V
