/-
  A part of the proof: walks of functions. No condition of its own.
-/
import Derived.WalkKit
import Derived.Below
import Derived.Still
import Derived.KernelRfl
import Derived.Deep.AppendSrc
import Derived.Laws.CopyOwn
import Derived.Laws.Slices
import Derived.Lib.ConvBytes
import Derived.Laws.BytesArg
import Derived.Lib.Strings
import Derived.Laws.BytesString
import Derived.Laws.IdiomStrings
import Derived.StillTail
set_option linter.unusedVariables false
set_option linter.unusedSimpArgs false
namespace Go.Proofs.YtnihidkbkhcfoaaGreatDoor.V
open Go
/-! ## Frames -/
def iM (t:Nat):List (Nat×Value)→Option Value
 | []=>none
 | (s,v)::r=>match Nat.beq s t with
  | true=>some v
  | false=>iM t r
def a6 (l:List (Nat×Value)):Operand→Option Value
 | .tmp t=>iM t l
 | .const v=>some v
 | .global g=>some (.pointer (some ⟨g,0,none⟩))
 | .func f=>some (.func (.func f) #[] #[])
def Ge (l:List (Nat×Value)):List Operand→Option (List Value)
 | []=>some []
 | x::r=>match a6 l x,Ge l r with
  | some v,some vs=>some (v::vs)
  | _,_=>none
structure Has (n:Nat) (ds:List Deferred) (l:List (Nat×Value)) (a:Act):Prop where
 size:a.tmps.size=n
 defers:a.defers=ds
 get:∀ t v,iM t l=some v→a.tmps[t]? = some v
section
variable {P:Program} {ops:Array Oper} {Q:Exit→Act→World→Prop} {n:Nat} {ds:List Deferred} {l:List (Nat×Value)} {w w':World} {a:Act}
theorem Has.ru (h:Has n ds l a) {x:Operand} {v:Value} (ae:a6 l x=some v):a.eval x=v:=by
 cases x with
 | tmp t=>simp only [a6] at ae;simp [Act.eval,h.get t v ae]
 | const u=>simpa [a6,Act.eval] using ae
 | global g=>simpa [a6,Act.eval] using ae
 | func f=>simpa [a6,Act.eval] using ae
theorem Has.put (h:Has n ds l a) {d:Nat} (bV:Nat.blt d n=true) (v:Value):Has n ds ((d,v)::l) (a.put (some d) v):=by
 refine⟨by simp [Act.put,h.size],by simp [Act.put,h.defers],fun t u hu=>?_⟩;have UQ:d<n:=by simpa [Nat.blt_eq] using bV
 simp only [iM] at hu
 by_cases acM:d=t
 ·subst acM;simp at hu;subst hu;simp [Act.put,h.size,UQ]
 have:Nat.beq d t=false:=by
  cases aQ:Nat.beq d t
  ·rfl
  exact absurd (Nat.eq_of_beq_eq_true aQ) acM
 rw [this] at hu;simp only at hu;rw [← h.get t u hu];simp [Act.put,Array.getElem?_setIfInBounds_ne acM]
def Sub (l:List (Nat×Value)):List (Nat×Value)→Prop
 | []=>True
 | (t,v)::r=>iM t l=some v∧Sub l r
theorem Sub.alB {l l':List (Nat×Value)} (h:Sub l l'):∀ t v,iM t l'=some v→iM t l=some v:=by
 induction l' with
 | nil=>intro t v bK;simp [iM] at bK
 | cons p r dF=>
  obtain⟨s,u⟩:=p;intro t v bK;simp only [iM] at bK;cases aQ:Nat.beq s t with
  | true=>
   rw [aQ] at bK;have hG:=Nat.eq_of_beq_eq_true aQ;subst hG;simp at bK;subst bK;exact h.1
  | false=>
   rw [aQ] at bK;exact dF h.2 t v bK
theorem Has.sub (h:Has n ds l a) {l':List (Nat×Value)} (bb:Sub l l'):Has n ds l' a:=⟨h.size,h.defers,fun t v bK=>h.get t v (bb.alB t v bK)⟩
/-! ## Goals over whatever frame has what is known -/
def ga (P:Program) (ops:Array Oper) (Q:Exit→Act→World→Prop) (rest:List Oper) (n:Nat) (ds:List Deferred) (l:List (Nat×Value)) (w:World):Prop:=
 ∀ a,Has n ds l a→wpList P ops Q rest a w
def pW (P:Program) (c:Code) (Q:Exit→Act→World→Prop) (n:Nat) (ds:List Deferred) (l:List (Nat×Value)) (w:World):Prop:=
 ∀ a,Has n ds l a→c.wp P Q a w
def fB (Q:Exit→Act→World→Prop) (e:Exit) (n:Nat) (ds:List Deferred) (l:List (Nat×Value)) (w:World):Prop:=
 ∀ a,Has n ds l a→Q e a w
theorem ga.sub {rest:List Oper} {l':List (Nat×Value)} (bb:Sub l l') (h:ga P ops Q rest n ds l' w):ga P ops Q rest n ds l w:=fun a ay=>h a (ay.sub bb)
theorem pW.sub {c:Code} {l':List (Nat×Value)} (bb:Sub l l') (h:pW P c Q n ds l' w):pW P c Q n ds l w:=fun a ay=>h a (ay.sub bb)
theorem fB.sub {e:Exit} {l':List (Nat×Value)} (bb:Sub l l') (h:fB Q e n ds l' w):fB Q e n ds l w:=fun a ay=>h a (ay.sub bb)
/-! ### Control -/
theorem nj {x y:Code} (h:∀ K:Act→World→Prop,(∀ n ds l w,pW P y Q n ds l w→∀ a,Has n ds l a→K a w)→pW P x (Exit.then K Q) n ds l w):pW P (.seq x y) Q n ds l w:=
 fun a ay=>wp_seq (h (fun a w=>y.wp P Q a w) (fun _ _ _ _ h a ay=>h a ay) a ay)
theorem b8 (h:fB Q .normal n ds l w):pW P .skip Q n ds l w:=fun a ay=>wp_skip (h a ay)
theorem ba (h:fB Q .ret n ds l w):pW P .ret Q n ds l w:=fun a ay=>wp_ret (h a ay)
theorem bo {i:Nat} (h:fB Q (.exit i) n ds l w):pW P (.exit i) Q n ds l w:=fun a ay=>wp_exit (h a ay)
theorem eE {i:Nat} {c:Code} (h:pW P c (Exit.inBlock i Q) n ds l w):pW P (.block i c) Q n ds l w:=fun a ay=>wp_block (h a ay)
theorem a1 {c:Operand} {x y:Code} {b:Bool} (bh:a6 l c=some (.bool b)) (cc:b=true→pW P x Q n ds l w) (dK:b=false→pW P y Q n ds l w):pW P (.cond c x y) Q n ds l w:=
 fun a ay=>wp_cond_split (ay.ru bh) (fun h=>cc h a ay) (fun h=>dK h a ay)
theorem aK {c:Operand} {x y:Code} {p:Prop} [Decidable p] (bh:a6 l c=some (.bool (decide p))) (cc:p→pW P x Q n ds l w) (dK:¬ p→pW P y Q n ds l w):pW P (.cond c x y) Q n ds l w:=
 a1 bh (fun h=>cc (of_decide_eq_true h)) (fun h=>dK (of_decide_eq_false h))
theorem aF {c:Operand} {x y:Code} (bh:a6 l c=some (.bool true)) (cc:pW P x Q n ds l w):pW P (.cond c x y) Q n ds l w:=
 a1 bh (fun _=>cc) (fun h=>by cases h)
theorem aD {c:Operand} {x y:Code} (bh:a6 l c=some (.bool false)) (dK:pW P y Q n ds l w):pW P (.cond c x y) Q n ds l w:=
 a1 bh (fun h=>by cases h) (fun _=>dK)
theorem dT {K:Act→World→Prop} (h:∀ a,Has n ds l a→K a w):fB (Exit.then K Q) .normal n ds l w:=fun a ay=>h a ay
theorem aR {K:Act→World→Prop} {e:Exit} (he:e≠.normal) (h:fB Q e n ds l w):fB (Exit.then K Q) e n ds l w:=fun a ay=>by
 have:=h a ay;cases e <;> first | exact this | exact absurd rfl he
theorem bU {i:Nat} (h:fB Q .normal n ds l w):fB (Exit.inBlock i Q) (.exit i) n ds l w:=fun a ay=>by simpa [Exit.inBlock] using h a ay
theorem bz {i:Nat} {e:Exit} (he:∀ j,e≠.exit j) (h:fB Q e n ds l w):fB (Exit.inBlock i Q) e n ds l w:=fun a ay=>by
 have:=h a ay;cases e <;> first | exact this | exact absurd rfl (he _)
theorem bX {c:Code} {σ:Type} (L:σ→List (Nat×Value)) (ar1:σ→World→Prop) (Xj:σ→Nat) (ahi:σ) (bb:Sub l (L ahi)) (b3:ar1 ahi w)
  (round:∀ s w,ar1 s w→pW P c (Exit.then (fun x8 w'=>∃ I5,Has n ds (L I5) x8∧ar1 I5 w'∧Xj I5<Xj s) Q) n ds (L s) w):pW P (.loop c) Q n ds l w:=by
 intro a ay
 have key:∀ m,∀ s a w,Xj s=m→Has n ds (L s) a→ar1 s w→∀ (b:Frame) (k:List Item) (cs:List Frame),
   ∃ e x8 w',Q e x8 w'∧Arrives P (lone (b.at a (.code c::.inLoop c::k)) cs w) b k cs e x8 w':=by
  intro m
  induction m using Nat.strongRecOn with
  | _ m dF=>
   intro s a w hm ay ox b k cs
   obtain⟨e,Cb,Cc,e2,xl⟩:=round s w ox a ay b (.inLoop c::k) cs
   cases e with
   | normal=>
    obtain⟨I5,wD,alC,bH⟩:=e2
    obtain⟨ahj,ahk,ahl,acN,Rk⟩:=dF (Xj I5) (hm▸bH) I5 Cb Cc rfl wD alC b k cs
    exact⟨ahj,ahk,ahl,acN,.of_steps (Steps.trans xl (.one step_inLoop)) Rk⟩
   | exit id=>exact⟨_,Cb,Cc,e2,.pass (x:=.inLoop c) rfl (fun _ _=>.inl (by simp)) xl⟩
   | goto l=>exact⟨_,Cb,Cc,e2,.pass (x:=.inLoop c) rfl (fun _ _=>.inl (by simp)) xl⟩
   | ret=>exact⟨_,Cb,Cc,e2,.pass (x:=.inLoop c) rfl (fun _ _=>.inl (by simp)) xl⟩
   | panic arV=>exact⟨_,Cb,Cc,e2,.pass (x:=.inLoop c) rfl (fun _ _=>.inl (by simp)) xl⟩
   | outgrown=>exact⟨_,Cb,Cc,e2,.pass (x:=.inLoop c) rfl (fun _ _=>.inl (by simp)) xl⟩
 intro b k cs
 obtain⟨e,x8,w',e2,xl⟩:=key _ ahi a w rfl (ay.sub bb) b3 b k cs
 exact⟨e,x8,w',e2,.of_steps (.one step_loop) xl⟩
theorem fK {σ:Type} {L:σ→List (Nat×Value)} {ar1:σ→World→Prop} {Xj:σ→Nat} {s:σ} (I5:σ) (bb:Sub l (L I5)) (ox:ar1 I5 w) (hm:Xj I5<Xj s) :
  fB (Exit.then (fun x8 w'=>∃ I5,Has n ds (L I5) x8∧ar1 I5 w'∧Xj I5<Xj s) Q) .normal n ds l w:=fun a ay=>⟨I5,ay.sub bb,ox,hm⟩
/-! ### Regions, and their operations -/
theorem bP {id:Nat} {lo:List Oper} (h:ga P lo.toArray Q lo n ds l w):pW P (.region id lo.toArray false) Q n ds l w:=fun a ay=>wp_region_lit (h a ay)
theorem cF (h:fB Q .normal n ds l w):ga P ops Q [] n ds l w:=fun a ay=>h a ay
def bF (P:Program) (l:List (Nat×Value)) (o:Oper) (w:World) (v:Value) (w':World):Prop:=
 ∀ ρ:Operand→Value,(∀ x u,a6 l x=some u→ρ x=u)→(execOp ρ o).run P w = .ok (.value v) w'
def I6 (P:Program) (l:List (Nat×Value)) (o:Oper) (w:World) (w':World):Prop:=
 ∀ ρ:Operand→Value,(∀ x u,a6 l x=some u→ρ x=u)→(execOp ρ o).run P w = .ok .skip w'
def lK (P:Program) (l:List (Nat×Value)) (o:Oper) (w:World) (f:FuncId) (args:Array Value):Prop:=
 ∀ ρ:Operand→Value,(∀ x u,a6 l x=some u→ρ x=u)→(execOp ρ o).run P w = .ok (.enter f args) w
variable {rest:List Oper} {d:Nat} {op:Op} {ty:TypeId} {pos:String} {af:Array Edge}
theorem fN {v:Value} (bl:bF P l ⟨some d,op,ty,pos,af,none⟩ w v w') (bV:Nat.blt d n=true) (h:ga P ops Q rest n ds ((d,v)::l) w') :
  ga P ops Q (⟨some d,op,ty,pos,af,none⟩::rest) n ds l w:=by
 intro a ay
 refine wpList_plain rfl fun K pY=>?_
 have:=bl a.eval (fun x u ae=>ay.ru ae)
 simp only [Oper.wp,this,Oper.upon]
 exact pY _ _ (h _ (ay.put bV v))
theorem aoT (bl:I6 P l ⟨none,op,ty,pos,af,none⟩ w w') (h:ga P ops Q rest n ds l w') :
  ga P ops Q (⟨none,op,ty,pos,af,none⟩::rest) n ds l w:=by
 intro a ay
 refine wpList_plain rfl fun K pY=>?_
 have:=bl a.eval (fun x u ae=>ay.ru ae)
 simp only [Oper.wp,this,Oper.upon]
 exact pY _ _ (h _ ay)
def bM (xN:Value→World→Prop):Ending→World→Prop
 | .returned v,w=>xN v w
 | _,_=>False
theorem fv {f:FuncId} {args:Array Value} {xN:Value→World→Prop} (bl:lK P l ⟨some d,op,ty,pos,af,none⟩ w f args) (bh:Calls P f args w (bM xN)) (bV:Nat.blt d n=true)
  (h:∀ v w',xN v w'→ga P ops Q rest n ds ((d,v)::l) w') :
  ga P ops Q (⟨some d,op,ty,pos,af,none⟩::rest) n ds l w:=by
 intro a ay
 refine wpList_plain rfl fun K pY=>?_
 have:=bl a.eval (fun x u ae=>ay.ru ae)
 simp only [Oper.wp,this,Oper.upon]
 refine bh.mono fun e w' he=>?_
 cases e with
 | returned v=>exact pY _ _ (h v w' he _ (ay.put bV v))
 | panicked c=>exact he.elim
 | outgrown=>exact he.elim
end
section
variable {P:Program} {ops:Array Oper} {Q:Exit→Act→World→Prop} {n:Nat} {ds:List Deferred} {l:List (Nat×Value)} {w w':World} {a:Act}
variable {rest:List Oper} {d:Nat} {op:Op} {ty:TypeId} {pos:String} {af:Array Edge}
variable {dd:Option Nat} {gg:Option (Nat×Bool)} {x y z:Operand} {t t':TypeId} {k iA:IntKind} {m gr:Int} {b fb:Bool}
theorem d' {v:Value} (ae:a6 l x=some v):bF P l ⟨dd,.move x,ty,pos,af,gg⟩ w v w:=fun ρ h=>by
 simp [execOp,h x v ae]
theorem cq {v:Value} (ae:a6 l x=some v):bF P l ⟨dd,.assign x,ty,pos,af,gg⟩ w v w:=fun ρ h=>by
 simp [execOp,h x v ae]
theorem r6 {α:Type} [BEq α] [LawfulBEq α] [DecidableEq α] (u v:α):(u == v)=decide (u=v):=by
 by_cases h:u=v <;> simp [h]
/-! ### whole numbers -/
theorem oJ (ae:a6 l x=some (.int k m)) (aZ:a6 l y=some (.int k gr)):bF P l ⟨dd,.binOp .add t x y t',ty,pos,af,gg⟩ w (.int k (k.wrap (m+gr))) w:=fun ρ h=>by
 simp [execOp,eqGuard,h _ _ ae,h _ _ aZ,binOp,Op.intArith]
theorem hN (ae:a6 l x=some (.int k m)) (aZ:a6 l y=some (.int k gr)):bF P l ⟨dd,.binOp .sub t x y t',ty,pos,af,gg⟩ w (.int k (k.wrap (m-gr))) w:=fun ρ h=>by
 simp [execOp,eqGuard,h _ _ ae,h _ _ aZ,binOp,Op.intArith]
theorem acO (ae:a6 l x=some (.int k m)) (aZ:a6 l y=some (.int k gr)):bF P l ⟨dd,.binOp .mul t x y t',ty,pos,af,gg⟩ w (.int k (k.wrap (m*gr))) w:=fun ρ h=>by
 simp [execOp,eqGuard,h _ _ ae,h _ _ aZ,binOp,Op.intArith]
theorem wrap64_in (z:Int) (h : -9223372036854775808≤z∧z≤9223372036854775807):IntKind.i64.wrap z=z:=by
 rw [IntKind.wrap_i64 z];omega
theorem aO (ae:a6 l x=some (.int .i64 m)) (aZ:a6 l y=some (.int .i64 gr)) (aQ : -9223372036854775808≤m+gr∧m+gr≤9223372036854775807):bF P l ⟨dd,.binOp .add t x y t',ty,pos,af,gg⟩ w (.int .i64 (m+gr)) w:=by
 have:=oJ (P:=P) (w:=w) (dd:=dd) (gg:=gg) (t:=t) (t':=t') (ty:=ty) (pos:=pos) (af:=af) ae aZ
 rwa [wrap64_in _ aQ] at this
theorem pq (ae:a6 l x=some (.int .i64 m)) (aZ:a6 l y=some (.int .i64 gr)) (aQ : -9223372036854775808≤m-gr∧m-gr≤9223372036854775807):bF P l ⟨dd,.binOp .sub t x y t',ty,pos,af,gg⟩ w (.int .i64 (m-gr)) w:=by
 have:=hN (P:=P) (w:=w) (dd:=dd) (gg:=gg) (t:=t) (t':=t') (ty:=ty) (pos:=pos) (af:=af) ae aZ
 rwa [wrap64_in _ aQ] at this
theorem OY (ae:a6 l x=some (.int k m)) (aZ:a6 l y=some (.int k gr)) (b3:gr≠0):bF P l ⟨dd,.binOp .quo t x y t',ty,pos,af,gg⟩ w (.int k (k.wrap (m.tdiv gr))) w:=fun ρ h=>by
 simp [execOp,eqGuard,h _ _ ae,h _ _ aZ,binOp,Op.intDiv,b3]
theorem acP (ae:a6 l x=some (.int k m)) (aZ:a6 l y=some (.int k gr)) (b3:gr≠0):bF P l ⟨dd,.binOp .rem t x y t',ty,pos,af,gg⟩ w (.int k (m.tmod gr)) w:=fun ρ h=>by
 simp [execOp,eqGuard,h _ _ ae,h _ _ aZ,binOp,Op.intDiv,b3]
theorem qS (ae:a6 l x=some (.int .i64 m)) (aZ:a6 l y=some (.int .i64 gr)) (aQ:0≤m∧m≤9223372036854775807∧0<gr):bF P l ⟨dd,.binOp .quo t x y t',ty,pos,af,gg⟩ w (.int .i64 (m / gr)) w:=by
 have:=OY (P:=P) (w:=w) (dd:=dd) (gg:=gg) (t:=t) (t':=t') (ty:=ty) (pos:=pos) (af:=af) ae aZ (by omega);rw [Int.tdiv_eq_ediv_of_nonneg aQ.1] at this;have h1:0≤m / gr:=Int.ediv_nonneg aQ.1 (by omega);have aq:m / gr≤m:=Int.ediv_le_self _ aQ.1
 rwa [wrap64_in _ (by omega)] at this
theorem kL (ae:a6 l x=some (.int k m)) (aZ:a6 l y=some (.int k gr)) (aQ:0≤m∧0<gr):bF P l ⟨dd,.binOp .rem t x y t',ty,pos,af,gg⟩ w (.int k (m % gr)) w:=by
 have:=acP (P:=P) (w:=w) (dd:=dd) (gg:=gg) (t:=t) (t':=t') (ty:=ty) (pos:=pos) (af:=af) ae aZ (by omega)
 rwa [Int.tmod_eq_emod_of_nonneg aQ.1] at this
theorem zh (ae:a6 l x=some (.int k m)) (aZ:a6 l y=some (.int iA gr)) (b3:0≤gr):bF P l ⟨dd,.binOp .shl t x y t',ty,pos,af,gg⟩ w (.int k (k.wrap (m*2 ^ (min gr.toNat k.bits)))) w:=fun ρ h=>by
 have:¬ gr<0:=by omega
 simp [execOp,eqGuard,h _ _ ae,h _ _ aZ,binOp,Op.shift,this]
theorem tW (ae:a6 l x=some (.int k m)) (aZ:a6 l y=some (.int iA gr)) (b3:0≤gr):bF P l ⟨dd,.binOp .shr t x y t',ty,pos,af,gg⟩ w (.int k (m.fdiv (2 ^ (min gr.toNat k.bits)))) w:=fun ρ h=>by
 have:¬ gr<0:=by omega
 simp [execOp,eqGuard,h _ _ ae,h _ _ aZ,binOp,Op.shift,this]
theorem zG (ae:a6 l x=some (.int k m)) (aZ:a6 l y=some (.int k gr)):bF P l ⟨dd,.binOp .and t x y t',ty,pos,af,gg⟩ w (.int k (k.wrap (BitVec.ofInt k.bits m &&& BitVec.ofInt k.bits gr).toNat)) w:=fun ρ h=>by
 simp [execOp,eqGuard,h _ _ ae,h _ _ aZ,binOp,Op.intBits]
theorem pw (ae:a6 l x=some (.int k m)) (aZ:a6 l y=some (.int k gr)):bF P l ⟨dd,.binOp .or t x y t',ty,pos,af,gg⟩ w (.int k (k.wrap (BitVec.ofInt k.bits m ||| BitVec.ofInt k.bits gr).toNat)) w:=fun ρ h=>by
 simp [execOp,eqGuard,h _ _ ae,h _ _ aZ,binOp,Op.intBits]
theorem cL (ae:a6 l x=some (.int k m)) (aZ:a6 l y=some (.int k gr)):bF P l ⟨dd,.binOp .lss t x y t',ty,pos,af,gg⟩ w (.bool (decide (m<gr))) w:=fun ρ h=>by
 simp [execOp,eqGuard,h _ _ ae,h _ _ aZ,binOp,Op.intCmp]
theorem pR (ae:a6 l x=some (.int k m)) (aZ:a6 l y=some (.int k gr)):bF P l ⟨dd,.binOp .leq t x y t',ty,pos,af,gg⟩ w (.bool (decide (m≤gr))) w:=fun ρ h=>by
 simp [execOp,eqGuard,h _ _ ae,h _ _ aZ,binOp,Op.intCmp]
theorem gq (ae:a6 l x=some (.int k m)) (aZ:a6 l y=some (.int k gr)):bF P l ⟨dd,.binOp .gtr t x y t',ty,pos,af,gg⟩ w (.bool (decide (gr<m))) w:=fun ρ h=>by
 simp [execOp,eqGuard,h _ _ ae,h _ _ aZ,binOp,Op.intCmp]
theorem dq (ae:a6 l x=some (.int k m)) (aZ:a6 l y=some (.int k gr)):bF P l ⟨dd,.binOp .geq t x y t',ty,pos,af,gg⟩ w (.bool (decide (gr≤m))) w:=fun ρ h=>by
 simp [execOp,eqGuard,h _ _ ae,h _ _ aZ,binOp,Op.intCmp]
theorem lS (ae:a6 l x=some (.int k m)) (aZ:a6 l y=some (.int k gr)):bF P l ⟨dd,.binOp .eql t x y t',ty,pos,af,gg⟩ w (.bool (decide (m=gr))) w:=fun ρ h=>by
 simp [execOp,eqGuard,h _ _ ae,h _ _ aZ,binOp,Op.intCmp,r6]
theorem fj (ae:a6 l x=some (.int k m)) (aZ:a6 l y=some (.int k gr)):bF P l ⟨dd,.binOp .neq t x y t',ty,pos,af,gg⟩ w (.bool (decide (m≠gr))) w:=fun ρ h=>by
 have:(m != gr)=decide (m≠gr):=by
  by_cases h:m=gr <;> simp [h]
 simp [execOp,eqGuard,h _ _ ae,h _ _ aZ,binOp,Op.intCmp,this]
theorem e4 (ae:a6 l x=some (.bool b)):bF P l ⟨dd,.unOp .not t x,ty,pos,af,gg⟩ w (.bool (!b)) w:=fun ρ h=>by
 simp [execOp,h _ _ ae,Op.unary]
theorem sB {d0:TypeDesc} (bb:P.underlying t=some d0) (cc:P.underlying t'=some (.int iA)) (ae:a6 l x=some (.int k m)):bF P l ⟨dd,.convert t t' x,ty,pos,af,gg⟩ w (.int iA (iA.wrap m)) w:=fun ρ h=>by
 simp [execOp,h _ _ ae,convert,run_underlying bb,run_underlying cc,Conv.intToInt]
theorem jX {d0:TypeDesc} (bb:P.underlying t=some d0) (cc:P.underlying t'=some (.int iA)) (ae:a6 l x=some (.int k m)) (aQ:iA.wrap m=m):bF P l ⟨dd,.convert t t' x,ty,pos,af,gg⟩ w (.int iA m) w:=by
 have:=sB (P:=P) (w:=w) (dd:=dd) (gg:=gg) (ty:=ty) (pos:=pos) (af:=af) bb cc ae
 rwa [aQ] at this
/-! ### strings -/
abbrev S (s:List UInt8):Value:=.string ⟨⟨s⟩⟩
theorem ob (s:List UInt8):(⟨⟨s⟩⟩:ByteArray).toList=s:=by
 exact ByteArray.toList_mk s
theorem dG {u v:List UInt8} (ae:a6 l x=some (S u)) (aZ:a6 l y=some (S v)):bF P l ⟨dd,.binOp .eql t x y t',ty,pos,af,gg⟩ w (.bool (decide (u=v))) w:=fun ρ h=>by
 simp [execOp,eqGuard,h _ _ ae,h _ _ aZ,binOp,Op.stringOp,r6,ob]
theorem e3 {u v:List UInt8} (ae:a6 l x=some (S u)) (aZ:a6 l y=some (S v)):bF P l ⟨dd,.binOp .neq t x y t',ty,pos,af,gg⟩ w (.bool (decide (u≠v))) w:=fun ρ h=>by
 have:(!(u == v))=decide (u≠v):=by by_cases h:u=v <;> simp [h]
 simp [execOp,eqGuard,h _ _ ae,h _ _ aZ,binOp,Op.stringOp,this,ob]
abbrev eQ (u v:List UInt8):Bool:=Op.bytesLess u v
theorem abe {u v:List UInt8} (ae:a6 l x=some (S u)) (aZ:a6 l y=some (S v)):bF P l ⟨dd,.binOp .lss t x y t',ty,pos,af,gg⟩ w (.bool (eQ u v)) w:=fun ρ h=>by
 simp [execOp,eqGuard,h _ _ ae,h _ _ aZ,binOp,Op.stringOp,ob,eQ]
theorem vR {u v:List UInt8} (ae:a6 l x=some (S u)) (aZ:a6 l y=some (S v)):bF P l ⟨dd,.binOp .gtr t x y t',ty,pos,af,gg⟩ w (.bool (!(eQ u v||u == v))) w:=fun ρ h=>by
 simp [execOp,eqGuard,h _ _ ae,h _ _ aZ,binOp,Op.stringOp,ob,eQ]
theorem O9 {u v:List UInt8} (ae:a6 l x=some (S u)) (aZ:a6 l y=some (S v)):bF P l ⟨dd,.binOp .leq t x y t',ty,pos,af,gg⟩ w (.bool (eQ u v||u == v)) w:=fun ρ h=>by
 simp [execOp,eqGuard,h _ _ ae,h _ _ aZ,binOp,Op.stringOp,ob,eQ]
theorem zH {u v:List UInt8} (ae:a6 l x=some (S u)) (aZ:a6 l y=some (S v)):bF P l ⟨dd,.binOp .geq t x y t',ty,pos,af,gg⟩ w (.bool (!(eQ u v))) w:=fun ρ h=>by
 simp [execOp,eqGuard,h _ _ ae,h _ _ aZ,binOp,Op.stringOp,ob,eQ]
theorem Xk {u v:List UInt8} (ae:a6 l x=some (S u)) (aZ:a6 l y=some (S v)) (aQ:u.length+v.length≤9223372036854775807):bF P l ⟨dd,.binOp .add t x y t',ty,pos,af,gg⟩ w (S (u++v)) w:=fun ρ h=>by
 have h1:((u.length:Int)+v.length)≤IntKind.i64.max:=by
  have:IntKind.i64.max=9223372036854775807:=by decide
  omega
 have aq:(⟨⟨u⟩⟩:ByteArray)++⟨⟨v⟩⟩=⟨⟨u++v⟩⟩:=by
  apply ByteArray.ext;simp [ByteArray.data_append]
 have aT:(⟨⟨u⟩⟩:ByteArray).size=u.length:=rfl;have bL:(⟨⟨v⟩⟩:ByteArray).size=v.length:=rfl;simp only [execOp,eqGuard,h _ _ ae,h _ _ aZ,binOp,Op.stringOp];simp [aT,bL,aq];exact h1
theorem br {u:List UInt8} (bb:P.underlying t=some .string) (ae:a6 l x=some (S u)):bF P l ⟨dd,.call {callee:=.builtin .len,args:=#[x],argTypes:=#[t]},ty,pos,af,gg⟩ w (.int .i64 u.length) w:=fun ρ h=>by
 have aT:(⟨⟨u⟩⟩:ByteArray).size=u.length:=rfl;simp [execOp,resolve,invoke,builtin,Builtin.len_,h _ _ ae,run_underlying bb,goInt,aT]
theorem b6 {u:List UInt8} {c:UInt8} (bb:P.underlying t=some .string) (ae:a6 l x=some (S u)) (aZ:a6 l y=some (.int k m)) (b3:0≤m) (bh:u[m.toNat]? = some c):bF P l ⟨dd,.index t x y,ty,pos,af,gg⟩ w (.int .u8 c.toNat) w:=fun ρ h=>by
 have bH:m.toNat<u.length:=(List.getElem?_eq_some_iff.1 bh).1;have aT:(⟨⟨u⟩⟩:ByteArray)[m.toNat]? = some c:=by
  have bL:m.toNat<(⟨⟨u⟩⟩:ByteArray).size:=bH;have cN:=(List.getElem?_eq_some_iff.1 bh).2;rw [getElem?_pos (⟨⟨u⟩⟩:ByteArray) m.toNat bL,← cN];rfl
 simp [execOp,Instr.index,h _ _ ae,h _ _ aZ,asIntOf,run_underlying bb,b3,aT]
/-! ### the rest that touches no memory -/
theorem eD {vs:Array Value} {i:Nat} {v:Value} (ae:a6 l x=some (.tuple vs)) (hi:vs[i]? = some v):bF P l ⟨dd,.extract x i,ty,pos,af,gg⟩ w v w:=fun ρ h=>by
 simp [execOp,Instr.extract,h _ _ ae,hi]
theorem eb {ad:Addr} (ae:a6 l x=some (.pointer (some ad))):bF P l ⟨dd,.nilCheck x,ty,pos,af,gg⟩ w (.pointer (some ad)) w:=fun ρ h=>by
 simp [execOp,h _ _ ae]
theorem DQ {e:TypeId} {ad:Option Addr} {c c':Nat} (dp:Nat) (he:P.underlying t=some (.slice e)):(Op.equalIn (dp+1) t (.slice ad c c') (.slice none 0 0)).run P w = .ok ad.isNone w:=by
 cases ad <;> simp [Op.equalIn,run_underlying he]
theorem I7 {e:TypeId} {ad:Option Addr} {c c':Nat} (he:P.underlying t=some (.slice e)):(binOp .eql t (.slice ad c c') (.slice none 0 0)).run P w = .ok (.bool ad.isNone) w:=by
 have bk:binOp .eql t (.slice ad c c') (.slice none 0 0)=(do pure (.bool (← Op.equalIn (9999+1) t (.slice ad c c') (.slice none 0 0)))):=by cases ad <;> rfl
 have bZ:=DQ (w:=w) (ad:=ad) (c:=c) (c':=c') 9999 he;rw [bk,Sem.run_bind,bZ];rfl
theorem Kg {ad:Option Addr} {c c' e:Nat} (he:P.underlying t=some (.slice e)) (ae:a6 l x=some (.slice ad c c')) (aZ:a6 l y=some (.slice none 0 0)):bF P l ⟨dd,.binOp .eql t x y t',ty,pos,af,gg⟩ w (.bool ad.isNone) w:=fun ρ h=>by
 have:=I7 (w:=w) (ad:=ad) (c:=c) (c':=c') he;simp only [execOp,eqGuard,h _ _ ae,h _ _ aZ];simp [this]
theorem bs {ad:Option Addr} {c c' e:Nat} (he:P.underlying t=some (.slice e)) (ae:a6 l x=some (.slice ad c c')):bF P l ⟨dd,.call {callee:=.builtin .len,args:=#[x],argTypes:=#[t]},ty,pos,af,gg⟩ w (.int .i64 c) w:=fun ρ h=>by
 simp [execOp,resolve,invoke,builtin,Builtin.len_,h _ _ ae,run_underlying he,goInt]
theorem aa' {ad:Option Addr} {c c' e:Nat} (he:P.underlying t=some (.slice e)) (ae:a6 l x=some (.slice ad c c')):bF P l ⟨dd,.call {callee:=.builtin .cap,args:=#[x],argTypes:=#[t]},ty,pos,af,gg⟩ w (.int .i64 c') w:=fun ρ h=>by
 simp [execOp,resolve,invoke,builtin,Builtin.cap_,h _ _ ae,run_underlying he,goInt]
theorem uZ {ρ:Operand→Value} (h:∀ x u,a6 l x=some u→ρ x=u):∀ (gC:List Operand) (us:List Value),Ge l gC=some us→gC.map ρ=us:=by
 intro gC
 induction gC with
 | nil=>intro us hu;simp [Ge] at hu;simp [← hu]
 | cons z gC dF=>
  intro us hu;simp only [Ge] at hu
  split at hu
  ·rename_i v vs h1 aq
   simp only [Option.some.injEq] at hu;subst hu;simp [h _ _ h1,dF _ aq]
  cases hu
theorem Q8 {fn:Fn} {xs I4:Array Operand} {us vs:List Value} (ae:Ge l xs.toList=some us) (aZ:Ge l I4.toList=some vs):bF P l ⟨dd,.makeFunc fn xs I4,ty,pos,af,gg⟩ w (.func fn us.toArray vs.toArray) w:=fun ρ h=>by
 have bk:xs.map ρ=us.toArray:=by apply Array.toList_inj.1;simpa using uZ h _ _ ae
 have bZ:I4.map ρ=vs.toArray:=by apply Array.toList_inj.1;simpa using uZ h _ _ aZ
 simp [execOp,Instr.makeFunc,bk,bZ]
theorem IL {v:Value} {d0:TypeDesc} (he:P.underlying t=some d0) (cj:(match d0 with | .interface _=>false | _=>true)=true) (ae:a6 l x=some v):bF P l ⟨dd,.makeInterface t x,ty,pos,af,gg⟩ w (.iface t v) w:=fun ρ h=>by
 cases d0 <;> first | (simp at cj;done) | simp [execOp,Instr.makeInterface,h _ _ ae,run_underlying he]
/-! ### calls -/
def aP (P:Program) (f:FuncId):Prop:=∀ args w,(callFunc f args).run P w = .ok (.enter f args) w
theorem aP.of {f:FuncId} {fn:Func} (dK:P.funcs[f]? = some fn) (cj:(fn.name == "runtime.NumGoroutine")=false) (aQ:fn.body.isNone=false):aP P f:=fun args w=>by
 have h1:fn.name≠ "runtime.NumGoroutine" :=by simpa using cj
 cases bh:fn.body with
 | none=>rw [bh] at aQ;cases aQ
 | some c=>simp [callFunc,dK,h1,bh]
theorem bE {f:FuncId} {xs:List Operand} {us:List Value} {gS:Array TypeId} (he:aP P f) (ae:Ge l xs=some us):lK P l ⟨dd,.call {callee:=.value (.func f),args:=xs.toArray,argTypes:=gS},ty,pos,af,gg⟩ w f us.toArray:=fun ρ h=>by
 have bk:xs.map ρ=us:=uZ h _ _ ae;have bZ:ρ (.func f) = .func (.func f) #[] #[]:=h _ _ rfl;have:=he us.toArray w;simp [execOp,resolve,bZ,Deferred.ofValue,invoke,← bk] at this ⊢;simpa using this
theorem uk {f:FuncId} {g:Operand} {xs:List Operand} {us vs:List Value} {gS:Array TypeId} (he:aP P f) (dv:a6 l g=some (.func (.func f) #[] vs.toArray)) (ae:Ge l xs=some us):lK P l ⟨dd,.call {callee:=.value g,args:=xs.toArray,argTypes:=gS},ty,pos,af,gg⟩ w f (us++vs).toArray:=fun ρ h=>by
 have bk:xs.map ρ=us:=uZ h _ _ ae;have bZ:ρ g = .func (.func f) #[] vs.toArray:=h _ _ dv;have:=he (us++vs).toArray w;simp [execOp,resolve,bZ,Deferred.ofValue,invoke,← bk] at this ⊢;simpa using this
end
/-! ## Memory -/
structure Mod (M:List Nat) (w w':World):Prop where
 os:w'.os=w.os
 tape:w'.tape=w.tape
 output:w'.output=w.output
 size:w.heap.size≤w'.heap.size
 block:∀ i,i<w.heap.size→i∉M→w'.heap[i]? = w.heap[i]?
theorem Mod.refl (M:List Nat) (w:World):Mod M w w:=⟨rfl,rfl,rfl,Nat.le_refl _,fun _ _ _=>rfl⟩
theorem Mod.trans' {M N:List Nat} {a b c:World} (h:Mod M a b) (k:Mod N b c) (h5:∀ x∈N,x∈M∨a.heap.size≤x):Mod M a c:=
 ⟨k.os.trans h.os,k.tape.trans h.tape,k.output.trans h.output,Nat.le_trans h.size k.size,fun i hi eW=>
  (k.block i (Nat.lt_of_lt_of_le hi h.size) (fun ae=>by rcases h5 i ae with h1 | h1 <;> first | exact eW h1 | omega)).trans (h.block i hi eW)⟩
theorem Mod.trans {M:List Nat} {a b c:World} (h:Mod M a b) (k:Mod M b c):Mod M a c:=h.trans' k fun x ae=>.inl ae
theorem Mod.then {M:List Nat} {a b c:World} (h:Mod M a b) (k:Mod [] b c):Mod M a c:=h.trans' k fun x ae=>by cases ae
theorem Mod.own {M:List Nat} {a b c:World} {g:Nat} (h:Mod M a b) (k:Mod [g] b c) (dv:a.heap.size≤g):Mod M a c:=h.trans' k fun x ae=>by simp at ae;subst ae;exact .inr dv
theorem Mod.mono {M N:List Nat} {a b:World} (h:Mod M a b) (alD:∀ x∈M,x∈N):Mod N a b:=⟨h.os,h.tape,h.output,h.size,fun i hi h5=>h.block i hi (fun eW=>h5 (alD i eW))⟩
theorem Mod.below {w w':World} (h:Mod [] w w'):RowKit.Below w.heap.size w w':=⟨h.os,h.tape,h.output,h.size,fun k hk=>h.block k hk (by simp)⟩
theorem Mod.drew (M:List Nat) (w:World):Mod M w w.drew:=⟨rfl,rfl,rfl,Nat.le_refl _,fun _ _ _=>rfl⟩
theorem Mod.alloc (w:World) (o:Obj):Mod [] w (w.alloc o):=⟨rfl,rfl,rfl,by simp,fun i hi _=>RowKit.Below.heap_alloc w o i hi⟩
def aE (w:World) (g:Nat) (T:TypeId) (cs:List Value):Prop:=w.heap[g]? = some (.cells cs.toArray T (0,0))
section
variable {w w':World} {g:Nat} {T:TypeId} {cs:List Value} {M:List Nat}
theorem aE.lt (h:aE w g T cs):g<w.heap.size:=(Array.getElem?_eq_some_iff.1 h).1
theorem aE.mod (h:aE w g T cs) (k:Mod M w w') (dv:g∉M):aE w' g T cs:=(k.block g h.lt dv).trans h
theorem aE.I (h:aE w g T cs) (k:Mod [] w w'):aE w' g T cs:=h.mod k (by simp)
theorem aE.ne {EB:Nat} (h:aE w g T cs) (k:Mod [EB] w w') (dv:g≠EB):aE w' g T cs:=h.mod k (by simp [dv])
theorem aE.cell (h:aE w g T cs) {i:Nat} {v:Value} (bK:cs[i]? = some v):w.cell? ⟨g,i,none⟩=some v:=by
 rw [cell_of_row w g i cs.toArray T (0,0) h];simpa using bK
theorem aE.frozen (h:aE w g T cs) (i:Nat):w.frozen? ⟨g,i,none⟩=false:=frozen_of_row w g i cs.toArray T h
end
def q7 (w:World) (a:Addr) (vs:List Value):Prop:=∀ j v,vs[j]? = some v→w.cell? (a.add j)=some v
theorem q7.nil (w:World) (a:Addr):q7 w a []:=fun j v h=>by simp at h
theorem aE.cs {w:World} {g:Nat} {T:TypeId} {cs vs:List Value} (h:aE w g T cs) {o:Nat} (bK:(cs.drop o).take vs.length=vs):q7 w ⟨g,o,none⟩ vs:=by
 intro j v dY;rw [Addr.add_lit];apply h.cell;have bH:j<vs.length:=(List.getElem?_eq_some_iff.1 dY).1;rw [← bK,List.getElem?_take,List.getElem?_drop] at dY;simpa [bH] using dY
theorem q7.mod {w w':World} {a:Addr} {vs:List Value} {M:List Nat} (h:q7 w a vs) (k:Mod M w w') (eW:a.block∉M):q7 w' a vs:=by
 intro j v dY;have bh:=h j v dY;have aQ:(a.add j).block=a.block:=by unfold Addr.add;split <;> rfl
 have bH:=World.block_lt_of_cell? w _ bh;rw [aQ] at bH;rw [← bh];exact World.cell?_of_block (by rw [aQ];exact k.block _ bH eW)
/-! ### what is asked of the program's table of types -/
def Gf:TypeDesc→Bool
 | .struct _ | .array _ _=>true
 | _=>false
def nL (P:Program) (t:TypeId):Bool:=match P.underlying t,P.info? t with
 | some d,some i=>!Gf d&&i.size == 1
 | _,_=>false
def rF (P:Program) (t:TypeId) (n:Nat):Bool:=match P.underlying t,P.info? t with
 | some d,some i=>Gf d&&i.size == n
 | _,_=>false
def ly (P:Program) (t:TypeId) (e n fZ:Nat):Bool:=match P.underlying t,P.info? e with
 | some (.slice w6),some i=>w6 == e&&i.size == n&&i.bytes == fZ&&(match i.zero with | some z=>z.cells.size == n | none=>false)
 | _,_=>false
def ix (P:Program) (t f off n:Nat):Bool:=match P.underlying t with
 | some (.struct pX)=>match pX[f]? with
  | some fd=>fd.offset == off&&(match P.info? fd.type with | some i=>i.size == n&&n != 0 | none=>false)
  | none=>false
 | _=>false
section
variable {P:Program} {t e n fZ k f off:Nat} {w:World}
theorem sG (h:nL P t=true):∃ d i,P.underlying t=some d∧P.info? t=some i∧Gf d=false∧i.size=1:=by
 unfold nL at h
 split at h
 ·rename_i d i h1 aq
  simp only [Bool.and_eq_true,Bool.not_eq_true',beq_iff_eq] at h;exact⟨d,i,h1,aq,h.1,h.2⟩
 cases h
theorem Cd (h:rF P t n=true):∃ d i,P.underlying t=some d∧P.info? t=some i∧Gf d=true∧i.size=n:=by
 unfold rF at h
 split at h
 ·rename_i d i h1 aq
  simp only [Bool.and_eq_true,beq_iff_eq] at h;exact⟨d,i,h1,aq,h.1,h.2⟩
 cases h
theorem il (h:ly P t e n fZ=true):∃ i z,P.underlying t=some (.slice e)∧P.info? e=some i∧i.size=n∧i.bytes=fZ∧i.zero=some z∧z.cells.size=n:=by
 unfold ly at h
 split at h
 ·rename_i w6 i h1 aq
  simp only [Bool.and_eq_true,beq_iff_eq] at h;obtain⟨⟨⟨ay,aQ⟩,bh⟩,bV⟩:=h;subst ay
  split at bV
  ·rename_i z di
   exact⟨i,z,h1,aq,aQ,bh,di,by simpa using bV⟩
  cases bV
 cases h
theorem Nj (h:ix P t f off n=true):∃ pX fd i,P.underlying t=some (.struct pX)∧pX[f]? = some fd∧fd.offset=off∧P.info? fd.type=some i∧i.size=n∧n≠0:=by
 unfold ix at h
 split at h
 ·rename_i pX h1
  split at h
  ·rename_i fd aq
   simp only [Bool.and_eq_true,beq_iff_eq] at h;obtain⟨ay,aQ⟩:=h
   split at aQ
   ·rename_i i aT
    simp only [Bool.and_eq_true,beq_iff_eq,bne_iff_ne,ne_eq] at aQ;exact⟨pX,fd,i,h1,aq,ay,aT,aQ.1,aQ.2⟩
   cases aQ
  cases h
 cases h
theorem kF {d:TypeDesc} (h:P.underlying t=some d):(isAgg t).run P w = .ok (Gf d) w:=by
 unfold isAgg;simp only [Sem.run_bind,run_underlying h,Result.andThen_ok];cases d <;> rfl
theorem cM {i:TypeInfo} (h:P.info? t=some i):(sizeOf t).run P w = .ok i.size w:=by
 simp [sizeOf,typeInfo,h]
theorem kN (h:nL P t=true) {a:Addr} {v:Value} (bh:w.cell? a=some v):(loadVar t a).run P w = .ok v w:=by
 obtain⟨d,i,h1,aq,aT,bL⟩:=sG h;unfold loadVar;simp [kF h1,aT,bh]
theorem ht (h:rF P t n=true) {a:Addr} {vs:List Value} (cj:vs.length=n) (bh:q7 w a vs):(loadVar t a).run P w = .ok (.agg vs.toArray) w:=by
 obtain⟨d,i,h1,aq,aT,bL⟩:=Cd h;subst cj;unfold loadVar;have:=run_loadCells_list (P:=P) w a vs bh;simp [kF h1,aT,cM aq,bL,this]
end
section
variable {P:Program} {ops:Array Oper} {Q:Exit→Act→World→Prop} {n:Nat} {ds:List Deferred} {l:List (Nat×Value)} {w w':World} {a:Act}
variable {rest:List Oper} {d:Nat} {op:Op} {ty:TypeId} {pos:String} {af:Array Edge}
variable {dd:Option Nat} {gg:Option (Nat×Bool)} {x y z:Operand} {t t':TypeId} {k iA:IntKind} {m gr:Int} {b fb:Bool}
theorem bg {v:Value} {ad:Addr} (cc:nL P t=true) (ae:a6 l x=some (.pointer (some ad))) (bh:w.cell? ad=some v):bF P l ⟨dd,.load t x,ty,pos,af,gg⟩ w v w:=fun ρ h=>by
 simp [execOp,Instr.loadAt,Instr.sureAddr,h _ _ ae,kN cc bh]
theorem bc {vs:List Value} {ad:Addr} {c:Nat} (cc:rF P t c=true) (ae:a6 l x=some (.pointer (some ad))) (cj:vs.length=c) (bh:q7 w ad vs):bF P l ⟨dd,.load t x,ty,pos,af,gg⟩ w (.agg vs.toArray) w:=fun ρ h=>by
 simp [execOp,Instr.loadAt,Instr.sureAddr,h _ _ ae,ht cc cj bh]
theorem dB {ad:Addr} {f o c:Nat} (cc:ix P t f o c=true) (ae:a6 l x=some (.pointer (some ad))):bF P l ⟨dd,.fieldAddr t x f,ty,pos,af,gg⟩ w (.pointer (some (ad.add o))) w:=fun ρ h=>by
 obtain⟨pX,fd,i,h1,aq,aT,bL,cN,eU⟩:=Nj cc;have kB:¬ i.size=0:=by omega
 simp [execOp,Instr.fieldAt,Instr.sureAddr,h _ _ ae,run_underlying h1,aq,fieldPlace,cM bL,kB,aT]
theorem xm {g off f o c:Nat} (cc:ix P t f o c=true) (ae:a6 l x=some (.pointer (some ⟨g,off,none⟩))):bF P l ⟨dd,.fieldAddr t x f,ty,pos,af,gg⟩ w (.pointer (some ⟨g,off+o,none⟩)) w:=by
 have:=dB (w:=w) (dd:=dd) (gg:=gg) (ty:=ty) (pos:=pos) (af:=af) cc ae
 rwa [Addr.add_lit] at this
theorem av {g f o c:Nat} (cc:ix P t f o c=true) (ae:a6 l x=some (.pointer (some ⟨g,0,none⟩))):bF P l ⟨dd,.fieldAddr t x f,ty,pos,af,gg⟩ w (.pointer (some ⟨g,o,none⟩)) w:=by
 have:=xm (w:=w) (dd:=dd) (gg:=gg) (ty:=ty) (pos:=pos) (af:=af) cc ae
 rwa [Nat.zero_add] at this
theorem ca {ad:Addr} {c c' e sz aqA:Nat} (cc:ly P t e sz aqA=true) (ae:a6 l x=some (.slice (some ad) c c')) (aZ:a6 l y=some (.int k m)) (aQ:0≤m∧m<c):bF P l ⟨dd,.indexAddr t x y,ty,pos,af,gg⟩ w (.pointer (some (ad.add (m.toNat*sz)))) w:=fun ρ h=>by
 obtain⟨i,z,h1,aq,aT,bL,cN,eU⟩:=il cc;simp [execOp,Instr.indexAt,h _ _ ae,h _ _ aZ,asIntOf,run_underlying h1,aQ.1,aQ.2,cM aq,aT]
/-! ### new blocks -/
structure ko (w w':World) (g:Nat) (T:TypeId) (cs:List Value):Prop where
 aA:aE w' g T cs
 at_:g=w.heap.size
 mod:Mod [] w w'
 size:w'.heap.size=g+1
theorem ko.mk' (w:World) (T:TypeId) (cs:List Value):ko w (w.alloc (.cells cs.toArray T)) w.heap.size T cs:=
 ⟨heap_alloc_new w _,rfl,Mod.alloc w _,by simp⟩
theorem ko.ne {w w':World} {g EB T M9:Nat} {cs cs':List Value} (h:ko w w' g T cs) (k:aE w EB M9 cs'):EB≠g:=by
 have:=k.lt;have:=h.at_;omega
theorem ko.le {w0 w w':World} {M:List Nat} {g T:Nat} {cs:List Value} (h:ko w w' g T cs) (k:Mod M w0 w):w0.heap.size≤g:=by
 have:=k.size;have:=h.at_;omega
theorem Il {v:Value} {cs:List Value} {T:Nat} (ae:a6 l x=some v) (bK:v.cells=cs.toArray):bF P l ⟨dd,.box T x,ty,pos,af,gg⟩ w (.pointer (some ⟨w.heap.size,0,none⟩)) (w.alloc (.cells cs.toArray T)):=fun ρ fc=>by
 simp [execOp,Instr.box,newVar,newRow,fc _ _ ae,bK]
theorem ep {v:Value} {cs:List Value} {T:Nat} (ae:a6 l x=some v) (bK:v.cells=cs.toArray) (bV:Nat.blt d n=true)
  (h:∀ g w',ko w w' g T cs→ga P ops Q rest n ds ((d,.pointer (some ⟨g,0,none⟩))::l) w') :
  ga P ops Q (⟨some d,.box T x,ty,pos,af,none⟩::rest) n ds l w:=fN (Il ae bK) bV (h _ _ (ko.mk' w T cs))
def hD (P:Program) (t:TypeId) (cs:List Value):Prop:=((P.info? t).bind (·.zero)).map (·.cells)=some cs.toArray
theorem oc {t:Nat} {cs:List Value} (h:hD P t cs):∃ i z,P.info? t=some i∧i.zero=some z∧z.cells=cs.toArray:=by
 unfold hD at h;obtain⟨z,di,aq⟩:=Option.map_eq_some_iff.1 h;obtain⟨i,hi,aT⟩:=Option.bind_eq_some_iff.1 di;exact⟨i,z,hi,aT,aq⟩
theorem Gg {cs:List Value} {T:Nat} (di:hD P T cs):bF P l ⟨dd,.alloc T,ty,pos,af,gg⟩ w (.pointer (some ⟨w.heap.size,0,none⟩)) (w.alloc (.cells cs.toArray T)):=fun ρ fc=>by
 obtain⟨i,z,h1,aq,aT⟩:=oc di;simp [execOp,Instr.alloc,zeroValue,typeInfo,h1,aq,newVar,newRow,aT]
theorem bp {cs:List Value} {T:Nat} (di:hD P T cs) (bV:Nat.blt d n=true)
  (h:∀ g w',ko w w' g T cs→ga P ops Q rest n ds ((d,.pointer (some ⟨g,0,none⟩))::l) w') :
  ga P ops Q (⟨some d,.alloc T,ty,pos,af,none⟩::rest) n ds l w:=fN (Gg di) bV (h _ _ (ko.mk' w T cs))
/-! ### writing -/
theorem DR {g T i:Nat} {cs:List Value} {v:Value} (h:aE w g T cs):aE (w.setCell ⟨g,i,none⟩ v) g T (cs.set i v):=by
 unfold aE at h ⊢;rw [heap_setCell_same w g i cs.toArray T v h];simp
theorem DS (w:World) (g i:Nat) (v:Value):Mod [g] w (w.setCell ⟨g,i,none⟩ v):=
 ⟨rfl,rfl,rfl,by simp [World.setCell],fun j dY cj=>heap_setCell_other w ⟨g,i,none⟩ j v (by simpa using cj)⟩
structure QI (w w':World) (g:Nat) (T:TypeId) (cs:List Value):Prop where
 aA:aE w' g T cs
 mod:Mod [g] w w'
 size:w'.heap.size=w.heap.size
theorem Gh (w:World) (g:Nat) (cs:Array Value):Mod [g] w (w.setRow g cs):=
 ⟨rfl,rfl,rfl,by simp,fun j dY cj=>by
  simp only [List.mem_singleton] at cj
  simp [World.setRow,Array.getElem?_modify,Ne.symm cj]⟩
def splice (cs:List Value) (o:Nat) (vs:List Value):List Value:=cs.take o++vs++cs.drop (o+vs.length)
theorem hv {g o T:Nat} {cs vs:List Value} (h:aE w g T cs) (et:o+vs.length≤cs.length) (h1:∀ v∈vs,v.oneCell'=true) :
  ∃ w',(storeCells ⟨g,o,none⟩ vs).run P w = .ok () w'∧QI w w' g T (splice cs o vs):=by
 have bl:=run_storeCells_at P g o T vs 0 cs.toArray w h (by simpa using et) h1
 refine⟨_,bl,⟨?_,Gh w g _,by simp⟩⟩
 have:=setRow_heap w g cs.toArray (splice cs o vs).toArray T (0,0) h
 unfold aE
 simpa [splice] using this
theorem dZ {v:Value} {g i T:Nat} {cs:List Value} (cc:nL P t=true) (B:aE w g T cs) (ae:a6 l x=some (.pointer (some ⟨g,i,none⟩))) (aZ:a6 l y=some v) (bK:v.oneCell'=true) (hi:i<cs.length)
  (h:∀ w',QI w w' g T (cs.set i v)→ga P ops Q rest n ds l w') :
  ga P ops Q (⟨none,.store t x y,ty,pos,af,none⟩::rest) n ds l w:=by
 obtain⟨Xl,inf,h1,aq,aT,bL⟩:=sG cc
 have bh:v.cells = #[v]:=by cases v <;> first | rfl | (simp [Value.oneCell'] at bK)
 have bl:I6 P l ⟨none,.store t x y,ty,pos,af,none⟩ w (w.setCell ⟨g,i,none⟩ v):=fun ρ fc=>by
  have acQ:=B.cell (i:=i) (v:=cs[i]) (by simp [hi])
  have dK:=B.frozen i
  have:=run_store P w ⟨g,i,none⟩ v .plain bK
  rw [acQ] at this
  simp [dK] at this
  simp [execOp,Instr.storeAt,Instr.sureAddr,fc _ _ ae,fc _ _ aZ,storeVar,bh,cM aq,bL,storeCells,Addr.add_zero',this]
 exact aoT bl (h _ ⟨DR B,DS w g i v,by simp [World.setCell]⟩)
theorem bm {vs:List Value} {g i T c:Nat} {cs:List Value} (cc:rF P t c=true) (B:aE w g T cs) (ae:a6 l x=some (.pointer (some ⟨g,i,none⟩))) (aZ:a6 l y=some (.agg vs.toArray)) (bh:vs.length=c)
  (bK:∀ v∈vs,v.oneCell'=true) (hi:i+vs.length≤cs.length)
  (h:∀ w',QI w w' g T (splice cs i vs)→ga P ops Q rest n ds l w') :
  ga P ops Q (⟨none,.store t x y,ty,pos,af,none⟩::rest) n ds l w:=by
 obtain⟨Xl,inf,h1,aq,aT,bL⟩:=Cd cc
 obtain⟨aB,bl,cn⟩:=hv (P:=P) B hi bK
 have bl:I6 P l ⟨none,.store t x y,ty,pos,af,none⟩ w aB:=fun ρ fc=>by
  simp [execOp,Instr.storeAt,Instr.sureAddr,fc _ _ ae,fc _ _ aZ,storeVar,Value.cells,cM aq,bL,bh,bl]
 exact aoT bl (h _ cn)
end
/-! ## What values read as -/
inductive D where
 | v (x:Value)
 | ia (sz:Nat) (rows:List (List D))
mutual
def a8 (A:List Nat) (w:World):D→Value→Prop
 | .v x,u=>u=x∧x.oneCell'=true
 | .ia sz rows,u=>∃ ad c,u = .slice ad rows.length c∧rows.length≤c∧c≤maxLen∧
   (rows≠[]→∃ a,ad=some a∧a.block∉A∧a.block<w.heap.size∧cZ A w sz a 0 rows)
def cZ (A:List Nat) (w:World) (sz:Nat) (a:Addr):Nat→List (List D)→Prop
 | _,[]=>True
 | i,r::rs=>r.length=sz∧eN A w (a.add (i*sz)) 0 r∧cZ A w sz a (i+1) rs
def eN (A:List Nat) (w:World) (a:Addr):Nat→List D→Prop
 | _,[]=>True
 | j,d::ds=>(∃ u,w.cell? (a.add j)=some u∧a8 A w d u)∧eN A w a (j+1) ds
end
def ao (A:List Nat) (w:World):List D→List Value→Prop
 | [],vs=>vs = []
 | d::ds,vs=>∃ u us,vs=u::us∧a8 A w d u∧ao A w ds us
section
variable {A A' M:List Nat} {w w':World}
theorem mi (a:Addr) (n:Nat):(a.add n).block=a.block:=by unfold Addr.add;split <;> rfl
mutual
theorem a8.to (k:Mod M w w') (eW:∀ x∈M,x∈A) (dD:∀ x∈A',x∈A∨w.heap.size≤x):∀ (d:D) (u:Value),a8 A w d u→a8 A' w' d u
 | .v x,u,h=>by simp only [a8] at h ⊢;exact h
 | .ia sz rows,u,h=>by
  simp only [a8] at h ⊢
  obtain⟨ad,c,h1,aq,aT,bL⟩:=h
  refine⟨ad,c,h1,aq,aT,fun cj=>?_⟩
  obtain⟨a,cN,eU,kB,kt⟩:=bL cj
  exact⟨a,cN,fun ae=>by rcases dD _ ae with k9 | k9 <;> first | exact eU k9 | omega,Nat.lt_of_lt_of_le kB k.size,cZ.to k eW dD sz a eU kB 0 rows kt⟩
theorem cZ.to (k:Mod M w w') (eW:∀ x∈M,x∈A) (dD:∀ x∈A',x∈A∨w.heap.size≤x) (sz:Nat) (a:Addr) (ay:a.block∉A) (aQ:a.block<w.heap.size):∀ (i:Nat) (rows:List (List D)),cZ A w sz a i rows→cZ A' w' sz a i rows
 | _,[],_=>by simp only [cZ]
 | i,r::rs,h=>by
  simp only [cZ] at h ⊢
  exact⟨h.1,eN.to k eW dD _ (by rw [mi];exact ay) (by rw [mi];exact aQ) 0 r h.2.1,cZ.to k eW dD sz a ay aQ (i+1) rs h.2.2⟩
theorem eN.to (k:Mod M w w') (eW:∀ x∈M,x∈A) (dD:∀ x∈A',x∈A∨w.heap.size≤x) (a:Addr) (ay:a.block∉A) (aQ:a.block<w.heap.size):∀ (j:Nat) (r:List D),eN A w a j r→eN A' w' a j r
 | _,[],_=>by simp only [eN]
 | j,d::ds,h=>by
  simp only [eN] at h ⊢
  obtain⟨⟨u,bh,bl⟩,cc⟩:=h
  refine⟨⟨u,?_,a8.to k eW dD d u bl⟩,eN.to k eW dD a ay aQ (j+1) ds cc⟩
  rw [← bh]
  exact World.cell?_of_block (by rw [mi];exact k.block _ aQ (fun ae=>ay (eW _ ae)))
end
theorem ao.to (k:Mod M w w') (eW:∀ x∈M,x∈A) (dD:∀ x∈A',x∈A∨w.heap.size≤x):∀ (ds:List D) (us:List Value),ao A w ds us→ao A' w' ds us
 | [],us,h=>h
 | d::ds,us,h=>by
  simp only [ao] at h ⊢
  obtain⟨u,gd,rfl,h1,aq⟩:=h
  exact⟨u,gd,rfl,a8.to k eW dD d u h1,ao.to k eW dD ds gd aq⟩
theorem ao.length:∀ {ds:List D} {us:List Value},ao A w ds us→us.length=ds.length
 | [],us,h=>by simp only [ao] at h;subst h;rfl
 | d::ds,us,h=>by
  simp only [ao] at h
  obtain⟨u,gd,rfl,_,aq⟩:=h
  simp [aq.length]
theorem a8.one:∀ {d:D} {u:Value},a8 A w d u→u.oneCell'=true
 | .v x,u,h=>by simp only [a8] at h;rw [h.1];exact h.2
 | .ia sz rows,u,h=>by
  simp only [a8] at h
  obtain⟨ad,c,h1,_⟩:=h
  subst h1
  rfl
theorem ao.one:∀ {ds:List D} {us:List Value},ao A w ds us→∀ u∈us,u.oneCell'=true
 | [],us,h=>by simp only [ao] at h;subst h;intro u hu;cases hu
 | d::ds,us,h=>by
  simp only [ao] at h
  obtain⟨u,gd,rfl,h1,aq⟩:=h
  intro x ae
  rcases List.mem_cons.1 ae with rfl | ae
  ·exact h1.one
  exact aq.one x ae
theorem ao.append {ds Rl:List D} {us gd:List Value} (h:ao A w ds us) (fh:ao A w Rl gd):ao A w (ds++Rl) (us++gd):=by
 induction ds generalizing us with
 | nil=>simp only [ao] at h;subst h;simpa using fh
 | cons d ds dF=>
  simp only [ao] at h;obtain⟨u,acR,rfl,h1,aq⟩:=h;simp only [List.cons_append,ao];exact⟨u,acR++gd,rfl,h1,dF aq⟩
theorem ao.cut {ds Rl:List D} {us:List Value} (h:ao A w (ds++Rl) us):ao A w ds (us.take ds.length)∧ao A w Rl (us.drop ds.length):=by
 induction ds generalizing us with
 | nil=>exact⟨by simp [ao],by simpa using h⟩
 | cons d ds dF=>
  simp only [List.cons_append,ao] at h;obtain⟨u,acR,rfl,h1,aq⟩:=h;obtain⟨i1,i2⟩:=dF aq;exact⟨by simp only [List.length_cons,List.take_succ_cons,ao];exact⟨u,_,rfl,h1,i1⟩,by simpa using i2⟩
theorem ao.mL:ao A w [] []:=rfl
theorem ao.gJ {d:D} {ds:List D} {u:Value} {us:List Value} (h:a8 A w d u) (fh:ao A w ds us):ao A w (d::ds) (u::us):=⟨u,us,rfl,h,fh⟩
theorem a8.cK {x:Value} (h:x.oneCell'=true):a8 A w (.v x) x:=by simp only [a8];exact⟨trivial,h⟩
theorem a8.l3 {x u:Value} (h:a8 A w (.v x) u):u=x:=by simp only [a8] at h;exact h.1
theorem eN.cells {a:Addr}:∀ {j:Nat} {r:List D},eN A w a j r→∃ us,ao A w r us∧∀ i u,us[i]? = some u→w.cell? (a.add (j+i))=some u
 | j,[],_=>⟨[],rfl,fun i u h=>by simp at h⟩
 | j,d::ds,h=>by
  simp only [eN] at h
  obtain⟨⟨u,bh,bl⟩,cc⟩:=h
  obtain⟨us,h1,aq⟩:=cc.cells
  refine⟨u::us,⟨u,us,rfl,bl,h1⟩,fun i x ae=>?_⟩
  cases i with
  | zero=>simp at ae;subst ae;simpa using bh
  | succ i=>have:=aq i x (by simpa using ae);rwa [show j+(i+1)=j+1+i by omega]
theorem eN.Ce {a:Addr}:∀ {j:Nat} {r:List D} {us:List Value},ao A w r us→(∀ i u,us[i]? = some u→w.cell? (a.add (j+i))=some u)→eN A w a j r
 | j,[],us,_,_=>by simp only [eN]
 | j,d::ds,us,h,bh=>by
  simp only [ao] at h
  obtain⟨u,gd,rfl,h1,aq⟩:=h
  simp only [eN]
  exact⟨⟨u,by simpa using bh 0 u (by simp),h1⟩,eN.Ce aq (fun i x ae=>by have:=bh (i+1) x (by simpa using ae);rwa [show j+1+i=j+(i+1)by omega])⟩
theorem cZ.row {sz:Nat} {a:Addr}:∀ {i:Nat} {rows:List (List D)},cZ A w sz a i rows→∀ j r,rows[j]? = some r→r.length=sz∧eN A w (a.add ((i+j)*sz)) 0 r
 | i,[],_,j,r,bl=>by simp at bl
 | i,Z0::rs,h,j,r,bl=>by
  simp only [cZ] at h
  cases j with
  | zero=>simp at bl;subst bl;exact⟨h.1,by simpa using h.2.1⟩
  | succ j=>
   have:=cZ.row h.2.2 j r (by simpa using bl)
   rwa [show i+1+j=i+(j+1)by omega] at this
theorem cZ.zI {sz:Nat} {a:Addr}:∀ {i:Nat} {rows:List (List D)},(∀ j r,rows[j]? = some r→r.length=sz∧eN A w (a.add ((i+j)*sz)) 0 r)→cZ A w sz a i rows
 | i,[],_=>by simp only [cZ]
 | i,Z0::rs,h=>by
  simp only [cZ]
  have b3:=h 0 Z0 rfl
  exact⟨b3.1,by simpa using b3.2,cZ.zI fun j r bl=>by have:=h (j+1) r (by simpa using bl);rwa [show i+(j+1)=i+1+j by omega] at this⟩
theorem a8.uj {sz:Nat} {rows:List (List D)} {u:Value} (h:a8 A w (.ia sz rows) u):∃ ad c,u = .slice ad rows.length c∧rows.length≤c∧c≤9223372036854775807:=by
 simp only [a8] at h;obtain⟨ad,c,h1,aq,aT,_⟩:=h;exact⟨ad,c,h1,aq,by simp only [maxLen] at aT;omega⟩
theorem a8.at_ {sz:Nat} {rows:List (List D)} {ad:Option Addr} {n c i:Nat} {r:List D} (h:a8 A w (.ia sz rows) (.slice ad n c)) (hi:rows[i]? = some r) :
  ∃ a us,ad=some a∧ao A w r us∧us.length=sz∧q7 w (a.add (i*sz)) us∧a.block∉A:=by
 simp only [a8] at h
 obtain⟨rK,c',h1,aq,aT,bL⟩:=h
 injection h1 with h1 cN eU
 subst h1
 obtain⟨a,ay,dD,aQ,bl⟩:=bL (by intro he;subst he;simp at hi)
 obtain⟨cg,xk⟩:=bl.row i r hi
 rw [Nat.zero_add] at xk
 obtain⟨us,kB,kt⟩:=xk.cells
 exact⟨a,us,ay,kB,by rw [kB.length,cg],fun j v dY=>by have:=kt j v dY;rwa [Nat.zero_add] at this,dD⟩
theorem a8.ej {sz:Nat}:a8 A w (.ia sz []) (.slice none 0 0):=by
 simp only [a8];exact⟨none,0,rfl,Nat.le_refl _,by simp [maxLen],fun h=>absurd rfl h⟩
theorem a8.Rm {sz:Nat} {rows:List (List D)} {a:Addr} {n c:Nat} (cj:rows.length=n) (bh:n≤c) (hm:c≤maxLen) (dD:a.block∉A) (aQ:a.block<w.heap.size)
  (h:∀ i r,rows[i]? = some r→r.length=sz∧∃ us,ao A w r us∧q7 w (a.add (i*sz)) us):a8 A w (.ia sz rows) (.slice (some a) n c):=by
 simp only [a8]
 subst cj
 refine⟨some a,c,rfl,bh,hm,fun _=>⟨a,rfl,dD,aQ,cZ.zI fun j r bl=>?_⟩⟩
 obtain⟨h1,us,aq,aT⟩:=h j r bl
 exact⟨h1,eN.Ce aq (fun i u hu=>by rw [Nat.zero_add,Nat.zero_add];exact aT i u hu)⟩
theorem ao.qR:∀ {sz:Nat} {rows:List (List D)} {us:List Value},(∀ r∈rows,r.length=sz)→ao A w rows.flatten us→∀ i r,rows[i]? = some r→ao A w r ((us.drop (i*sz)).take sz)
 | sz,[],us,_,_,i,r,bl=>by simp at bl
 | sz,Z0::rs,us,cg,h,i,r,bl=>by
  simp only [List.flatten_cons] at h
  obtain⟨h1,aq⟩:=h.cut
  have b3:=cg Z0 (by simp)
  rw [b3] at h1 aq
  cases i with
  | zero=>simp at bl;subst bl;simpa using h1
  | succ i=>
   have:=ao.qR (fun r bl=>cg r (by simp [bl])) aq i r (by simpa using bl)
   rwa [List.drop_drop,show sz+i*sz=(i+1)*sz by rw [Nat.add_mul];omega] at this
end
/-! ## Slices of the call's own -/
def aY:Value→List Nat
  | .slice (some a) _ _=>[a.block]
  | _=>[]
def Own (w:World) (e sz:Nat) (v:Value) (n:Nat) (vs:List Value):Prop:=
  vs.length=n*sz∧
  ((v = .slice none 0 0∧n=0)∨
   ∃ g o c cs,v = .slice (some ⟨g,o,none⟩) n c∧aE w g e cs∧n≤c∧c≤maxLen∧o+c*sz≤cs.length∧(cs.drop o).take (n*sz)=vs)
section
variable {w w':World} {e sz n:Nat} {v:Value} {vs:List Value} {M:List Nat}
theorem Own.nil (w:World) (e sz:Nat):Own w e sz (.slice none 0 0) 0 []:=⟨by simp,.inl ⟨rfl,rfl⟩⟩
theorem Own.len (h:Own w e sz v n vs):vs.length=n*sz:=h.1
theorem Own.form (h:Own w e sz v n vs):∃ ad c,v = .slice ad n c∧n≤c∧c≤9223372036854775807:=by
  rcases h.2 with⟨rfl,rfl⟩ | ⟨g,o,c,cs,rfl,_,aq,aT,_⟩
  ·exact⟨none,0,rfl,Nat.le_refl _,by omega⟩
  exact⟨_,c,rfl,aq,by simp only [maxLen] at aT;omega⟩
theorem Own.mod (h:Own w e sz v n vs) (k:Mod M w w') (eW:∀ x∈aY v,x∉M):Own w' e sz v n vs:=by
  refine⟨h.1,?_⟩;rcases h.2 with b3 | ⟨g,o,c,cs,rfl,h1,aq⟩
  ·exact .inl b3
  exact .inr ⟨g,o,c,cs,rfl,h1.mod k (eW g (by simp [aY])),aq⟩
theorem Own.I (h:Own w e sz v n vs) (k:Mod [] w w'):Own w' e sz v n vs:=h.mod k (by simp)
theorem Own.lt (h:Own w e sz v n vs):∀ x∈aY v,x<w.heap.size:=by
  rcases h.2 with⟨rfl,_⟩ | ⟨g,o,c,cs,rfl,h1,_⟩
  ·simp [aY]
  intro x ae;simp [aY] at ae;subst ae;exact h1.lt
theorem Own.cs {ad:Addr} {c:Nat} (h:Own w e sz (.slice (some ad) n c) n vs):q7 w ad vs:=by
  rcases h.2 with⟨h1,_⟩ | ⟨g,o,c',cs,h1,aq,aT,bL,cN,eU⟩
  ·cases h1
  injection h1 with h1
  injection h1 with h1
  subst h1;exact aq.cs (by rw [h.1];exact eU)
theorem Own.Xm {g c:Nat} {cs:List Value} (h:aE w g e cs) (cg:cs.length=c*sz) (cj:n≤c) (bh:c≤9223372036854775807):Own w e sz (.slice (some ⟨g,0,none⟩) n c) n (cs.take (n*sz)):=by
  have hle:n*sz≤c*sz:=Nat.mul_le_mul_right _ cj;refine⟨by simp;omega,.inr ⟨g,0,c,cs,rfl,h,cj,by simp only [maxLen];omega,by omega,by simp⟩⟩
theorem Own.all {g c:Nat} {cs:List Value} (h:aE w g e cs) (cg:cs.length=c*sz) (bh:c≤9223372036854775807):Own w e sz (.slice (some ⟨g,0,none⟩) c c) c cs:=by
  have:=Own.Xm (n:=c) h cg (Nat.le_refl _) bh
  rwa [List.take_of_length_le (by omega)] at this
theorem Own.rep {A:List Nat} {rows:List (List D)} (h:Own w e sz v n vs) (bl:ao A w rows.flatten vs) (cg:∀ r∈rows,r.length=sz) (cj:rows.length=n) (dD:∀ x∈aY v,x∉A):a8 A w (.ia sz rows) v:=by
  rcases h.2 with⟨rfl,b3⟩ | ⟨g,o,c,cs,rfl,h1,aq,aT,bL,cN⟩
  ·have:rows = []:=List.eq_nil_of_length_eq_zero (by omega);subst this;exact a8.ej
  refine a8.Rm cj aq aT (dD g (by simp [aY])) h1.lt fun i r hi=>?_;have aqB:=(List.getElem?_eq_some_iff.1 hi).1;have PN:=cg r (List.mem_of_getElem? hi);refine⟨PN,_,ao.qR cg bl i r hi,?_⟩;rw [Addr.add_lit];refine h1.cs ?_;have hle:(i+1)*sz≤n*sz:=Nat.mul_le_mul_right _ (by omega);rw [Nat.add_mul] at hle;have hlen:(List.take sz (List.drop (i*sz) vs)).length=sz:=by rw [List.length_take,List.length_drop,h.1];omega
  rw [hlen,← cN,List.drop_take,List.take_take,List.drop_drop]
  congr 1
  omega
end
section
variable {P:Program} {ops:Array Oper} {Q:Exit→Act→World→Prop} {n:Nat} {ds:List Deferred} {l:List (Nat×Value)} {w w':World} {a:Act}
variable {rest:List Oper} {d:Nat} {op:Op} {ty:TypeId} {pos:String} {af:Array Edge}
variable {dd:Option Nat} {gg:Option (Nat×Bool)} {x y z:Operand} {t t':TypeId} {k iA:IntKind} {m gr:Int} {b fb:Bool}
/-! ### what is appended -/
theorem Src.own {qQ e w6 sz c:Nat} {v:Value} {vs:List Value} (hk:P.underlying qQ=some (.slice w6)) (h:Own w e sz v c vs) (h1:∀ u∈vs,u.oneCell'=true):Src P sz qQ v c vs w:=by
  rcases h.2 with⟨rfl,b3⟩ | ⟨g,o,c',cs,rfl,_⟩
  ·subst b3;have:vs = []:=List.eq_nil_of_length_eq_zero (by simpa using h.1);subst this;exact Src.ofNil w hk 0
  exact Src.ofSlice w hk _ _ _ _ h.1 (fun j u hu=>h.cs j u hu) h1
theorem Src.rep {A:List Nat} {qQ w6 sz:Nat} {rows:List (List D)} {v:Value} (hk:P.underlying qQ=some (.slice w6)) (h:a8 A w (.ia sz rows) v):∃ vs,ao A w rows.flatten vs∧vs.length=rows.length*sz∧Src P sz qQ v rows.length vs w:=by
  cases tV:rows with
  | nil=>
    subst tV;simp only [a8] at h;obtain⟨ad,c,rfl,aq,aT,bL⟩:=h;refine⟨[],rfl,by simp,?_⟩;cases ad with
    | none=>exact Src.ofNil w hk c
    | some ad=>exact Src.ofSlice w hk ad 0 c [] (by simp) (fun j u hu=>by simp at hu) (fun u hu=>by cases hu)
  | cons Z0 rs=>
    rw [← tV];have fh:=h;simp only [a8] at h;obtain⟨ad,c,rfl,aq,aT,bL⟩:=h;obtain⟨ad,rfl,dD,aQ,bl⟩:=bL (by simp [tV])
    -- all rows, one behind the other
    have key:∀ (i:Nat) (rws:List (List D)),cZ A w sz ad i rws→∃ vs,ao A w rws.flatten vs∧vs.length=rws.length*sz∧∀ j u,vs[j]? = some u→w.cell? (ad.add (i*sz+j))=some u:=by
      intro i rws
      induction rws generalizing i with
      | nil=>intro _;exact⟨[],rfl,by simp,fun j u hu=>by simp at hu⟩
      | cons r rs dF=>
        intro ik;simp only [cZ] at ik;obtain⟨cg,xk,gY⟩:=ik;obtain⟨us,I2,jo⟩:=xk.cells;obtain⟨vs,yz,DL,I3⟩:=dF (i+1) gY;refine⟨us++vs,by simp only [List.flatten_cons];exact I2.append yz,by simp [I2.length,cg,DL,Nat.add_mul];omega,fun j u dY=>?_⟩;rw [List.getElem?_append] at dY;have zw:us.length=sz:=by rw [I2.length,cg]
        split at dY
        ·have:=jo j u dY
         rwa [Nat.zero_add,Addr.add_add] at this
        rename_i eG
        have:=I3 _ u dY
        rwa [show(i+1)*sz+(j-us.length)=i*sz+j by rw [Nat.add_mul,zw];rw [zw] at eG;omega] at this
    obtain⟨vs,yz,DL,I3⟩:=key 0 rows bl;exact⟨vs,yz,DL,Src.ofSlice w hk ad _ c vs DL (fun j u hu=>by have:=I3 j u hu;rwa [Nat.zero_mul,Nat.zero_add] at this) yz.one⟩
def j2 (c:UInt8):Value:=.int .u8 c.toNat
theorem Src.str {qQ:Nat} (hk:P.underlying qQ=some .string) (s:List UInt8):Src P 1 qQ (S s) s.length (s.map j2) w:=Src.ofString w hk ⟨⟨s⟩⟩
structure App (w w':World) (e sz:Nat) (v v':Value) (n:Nat) (vs:List Value):Prop where
  own:Own w' e sz v' n vs
  mod:Mod (aY v) w w'
  lX:∀ x∈aY v',x∈aY v∨w.heap.size≤x
theorem Gi {t qQ e sz fZ c c':Nat} {v u:Value} {vs news:List Value} (cc:ly P t e sz fZ=true) (O:Own w e sz v c vs) (bb:Src P sz qQ u c' news w) (ij:0<sz)
    (aQ:(c+c')*fZ≤140737488355328) (cI:c+c'≤9223372036854775807) (ty:Nat) :
    ∃ v' w',(Builtin.append_ #[t,qQ] ty #[v,u]).run P w = .ok v' w'∧App w w' e sz v v' (c+c') (vs++news):=by
  obtain⟨i,z,h1,aq,aT,bL,cN,eU⟩:=il cc
  subst aT;subst bL
  have hlen:(vs++news).length=(c+c')*i.size:=by rw [List.length_append,O.1,bb.newsLen,Nat.add_mul]
  have grow:∀ (base:Option Addr) (cap:Nat),cap<c+c'→(Builtin.firstCells i.size c (.slice base c cap)).run P w.drew = .ok vs.toArray w.drew→
      ∃ v' w',(Builtin.append_ #[t,qQ] ty #[.slice base c cap,u]).run P w = .ok v' w'∧App w w' e i.size (.slice base c cap) v' (c+c') (vs++news):=by
    intro base cap rG hold
    have bl:=run_append_grow_src (P:=P) w t qQ ty e i z h1 aq cN base c cap vs hold u c' news bb rG (by omega) (growslice_fits rG aQ)
    have eG:=grownCap_ge w (c+c') cap e
    have ef:aE (w.drew.alloc (.cells ((vs++news).toArray++Builtin.zeroCells z.cells (grownCap w (c+c') cap e-(c+c'))) e)) w.heap.size e ((vs++news)++(Builtin.zeroCells z.cells (grownCap w (c+c') cap e-(c+c'))).toList):=by
      have:=heap_alloc_new w.drew (.cells ((vs++news).toArray++Builtin.zeroCells z.cells (grownCap w (c+c') cap e-(c+c'))) e)
      unfold aE
      refine this.trans ?_
      congr 2
      apply Array.toList_inj.1
      simp
    refine⟨_,_,bl,⟨⟨hlen,.inr ⟨w.heap.size,0,_,_,rfl,ef,eG,grownCap_le_maxLen w (c+c') cap e (by simp only [maxLen];omega),?_,?_⟩⟩,?_,?_⟩⟩
    ·have jl:(Builtin.zeroCells z.cells (grownCap w (c+c') cap e-(c+c'))).toList.length=(grownCap w (c+c') cap e-(c+c'))*i.size:=by
       rw [Array.length_toList,size_zeroCells,eU]
     rw [List.length_append,hlen,jl,← Nat.add_mul]
     have:c+c'+(grownCap w (c+c') cap e-(c+c'))=grownCap w (c+c') cap e:=by omega
     rw [this]
     omega
    ·rw [List.drop_zero,← hlen]
     exact List.take_left
    ·exact⟨rfl,rfl,rfl,by simp,fun j dY _=>RowKit.Below.heap_alloc w.drew _ j dY⟩
    intro x ae
    simp [aY] at ae
    exact .inr (by omega)
  rcases O.2 with⟨rfl,b3⟩ | ⟨g,o,cap,cs,rfl,ef,fA,gB,rY,pQ⟩
  ·subst b3
   have lW:vs = []:=List.eq_nil_of_length_eq_zero (by simpa using O.1)
   subst lW
   rcases Nat.eq_zero_or_pos c' with b3 | b3
   ·subst b3
    have acS:news = []:=List.eq_nil_of_length_eq_zero (by simpa using bb.newsLen)
    subst acS
    refine⟨.slice none 0 0,w,?_,⟨Own.nil w e i.size,Mod.refl _ w,fun x ae=>.inl ae⟩⟩
    have cg:=bb.len
    have lA:=bb.cells
    rcases bb.kind with⟨w6,hk⟩ | hk <;> simp [Builtin.append_,run_underlying h1,run_underlying hk,sizeOf,typeInfo,aq,cg,lA]
   exact grow none 0 (by omega) (run_firstCells_none w.drew i.size 0 0 0)
  by_cases nr:c+c'≤cap
  ·have hle:(c+c')*i.size≤cap*i.size:=Nat.mul_le_mul_right _ nr
   have ll:o+c*i.size+news.length≤cs.length:=by rw [bb.newsLen];rw [Nat.add_mul] at hle;omega
   obtain⟨aB,hG,cn⟩:=hv (P:=P) ef ll bb.one
   refine⟨.slice (some ⟨g,o,none⟩) (c+c') cap,aB,?_,⟨⟨hlen,.inr ⟨g,o,cap,_,rfl,cn.aA,nr,gB,?_,?_⟩⟩,?_,fun x ae=>.inl ae⟩⟩
   ·rcases bb.kind with⟨w6,hk⟩ | hk <;> simp [Builtin.append_,run_underlying h1,run_underlying hk,sizeOf,typeInfo,aq,bb.len,nr,bb.cells,Addr.add_lit,hG]
   ·simp only [splice,List.length_append,List.length_take,List.length_drop]
    omega
   ·have bk:List.take (o+c*i.size) cs=List.take o cs++vs:=by rw [← pQ,List.take_add]
    have WS:(List.take o cs).length=o:=by rw [List.length_take];omega
    rw [splice,bk,List.append_assoc,List.append_assoc,List.drop_left' WS,← List.append_assoc,← hlen,List.take_left]
   exact cn.mod
  refine grow _ cap (by omega) (run_firstCells_some w.drew i.size c _ c cap vs O.1 (fun j x ae=>?_))
  have:=O.cs j x ae
  simpa using this
theorem bq {qQ e sz fZ c c':Nat} {v u:Value} {vs news:List Value} (cc:ly P t e sz fZ=true) (ae:a6 l x=some v) (aZ:a6 l y=some u) (O:Own w e sz v c vs) (bb:Src P sz qQ u c' news w) (ij:0<sz)
    (aQ:(c+c')*fZ≤140737488355328) (cI:c+c'≤9223372036854775807) (bV:Nat.blt d n=true)
    (h:∀ v' w',App w w' e sz v v' (c+c') (vs++news)→ga P ops Q rest n ds ((d,v')::l) w') :
    ga P ops Q (⟨some d,.call {callee:=.builtin .append,args:=#[x,y],argTypes:=#[t,qQ]},ty,pos,af,none⟩::rest) n ds l w:=by
  obtain⟨v',w',bl,dD⟩:=Gi (P:=P) cc O bb ij aQ cI ty
  refine fN (v:=v') (w':=w') (fun ρ fc=>?_) bV (h v' w' dD)
  simp [execOp,resolve,invoke,builtin,fc _ _ ae,fc _ _ aZ,bl]
end
section
variable {P:Program} {ops:Array Oper} {Q:Exit→Act→World→Prop} {n:Nat} {ds:List Deferred} {l:List (Nat×Value)} {w w':World} {a:Act}
variable {rest:List Oper} {d:Nat} {op:Op} {ty:TypeId} {pos:String} {af:Array Edge}
variable {dd:Option Nat} {gg:Option (Nat×Bool)} {x y z:Operand} {t t':TypeId} {k iA:IntKind} {m gr:Int} {b fb:Bool}
/-! ### structs and arrays as values -/
def Nk (P:Program) (t f off:Nat):Bool:=match P.underlying t with
 | some (.struct pX)=>match pX[f]? with
  | some fd=>fd.offset == off&&nL P fd.type
  | none=>false
 | _=>false
theorem qT {vs:List Value} {f o:Nat} {v:Value} (cc:Nk P t f o=true) (ae:a6 l x=some (.agg vs.toArray)) (bK:vs[o]? = some v):bF P l ⟨dd,.field t x f,ty,pos,af,gg⟩ w v w:=fun ρ h=>by
 unfold Nk at cc
 split at cc
 ·rename_i pX h1
  split at cc
  ·rename_i fd aq
   simp only [Bool.and_eq_true,beq_iff_eq] at cc;obtain⟨et,bb⟩:=cc;obtain⟨Xl,i,aT,bL,cN,eU⟩:=sG bb;subst et;simp [execOp,Instr.field,h _ _ ae,run_underlying h1,aq,asAgg,part,kF aT,cN,bK]
  cases cc
 cases cc
def u0 (cs:List Value) (o:Nat):List Value→List Value
 | []=>cs
 | v::r=>u0 (cs.set o v) (o+1) r
theorem Bf (o:Nat):∀ (vs:List Value) (j:Nat) (cs:Array Value),
  (vs.zipIdx j).foldl (fun(cs:Array Value) (x:Value×Nat)=>cs.setIfInBounds (o+x.2) x.1) cs=(u0 cs.toList (o+j) vs).toArray:=by
 intro vs
 induction vs with
 | nil=>intro j cs;apply Array.toList_inj.1;simp [u0]
 | cons v vs dF=>
  intro j cs
  simp only [List.zipIdx_cons,List.foldl_cons,u0]
  rw [dF (j+1)]
  simp [Nat.add_assoc]
def oO (place:Nat→Option (Nat×Nat)) (cs:List Value):List (Nat×Value)→Option (List Value)
 | []=>some cs
 | (i,v)::r=>match place i with
  | none=>none
  | some (o,sz)=>match Nat.beq v.cells.toList.length sz&&Nat.ble (o+sz) cs.length with
   | true=>oO place (u0 cs o v.cells.toList) r
   | false=>none
theorem Gj {place:Nat→Option (Nat×Nat)}:∀ (h9:List (Nat×Value)) (cs cs':List Value),oO place cs h9=some cs'→Instr.fill place cs.toArray h9=some cs'.toArray:=by
 intro h9
 induction h9 with
 | nil=>intro cs cs' h;simp [oO] at h;simp [Instr.fill,h]
 | cons p r dF=>
  obtain⟨i,v⟩:=p;intro cs cs' h;simp only [oO] at h
  split at h
  ·cases h
  rename_i o sz cn
  split at h
  ·rename_i aQ
   simp only [Bool.and_eq_true,Nat.beq_eq_true_eq,Nat.ble_eq,Array.length_toList] at aQ;obtain⟨h1,aq⟩:=aQ;have h1:=Nat.eq_of_beq_eq_true h1;have:=dF _ _ h;have aT:¬ (v.cells.size≠sz∨o+v.cells.size > cs.toArray.size):=by rw [h1];simp;omega
   have dK:=Bf o v.cells.toList 0 cs.toArray;simp only [Instr.fill,cn];simp only [ne_eq,gt_iff_lt,not_or,Classical.not_not,Nat.not_lt,List.size_toArray] at aT;have bL:¬ (v.cells.size≠sz):=by simpa using aT.1
   have cN:¬ (o+v.cells.size > cs.length):=by omega
   simp only [ne_eq,gt_iff_lt,List.size_toArray,Bool.or_eq_true,decide_eq_true_eq,bL,cN,or_self,if_false];rw [← Array.foldl_toList,Array.toList_zipIdx];rw [Nat.add_zero] at dK;simp only at dK;rw [dK];exact this
  cases h
def vM (P:Program) (t:Nat) (pl:List (Nat×Nat)):Bool:=match P.underlying t with
 | some (.struct pX)=>(pX.toList.map fun f=>(f.offset,(P.info? f.type).map (·.size))) == pl.map fun p=>(p.1,some p.2)
 | _=>false
theorem Nl {pl:List (Nat×Nat)} (h:vM P t pl=true):∃ pX,P.underlying t=some (.struct pX)∧∀ (w:World),(pX.mapM (fun(f:Field)=>(do pure (f.offset,← sizeOf f.type):Sem (Nat×Nat)))).run P w = .ok pl.toArray w:=by
 unfold vM at h
 split at h
 rotate_left
 ·cases h
 rename_i pX h1
 refine⟨pX,h1,fun w=>?_⟩;have aq:(pX.toList.map fun f=>(f.offset,(P.info? f.type).map (·.size)))=pl.map fun p=>(p.1,some p.2):=by simpa using h
 rw [Array.mapM_eq_mapM_toList];have key:∀ (l:List Field) (pl:List (Nat×Nat)),(l.map fun f=>(f.offset,(P.info? f.type).map (·.size)))=pl.map (fun p=>(p.1,some p.2))→(l.mapM (fun(f:Field)=>(do pure (f.offset,← sizeOf f.type):Sem (Nat×Nat)))).run P w = .ok pl w:=by
  intro l
  induction l with
  | nil=>intro pl h;cases pl <;> simp_all
  | cons f l dF=>
   intro pl h;cases pl with
   | nil=>simp at h
   | cons p pl=>
    simp only [List.map_cons,List.cons.injEq,Prod.mk.injEq] at h;obtain⟨⟨aT,bL⟩,cN⟩:=h;obtain⟨i,eU,kB⟩:=Option.map_eq_some_iff.1 bL;have:=dF pl cN;simp only [bind_pure_comp] at this;simp [List.mapM_cons,cM eU,this,kB,aT]
 have:=key pX.toList pl aq;simp only [bind_pure_comp] at this ⊢;simp [this]
def zJ (l:List (Nat×Value)):List (Nat×Operand)→Option (List (Nat×Value))
 | []=>some []
 | (i,x)::r=>match a6 l x,zJ l r with
  | some v,some vs=>some ((i,v)::vs)
  | _,_=>none
theorem Gk {ρ:Operand→Value} (h:∀ x u,a6 l x=some u→ρ x=u):∀ (gC:List (Nat×Operand)) (us:List (Nat×Value)),zJ l gC=some us→gC.map (fun p=>(p.1,ρ p.2))=us:=by
 intro gC
 induction gC with
 | nil=>intro us hu;simp [zJ] at hu;simp [← hu]
 | cons z gC dF=>
  obtain⟨i,x⟩:=z;intro us hu;simp only [zJ] at hu
  split at hu
  ·rename_i v vs h1 aq
   simp only [Option.some.injEq] at hu;subst hu;simp [h _ _ h1,dF _ aq]
  cases hu
theorem a7 {h9:List (Nat×Operand)} {us:List (Nat×Value)} {pl:List (Nat×Nat)} {gC cs:List Value} (cn:vM P t pl=true) (di:hD P t gC) (ae:zJ l h9=some us) (dK:oO (fun i:Nat=>pl[i]?) gC us=some cs) :
  bF P l ⟨dd,.build t h9.toArray,ty,pos,af,gg⟩ w (.agg cs.toArray) w:=fun ρ h=>by
 obtain⟨pX,h1,aq⟩:=Nl cn
 obtain⟨i,z,aT,bL,cN⟩:=oc di
 have bk:=Gk h _ _ ae
 have bZ:=Gj us gC cs dK
 have kO:(h9.toArray.map fun(i,x)=>(i,ρ x)).toList=us:=by simpa using bk
 have HP:=aq w
 simp only [bind_pure_comp] at HP
 have ae4:(fun i:Nat=>pl.toArray[i]?)=(fun i:Nat=>pl[i]?):=by funext i;simp
 simp only [execOp,Instr.build]
 simp [zeroValue,typeInfo,aT,bL,cN,run_underlying h1,HP]
 rw [show Instr.fill (fun x=>pl[x]?) gC.toArray (List.map (fun x=>(x.fst,ρ x.snd)) h9)=some cs.toArray by rw [bk];exact bZ]
 simp
theorem n9 {h9:List (Nat×Operand)} {us:List (Nat×Value)} {e c sz fZ:Nat} {gC cs:List Value} (cc:ly P t e sz fZ=true) (di:hD P e gC) (ae:zJ l h9=some us)
  (dK:oO (fun i=>some (i*sz,sz)) ((List.replicate c gC).flatten) us=some cs) (jl:gC.length=sz) (bh:c*sz≤16777216) :
  bF P l ⟨dd,.buildSlice t c h9.toArray,ty,pos,af,gg⟩ w (.slice (some ⟨w.heap.size,0,none⟩) c c) (w.alloc (.cells cs.toArray e)):=fun ρ fc=>by
 obtain⟨td,DT,h1,aq,aT,bL,cN,eU⟩:=il cc
 obtain⟨i,z,kB,kt,k9⟩:=oc di
 have bk:=Gk fc _ _ ae
 have bZ:=Gj us _ cs dK
 have zx:¬ (c*sz > 2 ^ 24):=by omega
 have kO:((Array.range (c*sz)).map fun i=>gC.toArray[i % gC.toArray.size]!)=((List.replicate c gC).flatten).toArray:=by
  apply Array.toList_inj.1
  simp only [Array.toList_map,Array.toList_range,List.size_toArray]
  clear dK bZ bh zx
  subst jl
  induction c with
  | zero=>simp
  | succ c dF=>
   rw [Nat.add_mul,Nat.one_mul,List.range_add,List.map_append,dF,List.replicate_succ',List.flatten_append]
   congr 1
   simp only [List.flatten_cons,List.flatten_nil,List.append_nil,List.map_map]
   apply List.ext_getElem
   ·simp
   intro j I8 alE
   simp at I8
   simp [Nat.mod_eq_of_lt I8,I8]
 by_cases b3:c*sz=0
 ·have HP:((List.replicate c gC).flatten) = []:=by
   apply List.eq_nil_of_length_eq_zero
   simp [jl,b3]
  rw [HP] at bZ
  simp only [execOp,Instr.buildSlice]
  simp [run_underlying h1,cM aq,aT,zx,b3]
  rw [show Instr.fill (fun i=>some (i*sz,sz)) (Array.map (fun x=>default) (Array.range 0)) (List.map (fun x=>(x.fst,ρ x.snd)) h9)=some cs.toArray by rw [bk,show(Array.map (fun x=>default) (Array.range 0):Array Value) = #[] by apply Array.toList_inj.1;simp];exact bZ]
  simp [newRow]
 simp only [execOp,Instr.buildSlice]
 simp [run_underlying h1,cM aq,aT,zx,b3,zeroValue,typeInfo,kB,kt,k9]
 simp only [List.size_toArray,List.getElem!_toArray,List.getElem!_eq_getElem?_getD] at kO
 rw [kO,show Instr.fill (fun i=>some (i*sz,sz)) (List.replicate c gC).flatten.toArray (List.map (fun x=>(x.fst,ρ x.snd)) h9)=some cs.toArray by rw [bk];exact bZ]
 simp [newRow]
theorem bC {h9:List (Nat×Operand)} {us:List (Nat×Value)} {e c sz fZ:Nat} {gC cs:List Value} (cc:ly P t e sz fZ=true) (di:hD P e gC) (ae:zJ l h9=some us)
  (dK:oO (fun i=>some (i*sz,sz)) ((List.replicate c gC).flatten) us=some cs) (jl:gC.length=sz) (bh:c*sz≤16777216) (bV:Nat.blt d n=true)
  (h:∀ g w',ko w w' g e cs→ga P ops Q rest n ds ((d,.slice (some ⟨g,0,none⟩) c c)::l) w') :
  ga P ops Q (⟨some d,.buildSlice t c h9.toArray,ty,pos,af,none⟩::rest) n ds l w:=fN (n9 cc di ae dK jl bh) bV (h _ _ (ko.mk' w e cs))
/-! ### slicing -/
def hU:Option (IntKind×Int)→Int
 | some (_,m)=>m
 | none=>0
def iz (o:Option (IntKind×Int)) (c:Nat):Int:=match o with
 | some (_,m)=>m
 | none=>c
def Bg (o:Option (IntKind×Int)):Option Value:=o.map fun p=>.int p.1 p.2
def tE (l:List (Nat×Value)):Option Operand→Option (Option (IntKind×Int))
 | none=>some none
 | some x=>match a6 l x with
  | some (.int k m)=>some (some (k,m))
  | _=>none
theorem u1 {ρ:Operand→Value} (h:∀ x u,a6 l x=some u→ρ x=u) {o:Option Operand} {p:Option (IntKind×Int)} (et:tE l o=some p):o.map ρ=Bg p:=by
 cases o with
 | none=>simp [tE] at et;subst et;rfl
 | some x=>
  simp only [tE] at et
  split at et
  ·rename_i k m ae
   simp at et;subst et;simp [Bg,h _ _ ae]
  cases et
def lY (ad:Option Addr) (c' lo sz:Nat):Option Addr:=if c'=lo then ad else ad.map (·.add (lo*sz))
theorem FZ {ad:Option Addr} {c c' e sz fZ:Nat} {lo hi:Option Operand} {pl ph:Option (IntKind×Int)} (cc:ly P t e sz fZ=true) (ae:a6 l x=some (.slice ad c c')) (cg:tE l lo=some pl) (ik:tE l hi=some ph)
  (aQ:0≤hU pl∧hU pl≤(iz ph c)∧(iz ph c)≤c') (bh:c≤c') :
  bF P l ⟨dd,.slice t x lo hi none,ty,pos,af,gg⟩ w (.slice (lY ad c' (hU pl).toNat sz) ((iz ph c).toNat-(hU pl).toNat) (c'-(hU pl).toNat)) w:=fun ρ h=>by
 obtain⟨i,z,h1,aq,aT,bL,cN,eU⟩:=il cc
 obtain⟨b0,dm,eI⟩:=aQ
 have bk:=u1 h cg
 have bZ:=u1 h ik
 subst aT
 cases pl with
 | none=>
  cases ph with
  | none=>simp [execOp,Instr.sliceAt,Instr.slice,h _ _ ae,bk,bZ,Bg,run_underlying h1,cM aq,Instr.sliceBounds,hU,iz,lY]
  | some ph=>
   obtain⟨acT,Xn⟩:=ph
   simp only [hU,iz] at b0 dm eI
   have:=run_sliceBound (P:=P) (w:=w) acT Xn c' .sliceAcap dm eI
   simp [execOp,Instr.sliceAt,Instr.slice,h _ _ ae,bk,bZ,Bg,run_underlying h1,cM aq,Instr.sliceBounds,hU,iz,lY,this] <;> rfl
 | some pl=>
  obtain⟨acz,ahm⟩:=pl
  cases ph with
  | none=>
   simp only [hU,iz] at b0 dm eI
   have:=run_sliceBound (P:=P) (w:=w) acz ahm c .sliceB b0 dm
   simp [execOp,Instr.sliceAt,Instr.slice,h _ _ ae,bk,bZ,Bg,run_underlying h1,cM aq,Instr.sliceBounds,hU,iz,lY,this] <;> rfl
  | some ph=>
   obtain⟨acT,Xn⟩:=ph
   simp only [hU,iz] at b0 dm eI
   have t1:=run_sliceBound (P:=P) (w:=w) acT Xn c' .sliceAcap (by omega) eI
   have t2:=run_sliceBound (P:=P) (w:=w) acz ahm Xn.toNat .sliceB b0 (by omega)
   simp [execOp,Instr.sliceAt,Instr.slice,h _ _ ae,bk,bZ,Bg,run_underlying h1,cM aq,Instr.sliceBounds,hU,iz,lY,t1,t2] <;> rfl
theorem yZ {u:List UInt8} {lo hi:Option Operand} {pl ph:Option (IntKind×Int)} (cc:P.underlying t=some .string) (ae:a6 l x=some (S u)) (cg:tE l lo=some pl) (ik:tE l hi=some ph)
  (aQ:0≤hU pl∧hU pl≤(iz ph u.length)∧(iz ph u.length)≤u.length) :
  bF P l ⟨dd,.slice t x lo hi none,ty,pos,af,gg⟩ w (S ((u.drop (hU pl).toNat).take ((iz ph u.length).toNat-(hU pl).toNat))) w:=fun ρ h=>by
 obtain⟨b0,dm,eI⟩:=aQ
 have bk:=u1 h cg
 have bZ:=u1 h ik
 have ij:(⟨⟨u⟩⟩:ByteArray).size=u.length:=rfl
 have hex:∀ i j,(⟨⟨u⟩⟩:ByteArray).extract i j=⟨⟨(u.drop i).take (j-i)⟩⟩:=fun i j=>Lib.extract_eq ⟨⟨u⟩⟩ i j
 cases pl with
 | none=>
  cases ph with
  | none=>simp [execOp,Instr.sliceAt,Instr.slice,h _ _ ae,bk,bZ,Bg,run_underlying cc,Instr.sliceBounds,hU,iz,ij,hex]
  | some ph=>
   obtain⟨acT,Xn⟩:=ph
   simp only [hU,iz] at b0 dm eI
   have:=run_sliceBound (P:=P) (w:=w) acT Xn u.length .sliceAlen dm eI
   simp [execOp,Instr.sliceAt,Instr.slice,h _ _ ae,bk,bZ,Bg,run_underlying cc,Instr.sliceBounds,hU,iz,ij,hex,this]
 | some pl=>
  obtain⟨acz,ahm⟩:=pl
  cases ph with
  | none=>
   simp only [hU,iz] at b0 dm eI
   have:=run_sliceBound (P:=P) (w:=w) acz ahm u.length .sliceB b0 dm
   simp [execOp,Instr.sliceAt,Instr.slice,h _ _ ae,bk,bZ,Bg,run_underlying cc,Instr.sliceBounds,hU,iz,ij,hex,this]
  | some ph=>
   obtain⟨acT,Xn⟩:=ph
   simp only [hU,iz] at b0 dm eI
   have t1:=run_sliceBound (P:=P) (w:=w) acT Xn u.length .sliceAlen (by omega) eI
   have t2:=run_sliceBound (P:=P) (w:=w) acz ahm Xn.toNat .sliceB b0 (by omega)
   simp [execOp,Instr.sliceAt,Instr.slice,h _ _ ae,bk,bZ,Bg,run_underlying cc,Instr.sliceBounds,hU,iz,ij,hex,t1,t2]
theorem Own.cut {e sz c c' lo hi:Nat} {ad:Option Addr} {vs:List Value} (O:Own w e sz (.slice ad c c') c vs) (h1:lo≤hi) (aq:hi≤c):Own w e sz (.slice (lY ad c' lo sz) (hi-lo) (c'-lo)) (hi-lo) ((vs.drop (lo*sz)).take ((hi-lo)*sz)):=by
 have cg:=O.1;have hle:hi*sz≤c*sz:=Nat.mul_le_mul_right _ aq;have Ca:lo*sz≤hi*sz:=Nat.mul_le_mul_right _ h1;rcases O.2 with⟨b3,acU⟩ | ⟨g,o,UE,cs,bK,ef,fA,gB,rY,pQ⟩
 ·injection b3 with bk bZ kO
  subst bk;subst kO;have:lo=0:=by omega
  subst this;have:hi=0:=by omega
  subst this;have:vs = []:=List.eq_nil_of_length_eq_zero (by rw [cg,acU,Nat.zero_mul]);subst this;simpa [lY] using Own.nil w e sz
 injection bK with bk bZ kO
 subst bk;subst kO;refine⟨by rw [List.length_take,List.length_drop,cg,Nat.sub_mul];omega,.inr ?_⟩;unfold lY
 by_cases IA:c'=lo
 ·have aa7:hi=lo:=by omega
  subst aa7;subst IA;exact⟨g,o,0,cs,by simp,ef,by omega,by simp [maxLen],by omega,by simp⟩
 refine⟨g,o+lo*sz,c'-lo,cs,by simp [IA,Addr.add_lit],ef,by omega,by omega,by rw [Nat.sub_mul];have:lo*sz≤c'*sz:=Nat.mul_le_mul_right _ (by omega);omega,?_⟩;rw [← pQ,List.drop_take,List.take_take,List.drop_drop]
 congr 1
 rw [Nat.sub_mul];omega
theorem a8.cut {A:List Nat} {sz c c' lo hi:Nat} {ad:Option Addr} {rows:List (List D)} (h:a8 A w (.ia sz rows) (.slice ad c c')) (h1:lo≤hi) (aq:hi≤c):a8 A w (.ia sz ((rows.drop lo).take (hi-lo))) (.slice (lY ad c' lo sz) (hi-lo) (c'-lo)):=by
 have fh:=h;simp only [a8] at h ⊢;obtain⟨rK,aqC,e,bL,cN,eU⟩:=h;injection e with bk bZ kO
 subst bk;subst kO;have hlen:((rows.drop lo).take (hi-lo)).length=hi-lo:=by simp;omega
 refine⟨_,_,by rw [hlen],by rw [hlen];omega,by omega,fun cj=>?_⟩;have bH:lo<hi:=by
  rcases Nat.lt_or_ge lo hi with kB | kB
  ·exact kB
  exact absurd (List.eq_nil_of_length_eq_zero (by rw [hlen];omega)) cj
 obtain⟨a,ay,dD,aQ,bl⟩:=eU (by intro he;subst he;simp at h1 aq bZ;omega);subst ay;have:¬ c'=lo:=by omega
 refine⟨a.add (lo*sz),by simp [lY,this],by rw [mi];exact dD,by rw [mi];exact aQ,cZ.zI fun j r dY=>?_⟩;have uW:rows[lo+j]? = some r:=by
  rw [List.getElem?_take] at dY
  split at dY
  ·simpa using dY
  cases dY
 have:=bl.row (lo+j) r uW;rw [Nat.zero_add] at this;rw [Nat.zero_add,Addr.add_add,← Nat.add_mul];exact this
/-! ### copy, make -/
theorem Xo {e sz fZ:Nat} {Cf:Int} {gC:List Value} (cc:ly P t e sz fZ=true) (di:hD P e gC) (jl:gC.length=sz) (ae:a6 l x=some (.int k m)) (aZ:a6 l y=some (.int iA Cf)) (aQ:0≤m∧m≤Cf∧Cf≤9223372036854775807∧fZ*Cf≤281474976710656) (bV:Nat.blt d n=true)
  (h:∀ g w',ko w w' g e ((List.replicate Cf.toNat gC).flatten)→ga P ops Q rest n ds ((d,.slice (some ⟨g,0,none⟩) m.toNat Cf.toNat)::l) w') :
  ga P ops Q (⟨some d,.makeSlice t x y,ty,pos,af,none⟩::rest) n ds l w:=by
 obtain⟨td,DT,h1,aq,aT,bL,cN,eU⟩:=il cc
 obtain⟨i,z,kB,kt,k9⟩:=oc di
 have bl:bF P l ⟨some d,.makeSlice t x y,ty,pos,af,none⟩ w (.slice (some ⟨w.heap.size,0,none⟩) m.toNat Cf.toNat) (w.alloc (.cells ((List.replicate Cf.toNat gC).flatten).toArray e)):=fun ρ fc=>by
  have aB:IntKind.i64.wrap m=m:=wrap64_in _ (by omega)
  have cO:IntKind.i64.wrap Cf=Cf:=wrap64_in _ (by omega)
  have acV:td=i:=Option.some.inj (aq.symm.trans kB)
  subst acV
  have dm:¬ (Cf<0):=by omega
  have eI:¬ ((td.bytes:Int)*Cf > 281474976710656):=by rw [bL];omega
  have lq:¬ (m<0):=by omega
  have Ez:¬ (Cf<m):=by omega
  have kO:((Array.range (Cf.toNat*sz)).map fun i=>gC.toArray[i % gC.toArray.size]!)=((List.replicate Cf.toNat gC).flatten).toArray:=by
   apply Array.toList_inj.1
   simp only [Array.toList_map,Array.toList_range,List.size_toArray]
   generalize Cf.toNat=c
   subst jl
   clear h cc aT eU
   induction c with
   | zero=>simp
   | succ c dF=>
    rw [Nat.add_mul,Nat.one_mul,List.range_add,List.map_append,dF,List.replicate_succ',List.flatten_append]
    congr 1
    simp only [List.flatten_cons,List.flatten_nil,List.append_nil,List.map_map]
    apply List.ext_getElem
    ·simp
    intro j I8 alE
    simp at I8
    simp [Nat.mod_eq_of_lt I8,I8]
  have Ba:(decide (Cf<0)||decide ((td.bytes:Int)*Cf > 2 ^ 48))=false:=by
   simp only [Bool.or_eq_false_iff,decide_eq_false_iff_not]
   exact⟨dm,by omega⟩
  by_cases b3:Cf.toNat*sz=0
  ·have HP:((List.replicate Cf.toNat gC).flatten) = []:=by
    apply List.eq_nil_of_length_eq_zero
    simp [jl,b3]
   simp only [execOp,Instr.makeSlice]
   simp [fc _ _ ae,fc _ _ aZ,asInt,asIntOf,run_underlying h1,typeInfo,aq,aB,cO,Ba,dm,eI,lq,Ez,cM aq,aT,b3,newRow,HP]
   rw [show(Array.map (fun x=>default) (Array.range 0):Array Value) = #[] by apply Array.toList_inj.1;simp]
  simp only [List.size_toArray,List.getElem!_toArray,List.getElem!_eq_getElem?_getD] at kO
  simp only [execOp,Instr.makeSlice]
  simp [fc _ _ ae,fc _ _ aZ,asInt,asIntOf,run_underlying h1,typeInfo,aq,aB,cO,Ba,dm,eI,lq,Ez,cM aq,aT,b3,newRow,zeroValue,kt,k9,kO]
 exact fN bl bV (h _ _ (ko.mk' w e _))
/-! ### bytes and strings -/
theorem acW {e:Nat} {v:Value} {u:List UInt8} (bb:P.underlying t=some (.slice e)) (he:P.underlying e=some (.int .u8)) (bV:P.underlying t'=some .string) (ae:a6 l x=some v) (O:Src P 1 t v u.length (u.map j2) w) (bK:(∃ c,v = .slice none 0 c)∨∃ a c,v = .slice (some a) u.length c∧q7 w a (u.map j2)) :
  bF P l ⟨dd,.convert t t' x,ty,pos,af,gg⟩ w (S u) w:=fun ρ h=>by
 rcases bK with⟨c,rfl⟩ | ⟨a,c,rfl,bh⟩
 ·have hu:u = []:=by
   have:=O.len w
   simp [Builtin.lenOf] at this
   exact List.eq_nil_of_length_eq_zero this.symm
  subst hu
  have:=run_convert_bytes_nil w t e bb he 0 c t' bV
  simp [execOp,h _ _ ae,this]
  rfl
 have:=run_convert_bytes_back (P:=P) w t t' e a c u bb he bV (fun j dY=>bh j _ (by simp [dY,j2]))
 simp [execOp,h _ _ ae,this]
theorem oA {e w6:Nat} {v:Value} {u:List UInt8} (bb:P.underlying t=some (.slice e)) (he:P.underlying e=some (.int .u8)) (bV:P.underlying t'=some .string) (ae:a6 l x=some v) (O:Own w w6 1 v u.length (u.map j2)) :
  bF P l ⟨dd,.convert t t' x,ty,pos,af,gg⟩ w (S u) w:=by
 refine acW bb he bV ae (Src.own bb O (fun x ae=>by obtain⟨c,_,rfl⟩:=List.mem_map.1 ae;rfl)) ?_
 obtain⟨ad,c,h1,aq,aT⟩:=O.form
 subst h1
 cases ad with
 | none=>
  rcases O.2 with⟨_,b3⟩ | ⟨g,o,c',cs,h1,_⟩
  ·rw [b3]
   exact .inl ⟨c,rfl⟩
  cases h1
 | some a=>exact .inr ⟨a,c,rfl,O.cs⟩
def Lb (u:List UInt8):D:=.ia 1 (u.map fun c=>[.v (j2 c)])
theorem DU {A:List Nat} {u:List UInt8} {vs:List Value} (h:ao A w ((u.map fun c=>[D.v (j2 c)]).flatten) vs):vs=u.map j2:=by
 induction u generalizing vs with
 | nil=>simpa [ao] using h
 | cons c u dF=>
  simp only [List.map_cons,List.flatten_cons,List.singleton_append,ao] at h;obtain⟨x,us,rfl,h1,aq⟩:=h;rw [dF aq,h1.l3];rfl
theorem Src.bytes {A:List Nat} {qQ w6:Nat} {u:List UInt8} {v:Value} (hk:P.underlying qQ=some (.slice w6)) (h:a8 A w (Lb u) v):Src P 1 qQ v u.length (u.map j2) w:=by
 obtain⟨vs,h1,aq,aT⟩:=Src.rep (P:=P) hk h;rw [DU h1] at aT;simpa using aT
theorem a8.byte {A:List Nat} {u:List UInt8} {ad:Option Addr} {c c' i:Nat} {b:UInt8} (h:a8 A w (Lb u) (.slice ad c c')) (hi:u[i]? = some b):∃ a,ad=some a∧w.cell? (a.add (i*1))=some (j2 b):=by
 obtain⟨a,us,h1,aq,aT,bL,_⟩:=a8.at_ (i:=i) (r:=[.v (j2 b)]) h (by simp [hi]);simp only [ao] at aq;obtain⟨x,gd,rfl,cN,rfl⟩:=aq;refine⟨a,h1,?_⟩;have:=bL 0 x rfl;rw [Addr.add_zero'] at this;rw [this,cN.l3]
end
/-! ## Regions that draw their order
Of each operation's value something is known that lasts in all later worlds; an operation uses what is known of those slots alone that it looks at. So one walk of the order of the text serves every order. -/
abbrev j':=Nat→Option (Value→World→Prop)
def j'.put (N:j') (o:Oper) (V:Value→World→Prop):j':=match o.dst with
 | some d=>fun t=>if t=d then some V else N t
 | none=>N
def j'.on (ops:Array Oper) (N:j') (o:Oper) (a:Act) (w:World):Prop:=∀ t V,t∈o.looksAt ops→N t=some V→V (a.tmps.getD t undef) w
def j'.all (N:j') (n:Nat) (a:Act) (w:World):Prop:=a.tmps.size=n∧∀ t V,N t=some V→V (a.tmps.getD t undef) w
def od (P:Program) (arZ:World→World→Prop) (w:World) (V:Value→World→Prop):Result Next→Prop
 | .ok (.value u) w'=>arZ w w'∧V u w'
 | .ok .skip w'=>arZ w w'∧V undef w'
 | .ok (.enter f args) w'=>w'=w∧Calls P f args w (bM fun v acX=>arZ w acX∧V v acX)
 | _=>False
section
variable {P:Program} {ops:Array Oper} {md:Region.Mode} {arZ:World→World→Prop} {C:World→Prop} {n:Nat} {ds:List Deferred}
structure ar2 (P:Program) (ops:Array Oper) (arZ:World→World→Prop) (C:World→Prop) (n:Nat) (N:j') (o:Oper) (V:Value→World→Prop):Prop where
 lasts:∀ v w w',arZ w w'→V v w→V v w'
 fits:∀ d,o.dst=some d→d<n
 run:∀ a w,C w→j'.on ops N o a w→
  if Region.wanted o (yielded ops a.tmps)then od P arZ w V ((execOp a.eval o).run P w)else V undef w
def Gl (P:Program) (md:Region.Mode) (ops:Array Oper) (arZ:World→World→Prop) (C:World→Prop) (n:Nat) (Fin:j'→Prop):Nat→Array Bool→j'→Prop
 | 0,listed,N=>Region.ready md ops listed = []∧Fin N
 | fuel+1,listed,N=>(Region.ready md ops listed = []→Fin N)∧
  ∀ i∈Region.ready md ops listed,∀ o,ops[i]? = some o→∃ V,ar2 P ops arZ C n N o V∧Gl P md ops arZ C n Fin fuel (listed.setIfInBounds i true) (N.put o V)
structure zK (arZ:World→World→Prop) (C:World→Prop):Prop where
 refl:∀ w,arZ w w
 trans:∀ a b c,arZ a b→arZ b c→arZ a c
 keeps:∀ w w',arZ w w'→C w→C w'
theorem u2 {N:j'} {o:Oper} {V:Value→World→Prop} {a:Act} {w w':World} {v:Value} (cg:∀ t ar0,N t=some ar0→∀ v w w',arZ w w'→ar0 v w→ar0 v w') (iQ:arZ w w') (h5:N.all n a w) (pa:V v w') (bV:∀ d,o.dst=some d→d<n):(N.put o V).all n (a.put o.dst v) w':=by
 unfold j'.put;cases et:o.dst with
 | none=>exact⟨h5.1,fun t ar0 iJ=>cg t ar0 iJ _ _ _ iQ (h5.2 t ar0 iJ)⟩
 | some d=>
  refine⟨by simp [Act.put,h5.1],fun t ar0 iJ=>?_⟩
  dsimp only at iJ
  by_cases acY:t=d
  ·subst acY;rw [if_pos rfl] at iJ;injection iJ with iJ
   subst iJ;have:=bV t et;simp [Act.put,h5.1,this];exact pa
  rw [if_neg acY] at iJ;have:=cg t ar0 iJ _ _ _ iQ (h5.2 t ar0 iJ);simpa [Act.put,Array.getElem?_setIfInBounds_ne (Ne.symm acY)] using this
def j'.lasts (arZ:World→World→Prop) (N:j'):Prop:=∀ t ar0,N t=some ar0→∀ v w w',arZ w w'→ar0 v w→ar0 v w'
theorem j'.lasts.put {N:j'} (h:N.lasts arZ) {o:Oper} {V:Value→World→Prop} (pa:∀ v w w',arZ w w'→V v w→V v w'):(N.put o V).lasts arZ:=by
 intro t ar0 iJ;unfold j'.put at iJ;cases et:o.dst with
 | none=>rw [et] at iJ;exact h t ar0 iJ
 | some d=>
  rw [et] at iJ
  dsimp only at iJ
  split at iJ
  ·injection iJ with iJ;subst iJ;exact pa
  exact h t ar0 iJ
theorem tX {o:Oper} {i:Nat} {N:j'} {V:Value→World→Prop} {a:Act} {w:World} {Q:Exit→Act→World→Prop} {K:Act→World→Prop} (o':zK arZ C) (Xp:N.lasts arZ) (hi:ops[i]? = some o) (rz:ar2 P ops arZ C n N o V) (hF:C w) (h5:N.all n a w)
  (pY:∀ x8 w',(x8.defers=a.defers)→C w'→arZ w w'→(N.put o V).all n x8 w'→K x8 w'):wpOp P ops Q i K a w:=by
 unfold wpOp
 simp only [hi]
 have bl:=rz.run a w hF (fun t ar0 _ iJ=>h5.2 t ar0 iJ)
 have Lc:∀ v,(a.put o.dst v).defers=a.defers:=fun v=>by cases o.dst <;> rfl
 split
 rotate_left
 ·rename_i hw
  rw [if_neg hw] at bl
  exact pY _ _ (Lc _) hF (o'.refl w) (u2 Xp (o'.refl w) h5 bl rz.fits)
 rename_i hw
 rw [if_pos hw] at bl
 refine .inl ?_
 unfold Oper.wp
 generalize (execOp a.eval o).run P w=r at *
 cases r with
 | halt h w'=>exact bl.elim
 | ok x w'=>
  cases x <;> simp only [od] at bl <;> simp only [Oper.upon]
  case value u=>exact pY _ _ (Lc _) (o'.keeps _ _ bl.1 hF) bl.1 (u2 Xp bl.1 h5 bl.2 rz.fits)
  case skip=>exact pY _ _ (Lc _) (o'.keeps _ _ bl.1 hF) bl.1 (u2 Xp bl.1 h5 bl.2 rz.fits)
  case enter f args=>
   obtain⟨rfl,bh⟩:=bl
   refine bh.mono fun e acX he=>?_
   cases e with
   | returned v=>exact pY _ _ (Lc _) (o'.keeps _ _ he.1 hF) he.1 (u2 Xp he.1 h5 he.2 rz.fits)
   | panicked c=>exact he.elim
   | outgrown=>exact he.elim
theorem xn {Q:Exit→Act→World→Prop} {Fin:j'→Prop} {w0:World} {ds:List Deferred} (o':zK arZ C)
  (u3:∀ N a w,N.lasts arZ→a.defers=ds→C w→arZ w0 w→N.all n a w→Fin N→Q .normal a w):∀ (fuel:Nat) (listed:Array Bool) (N:j') (a:Act) (w:World),N.lasts arZ→a.defers=ds→C w→arZ w0 w→N.all n a w→
  Gl P md ops arZ C n Fin fuel listed N→wpAny P md ops Q fuel listed a w
 | 0,listed,N,a,w,b3,h1,aq,aT,bL,h=>⟨h.1,u3 N a w b3 h1 aq aT bL h.2⟩
 | fuel+1,listed,N,a,w,b3,h1,aq,aT,bL,h=>by
  refine⟨fun bl=>u3 N a w b3 h1 aq aT bL (h.1 bl),fun i hi=>?_⟩
  obtain⟨_,o,et,_⟩:=mem_ready.1 hi
  obtain⟨V,rz,gY⟩:=h.2 i hi o et
  exact tX o' b3 et rz aq bL fun x8 w' bV hF iQ h5=>xn o' u3 fuel _ _ x8 w' (b3.put rz.lasts) (bV.trans h1) hF (o'.trans _ _ _ aT iQ) h5 gY
theorem ar2.past {N:j'} {o u4:Oper} {V ae5:Value→World→Prop} (h:ar2 P ops arZ C n (N.put u4 ae5) o V) (cj:∀ d,u4.dst=some d→d∉o.looksAt ops):ar2 P ops arZ C n N o V:=by
 refine⟨h.lasts,h.fits,fun a w hF h5=>h.run a w hF fun t ar0 cc iJ=>?_⟩;unfold j'.put at iJ;cases bV:u4.dst with
 | none=>rw [bV] at iJ;exact h5 t ar0 cc iJ
 | some d=>
  rw [bV] at iJ
  dsimp only at iJ
  split at iJ
  ·rename_i he;subst he;exact absurd cc (cj _ bV)
  exact h5 t ar0 cc iJ
theorem ar2.ahead {N:j'} {o u4:Oper} {V ae5:Value→World→Prop} (h:ar2 P ops arZ C n N o V) (cj:∀ d,u4.dst=some d→d∉o.looksAt ops):ar2 P ops arZ C n (N.put u4 ae5) o V:=by
 refine⟨h.lasts,h.fits,fun a w hF h5=>h.run a w hF fun t ar0 cc iJ=>?_⟩;refine h5 t ar0 cc ?_;unfold j'.put;cases bV:u4.dst with
 | none=>exact iJ
 | some d=>
  dsimp only
  rw [if_neg (fun he=>by subst he;exact cj _ bV cc)];exact iJ
theorem j'.put_comm (N:j') {o u4:Oper} (V ae5:Value→World→Prop) (h:∀ d,o.dst=some d→u4.dst≠some d):(N.put o V).put u4 ae5=(N.put u4 ae5).put o V:=by
 unfold j'.put;cases et:o.dst with
 | none=>cases u4.dst <;> rfl
 | some d=>
  cases Rn:u4.dst with
  | none=>rfl
  | some sX=>
   have bY:sX≠d:=fun e=>h d et (by rw [Rn,e])
   funext t
   dsimp only
   by_cases h1:t=d
   ·subst h1
    by_cases aq:t=sX
    ·exact absurd aq.symm bY
    simp [aq]
   simp [h1]
theorem Gm {Fin:j'→Prop} {i:Nat} {AN:Oper} {V:Value→World→Prop} (hi:ops[i]? = some AN) :
  ∀ (fuel:Nat) (listed:Array Bool) (N:j'),
   (∀ j sH,ops[j]? = some sH→j≠i→listed.getD j true=false→(∀ e∈sH.after,Region.binds md e=true→e.on≠i)→AN.apart ops sH=true)→
   i∈Region.ready md ops listed→ar2 P ops arZ C n N AN V→
   Gl P md ops arZ C n Fin fuel (listed.setIfInBounds i true) (N.put AN V)→Gl P md ops arZ C n Fin (fuel+1) listed N:=by
 intro fuel
 induction fuel with
 | zero=>
  intro listed N _ bl rz H
  refine⟨fun h=>(by rw [h] at bl;cases bl),fun j dY o et=>?_⟩
  by_cases m':j=i
  ·subst m'
   have:o=AN:=Option.some.inj (et.symm.trans hi)
   subst this
   exact⟨V,rz,H⟩
  have:=ready_mono dY m'
  rw [H.1] at this
  cases this
 | succ fuel dF=>
  intro listed N r7 bl rz H
  refine⟨fun h=>(by rw [h] at bl;cases bl),fun j dY o et=>?_⟩
  by_cases m':j=i
  ·subst m'
   have:o=AN:=Option.some.inj (et.symm.trans hi)
   subst this
   exact⟨V,rz,H⟩
  obtain⟨Ro,Rp,gY⟩:=H.2 j (ready_mono dY m') o et
  obtain⟨xo,sH,xO,kk⟩:=mem_ready.1 dY
  have:o=sH:=Option.some.inj (et.symm.trans xO)
  subst this
  have qe:∀ e∈o.after,Region.binds md e=true→e.on≠i:=fun e he aQ heq=>by
   have h1:=kk e he aQ
   have b3:=(mem_ready.1 bl).1
   rw [heq] at h1
   rcases Nat.lt_or_ge i listed.size with fh | fh
   ·simp [fh] at b3 h1;rw [b3] at h1;cases h1
   simp [Array.getElem?_eq_none fh] at h1
  obtain⟨p8,a2,a3⟩:=Oper.apart_spec (r7 j o xO m' xo qe)
  refine⟨Ro,Rp.past p8,dF (listed.setIfInBounds j true) (N.put o Ro) (fun k ok hk Rq k3 ku=>?_) (ready_mono bl (Ne.symm m')) (rz.ahead a3) ?_⟩
  ·refine r7 k ok hk Rq ?_ ku
   by_cases Gn:j=k
   ·subst Gn;exact xo
   rw [getD_set_ne true Gn] at k3;exact k3
  rw [Array.setIfInBounds_comm _ _ m',← j'.put_comm N V Ro a2]
  exact gY
def TW (P:Program) (ops:Array Oper) (arZ:World→World→Prop) (C:World→Prop) (n:Nat) (Fin:j'→Prop):List Oper→j'→Prop
 | [],N=>Fin N
 | o::rest,N=>∃ V,ar2 P ops arZ C n N o V∧TW P ops arZ C n Fin rest (N.put o V)
theorem Cg {Fin:j'→Prop}:∀ (l:List Oper) (k:Nat) (listed:Array Bool) (N:j'),(∀ j,l[j]? = ops[k+j]?)→
  Region.lexFrom md ops l.length k listed=true→TW P ops arZ C n Fin l N→Gl P md ops arZ C n Fin l.length listed N
 | [],_,_,_,_,ef,h=>⟨by simpa [Region.lexFrom] using ef,h⟩
 | o::l,k,listed,N,cg,ef,h=>by
  have b3:ops[k]? = some o:=by simpa using (cg 0).symm
  simp only [List.length_cons,Region.lexFrom,Bool.and_eq_true] at ef
  obtain⟨⟨bl,dK⟩,DV⟩:=ef
  obtain⟨V,rz,gY⟩:=h
  exact Gm b3 l.length listed N (Region.free_spec b3 dK) (by simpa using bl) rz
   (Cg l (k+1) _ _ (fun j=>by have:=cg (j+1);simpa [Nat.add_assoc,Nat.add_comm 1 j] using this) DV gY)
/-! ### .. with operations behind it that come one behind the other -/
def zL (P:Program) (md:Region.Mode) (ops:Array Oper) (arZ:World→World→Prop) (C:World→Prop) (n m:Nat) (L:Array Bool→j'→Prop):Nat→Array Bool→j'→Prop
 | 0,listed,N=>L listed N
 | f+1,listed,N=>Region.ready md ops listed≠[]∧
  ∀ i∈Region.ready md ops listed,i<m∧∀ o,ops[i]? = some o→∃ V,ar2 P ops arZ C n N o V∧zL P md ops arZ C n m L f (listed.setIfInBounds i true) (N.put o V)
theorem u5 {Q:Exit→Act→World→Prop} {L:Array Bool→j'→Prop} {w0:World} {ds:List Deferred} {m g:Nat} (o':zK arZ C)
  (u3:∀ listed N a w,N.lasts arZ→a.defers=ds→C w→arZ w0 w→N.all n a w→L listed N→wpAny P md ops Q g listed a w):∀ (f:Nat) (listed:Array Bool) (N:j') (a:Act) (w:World),N.lasts arZ→a.defers=ds→C w→arZ w0 w→N.all n a w→
  zL P md ops arZ C n m L f listed N→wpAny P md ops Q (f+g) listed a w
 | 0,listed,N,a,w,b3,h1,aq,aT,bL,h=>by rw [Nat.zero_add];exact u3 listed N a w b3 h1 aq aT bL h
 | f+1,listed,N,a,w,b3,h1,aq,aT,bL,h=>by
  rw [show f+1+g=(f+g)+1 by omega]
  refine⟨fun bl=>absurd bl h.1,fun i hi=>?_⟩
  obtain⟨_,o,et,_⟩:=mem_ready.1 hi
  obtain⟨V,rz,gY⟩:=(h.2 i hi).2 o et
  exact tX o' b3 et rz aq bL fun x8 w' bV hF iQ h5=>u5 o' u3 f _ _ x8 w' (b3.put rz.lasts) (bV.trans h1) hF (o'.trans _ _ _ aT iQ) h5 gY
theorem DW {m i:Nat} {AN:Oper} {V:Value→World→Prop} {L:Array Bool→j'→Prop} (hi:ops[i]? = some AN)
  (bb:Region.sinkB md ops m=true) (bh:Region.chainB md ops m=true) (cj:m<ops.size) (Rr:i<m)
  (I9:∀ listed N,L listed N→∀ j∈Region.ready md ops listed,m≤j) :
  ∀ (f:Nat) (listed:Array Bool) (N:j'),HeadInv md ops m listed→
   (∀ j sH,ops[j]? = some sH→j≠i→listed.getD j true=false→(∀ e∈sH.after,Region.binds md e=true→e.on≠i)→AN.apart ops sH=true)→
   i∈Region.ready md ops listed→ar2 P ops arZ C n N AN V→
   zL P md ops arZ C n m L f (listed.setIfInBounds i true) (N.put AN V)→zL P md ops arZ C n m L (f+1) listed N:=by
 intro f
 induction f with
 | zero=>
  intro listed N inv _ bl rz H
  have k3:=(mem_ready.1 bl).1
  refine⟨fun h=>(by rw [h] at bl;cases bl),fun j dY=>?_⟩
  have Bh:j<m:=by
   rcases Nat.lt_or_ge j m with h | h
   ·exact h
   exact absurd dY (tail_waits bb bh cj inv _ i rfl Rr k3 j h)
  refine⟨Bh,fun o et=>?_⟩
  by_cases m':j=i
  ·subst m'
   have:o=AN:=Option.some.inj (et.symm.trans hi)
   subst this
   exact⟨V,rz,H⟩
  have:=I9 _ _ H j (ready_mono dY m')
  omega
 | succ f dF=>
  intro listed N inv r7 bl rz H
  have k3:=(mem_ready.1 bl).1
  refine⟨fun h=>(by rw [h] at bl;cases bl),fun j dY=>?_⟩
  have Bh:j<m:=by
   rcases Nat.lt_or_ge j m with h | h
   ·exact h
   exact absurd dY (tail_waits bb bh cj inv _ i rfl Rr k3 j h)
  refine⟨Bh,fun o et=>?_⟩
  by_cases m':j=i
  ·subst m'
   have:o=AN:=Option.some.inj (et.symm.trans hi)
   subst this
   exact⟨V,rz,H⟩
  obtain⟨Ro,Rp,gY⟩:=(H.2 j (ready_mono dY m')).2 o et
  obtain⟨xo,sH,xO,kk⟩:=mem_ready.1 dY
  have:o=sH:=Option.some.inj (et.symm.trans xO)
  subst this
  have qe:∀ e∈o.after,Region.binds md e=true→e.on≠i:=fun e he aQ heq=>by
   have h1:=kk e he aQ
   rw [heq,getD_both k3] at h1
   cases h1
  obtain⟨p8,a2,a3⟩:=Oper.apart_spec (r7 j o xO m' xo qe)
  refine⟨Ro,Rp.past p8,dF (listed.setIfInBounds j true) (N.put o Ro) (inv.set dY Bh) (fun k ok hk Rq k3 ku=>?_) (ready_mono bl (Ne.symm m')) (rz.ahead a3) ?_⟩
  ·refine r7 k ok hk Rq ?_ ku
   by_cases Gn:j=k
   ·subst Gn;exact xo
   rw [getD_set_ne true Gn] at k3;exact k3
  rw [Array.setIfInBounds_comm _ _ m',← j'.put_comm N V Ro a2]
  exact gY
theorem zM {m g:Nat} {Fin:j'→Prop} (bb:Region.sinkB md ops m=true) (bh:Region.chainB md ops m=true) (cj:m<ops.size) :
  ∀ (l:List Oper) (k:Nat) (listed:Array Bool) (N:j'),(∀ j,j<l.length→l[j]? = ops[k+j]?)→k+l.length=m→HeadInv md ops m listed→
  Region.lexHead md ops g l.length k listed=true→TW P ops arZ C n Fin l N→
  zL P md ops arZ C n m (fun na aaq=>Region.seqB md ops g m na=true∧Fin aaq) l.length listed N
 | [],k,listed,N,_,hk,_,ef,h=>by
  have:k=m:=by simpa using hk
  subst this
  exact⟨by simpa [Region.lexHead] using ef,h⟩
 | o::l,k,listed,N,cg,hk,inv,ef,h=>by
  have b3:ops[k]? = some o:=by simpa using (cg 0 (by simp)).symm
  simp only [List.length_cons,Region.lexHead,Bool.and_eq_true] at ef
  obtain⟨⟨bl,dK⟩,DV⟩:=ef
  have ahn:k<m:=by simp only [List.length_cons] at hk;omega
  have oE:k∈Region.ready md ops listed:=by simpa using bl
  obtain⟨V,rz,gY⟩:=h
  exact DW b3 bb bh cj ahn (fun na aaq o'=>seqB_ready o'.1) l.length listed N inv (Region.free_spec b3 dK) oE rz
   (zM bb bh cj l (k+1) _ _ (fun j dY=>by have:=cg (j+1) (by simp;omega);simpa [Nat.add_assoc,Nat.add_comm 1 j] using this) (by simp only [List.length_cons] at hk;omega) (inv.set oE ahn) DV gY)
end
end Go.Proofs.YtnihidkbkhcfoaaGreatDoor.V
