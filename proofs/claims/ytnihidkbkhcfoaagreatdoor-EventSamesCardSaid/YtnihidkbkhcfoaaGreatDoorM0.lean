/-
  A part of the proof: walks of functions. No condition of its own.
-/
import Derived.WalkKit
import Derived.Below
import Derived.Still
import Derived.KernelRfl
import Derived.Deep.AppendSrc
import Derived.Laws.CopyOwn
import Derived.Laws.Slices
import Derived.Lib.ConvBytes
import Derived.Laws.BytesArg
import Derived.Lib.Strings
import Derived.Laws.BytesString
import Derived.Laws.IdiomStrings
import Derived.StillTail
set_option linter.unusedVariables false
set_option linter.unusedSimpArgs false
namespace Go.Proofs.YtnihidkbkhcfoaaGreatDoor.V
open Go
/-! ## Frames -/
def i' (t:Nat):List (Nat×Value)→Option Value
 | []=>none
 | (s,v)::r=>match Nat.beq s t with
  | true=>some v
  | false=>i' t r
def a6 (l:List (Nat×Value)):Operand→Option Value
 | .tmp t=>i' t l
 | .const v=>some v
 | .global g=>some (.pointer (some ⟨g,0,none⟩))
 | .func f=>some (.func (.func f) #[] #[])
def GC (l:List (Nat×Value)):List Operand→Option (List Value)
 | []=>some []
 | x::r=>match a6 l x,GC l r with
  | some v,some vs=>some (v::vs)
  | _,_=>none
structure Has (n:Nat) (ds:List Deferred) (l:List (Nat×Value)) (a:Act):Prop where
 size:a.tmps.size=n
 defers:a.defers=ds
 get:∀ t v,i' t l=some v→a.tmps[t]? = some v
section
variable {P:Program} {ops:Array Oper} {Q:Exit→Act→World→Prop} {n:Nat} {ds:List Deferred} {l:List (Nat×Value)} {w w':World} {a:Act}
theorem Has.rD (h:Has n ds l a) {x:Operand} {v:Value} (ae:a6 l x=some v):a.eval x=v:=by
 cases x with
 | tmp t=>simp only [a6] at ae;simp [Act.eval,h.get t v ae]
 | const u=>simpa [a6,Act.eval] using ae
 | global g=>simpa [a6,Act.eval] using ae
 | func f=>simpa [a6,Act.eval] using ae
theorem Has.put (h:Has n ds l a) {d:Nat} (bY:Nat.blt d n=true) (v:Value):Has n ds ((d,v)::l) (a.put (some d) v):=by
 refine⟨by simp [Act.put,h.size],by simp [Act.put,h.defers],fun t u hu=>?_⟩;have Vv:d<n:=by simpa [Nat.blt_eq] using bY
 simp only [i'] at hu
 by_cases adg:d=t
 ·subst adg;simp at hu;subst hu;simp [Act.put,h.size,Vv]
 have:Nat.beq d t=false:=by
  cases aS:Nat.beq d t
  ·rfl
  exact absurd (Nat.eq_of_beq_eq_true aS) adg
 rw [this] at hu;simp only at hu;rw [← h.get t u hu];simp [Act.put,Array.getElem?_setIfInBounds_ne adg]
def Sub (l:List (Nat×Value)):List (Nat×Value)→Prop
 | []=>True
 | (t,v)::r=>i' t l=some v∧Sub l r
theorem Sub.al5 {l l':List (Nat×Value)} (h:Sub l l'):∀ t v,i' t l'=some v→i' t l=some v:=by
 induction l' with
 | nil=>intro t v bK;simp [i'] at bK
 | cons p r dK=>
  obtain⟨s,u⟩:=p;intro t v bK;simp only [i'] at bK;cases aS:Nat.beq s t with
  | true=>
   rw [aS] at bK;have hJ:=Nat.eq_of_beq_eq_true aS;subst hJ;simp at bK;subst bK;exact h.1
  | false=>
   rw [aS] at bK;exact dK h.2 t v bK
theorem Has.sub (h:Has n ds l a) {l':List (Nat×Value)} (bf:Sub l l'):Has n ds l' a:=⟨h.size,h.defers,fun t v bK=>h.get t v (bf.al5 t v bK)⟩
/-! ## Goals over whatever frame has what is known -/
def ga (P:Program) (ops:Array Oper) (Q:Exit→Act→World→Prop) (rest:List Oper) (n:Nat) (ds:List Deferred) (l:List (Nat×Value)) (w:World):Prop:=
 ∀ a,Has n ds l a→wpList P ops Q rest a w
def p3 (P:Program) (c:Code) (Q:Exit→Act→World→Prop) (n:Nat) (ds:List Deferred) (l:List (Nat×Value)) (w:World):Prop:=
 ∀ a,Has n ds l a→c.wp P Q a w
def fI (Q:Exit→Act→World→Prop) (e:Exit) (n:Nat) (ds:List Deferred) (l:List (Nat×Value)) (w:World):Prop:=
 ∀ a,Has n ds l a→Q e a w
theorem ga.sub {rest:List Oper} {l':List (Nat×Value)} (bf:Sub l l') (h:ga P ops Q rest n ds l' w):ga P ops Q rest n ds l w:=fun a ay=>h a (ay.sub bf)
theorem p3.sub {c:Code} {l':List (Nat×Value)} (bf:Sub l l') (h:p3 P c Q n ds l' w):p3 P c Q n ds l w:=fun a ay=>h a (ay.sub bf)
theorem fI.sub {e:Exit} {l':List (Nat×Value)} (bf:Sub l l') (h:fI Q e n ds l' w):fI Q e n ds l w:=fun a ay=>h a (ay.sub bf)
/-! ### Control -/
theorem nm {x y:Code} (h:∀ K:Act→World→Prop,(∀ n ds l w,p3 P y Q n ds l w→∀ a,Has n ds l a→K a w)→p3 P x (Exit.then K Q) n ds l w):p3 P (.seq x y) Q n ds l w:=
 fun a ay=>wp_seq (h (fun a w=>y.wp P Q a w) (fun _ _ _ _ h a ay=>h a ay) a ay)
theorem ca (h:fI Q .normal n ds l w):p3 P .skip Q n ds l w:=fun a ay=>wp_skip (h a ay)
theorem aZ (h:fI Q .ret n ds l w):p3 P .ret Q n ds l w:=fun a ay=>wp_ret (h a ay)
theorem bm {i:Nat} (h:fI Q (.exit i) n ds l w):p3 P (.exit i) Q n ds l w:=fun a ay=>wp_exit (h a ay)
theorem eB {i:Nat} {c:Code} (h:p3 P c (Exit.inBlock i Q) n ds l w):p3 P (.block i c) Q n ds l w:=fun a ay=>wp_block (h a ay)
theorem a7 {c:Operand} {x y:Code} {b:Bool} (bj:a6 l c=some (.bool b)) (cf:b=true→p3 P x Q n ds l w) (dI:b=false→p3 P y Q n ds l w):p3 P (.cond c x y) Q n ds l w:=
 fun a ay=>wp_cond_split (ay.rD bj) (fun h=>cf h a ay) (fun h=>dI h a ay)
theorem aI {c:Operand} {x y:Code} {p:Prop} [Decidable p] (bj:a6 l c=some (.bool (decide p))) (cf:p→p3 P x Q n ds l w) (dI:¬ p→p3 P y Q n ds l w):p3 P (.cond c x y) Q n ds l w:=
 a7 bj (fun h=>cf (of_decide_eq_true h)) (fun h=>dI (of_decide_eq_false h))
theorem aD {c:Operand} {x y:Code} (bj:a6 l c=some (.bool true)) (cf:p3 P x Q n ds l w):p3 P (.cond c x y) Q n ds l w:=
 a7 bj (fun _=>cf) (fun h=>by cases h)
theorem aE {c:Operand} {x y:Code} (bj:a6 l c=some (.bool false)) (dI:p3 P y Q n ds l w):p3 P (.cond c x y) Q n ds l w:=
 a7 bj (fun h=>by cases h) (fun _=>dI)
theorem dU {K:Act→World→Prop} (h:∀ a,Has n ds l a→K a w):fI (Exit.then K Q) .normal n ds l w:=fun a ay=>h a ay
theorem aO {K:Act→World→Prop} {e:Exit} (he:e≠.normal) (h:fI Q e n ds l w):fI (Exit.then K Q) e n ds l w:=fun a ay=>by
 have:=h a ay;cases e <;> first | exact this | exact absurd rfl he
theorem bS {i:Nat} (h:fI Q .normal n ds l w):fI (Exit.inBlock i Q) (.exit i) n ds l w:=fun a ay=>by simpa [Exit.inBlock] using h a ay
theorem bx {i:Nat} {e:Exit} (he:∀ j,e≠.exit j) (h:fI Q e n ds l w):fI (Exit.inBlock i Q) e n ds l w:=fun a ay=>by
 have:=h a ay;cases e <;> first | exact this | exact absurd rfl (he _)
theorem bU {c:Code} {σ:Type} (L:σ→List (Nat×Value)) (asr:σ→World→Prop) (XS:σ→Nat) (ahQ:σ) (bf:Sub l (L ahQ)) (b3:asr ahQ w)
  (round:∀ s w,asr s w→p3 P c (Exit.then (fun ye w'=>∃ Jq,Has n ds (L Jq) ye∧asr Jq w'∧XS Jq<XS s) Q) n ds (L s) w):p3 P (.loop c) Q n ds l w:=by
 intro a ay
 have key:∀ m,∀ s a w,XS s=m→Has n ds (L s) a→asr s w→∀ (b:Frame) (k:List Item) (cs:List Frame),
   ∃ e ye w',Q e ye w'∧Arrives P (lone (b.at a (.code c::.inLoop c::k)) cs w) b k cs e ye w':=by
  intro m
  induction m using Nat.strongRecOn with
  | _ m dK=>
   intro s a w hm ay oE b k cs
   obtain⟨e,Cv,Cw,e5,xr⟩:=round s w oE a ay b (.inLoop c::k) cs
   cases e with
   | normal=>
    obtain⟨Jq,wJ,al6,bJ⟩:=e5
    obtain⟨ahR,ahS,ahT,adh,R9⟩:=dK (XS Jq) (hm▸bJ) Jq Cv Cw rfl wJ al6 b k cs
    exact⟨ahR,ahS,ahT,adh,.of_steps (Steps.trans xr (.one step_inLoop)) R9⟩
   | exit id=>exact⟨_,Cv,Cw,e5,.pass (x:=.inLoop c) rfl (fun _ _=>.inl (by simp)) xr⟩
   | goto l=>exact⟨_,Cv,Cw,e5,.pass (x:=.inLoop c) rfl (fun _ _=>.inl (by simp)) xr⟩
   | ret=>exact⟨_,Cv,Cw,e5,.pass (x:=.inLoop c) rfl (fun _ _=>.inl (by simp)) xr⟩
   | panic asl=>exact⟨_,Cv,Cw,e5,.pass (x:=.inLoop c) rfl (fun _ _=>.inl (by simp)) xr⟩
   | outgrown=>exact⟨_,Cv,Cw,e5,.pass (x:=.inLoop c) rfl (fun _ _=>.inl (by simp)) xr⟩
 intro b k cs
 obtain⟨e,ye,w',e5,xr⟩:=key _ ahQ a w rfl (ay.sub bf) b3 b k cs
 exact⟨e,ye,w',e5,.of_steps (.one step_loop) xr⟩
theorem fJ {σ:Type} {L:σ→List (Nat×Value)} {asr:σ→World→Prop} {XS:σ→Nat} {s:σ} (Jq:σ) (bf:Sub l (L Jq)) (oE:asr Jq w) (hm:XS Jq<XS s) :
  fI (Exit.then (fun ye w'=>∃ Jq,Has n ds (L Jq) ye∧asr Jq w'∧XS Jq<XS s) Q) .normal n ds l w:=fun a ay=>⟨Jq,ay.sub bf,oE,hm⟩
/-! ### Regions, and their operations -/
theorem bQ {id:Nat} {lo:List Oper} (h:ga P lo.toArray Q lo n ds l w):p3 P (.region id lo.toArray false) Q n ds l w:=fun a ay=>wp_region_lit (h a ay)
theorem cF (h:fI Q .normal n ds l w):ga P ops Q [] n ds l w:=fun a ay=>h a ay
def bG (P:Program) (l:List (Nat×Value)) (o:Oper) (w:World) (v:Value) (w':World):Prop:=
 ∀ ρ:Operand→Value,(∀ x u,a6 l x=some u→ρ x=u)→(execOp ρ o).run P w = .ok (.value v) w'
def Jr (P:Program) (l:List (Nat×Value)) (o:Oper) (w:World) (w':World):Prop:=
 ∀ ρ:Operand→Value,(∀ x u,a6 l x=some u→ρ x=u)→(execOp ρ o).run P w = .ok .skip w'
def mh (P:Program) (l:List (Nat×Value)) (o:Oper) (w:World) (f:FuncId) (args:Array Value):Prop:=
 ∀ ρ:Operand→Value,(∀ x u,a6 l x=some u→ρ x=u)→(execOp ρ o).run P w = .ok (.enter f args) w
variable {rest:List Oper} {d:Nat} {op:Op} {ty:TypeId} {pos:String} {af:Array Edge}
theorem fP {v:Value} (bq:bG P l ⟨some d,op,ty,pos,af,none⟩ w v w') (bY:Nat.blt d n=true) (h:ga P ops Q rest n ds ((d,v)::l) w') :
  ga P ops Q (⟨some d,op,ty,pos,af,none⟩::rest) n ds l w:=by
 intro a ay
 refine wpList_plain rfl fun K p5=>?_
 have:=bq a.eval (fun x u ae=>ay.rD ae)
 simp only [Oper.wp,this,Oper.upon]
 exact p5 _ _ (h _ (ay.put bY v))
theorem apk (bq:Jr P l ⟨none,op,ty,pos,af,none⟩ w w') (h:ga P ops Q rest n ds l w') :
  ga P ops Q (⟨none,op,ty,pos,af,none⟩::rest) n ds l w:=by
 intro a ay
 refine wpList_plain rfl fun K p5=>?_
 have:=bq a.eval (fun x u ae=>ay.rD ae)
 simp only [Oper.wp,this,Oper.upon]
 exact p5 _ _ (h _ ay)
def bL (xU:Value→World→Prop):Ending→World→Prop
 | .returned v,w=>xU v w
 | _,_=>False
theorem fA {f:FuncId} {args:Array Value} {xU:Value→World→Prop} (bq:mh P l ⟨some d,op,ty,pos,af,none⟩ w f args) (bj:Calls P f args w (bL xU)) (bY:Nat.blt d n=true)
  (h:∀ v w',xU v w'→ga P ops Q rest n ds ((d,v)::l) w') :
  ga P ops Q (⟨some d,op,ty,pos,af,none⟩::rest) n ds l w:=by
 intro a ay
 refine wpList_plain rfl fun K p5=>?_
 have:=bq a.eval (fun x u ae=>ay.rD ae)
 simp only [Oper.wp,this,Oper.upon]
 refine bj.mono fun e w' he=>?_
 cases e with
 | returned v=>exact p5 _ _ (h v w' he _ (ay.put bY v))
 | panicked c=>exact he.elim
 | outgrown=>exact he.elim
end
section
variable {P:Program} {ops:Array Oper} {Q:Exit→Act→World→Prop} {n:Nat} {ds:List Deferred} {l:List (Nat×Value)} {w w':World} {a:Act}
variable {rest:List Oper} {d:Nat} {op:Op} {ty:TypeId} {pos:String} {af:Array Edge}
variable {dd:Option Nat} {gg:Option (Nat×Bool)} {x y z:Operand} {t t':TypeId} {k iC:IntKind} {m gr:Int} {b e8:Bool}
theorem ec {v:Value} (ae:a6 l x=some v):bG P l ⟨dd,.move x,ty,pos,af,gg⟩ w v w:=fun ρ h=>by
 simp [execOp,h x v ae]
theorem cr {v:Value} (ae:a6 l x=some v):bG P l ⟨dd,.assign x,ty,pos,af,gg⟩ w v w:=fun ρ h=>by
 simp [execOp,h x v ae]
theorem sd {α:Type} [BEq α] [LawfulBEq α] [DecidableEq α] (u v:α):(u == v)=decide (u=v):=by
 by_cases h:u=v <;> simp [h]
/-! ### whole numbers -/
theorem oO (ae:a6 l x=some (.int k m)) (aY:a6 l y=some (.int k gr)):bG P l ⟨dd,.binOp .add t x y t',ty,pos,af,gg⟩ w (.int k (k.wrap (m+gr))) w:=fun ρ h=>by
 simp [execOp,eqGuard,h _ _ ae,h _ _ aY,binOp,Op.intArith]
theorem hN (ae:a6 l x=some (.int k m)) (aY:a6 l y=some (.int k gr)):bG P l ⟨dd,.binOp .sub t x y t',ty,pos,af,gg⟩ w (.int k (k.wrap (m-gr))) w:=fun ρ h=>by
 simp [execOp,eqGuard,h _ _ ae,h _ _ aY,binOp,Op.intArith]
theorem adi (ae:a6 l x=some (.int k m)) (aY:a6 l y=some (.int k gr)):bG P l ⟨dd,.binOp .mul t x y t',ty,pos,af,gg⟩ w (.int k (k.wrap (m*gr))) w:=fun ρ h=>by
 simp [execOp,eqGuard,h _ _ ae,h _ _ aY,binOp,Op.intArith]
theorem wrap64_in (z:Int) (h : -9223372036854775808≤z∧z≤9223372036854775807):IntKind.i64.wrap z=z:=by
 rw [IntKind.wrap_i64 z];omega
theorem aN (ae:a6 l x=some (.int .i64 m)) (aY:a6 l y=some (.int .i64 gr)) (aS : -9223372036854775808≤m+gr∧m+gr≤9223372036854775807):bG P l ⟨dd,.binOp .add t x y t',ty,pos,af,gg⟩ w (.int .i64 (m+gr)) w:=by
 have:=oO (P:=P) (w:=w) (dd:=dd) (gg:=gg) (t:=t) (t':=t') (ty:=ty) (pos:=pos) (af:=af) ae aY
 rwa [wrap64_in _ aS] at this
theorem px (ae:a6 l x=some (.int .i64 m)) (aY:a6 l y=some (.int .i64 gr)) (aS : -9223372036854775808≤m-gr∧m-gr≤9223372036854775807):bG P l ⟨dd,.binOp .sub t x y t',ty,pos,af,gg⟩ w (.int .i64 (m-gr)) w:=by
 have:=hN (P:=P) (w:=w) (dd:=dd) (gg:=gg) (t:=t) (t':=t') (ty:=ty) (pos:=pos) (af:=af) ae aY
 rwa [wrap64_in _ aS] at this
theorem Py (ae:a6 l x=some (.int k m)) (aY:a6 l y=some (.int k gr)) (b3:gr≠0):bG P l ⟨dd,.binOp .quo t x y t',ty,pos,af,gg⟩ w (.int k (k.wrap (m.tdiv gr))) w:=fun ρ h=>by
 simp [execOp,eqGuard,h _ _ ae,h _ _ aY,binOp,Op.intDiv,b3]
theorem adj (ae:a6 l x=some (.int k m)) (aY:a6 l y=some (.int k gr)) (b3:gr≠0):bG P l ⟨dd,.binOp .rem t x y t',ty,pos,af,gg⟩ w (.int k (m.tmod gr)) w:=fun ρ h=>by
 simp [execOp,eqGuard,h _ _ ae,h _ _ aY,binOp,Op.intDiv,b3]
theorem q0 (ae:a6 l x=some (.int .i64 m)) (aY:a6 l y=some (.int .i64 gr)) (aS:0≤m∧m≤9223372036854775807∧0<gr):bG P l ⟨dd,.binOp .quo t x y t',ty,pos,af,gg⟩ w (.int .i64 (m / gr)) w:=by
 have:=Py (P:=P) (w:=w) (dd:=dd) (gg:=gg) (t:=t) (t':=t') (ty:=ty) (pos:=pos) (af:=af) ae aY (by omega);rw [Int.tdiv_eq_ediv_of_nonneg aS.1] at this;have h1:0≤m / gr:=Int.ediv_nonneg aS.1 (by omega);have aq:m / gr≤m:=Int.ediv_le_self _ aS.1
 rwa [wrap64_in _ (by omega)] at this
theorem kQ (ae:a6 l x=some (.int k m)) (aY:a6 l y=some (.int k gr)) (aS:0≤m∧0<gr):bG P l ⟨dd,.binOp .rem t x y t',ty,pos,af,gg⟩ w (.int k (m % gr)) w:=by
 have:=adj (P:=P) (w:=w) (dd:=dd) (gg:=gg) (t:=t) (t':=t') (ty:=ty) (pos:=pos) (af:=af) ae aY (by omega)
 rwa [Int.tmod_eq_emod_of_nonneg aS.1] at this
theorem zp (ae:a6 l x=some (.int k m)) (aY:a6 l y=some (.int iC gr)) (b3:0≤gr):bG P l ⟨dd,.binOp .shl t x y t',ty,pos,af,gg⟩ w (.int k (k.wrap (m*2 ^ (min gr.toNat k.bits)))) w:=fun ρ h=>by
 have:¬ gr<0:=by omega
 simp [execOp,eqGuard,h _ _ ae,h _ _ aY,binOp,Op.shift,this]
theorem uc (ae:a6 l x=some (.int k m)) (aY:a6 l y=some (.int iC gr)) (b3:0≤gr):bG P l ⟨dd,.binOp .shr t x y t',ty,pos,af,gg⟩ w (.int k (m.fdiv (2 ^ (min gr.toNat k.bits)))) w:=fun ρ h=>by
 have:¬ gr<0:=by omega
 simp [execOp,eqGuard,h _ _ ae,h _ _ aY,binOp,Op.shift,this]
theorem zP (ae:a6 l x=some (.int k m)) (aY:a6 l y=some (.int k gr)):bG P l ⟨dd,.binOp .and t x y t',ty,pos,af,gg⟩ w (.int k (k.wrap (BitVec.ofInt k.bits m &&& BitVec.ofInt k.bits gr).toNat)) w:=fun ρ h=>by
 simp [execOp,eqGuard,h _ _ ae,h _ _ aY,binOp,Op.intBits]
theorem pC (ae:a6 l x=some (.int k m)) (aY:a6 l y=some (.int k gr)):bG P l ⟨dd,.binOp .or t x y t',ty,pos,af,gg⟩ w (.int k (k.wrap (BitVec.ofInt k.bits m ||| BitVec.ofInt k.bits gr).toNat)) w:=fun ρ h=>by
 simp [execOp,eqGuard,h _ _ ae,h _ _ aY,binOp,Op.intBits]
theorem cI (ae:a6 l x=some (.int k m)) (aY:a6 l y=some (.int k gr)):bG P l ⟨dd,.binOp .lss t x y t',ty,pos,af,gg⟩ w (.bool (decide (m<gr))) w:=fun ρ h=>by
 simp [execOp,eqGuard,h _ _ ae,h _ _ aY,binOp,Op.intCmp]
theorem pX (ae:a6 l x=some (.int k m)) (aY:a6 l y=some (.int k gr)):bG P l ⟨dd,.binOp .leq t x y t',ty,pos,af,gg⟩ w (.bool (decide (m≤gr))) w:=fun ρ h=>by
 simp [execOp,eqGuard,h _ _ ae,h _ _ aY,binOp,Op.intCmp]
theorem gq (ae:a6 l x=some (.int k m)) (aY:a6 l y=some (.int k gr)):bG P l ⟨dd,.binOp .gtr t x y t',ty,pos,af,gg⟩ w (.bool (decide (gr<m))) w:=fun ρ h=>by
 simp [execOp,eqGuard,h _ _ ae,h _ _ aY,binOp,Op.intCmp]
theorem dr (ae:a6 l x=some (.int k m)) (aY:a6 l y=some (.int k gr)):bG P l ⟨dd,.binOp .geq t x y t',ty,pos,af,gg⟩ w (.bool (decide (gr≤m))) w:=fun ρ h=>by
 simp [execOp,eqGuard,h _ _ ae,h _ _ aY,binOp,Op.intCmp]
theorem lT (ae:a6 l x=some (.int k m)) (aY:a6 l y=some (.int k gr)):bG P l ⟨dd,.binOp .eql t x y t',ty,pos,af,gg⟩ w (.bool (decide (m=gr))) w:=fun ρ h=>by
 simp [execOp,eqGuard,h _ _ ae,h _ _ aY,binOp,Op.intCmp,sd]
theorem eU (ae:a6 l x=some (.int k m)) (aY:a6 l y=some (.int k gr)):bG P l ⟨dd,.binOp .neq t x y t',ty,pos,af,gg⟩ w (.bool (decide (m≠gr))) w:=fun ρ h=>by
 have:(m != gr)=decide (m≠gr):=by
  by_cases h:m=gr <;> simp [h]
 simp [execOp,eqGuard,h _ _ ae,h _ _ aY,binOp,Op.intCmp,this]
theorem ff (ae:a6 l x=some (.bool b)):bG P l ⟨dd,.unOp .not t x,ty,pos,af,gg⟩ w (.bool (!b)) w:=fun ρ h=>by
 simp [execOp,h _ _ ae,Op.unary]
theorem sK {d0:TypeDesc} (bf:P.underlying t=some d0) (cf:P.underlying t'=some (.int iC)) (ae:a6 l x=some (.int k m)):bG P l ⟨dd,.convert t t' x,ty,pos,af,gg⟩ w (.int iC (iC.wrap m)) w:=fun ρ h=>by
 simp [execOp,h _ _ ae,convert,run_underlying bf,run_underlying cf,Conv.intToInt]
theorem j3 {d0:TypeDesc} (bf:P.underlying t=some d0) (cf:P.underlying t'=some (.int iC)) (ae:a6 l x=some (.int k m)) (aS:iC.wrap m=m):bG P l ⟨dd,.convert t t' x,ty,pos,af,gg⟩ w (.int iC m) w:=by
 have:=sK (P:=P) (w:=w) (dd:=dd) (gg:=gg) (ty:=ty) (pos:=pos) (af:=af) bf cf ae
 rwa [aS] at this
/-! ### strings -/
abbrev S (s:List UInt8):Value:=.string ⟨⟨s⟩⟩
theorem oj (s:List UInt8):(⟨⟨s⟩⟩:ByteArray).toList=s:=by
 exact ByteArray.toList_mk s
theorem dQ {u v:List UInt8} (ae:a6 l x=some (S u)) (aY:a6 l y=some (S v)):bG P l ⟨dd,.binOp .eql t x y t',ty,pos,af,gg⟩ w (.bool (decide (u=v))) w:=fun ρ h=>by
 simp [execOp,eqGuard,h _ _ ae,h _ _ aY,binOp,Op.stringOp,sd,oj]
theorem eu {u v:List UInt8} (ae:a6 l x=some (S u)) (aY:a6 l y=some (S v)):bG P l ⟨dd,.binOp .neq t x y t',ty,pos,af,gg⟩ w (.bool (decide (u≠v))) w:=fun ρ h=>by
 have:(!(u == v))=decide (u≠v):=by by_cases h:u=v <;> simp [h]
 simp [execOp,eqGuard,h _ _ ae,h _ _ aY,binOp,Op.stringOp,this,oj]
abbrev eR (u v:List UInt8):Bool:=Op.bytesLess u v
theorem abG {u v:List UInt8} (ae:a6 l x=some (S u)) (aY:a6 l y=some (S v)):bG P l ⟨dd,.binOp .lss t x y t',ty,pos,af,gg⟩ w (.bool (eR u v)) w:=fun ρ h=>by
 simp [execOp,eqGuard,h _ _ ae,h _ _ aY,binOp,Op.stringOp,oj,eR]
theorem vY {u v:List UInt8} (ae:a6 l x=some (S u)) (aY:a6 l y=some (S v)):bG P l ⟨dd,.binOp .gtr t x y t',ty,pos,af,gg⟩ w (.bool (!(eR u v||u == v))) w:=fun ρ h=>by
 simp [execOp,eqGuard,h _ _ ae,h _ _ aY,binOp,Op.stringOp,oj,eR]
theorem PJ {u v:List UInt8} (ae:a6 l x=some (S u)) (aY:a6 l y=some (S v)):bG P l ⟨dd,.binOp .leq t x y t',ty,pos,af,gg⟩ w (.bool (eR u v||u == v)) w:=fun ρ h=>by
 simp [execOp,eqGuard,h _ _ ae,h _ _ aY,binOp,Op.stringOp,oj,eR]
theorem zQ {u v:List UInt8} (ae:a6 l x=some (S u)) (aY:a6 l y=some (S v)):bG P l ⟨dd,.binOp .geq t x y t',ty,pos,af,gg⟩ w (.bool (!(eR u v))) w:=fun ρ h=>by
 simp [execOp,eqGuard,h _ _ ae,h _ _ aY,binOp,Op.stringOp,oj,eR]
theorem XT {u v:List UInt8} (ae:a6 l x=some (S u)) (aY:a6 l y=some (S v)) (aS:u.length+v.length≤9223372036854775807):bG P l ⟨dd,.binOp .add t x y t',ty,pos,af,gg⟩ w (S (u++v)) w:=fun ρ h=>by
 have h1:((u.length:Int)+v.length)≤IntKind.i64.max:=by
  have:IntKind.i64.max=9223372036854775807:=by decide
  omega
 have aq:(⟨⟨u⟩⟩:ByteArray)++⟨⟨v⟩⟩=⟨⟨u++v⟩⟩:=by
  apply ByteArray.ext;simp [ByteArray.data_append]
 have aU:(⟨⟨u⟩⟩:ByteArray).size=u.length:=rfl;have bM:(⟨⟨v⟩⟩:ByteArray).size=v.length:=rfl;simp only [execOp,eqGuard,h _ _ ae,h _ _ aY,binOp,Op.stringOp];simp [aU,bM,aq];exact h1
theorem bw {u:List UInt8} (bf:P.underlying t=some .string) (ae:a6 l x=some (S u)):bG P l ⟨dd,.call {callee:=.builtin .len,args:=#[x],argTypes:=#[t]},ty,pos,af,gg⟩ w (.int .i64 u.length) w:=fun ρ h=>by
 have aU:(⟨⟨u⟩⟩:ByteArray).size=u.length:=rfl;simp [execOp,resolve,invoke,builtin,Builtin.len_,h _ _ ae,run_underlying bf,goInt,aU]
theorem b' {u:List UInt8} {c:UInt8} (bf:P.underlying t=some .string) (ae:a6 l x=some (S u)) (aY:a6 l y=some (.int k m)) (b3:0≤m) (bj:u[m.toNat]? = some c):bG P l ⟨dd,.index t x y,ty,pos,af,gg⟩ w (.int .u8 c.toNat) w:=fun ρ h=>by
 have bJ:m.toNat<u.length:=(List.getElem?_eq_some_iff.1 bj).1;have aU:(⟨⟨u⟩⟩:ByteArray)[m.toNat]? = some c:=by
  have bM:m.toNat<(⟨⟨u⟩⟩:ByteArray).size:=bJ;have cL:=(List.getElem?_eq_some_iff.1 bj).2;rw [getElem?_pos (⟨⟨u⟩⟩:ByteArray) m.toNat bM,← cL];rfl
 simp [execOp,Instr.index,h _ _ ae,h _ _ aY,asIntOf,run_underlying bf,b3,aU]
/-! ### the rest that touches no memory -/
theorem eH {vs:Array Value} {i:Nat} {v:Value} (ae:a6 l x=some (.tuple vs)) (hi:vs[i]? = some v):bG P l ⟨dd,.extract x i,ty,pos,af,gg⟩ w v w:=fun ρ h=>by
 simp [execOp,Instr.extract,h _ _ ae,hi]
theorem ee {ad:Addr} (ae:a6 l x=some (.pointer (some ad))):bG P l ⟨dd,.nilCheck x,ty,pos,af,gg⟩ w (.pointer (some ad)) w:=fun ρ h=>by
 simp [execOp,h _ _ ae]
theorem Ee {e:TypeId} {ad:Option Addr} {c c':Nat} (dp:Nat) (he:P.underlying t=some (.slice e)):(Op.equalIn (dp+1) t (.slice ad c c') (.slice none 0 0)).run P w = .ok ad.isNone w:=by
 cases ad <;> simp [Op.equalIn,run_underlying he]
theorem Js {e:TypeId} {ad:Option Addr} {c c':Nat} (he:P.underlying t=some (.slice e)):(binOp .eql t (.slice ad c c') (.slice none 0 0)).run P w = .ok (.bool ad.isNone) w:=by
 have bk:binOp .eql t (.slice ad c c') (.slice none 0 0)=(do pure (.bool (← Op.equalIn (9999+1) t (.slice ad c c') (.slice none 0 0)))):=by cases ad <;> rfl
 have b2:=Ee (w:=w) (ad:=ad) (c:=c) (c':=c') 9999 he;rw [bk,Sem.run_bind,b2];rfl
theorem KS {ad:Option Addr} {c c' e:Nat} (he:P.underlying t=some (.slice e)) (ae:a6 l x=some (.slice ad c c')) (aY:a6 l y=some (.slice none 0 0)):bG P l ⟨dd,.binOp .eql t x y t',ty,pos,af,gg⟩ w (.bool ad.isNone) w:=fun ρ h=>by
 have:=Js (w:=w) (ad:=ad) (c:=c) (c':=c') he;simp only [execOp,eqGuard,h _ _ ae,h _ _ aY];simp [this]
theorem bl {ad:Option Addr} {c c' e:Nat} (he:P.underlying t=some (.slice e)) (ae:a6 l x=some (.slice ad c c')):bG P l ⟨dd,.call {callee:=.builtin .len,args:=#[x],argTypes:=#[t]},ty,pos,af,gg⟩ w (.int .i64 c) w:=fun ρ h=>by
 simp [execOp,resolve,invoke,builtin,Builtin.len_,h _ _ ae,run_underlying he,goInt]
theorem abB {ad:Option Addr} {c c' e:Nat} (he:P.underlying t=some (.slice e)) (ae:a6 l x=some (.slice ad c c')):bG P l ⟨dd,.call {callee:=.builtin .cap,args:=#[x],argTypes:=#[t]},ty,pos,af,gg⟩ w (.int .i64 c') w:=fun ρ h=>by
 simp [execOp,resolve,invoke,builtin,Builtin.cap_,h _ _ ae,run_underlying he,goInt]
theorem u9 {ρ:Operand→Value} (h:∀ x u,a6 l x=some u→ρ x=u):∀ (gD:List Operand) (us:List Value),GC l gD=some us→gD.map ρ=us:=by
 intro gD
 induction gD with
 | nil=>intro us hu;simp [GC] at hu;simp [← hu]
 | cons z gD dK=>
  intro us hu;simp only [GC] at hu
  split at hu
  ·rename_i v vs h1 aq
   simp only [Option.some.injEq] at hu;subst hu;simp [h _ _ h1,dK _ aq]
  cases hu
theorem RY {fn:Fn} {xs yd:Array Operand} {us vs:List Value} (ae:GC l xs.toList=some us) (aY:GC l yd.toList=some vs):bG P l ⟨dd,.makeFunc fn xs yd,ty,pos,af,gg⟩ w (.func fn us.toArray vs.toArray) w:=fun ρ h=>by
 have bk:xs.map ρ=us.toArray:=by apply Array.toList_inj.1;simpa using u9 h _ _ ae
 have b2:yd.map ρ=vs.toArray:=by apply Array.toList_inj.1;simpa using u9 h _ _ aY
 simp [execOp,Instr.makeFunc,bk,b2]
theorem I' {v:Value} {d0:TypeDesc} (he:P.underlying t=some d0) (ck:(match d0 with | .interface _=>false | _=>true)=true) (ae:a6 l x=some v):bG P l ⟨dd,.makeInterface t x,ty,pos,af,gg⟩ w (.iface t v) w:=fun ρ h=>by
 cases d0 <;> first | (simp at ck;done) | simp [execOp,Instr.makeInterface,h _ _ ae,run_underlying he]
/-! ### calls -/
def aQ (P:Program) (f:FuncId):Prop:=∀ args w,(callFunc f args).run P w = .ok (.enter f args) w
theorem aQ.of {f:FuncId} {fn:Func} (dI:P.funcs[f]? = some fn) (ck:(fn.name == "runtime.NumGoroutine")=false) (aS:fn.body.isNone=false):aQ P f:=fun args w=>by
 have h1:fn.name≠ "runtime.NumGoroutine" :=by simpa using ck
 cases bj:fn.body with
 | none=>rw [bj] at aS;cases aS
 | some c=>simp [callFunc,dI,h1,bj]
theorem bF {f:FuncId} {xs:List Operand} {us:List Value} {gV:Array TypeId} (he:aQ P f) (ae:GC l xs=some us):mh P l ⟨dd,.call {callee:=.value (.func f),args:=xs.toArray,argTypes:=gV},ty,pos,af,gg⟩ w f us.toArray:=fun ρ h=>by
 have bk:xs.map ρ=us:=u9 h _ _ ae;have b2:ρ (.func f) = .func (.func f) #[] #[]:=h _ _ rfl;have:=he us.toArray w;simp [execOp,resolve,b2,Deferred.ofValue,invoke,← bk] at this ⊢;simpa using this
theorem uv {f:FuncId} {g:Operand} {xs:List Operand} {us vs:List Value} {gV:Array TypeId} (he:aQ P f) (dA:a6 l g=some (.func (.func f) #[] vs.toArray)) (ae:GC l xs=some us):mh P l ⟨dd,.call {callee:=.value g,args:=xs.toArray,argTypes:=gV},ty,pos,af,gg⟩ w f (us++vs).toArray:=fun ρ h=>by
 have bk:xs.map ρ=us:=u9 h _ _ ae;have b2:ρ g = .func (.func f) #[] vs.toArray:=h _ _ dA;have:=he (us++vs).toArray w;simp [execOp,resolve,b2,Deferred.ofValue,invoke,← bk] at this ⊢;simpa using this
end
/-! ## Memory -/
structure Mod (M:List Nat) (w w':World):Prop where
 os:w'.os=w.os
 tape:w'.tape=w.tape
 output:w'.output=w.output
 size:w.heap.size≤w'.heap.size
 block:∀ i,i<w.heap.size→i∉M→w'.heap[i]? = w.heap[i]?
theorem Mod.refl (M:List Nat) (w:World):Mod M w w:=⟨rfl,rfl,rfl,Nat.le_refl _,fun _ _ _=>rfl⟩
theorem Mod.trans' {M N:List Nat} {a b c:World} (h:Mod M a b) (k:Mod N b c) (h7:∀ x∈N,x∈M∨a.heap.size≤x):Mod M a c:=
 ⟨k.os.trans h.os,k.tape.trans h.tape,k.output.trans h.output,Nat.le_trans h.size k.size,fun i hi eY=>
  (k.block i (Nat.lt_of_lt_of_le hi h.size) (fun ae=>by rcases h7 i ae with h1 | h1 <;> first | exact eY h1 | omega)).trans (h.block i hi eY)⟩
theorem Mod.trans {M:List Nat} {a b c:World} (h:Mod M a b) (k:Mod M b c):Mod M a c:=h.trans' k fun x ae=>.inl ae
theorem Mod.then {M:List Nat} {a b c:World} (h:Mod M a b) (k:Mod [] b c):Mod M a c:=h.trans' k fun x ae=>by cases ae
theorem Mod.own {M:List Nat} {a b c:World} {g:Nat} (h:Mod M a b) (k:Mod [g] b c) (dA:a.heap.size≤g):Mod M a c:=h.trans' k fun x ae=>by simp at ae;subst ae;exact .inr dA
theorem Mod.mono {M N:List Nat} {a b:World} (h:Mod M a b) (al7:∀ x∈M,x∈N):Mod N a b:=⟨h.os,h.tape,h.output,h.size,fun i hi h7=>h.block i hi (fun eY=>h7 (al7 i eY))⟩
theorem Mod.below {w w':World} (h:Mod [] w w'):RowKit.Below w.heap.size w w':=⟨h.os,h.tape,h.output,h.size,fun k hk=>h.block k hk (by simp)⟩
theorem Mod.drew (M:List Nat) (w:World):Mod M w w.drew:=⟨rfl,rfl,rfl,Nat.le_refl _,fun _ _ _=>rfl⟩
theorem Mod.alloc (w:World) (o:Obj):Mod [] w (w.alloc o):=⟨rfl,rfl,rfl,by simp,fun i hi _=>RowKit.Below.heap_alloc w o i hi⟩
def aF (w:World) (g:Nat) (T:TypeId) (cs:List Value):Prop:=w.heap[g]? = some (.cells cs.toArray T (0,0))
section
variable {w w':World} {g:Nat} {T:TypeId} {cs:List Value} {M:List Nat}
theorem aF.lt (h:aF w g T cs):g<w.heap.size:=(Array.getElem?_eq_some_iff.1 h).1
theorem aF.mod (h:aF w g T cs) (k:Mod M w w') (dA:g∉M):aF w' g T cs:=(k.block g h.lt dA).trans h
theorem aF.I (h:aF w g T cs) (k:Mod [] w w'):aF w' g T cs:=h.mod k (by simp)
theorem aF.ne {EX:Nat} (h:aF w g T cs) (k:Mod [EX] w w') (dA:g≠EX):aF w' g T cs:=h.mod k (by simp [dA])
theorem aF.cell (h:aF w g T cs) {i:Nat} {v:Value} (bK:cs[i]? = some v):w.cell? ⟨g,i,none⟩=some v:=by
 rw [cell_of_row w g i cs.toArray T (0,0) h];simpa using bK
theorem aF.frozen (h:aF w g T cs) (i:Nat):w.frozen? ⟨g,i,none⟩=false:=frozen_of_row w g i cs.toArray T h
end
def ri (w:World) (a:Addr) (vs:List Value):Prop:=∀ j v,vs[j]? = some v→w.cell? (a.add j)=some v
theorem ri.nil (w:World) (a:Addr):ri w a []:=fun j v h=>by simp at h
theorem aF.cs {w:World} {g:Nat} {T:TypeId} {cs vs:List Value} (h:aF w g T cs) {o:Nat} (bK:(cs.drop o).take vs.length=vs):ri w ⟨g,o,none⟩ vs:=by
 intro j v d';rw [Addr.add_lit];apply h.cell;have bJ:j<vs.length:=(List.getElem?_eq_some_iff.1 d').1;rw [← bK,List.getElem?_take,List.getElem?_drop] at d';simpa [bJ] using d'
theorem ri.mod {w w':World} {a:Addr} {vs:List Value} {M:List Nat} (h:ri w a vs) (k:Mod M w w') (eY:a.block∉M):ri w' a vs:=by
 intro j v d';have bj:=h j v d';have aS:(a.add j).block=a.block:=by unfold Addr.add;split <;> rfl
 have bJ:=World.block_lt_of_cell? w _ bj;rw [aS] at bJ;rw [← bj];exact World.cell?_of_block (by rw [aS];exact k.block _ bJ eY)
/-! ### what is asked of the program's table of types -/
def GD:TypeDesc→Bool
 | .struct _ | .array _ _=>true
 | _=>false
def nM (P:Program) (t:TypeId):Bool:=match P.underlying t,P.info? t with
 | some d,some i=>!GD d&&i.size == 1
 | _,_=>false
def rO (P:Program) (t:TypeId) (n:Nat):Bool:=match P.underlying t,P.info? t with
 | some d,some i=>GD d&&i.size == n
 | _,_=>false
def lC (P:Program) (t:TypeId) (e n fZ:Nat):Bool:=match P.underlying t,P.info? e with
 | some (.slice xe),some i=>xe == e&&i.size == n&&i.bytes == fZ&&(match i.zero with | some z=>z.cells.size == n | none=>false)
 | _,_=>false
def iz (P:Program) (t f off n:Nat):Bool:=match P.underlying t with
 | some (.struct p4)=>match p4[f]? with
  | some fd=>fd.offset == off&&(match P.info? fd.type with | some i=>i.size == n&&n != 0 | none=>false)
  | none=>false
 | _=>false
section
variable {P:Program} {t e n fZ k f off:Nat} {w:World}
theorem sO (h:nM P t=true):∃ d i,P.underlying t=some d∧P.info? t=some i∧GD d=false∧i.size=1:=by
 unfold nM at h
 split at h
 ·rename_i d i h1 aq
  simp only [Bool.and_eq_true,Bool.not_eq_true',beq_iff_eq] at h;exact⟨d,i,h1,aq,h.1,h.2⟩
 cases h
theorem Cx (h:rO P t n=true):∃ d i,P.underlying t=some d∧P.info? t=some i∧GD d=true∧i.size=n:=by
 unfold rO at h
 split at h
 ·rename_i d i h1 aq
  simp only [Bool.and_eq_true,beq_iff_eq] at h;exact⟨d,i,h1,aq,h.1,h.2⟩
 cases h
theorem ir (h:lC P t e n fZ=true):∃ i z,P.underlying t=some (.slice e)∧P.info? e=some i∧i.size=n∧i.bytes=fZ∧i.zero=some z∧z.cells.size=n:=by
 unfold lC at h
 split at h
 ·rename_i xe i h1 aq
  simp only [Bool.and_eq_true,beq_iff_eq] at h;obtain⟨⟨⟨ay,aS⟩,bj⟩,bY⟩:=h;subst ay
  split at bY
  ·rename_i z dk
   exact⟨i,z,h1,aq,aS,bj,dk,by simpa using bY⟩
  cases bY
 cases h
theorem NU (h:iz P t f off n=true):∃ p4 fd i,P.underlying t=some (.struct p4)∧p4[f]? = some fd∧fd.offset=off∧P.info? fd.type=some i∧i.size=n∧n≠0:=by
 unfold iz at h
 split at h
 ·rename_i p4 h1
  split at h
  ·rename_i fd aq
   simp only [Bool.and_eq_true,beq_iff_eq] at h;obtain⟨ay,aS⟩:=h
   split at aS
   ·rename_i i aU
    simp only [Bool.and_eq_true,beq_iff_eq,bne_iff_ne,ne_eq] at aS;exact⟨p4,fd,i,h1,aq,ay,aU,aS.1,aS.2⟩
   cases aS
  cases h
 cases h
theorem kK {d:TypeDesc} (h:P.underlying t=some d):(isAgg t).run P w = .ok (GD d) w:=by
 unfold isAgg;simp only [Sem.run_bind,run_underlying h,Result.andThen_ok];cases d <;> rfl
theorem cM {i:TypeInfo} (h:P.info? t=some i):(sizeOf t).run P w = .ok i.size w:=by
 simp [sizeOf,typeInfo,h]
theorem kU (h:nM P t=true) {a:Addr} {v:Value} (bj:w.cell? a=some v):(loadVar t a).run P w = .ok v w:=by
 obtain⟨d,i,h1,aq,aU,bM⟩:=sO h;unfold loadVar;simp [kK h1,aU,bj]
theorem hy (h:rO P t n=true) {a:Addr} {vs:List Value} (ck:vs.length=n) (bj:ri w a vs):(loadVar t a).run P w = .ok (.agg vs.toArray) w:=by
 obtain⟨d,i,h1,aq,aU,bM⟩:=Cx h;subst ck;unfold loadVar;have:=run_loadCells_list (P:=P) w a vs bj;simp [kK h1,aU,cM aq,bM,this]
end
section
variable {P:Program} {ops:Array Oper} {Q:Exit→Act→World→Prop} {n:Nat} {ds:List Deferred} {l:List (Nat×Value)} {w w':World} {a:Act}
variable {rest:List Oper} {d:Nat} {op:Op} {ty:TypeId} {pos:String} {af:Array Edge}
variable {dd:Option Nat} {gg:Option (Nat×Bool)} {x y z:Operand} {t t':TypeId} {k iC:IntKind} {m gr:Int} {b e8:Bool}
theorem bc {v:Value} {ad:Addr} (cf:nM P t=true) (ae:a6 l x=some (.pointer (some ad))) (bj:w.cell? ad=some v):bG P l ⟨dd,.load t x,ty,pos,af,gg⟩ w v w:=fun ρ h=>by
 simp [execOp,Instr.loadAt,Instr.sureAddr,h _ _ ae,kU cf bj]
theorem a8 {vs:List Value} {ad:Addr} {c:Nat} (cf:rO P t c=true) (ae:a6 l x=some (.pointer (some ad))) (ck:vs.length=c) (bj:ri w ad vs):bG P l ⟨dd,.load t x,ty,pos,af,gg⟩ w (.agg vs.toArray) w:=fun ρ h=>by
 simp [execOp,Instr.loadAt,Instr.sureAddr,h _ _ ae,hy cf ck bj]
theorem dD {ad:Addr} {f o c:Nat} (cf:iz P t f o c=true) (ae:a6 l x=some (.pointer (some ad))):bG P l ⟨dd,.fieldAddr t x f,ty,pos,af,gg⟩ w (.pointer (some (ad.add o))) w:=fun ρ h=>by
 obtain⟨p4,fd,i,h1,aq,aU,bM,cL,eW⟩:=NU cf;have kz:¬ i.size=0:=by omega
 simp [execOp,Instr.fieldAt,Instr.sureAddr,h _ _ ae,run_underlying h1,aq,fieldPlace,cM bM,kz,aU]
theorem xt {g off f o c:Nat} (cf:iz P t f o c=true) (ae:a6 l x=some (.pointer (some ⟨g,off,none⟩))):bG P l ⟨dd,.fieldAddr t x f,ty,pos,af,gg⟩ w (.pointer (some ⟨g,off+o,none⟩)) w:=by
 have:=dD (w:=w) (dd:=dd) (gg:=gg) (ty:=ty) (pos:=pos) (af:=af) cf ae
 rwa [Addr.add_lit] at this
theorem av {g f o c:Nat} (cf:iz P t f o c=true) (ae:a6 l x=some (.pointer (some ⟨g,0,none⟩))):bG P l ⟨dd,.fieldAddr t x f,ty,pos,af,gg⟩ w (.pointer (some ⟨g,o,none⟩)) w:=by
 have:=xt (w:=w) (dd:=dd) (gg:=gg) (ty:=ty) (pos:=pos) (af:=af) cf ae
 rwa [Nat.zero_add] at this
theorem b6 {ad:Addr} {c c' e sz aq3:Nat} (cf:lC P t e sz aq3=true) (ae:a6 l x=some (.slice (some ad) c c')) (aY:a6 l y=some (.int k m)) (aS:0≤m∧m<c):bG P l ⟨dd,.indexAddr t x y,ty,pos,af,gg⟩ w (.pointer (some (ad.add (m.toNat*sz)))) w:=fun ρ h=>by
 obtain⟨i,z,h1,aq,aU,bM,cL,eW⟩:=ir cf;simp [execOp,Instr.indexAt,h _ _ ae,h _ _ aY,asIntOf,run_underlying h1,aS.1,aS.2,cM aq,aU]
/-! ### new blocks -/
structure kt (w w':World) (g:Nat) (T:TypeId) (cs:List Value):Prop where
 az:aF w' g T cs
 at_:g=w.heap.size
 mod:Mod [] w w'
 size:w'.heap.size=g+1
theorem kt.mk' (w:World) (T:TypeId) (cs:List Value):kt w (w.alloc (.cells cs.toArray T)) w.heap.size T cs:=
 ⟨heap_alloc_new w _,rfl,Mod.alloc w _,by simp⟩
theorem kt.ne {w w':World} {g EX T NK:Nat} {cs cs':List Value} (h:kt w w' g T cs) (k:aF w EX NK cs'):EX≠g:=by
 have:=k.lt;have:=h.at_;omega
theorem kt.le {w0 w w':World} {M:List Nat} {g T:Nat} {cs:List Value} (h:kt w w' g T cs) (k:Mod M w0 w):w0.heap.size≤g:=by
 have:=k.size;have:=h.at_;omega
theorem IK {v:Value} {cs:List Value} {T:Nat} (ae:a6 l x=some v) (bK:v.cells=cs.toArray):bG P l ⟨dd,.box T x,ty,pos,af,gg⟩ w (.pointer (some ⟨w.heap.size,0,none⟩)) (w.alloc (.cells cs.toArray T)):=fun ρ fg=>by
 simp [execOp,Instr.box,newVar,newRow,fg _ _ ae,bK]
theorem dP {v:Value} {cs:List Value} {T:Nat} (ae:a6 l x=some v) (bK:v.cells=cs.toArray) (bY:Nat.blt d n=true)
  (h:∀ g w',kt w w' g T cs→ga P ops Q rest n ds ((d,.pointer (some ⟨g,0,none⟩))::l) w') :
  ga P ops Q (⟨some d,.box T x,ty,pos,af,none⟩::rest) n ds l w:=fP (IK ae bK) bY (h _ _ (kt.mk' w T cs))
def hG (P:Program) (t:TypeId) (cs:List Value):Prop:=((P.info? t).bind (·.zero)).map (·.cells)=some cs.toArray
theorem om {t:Nat} {cs:List Value} (h:hG P t cs):∃ i z,P.info? t=some i∧i.zero=some z∧z.cells=cs.toArray:=by
 unfold hG at h;obtain⟨z,dk,aq⟩:=Option.map_eq_some_iff.1 h;obtain⟨i,hi,aU⟩:=Option.bind_eq_some_iff.1 dk;exact⟨i,z,hi,aU,aq⟩
theorem GF {cs:List Value} {T:Nat} (dk:hG P T cs):bG P l ⟨dd,.alloc T,ty,pos,af,gg⟩ w (.pointer (some ⟨w.heap.size,0,none⟩)) (w.alloc (.cells cs.toArray T)):=fun ρ fg=>by
 obtain⟨i,z,h1,aq,aU⟩:=om dk;simp [execOp,Instr.alloc,zeroValue,typeInfo,h1,aq,newVar,newRow,aU]
theorem bt {cs:List Value} {T:Nat} (dk:hG P T cs) (bY:Nat.blt d n=true)
  (h:∀ g w',kt w w' g T cs→ga P ops Q rest n ds ((d,.pointer (some ⟨g,0,none⟩))::l) w') :
  ga P ops Q (⟨some d,.alloc T,ty,pos,af,none⟩::rest) n ds l w:=fP (GF dk) bY (h _ _ (kt.mk' w T cs))
/-! ### writing -/
theorem Ef {g T i:Nat} {cs:List Value} {v:Value} (h:aF w g T cs):aF (w.setCell ⟨g,i,none⟩ v) g T (cs.set i v):=by
 unfold aF at h ⊢;rw [heap_setCell_same w g i cs.toArray T v h];simp
theorem Eg (w:World) (g i:Nat) (v:Value):Mod [g] w (w.setCell ⟨g,i,none⟩ v):=
 ⟨rfl,rfl,rfl,by simp [World.setCell],fun j d' ck=>heap_setCell_other w ⟨g,i,none⟩ j v (by simpa using ck)⟩
structure Rp (w w':World) (g:Nat) (T:TypeId) (cs:List Value):Prop where
 az:aF w' g T cs
 mod:Mod [g] w w'
 size:w'.heap.size=w.heap.size
theorem GG (w:World) (g:Nat) (cs:Array Value):Mod [g] w (w.setRow g cs):=
 ⟨rfl,rfl,rfl,by simp,fun j d' ck=>by
  simp only [List.mem_singleton] at ck
  simp [World.setRow,Array.getElem?_modify,Ne.symm ck]⟩
def splice (cs:List Value) (o:Nat) (vs:List Value):List Value:=cs.take o++vs++cs.drop (o+vs.length)
theorem hz {g o T:Nat} {cs vs:List Value} (h:aF w g T cs) (eo:o+vs.length≤cs.length) (h1:∀ v∈vs,v.oneCell'=true) :
  ∃ w',(storeCells ⟨g,o,none⟩ vs).run P w = .ok () w'∧Rp w w' g T (splice cs o vs):=by
 have bq:=run_storeCells_at P g o T vs 0 cs.toArray w h (by simpa using eo) h1
 refine⟨_,bq,⟨?_,GG w g _,by simp⟩⟩
 have:=setRow_heap w g cs.toArray (splice cs o vs).toArray T (0,0) h
 unfold aF
 simpa [splice] using this
theorem ea {v:Value} {g i T:Nat} {cs:List Value} (cf:nM P t=true) (B:aF w g T cs) (ae:a6 l x=some (.pointer (some ⟨g,i,none⟩))) (aY:a6 l y=some v) (bK:v.oneCell'=true) (hi:i<cs.length)
  (h:∀ w',Rp w w' g T (cs.set i v)→ga P ops Q rest n ds l w') :
  ga P ops Q (⟨none,.store t x y,ty,pos,af,none⟩::rest) n ds l w:=by
 obtain⟨XV,inf,h1,aq,aU,bM⟩:=sO cf
 have bj:v.cells = #[v]:=by cases v <;> first | rfl | (simp [Value.oneCell'] at bK)
 have bq:Jr P l ⟨none,.store t x y,ty,pos,af,none⟩ w (w.setCell ⟨g,i,none⟩ v):=fun ρ fg=>by
  have adk:=B.cell (i:=i) (v:=cs[i]) (by simp [hi])
  have dI:=B.frozen i
  have:=run_store P w ⟨g,i,none⟩ v .plain bK
  rw [adk] at this
  simp [dI] at this
  simp [execOp,Instr.storeAt,Instr.sureAddr,fg _ _ ae,fg _ _ aY,storeVar,bj,cM aq,bM,storeCells,Addr.add_zero',this]
 exact apk bq (h _ ⟨Ef B,Eg w g i v,by simp [World.setCell]⟩)
theorem bo {vs:List Value} {g i T c:Nat} {cs:List Value} (cf:rO P t c=true) (B:aF w g T cs) (ae:a6 l x=some (.pointer (some ⟨g,i,none⟩))) (aY:a6 l y=some (.agg vs.toArray)) (bj:vs.length=c)
  (bK:∀ v∈vs,v.oneCell'=true) (hi:i+vs.length≤cs.length)
  (h:∀ w',Rp w w' g T (splice cs i vs)→ga P ops Q rest n ds l w') :
  ga P ops Q (⟨none,.store t x y,ty,pos,af,none⟩::rest) n ds l w:=by
 obtain⟨XV,inf,h1,aq,aU,bM⟩:=Cx cf
 obtain⟨aB,bq,cp⟩:=hz (P:=P) B hi bK
 have bq:Jr P l ⟨none,.store t x y,ty,pos,af,none⟩ w aB:=fun ρ fg=>by
  simp [execOp,Instr.storeAt,Instr.sureAddr,fg _ _ ae,fg _ _ aY,storeVar,Value.cells,cM aq,bM,bj,bq]
 exact apk bq (h _ cp)
end
/-! ## What values read as -/
inductive D where
 | v (x:Value)
 | ie (sz:Nat) (rows:List (List D))
mutual
def ba (A:List Nat) (w:World):D→Value→Prop
 | .v x,u=>u=x∧x.oneCell'=true
 | .ie sz rows,u=>∃ ad c,u = .slice ad rows.length c∧rows.length≤c∧c≤maxLen∧
   (rows≠[]→∃ a,ad=some a∧a.block∉A∧a.block<w.heap.size∧c7 A w sz a 0 rows)
def c7 (A:List Nat) (w:World) (sz:Nat) (a:Addr):Nat→List (List D)→Prop
 | _,[]=>True
 | i,r::rs=>r.length=sz∧eO A w (a.add (i*sz)) 0 r∧c7 A w sz a (i+1) rs
def eO (A:List Nat) (w:World) (a:Addr):Nat→List D→Prop
 | _,[]=>True
 | j,d::ds=>(∃ u,w.cell? (a.add j)=some u∧ba A w d u)∧eO A w a (j+1) ds
end
def ao (A:List Nat) (w:World):List D→List Value→Prop
 | [],vs=>vs = []
 | d::ds,vs=>∃ u us,vs=u::us∧ba A w d u∧ao A w ds us
section
variable {A A' M:List Nat} {w w':World}
theorem mi (a:Addr) (n:Nat):(a.add n).block=a.block:=by unfold Addr.add;split <;> rfl
mutual
theorem ba.to (k:Mod M w w') (eY:∀ x∈M,x∈A) (dF:∀ x∈A',x∈A∨w.heap.size≤x):∀ (d:D) (u:Value),ba A w d u→ba A' w' d u
 | .v x,u,h=>by simp only [ba] at h ⊢;exact h
 | .ie sz rows,u,h=>by
  simp only [ba] at h ⊢
  obtain⟨ad,c,h1,aq,aU,bM⟩:=h
  refine⟨ad,c,h1,aq,aU,fun ck=>?_⟩
  obtain⟨a,cL,eW,kz,kq⟩:=bM ck
  exact⟨a,cL,fun ae=>by rcases dF _ ae with k0 | k0 <;> first | exact eW k0 | omega,Nat.lt_of_lt_of_le kz k.size,c7.to k eY dF sz a eW kz 0 rows kq⟩
theorem c7.to (k:Mod M w w') (eY:∀ x∈M,x∈A) (dF:∀ x∈A',x∈A∨w.heap.size≤x) (sz:Nat) (a:Addr) (ay:a.block∉A) (aS:a.block<w.heap.size):∀ (i:Nat) (rows:List (List D)),c7 A w sz a i rows→c7 A' w' sz a i rows
 | _,[],_=>by simp only [c7]
 | i,r::rs,h=>by
  simp only [c7] at h ⊢
  exact⟨h.1,eO.to k eY dF _ (by rw [mi];exact ay) (by rw [mi];exact aS) 0 r h.2.1,c7.to k eY dF sz a ay aS (i+1) rs h.2.2⟩
theorem eO.to (k:Mod M w w') (eY:∀ x∈M,x∈A) (dF:∀ x∈A',x∈A∨w.heap.size≤x) (a:Addr) (ay:a.block∉A) (aS:a.block<w.heap.size):∀ (j:Nat) (r:List D),eO A w a j r→eO A' w' a j r
 | _,[],_=>by simp only [eO]
 | j,d::ds,h=>by
  simp only [eO] at h ⊢
  obtain⟨⟨u,bj,bq⟩,cf⟩:=h
  refine⟨⟨u,?_,ba.to k eY dF d u bq⟩,eO.to k eY dF a ay aS (j+1) ds cf⟩
  rw [← bj]
  exact World.cell?_of_block (by rw [mi];exact k.block _ aS (fun ae=>ay (eY _ ae)))
end
theorem ao.to (k:Mod M w w') (eY:∀ x∈M,x∈A) (dF:∀ x∈A',x∈A∨w.heap.size≤x):∀ (ds:List D) (us:List Value),ao A w ds us→ao A' w' ds us
 | [],us,h=>h
 | d::ds,us,h=>by
  simp only [ao] at h ⊢
  obtain⟨u,gb,rfl,h1,aq⟩:=h
  exact⟨u,gb,rfl,ba.to k eY dF d u h1,ao.to k eY dF ds gb aq⟩
theorem ao.length:∀ {ds:List D} {us:List Value},ao A w ds us→us.length=ds.length
 | [],us,h=>by simp only [ao] at h;subst h;rfl
 | d::ds,us,h=>by
  simp only [ao] at h
  obtain⟨u,gb,rfl,_,aq⟩:=h
  simp [aq.length]
theorem ba.one:∀ {d:D} {u:Value},ba A w d u→u.oneCell'=true
 | .v x,u,h=>by simp only [ba] at h;rw [h.1];exact h.2
 | .ie sz rows,u,h=>by
  simp only [ba] at h
  obtain⟨ad,c,h1,_⟩:=h
  subst h1
  rfl
theorem ao.one:∀ {ds:List D} {us:List Value},ao A w ds us→∀ u∈us,u.oneCell'=true
 | [],us,h=>by simp only [ao] at h;subst h;intro u hu;cases hu
 | d::ds,us,h=>by
  simp only [ao] at h
  obtain⟨u,gb,rfl,h1,aq⟩:=h
  intro x ae
  rcases List.mem_cons.1 ae with rfl | ae
  ·exact h1.one
  exact aq.one x ae
theorem ao.append {ds R':List D} {us gb:List Value} (h:ao A w ds us) (fh:ao A w R' gb):ao A w (ds++R') (us++gb):=by
 induction ds generalizing us with
 | nil=>simp only [ao] at h;subst h;simpa using fh
 | cons d ds dK=>
  simp only [ao] at h;obtain⟨u,Qt,rfl,h1,aq⟩:=h;simp only [List.cons_append,ao];exact⟨u,Qt++gb,rfl,h1,dK aq⟩
theorem ao.cut {ds R':List D} {us:List Value} (h:ao A w (ds++R') us):ao A w ds (us.take ds.length)∧ao A w R' (us.drop ds.length):=by
 induction ds generalizing us with
 | nil=>exact⟨by simp [ao],by simpa using h⟩
 | cons d ds dK=>
  simp only [List.cons_append,ao] at h;obtain⟨u,Qt,rfl,h1,aq⟩:=h;obtain⟨i1,i2⟩:=dK aq;exact⟨by simp only [List.length_cons,List.take_succ_cons,ao];exact⟨u,_,rfl,h1,i1⟩,by simpa using i2⟩
theorem ao.mO:ao A w [] []:=rfl
theorem ao.gL {d:D} {ds:List D} {u:Value} {us:List Value} (h:ba A w d u) (fh:ao A w ds us):ao A w (d::ds) (u::us):=⟨u,us,rfl,h,fh⟩
theorem ba.cO {x:Value} (h:x.oneCell'=true):ba A w (.v x) x:=by simp only [ba];exact⟨trivial,h⟩
theorem ba.l4 {x u:Value} (h:ba A w (.v x) u):u=x:=by simp only [ba] at h;exact h.1
theorem eO.cells {a:Addr}:∀ {j:Nat} {r:List D},eO A w a j r→∃ us,ao A w r us∧∀ i u,us[i]? = some u→w.cell? (a.add (j+i))=some u
 | j,[],_=>⟨[],rfl,fun i u h=>by simp at h⟩
 | j,d::ds,h=>by
  simp only [eO] at h
  obtain⟨⟨u,bj,bq⟩,cf⟩:=h
  obtain⟨us,h1,aq⟩:=cf.cells
  refine⟨u::us,⟨u,us,rfl,bq,h1⟩,fun i x ae=>?_⟩
  cases i with
  | zero=>simp at ae;subst ae;simpa using bj
  | succ i=>have:=aq i x (by simpa using ae);rwa [show j+(i+1)=j+1+i by omega]
theorem eO.Cy {a:Addr}:∀ {j:Nat} {r:List D} {us:List Value},ao A w r us→(∀ i u,us[i]? = some u→w.cell? (a.add (j+i))=some u)→eO A w a j r
 | j,[],us,_,_=>by simp only [eO]
 | j,d::ds,us,h,bj=>by
  simp only [ao] at h
  obtain⟨u,gb,rfl,h1,aq⟩:=h
  simp only [eO]
  exact⟨⟨u,by simpa using bj 0 u (by simp),h1⟩,eO.Cy aq (fun i x ae=>by have:=bj (i+1) x (by simpa using ae);rwa [show j+1+i=j+(i+1)by omega])⟩
theorem c7.row {sz:Nat} {a:Addr}:∀ {i:Nat} {rows:List (List D)},c7 A w sz a i rows→∀ j r,rows[j]? = some r→r.length=sz∧eO A w (a.add ((i+j)*sz)) 0 r
 | i,[],_,j,r,bq=>by simp at bq
 | i,aax::rs,h,j,r,bq=>by
  simp only [c7] at h
  cases j with
  | zero=>simp at bq;subst bq;exact⟨h.1,by simpa using h.2.1⟩
  | succ j=>
   have:=c7.row h.2.2 j r (by simpa using bq)
   rwa [show i+1+j=i+(j+1)by omega] at this
theorem c7.zR {sz:Nat} {a:Addr}:∀ {i:Nat} {rows:List (List D)},(∀ j r,rows[j]? = some r→r.length=sz∧eO A w (a.add ((i+j)*sz)) 0 r)→c7 A w sz a i rows
 | i,[],_=>by simp only [c7]
 | i,aax::rs,h=>by
  simp only [c7]
  have b3:=h 0 aax rfl
  exact⟨b3.1,by simpa using b3.2,c7.zR fun j r bq=>by have:=h (j+1) r (by simpa using bq);rwa [show i+(j+1)=i+1+j by omega] at this⟩
theorem ba.uu {sz:Nat} {rows:List (List D)} {u:Value} (h:ba A w (.ie sz rows) u):∃ ad c,u = .slice ad rows.length c∧rows.length≤c∧c≤9223372036854775807:=by
 simp only [ba] at h;obtain⟨ad,c,h1,aq,aU,_⟩:=h;exact⟨ad,c,h1,aq,by simp only [maxLen] at aU;omega⟩
theorem ba.at_ {sz:Nat} {rows:List (List D)} {ad:Option Addr} {n c i:Nat} {r:List D} (h:ba A w (.ie sz rows) (.slice ad n c)) (hi:rows[i]? = some r) :
  ∃ a us,ad=some a∧ao A w r us∧us.length=sz∧ri w (a.add (i*sz)) us∧a.block∉A:=by
 simp only [ba] at h
 obtain⟨rT,c',h1,aq,aU,bM⟩:=h
 injection h1 with h1 cL eW
 subst h1
 obtain⟨a,ay,dF,aS,bq⟩:=bM (by intro he;subst he;simp at hi)
 obtain⟨cg,xq⟩:=bq.row i r hi
 rw [Nat.zero_add] at xq
 obtain⟨us,kz,kq⟩:=xq.cells
 exact⟨a,us,ay,kz,by rw [kz.length,cg],fun j v d'=>by have:=kq j v d';rwa [Nat.zero_add] at this,dF⟩
theorem ba.en {sz:Nat}:ba A w (.ie sz []) (.slice none 0 0):=by
 simp only [ba];exact⟨none,0,rfl,Nat.le_refl _,by simp [maxLen],fun h=>absurd rfl h⟩
theorem ba.Sa {sz:Nat} {rows:List (List D)} {a:Addr} {n c:Nat} (ck:rows.length=n) (bj:n≤c) (hm:c≤maxLen) (dF:a.block∉A) (aS:a.block<w.heap.size)
  (h:∀ i r,rows[i]? = some r→r.length=sz∧∃ us,ao A w r us∧ri w (a.add (i*sz)) us):ba A w (.ie sz rows) (.slice (some a) n c):=by
 simp only [ba]
 subst ck
 refine⟨some a,c,rfl,bj,hm,fun _=>⟨a,rfl,dF,aS,c7.zR fun j r bq=>?_⟩⟩
 obtain⟨h1,us,aq,aU⟩:=h j r bq
 exact⟨h1,eO.Cy aq (fun i u hu=>by rw [Nat.zero_add,Nat.zero_add];exact aU i u hu)⟩
theorem ao.qZ:∀ {sz:Nat} {rows:List (List D)} {us:List Value},(∀ r∈rows,r.length=sz)→ao A w rows.flatten us→∀ i r,rows[i]? = some r→ao A w r ((us.drop (i*sz)).take sz)
 | sz,[],us,_,_,i,r,bq=>by simp at bq
 | sz,aax::rs,us,cg,h,i,r,bq=>by
  simp only [List.flatten_cons] at h
  obtain⟨h1,aq⟩:=h.cut
  have b3:=cg aax (by simp)
  rw [b3] at h1 aq
  cases i with
  | zero=>simp at bq;subst bq;simpa using h1
  | succ i=>
   have:=ao.qZ (fun r bq=>cg r (by simp [bq])) aq i r (by simpa using bq)
   rwa [List.drop_drop,show sz+i*sz=(i+1)*sz by rw [Nat.add_mul];omega] at this
end
/-! ## Slices of the call's own -/
def a1:Value→List Nat
  | .slice (some a) _ _=>[a.block]
  | _=>[]
def Own (w:World) (e sz:Nat) (v:Value) (n:Nat) (vs:List Value):Prop:=
  vs.length=n*sz∧
  ((v = .slice none 0 0∧n=0)∨
   ∃ g o c cs,v = .slice (some ⟨g,o,none⟩) n c∧aF w g e cs∧n≤c∧c≤maxLen∧o+c*sz≤cs.length∧(cs.drop o).take (n*sz)=vs)
section
variable {w w':World} {e sz n:Nat} {v:Value} {vs:List Value} {M:List Nat}
theorem Own.nil (w:World) (e sz:Nat):Own w e sz (.slice none 0 0) 0 []:=⟨by simp,.inl ⟨rfl,rfl⟩⟩
theorem Own.len (h:Own w e sz v n vs):vs.length=n*sz:=h.1
theorem Own.form (h:Own w e sz v n vs):∃ ad c,v = .slice ad n c∧n≤c∧c≤9223372036854775807:=by
  rcases h.2 with⟨rfl,rfl⟩ | ⟨g,o,c,cs,rfl,_,aq,aU,_⟩
  ·exact⟨none,0,rfl,Nat.le_refl _,by omega⟩
  exact⟨_,c,rfl,aq,by simp only [maxLen] at aU;omega⟩
theorem Own.mod (h:Own w e sz v n vs) (k:Mod M w w') (eY:∀ x∈a1 v,x∉M):Own w' e sz v n vs:=by
  refine⟨h.1,?_⟩;rcases h.2 with b3 | ⟨g,o,c,cs,rfl,h1,aq⟩
  ·exact .inl b3
  exact .inr ⟨g,o,c,cs,rfl,h1.mod k (eY g (by simp [a1])),aq⟩
theorem Own.I (h:Own w e sz v n vs) (k:Mod [] w w'):Own w' e sz v n vs:=h.mod k (by simp)
theorem Own.lt (h:Own w e sz v n vs):∀ x∈a1 v,x<w.heap.size:=by
  rcases h.2 with⟨rfl,_⟩ | ⟨g,o,c,cs,rfl,h1,_⟩
  ·simp [a1]
  intro x ae;simp [a1] at ae;subst ae;exact h1.lt
theorem Own.cs {ad:Addr} {c:Nat} (h:Own w e sz (.slice (some ad) n c) n vs):ri w ad vs:=by
  rcases h.2 with⟨h1,_⟩ | ⟨g,o,c',cs,h1,aq,aU,bM,cL,eW⟩
  ·cases h1
  injection h1 with h1
  injection h1 with h1
  subst h1;exact aq.cs (by rw [h.1];exact eW)
theorem Own.XW {g c:Nat} {cs:List Value} (h:aF w g e cs) (cg:cs.length=c*sz) (ck:n≤c) (bj:c≤9223372036854775807):Own w e sz (.slice (some ⟨g,0,none⟩) n c) n (cs.take (n*sz)):=by
  have hle:n*sz≤c*sz:=Nat.mul_le_mul_right _ ck;refine⟨by simp;omega,.inr ⟨g,0,c,cs,rfl,h,ck,by simp only [maxLen];omega,by omega,by simp⟩⟩
theorem Own.all {g c:Nat} {cs:List Value} (h:aF w g e cs) (cg:cs.length=c*sz) (bj:c≤9223372036854775807):Own w e sz (.slice (some ⟨g,0,none⟩) c c) c cs:=by
  have:=Own.XW (n:=c) h cg (Nat.le_refl _) bj
  rwa [List.take_of_length_le (by omega)] at this
theorem Own.rep {A:List Nat} {rows:List (List D)} (h:Own w e sz v n vs) (bq:ao A w rows.flatten vs) (cg:∀ r∈rows,r.length=sz) (ck:rows.length=n) (dF:∀ x∈a1 v,x∉A):ba A w (.ie sz rows) v:=by
  rcases h.2 with⟨rfl,b3⟩ | ⟨g,o,c,cs,rfl,h1,aq,aU,bM,cL⟩
  ·have:rows = []:=List.eq_nil_of_length_eq_zero (by omega);subst this;exact ba.en
  refine ba.Sa ck aq aU (dF g (by simp [a1])) h1.lt fun i r hi=>?_;have aq4:=(List.getElem?_eq_some_iff.1 hi).1;have Qn:=cg r (List.mem_of_getElem? hi);refine⟨Qn,_,ao.qZ cg bq i r hi,?_⟩;rw [Addr.add_lit];refine h1.cs ?_;have hle:(i+1)*sz≤n*sz:=Nat.mul_le_mul_right _ (by omega);rw [Nat.add_mul] at hle;have hlen:(List.take sz (List.drop (i*sz) vs)).length=sz:=by rw [List.length_take,List.length_drop,h.1];omega
  rw [hlen,← cL,List.drop_take,List.take_take,List.drop_drop]
  congr 1
  omega
end
section
variable {P:Program} {ops:Array Oper} {Q:Exit→Act→World→Prop} {n:Nat} {ds:List Deferred} {l:List (Nat×Value)} {w w':World} {a:Act}
variable {rest:List Oper} {d:Nat} {op:Op} {ty:TypeId} {pos:String} {af:Array Edge}
variable {dd:Option Nat} {gg:Option (Nat×Bool)} {x y z:Operand} {t t':TypeId} {k iC:IntKind} {m gr:Int} {b e8:Bool}
/-! ### what is appended -/
theorem Src.own {qY e xe sz c:Nat} {v:Value} {vs:List Value} (hk:P.underlying qY=some (.slice xe)) (h:Own w e sz v c vs) (h1:∀ u∈vs,u.oneCell'=true):Src P sz qY v c vs w:=by
  rcases h.2 with⟨rfl,b3⟩ | ⟨g,o,c',cs,rfl,_⟩
  ·subst b3;have:vs = []:=List.eq_nil_of_length_eq_zero (by simpa using h.1);subst this;exact Src.ofNil w hk 0
  exact Src.ofSlice w hk _ _ _ _ h.1 (fun j u hu=>h.cs j u hu) h1
theorem Src.rep {A:List Nat} {qY xe sz:Nat} {rows:List (List D)} {v:Value} (hk:P.underlying qY=some (.slice xe)) (h:ba A w (.ie sz rows) v):∃ vs,ao A w rows.flatten vs∧vs.length=rows.length*sz∧Src P sz qY v rows.length vs w:=by
  cases ub:rows with
  | nil=>
    subst ub;simp only [ba] at h;obtain⟨ad,c,rfl,aq,aU,bM⟩:=h;refine⟨[],rfl,by simp,?_⟩;cases ad with
    | none=>exact Src.ofNil w hk c
    | some ad=>exact Src.ofSlice w hk ad 0 c [] (by simp) (fun j u hu=>by simp at hu) (fun u hu=>by cases hu)
  | cons aax rs=>
    rw [← ub];have fh:=h;simp only [ba] at h;obtain⟨ad,c,rfl,aq,aU,bM⟩:=h;obtain⟨ad,rfl,dF,aS,bq⟩:=bM (by simp [ub])
    -- all rows, one behind the other
    have key:∀ (i:Nat) (rws:List (List D)),c7 A w sz ad i rws→∃ vs,ao A w rws.flatten vs∧vs.length=rws.length*sz∧∀ j u,vs[j]? = some u→w.cell? (ad.add (i*sz+j))=some u:=by
      intro i rws
      induction rws generalizing i with
      | nil=>intro _;exact⟨[],rfl,by simp,fun j u hu=>by simp at hu⟩
      | cons r rs dK=>
        intro iq;simp only [c7] at iq;obtain⟨cg,xq,ha⟩:=iq;obtain⟨us,Jo,jt⟩:=xq.cells;obtain⟨vs,yF,D',Jp⟩:=dK (i+1) ha;refine⟨us++vs,by simp only [List.flatten_cons];exact Jo.append yF,by simp [Jo.length,cg,D',Nat.add_mul];omega,fun j u d'=>?_⟩;rw [List.getElem?_append] at d';have zF:us.length=sz:=by rw [Jo.length,cg]
        split at d'
        ·have:=jt j u d'
         rwa [Nat.zero_add,Addr.add_add] at this
        rename_i eI
        have:=Jp _ u d'
        rwa [show(i+1)*sz+(j-us.length)=i*sz+j by rw [Nat.add_mul,zF];rw [zF] at eI;omega] at this
    obtain⟨vs,yF,D',Jp⟩:=key 0 rows bq;exact⟨vs,yF,D',Src.ofSlice w hk ad _ c vs D' (fun j u hu=>by have:=Jp j u hu;rwa [Nat.zero_mul,Nat.zero_add] at this) yF.one⟩
def j8 (c:UInt8):Value:=.int .u8 c.toNat
theorem Src.str {qY:Nat} (hk:P.underlying qY=some .string) (s:List UInt8):Src P 1 qY (S s) s.length (s.map j8) w:=Src.ofString w hk ⟨⟨s⟩⟩
structure App (w w':World) (e sz:Nat) (v v':Value) (n:Nat) (vs:List Value):Prop where
  own:Own w' e sz v' n vs
  mod:Mod (a1 v) w w'
  lZ:∀ x∈a1 v',x∈a1 v∨w.heap.size≤x
theorem GH {t qY e sz fZ c c':Nat} {v u:Value} {vs news:List Value} (cf:lC P t e sz fZ=true) (O:Own w e sz v c vs) (bf:Src P sz qY u c' news w) (im:0<sz)
    (aS:(c+c')*fZ≤140737488355328) (cC:c+c'≤9223372036854775807) (ty:Nat) :
    ∃ v' w',(Builtin.append_ #[t,qY] ty #[v,u]).run P w = .ok v' w'∧App w w' e sz v v' (c+c') (vs++news):=by
  obtain⟨i,z,h1,aq,aU,bM,cL,eW⟩:=ir cf
  subst aU;subst bM
  have hlen:(vs++news).length=(c+c')*i.size:=by rw [List.length_append,O.1,bf.newsLen,Nat.add_mul]
  have grow:∀ (base:Option Addr) (cap:Nat),cap<c+c'→(Builtin.firstCells i.size c (.slice base c cap)).run P w.drew = .ok vs.toArray w.drew→
      ∃ v' w',(Builtin.append_ #[t,qY] ty #[.slice base c cap,u]).run P w = .ok v' w'∧App w w' e i.size (.slice base c cap) v' (c+c') (vs++news):=by
    intro base cap rP hold
    have bq:=run_append_grow_src (P:=P) w t qY ty e i z h1 aq cL base c cap vs hold u c' news bf rP (by omega) (growslice_fits rP aS)
    have eI:=grownCap_ge w (c+c') cap e
    have eh:aF (w.drew.alloc (.cells ((vs++news).toArray++Builtin.zeroCells z.cells (grownCap w (c+c') cap e-(c+c'))) e)) w.heap.size e ((vs++news)++(Builtin.zeroCells z.cells (grownCap w (c+c') cap e-(c+c'))).toList):=by
      have:=heap_alloc_new w.drew (.cells ((vs++news).toArray++Builtin.zeroCells z.cells (grownCap w (c+c') cap e-(c+c'))) e)
      unfold aF
      refine this.trans ?_
      congr 2
      apply Array.toList_inj.1
      simp
    refine⟨_,_,bq,⟨⟨hlen,.inr ⟨w.heap.size,0,_,_,rfl,eh,eI,grownCap_le_maxLen w (c+c') cap e (by simp only [maxLen];omega),?_,?_⟩⟩,?_,?_⟩⟩
    ·have jo:(Builtin.zeroCells z.cells (grownCap w (c+c') cap e-(c+c'))).toList.length=(grownCap w (c+c') cap e-(c+c'))*i.size:=by
       rw [Array.length_toList,size_zeroCells,eW]
     rw [List.length_append,hlen,jo,← Nat.add_mul]
     have:c+c'+(grownCap w (c+c') cap e-(c+c'))=grownCap w (c+c') cap e:=by omega
     rw [this]
     omega
    ·rw [List.drop_zero,← hlen]
     exact List.take_left
    ·exact⟨rfl,rfl,rfl,by simp,fun j d' _=>RowKit.Below.heap_alloc w.drew _ j d'⟩
    intro x ae
    simp [a1] at ae
    exact .inr (by omega)
  rcases O.2 with⟨rfl,b3⟩ | ⟨g,o,cap,cs,rfl,eh,fH,gC,r7,pW⟩
  ·subst b3
   have lX:vs = []:=List.eq_nil_of_length_eq_zero (by simpa using O.1)
   subst lX
   rcases Nat.eq_zero_or_pos c' with b3 | b3
   ·subst b3
    have adl:news = []:=List.eq_nil_of_length_eq_zero (by simpa using bf.newsLen)
    subst adl
    refine⟨.slice none 0 0,w,?_,⟨Own.nil w e i.size,Mod.refl _ w,fun x ae=>.inl ae⟩⟩
    have cg:=bf.len
    have lE:=bf.cells
    rcases bf.kind with⟨xe,hk⟩ | hk <;> simp [Builtin.append_,run_underlying h1,run_underlying hk,sizeOf,typeInfo,aq,cg,lE]
   exact grow none 0 (by omega) (run_firstCells_none w.drew i.size 0 0 0)
  by_cases ns:c+c'≤cap
  ·have hle:(c+c')*i.size≤cap*i.size:=Nat.mul_le_mul_right _ ns
   have lu:o+c*i.size+news.length≤cs.length:=by rw [bf.newsLen];rw [Nat.add_mul] at hle;omega
   obtain⟨aB,hJ,cp⟩:=hz (P:=P) eh lu bf.one
   refine⟨.slice (some ⟨g,o,none⟩) (c+c') cap,aB,?_,⟨⟨hlen,.inr ⟨g,o,cap,_,rfl,cp.az,ns,gC,?_,?_⟩⟩,?_,fun x ae=>.inl ae⟩⟩
   ·rcases bf.kind with⟨xe,hk⟩ | hk <;> simp [Builtin.append_,run_underlying h1,run_underlying hk,sizeOf,typeInfo,aq,bf.len,ns,bf.cells,Addr.add_lit,hJ]
   ·simp only [splice,List.length_append,List.length_take,List.length_drop]
    omega
   ·have bk:List.take (o+c*i.size) cs=List.take o cs++vs:=by rw [← pW,List.take_add]
    have Xq:(List.take o cs).length=o:=by rw [List.length_take];omega
    rw [splice,bk,List.append_assoc,List.append_assoc,List.drop_left' Xq,← List.append_assoc,← hlen,List.take_left]
   exact cp.mod
  refine grow _ cap (by omega) (run_firstCells_some w.drew i.size c _ c cap vs O.1 (fun j x ae=>?_))
  have:=O.cs j x ae
  simpa using this
theorem bu {qY e sz fZ c c':Nat} {v u:Value} {vs news:List Value} (cf:lC P t e sz fZ=true) (ae:a6 l x=some v) (aY:a6 l y=some u) (O:Own w e sz v c vs) (bf:Src P sz qY u c' news w) (im:0<sz)
    (aS:(c+c')*fZ≤140737488355328) (cC:c+c'≤9223372036854775807) (bY:Nat.blt d n=true)
    (h:∀ v' w',App w w' e sz v v' (c+c') (vs++news)→ga P ops Q rest n ds ((d,v')::l) w') :
    ga P ops Q (⟨some d,.call {callee:=.builtin .append,args:=#[x,y],argTypes:=#[t,qY]},ty,pos,af,none⟩::rest) n ds l w:=by
  obtain⟨v',w',bq,dF⟩:=GH (P:=P) cf O bf im aS cC ty
  refine fP (v:=v') (w':=w') (fun ρ fg=>?_) bY (h v' w' dF)
  simp [execOp,resolve,invoke,builtin,fg _ _ ae,fg _ _ aY,bq]
end
section
variable {P:Program} {ops:Array Oper} {Q:Exit→Act→World→Prop} {n:Nat} {ds:List Deferred} {l:List (Nat×Value)} {w w':World} {a:Act}
variable {rest:List Oper} {d:Nat} {op:Op} {ty:TypeId} {pos:String} {af:Array Edge}
variable {dd:Option Nat} {gg:Option (Nat×Bool)} {x y z:Operand} {t t':TypeId} {k iC:IntKind} {m gr:Int} {b e8:Bool}
/-! ### structs and arrays as values -/
def NV (P:Program) (t f off:Nat):Bool:=match P.underlying t with
 | some (.struct p4)=>match p4[f]? with
  | some fd=>fd.offset == off&&nM P fd.type
  | none=>false
 | _=>false
theorem q1 {vs:List Value} {f o:Nat} {v:Value} (cf:NV P t f o=true) (ae:a6 l x=some (.agg vs.toArray)) (bK:vs[o]? = some v):bG P l ⟨dd,.field t x f,ty,pos,af,gg⟩ w v w:=fun ρ h=>by
 unfold NV at cf
 split at cf
 ·rename_i p4 h1
  split at cf
  ·rename_i fd aq
   simp only [Bool.and_eq_true,beq_iff_eq] at cf;obtain⟨eo,bf⟩:=cf;obtain⟨XV,i,aU,bM,cL,eW⟩:=sO bf;subst eo;simp [execOp,Instr.field,h _ _ ae,run_underlying h1,aq,asAgg,part,kK aU,cL,bK]
  cases cf
 cases cf
def u' (cs:List Value) (o:Nat):List Value→List Value
 | []=>cs
 | v::r=>u' (cs.set o v) (o+1) r
theorem BA (o:Nat):∀ (vs:List Value) (j:Nat) (cs:Array Value),
  (vs.zipIdx j).foldl (fun(cs:Array Value) (x:Value×Nat)=>cs.setIfInBounds (o+x.2) x.1) cs=(u' cs.toList (o+j) vs).toArray:=by
 intro vs
 induction vs with
 | nil=>intro j cs;apply Array.toList_inj.1;simp [u']
 | cons v vs dK=>
  intro j cs
  simp only [List.zipIdx_cons,List.foldl_cons,u']
  rw [dK (j+1)]
  simp [Nat.add_assoc]
def oT (place:Nat→Option (Nat×Nat)) (cs:List Value):List (Nat×Value)→Option (List Value)
 | []=>some cs
 | (i,v)::r=>match place i with
  | none=>none
  | some (o,sz)=>match Nat.beq v.cells.toList.length sz&&Nat.ble (o+sz) cs.length with
   | true=>oT place (u' cs o v.cells.toList) r
   | false=>none
theorem GI {place:Nat→Option (Nat×Nat)}:∀ (ia:List (Nat×Value)) (cs cs':List Value),oT place cs ia=some cs'→Instr.fill place cs.toArray ia=some cs'.toArray:=by
 intro ia
 induction ia with
 | nil=>intro cs cs' h;simp [oT] at h;simp [Instr.fill,h]
 | cons p r dK=>
  obtain⟨i,v⟩:=p;intro cs cs' h;simp only [oT] at h
  split at h
  ·cases h
  rename_i o sz cp
  split at h
  ·rename_i aS
   simp only [Bool.and_eq_true,Nat.beq_eq_true_eq,Nat.ble_eq,Array.length_toList] at aS;obtain⟨h1,aq⟩:=aS;have h1:=Nat.eq_of_beq_eq_true h1;have:=dK _ _ h;have aU:¬ (v.cells.size≠sz∨o+v.cells.size > cs.toArray.size):=by rw [h1];simp;omega
   have dI:=BA o v.cells.toList 0 cs.toArray;simp only [Instr.fill,cp];simp only [ne_eq,gt_iff_lt,not_or,Classical.not_not,Nat.not_lt,List.size_toArray] at aU;have bM:¬ (v.cells.size≠sz):=by simpa using aU.1
   have cL:¬ (o+v.cells.size > cs.length):=by omega
   simp only [ne_eq,gt_iff_lt,List.size_toArray,Bool.or_eq_true,decide_eq_true_eq,bM,cL,or_self,if_false];rw [← Array.foldl_toList,Array.toList_zipIdx];rw [Nat.add_zero] at dI;simp only at dI;rw [dI];exact this
  cases h
def vT (P:Program) (t:Nat) (pl:List (Nat×Nat)):Bool:=match P.underlying t with
 | some (.struct p4)=>(p4.toList.map fun f=>(f.offset,(P.info? f.type).map (·.size))) == pl.map fun p=>(p.1,some p.2)
 | _=>false
theorem NW {pl:List (Nat×Nat)} (h:vT P t pl=true):∃ p4,P.underlying t=some (.struct p4)∧∀ (w:World),(p4.mapM (fun(f:Field)=>(do pure (f.offset,← sizeOf f.type):Sem (Nat×Nat)))).run P w = .ok pl.toArray w:=by
 unfold vT at h
 split at h
 rotate_left
 ·cases h
 rename_i p4 h1
 refine⟨p4,h1,fun w=>?_⟩;have aq:(p4.toList.map fun f=>(f.offset,(P.info? f.type).map (·.size)))=pl.map fun p=>(p.1,some p.2):=by simpa using h
 rw [Array.mapM_eq_mapM_toList];have key:∀ (l:List Field) (pl:List (Nat×Nat)),(l.map fun f=>(f.offset,(P.info? f.type).map (·.size)))=pl.map (fun p=>(p.1,some p.2))→(l.mapM (fun(f:Field)=>(do pure (f.offset,← sizeOf f.type):Sem (Nat×Nat)))).run P w = .ok pl w:=by
  intro l
  induction l with
  | nil=>intro pl h;cases pl <;> simp_all
  | cons f l dK=>
   intro pl h;cases pl with
   | nil=>simp at h
   | cons p pl=>
    simp only [List.map_cons,List.cons.injEq,Prod.mk.injEq] at h;obtain⟨⟨aU,bM⟩,cL⟩:=h;obtain⟨i,eW,kz⟩:=Option.map_eq_some_iff.1 bM;have:=dK pl cL;simp only [bind_pure_comp] at this;simp [List.mapM_cons,cM eW,this,kz,aU]
 have:=key p4.toList pl aq;simp only [bind_pure_comp] at this ⊢;simp [this]
def zS (l:List (Nat×Value)):List (Nat×Operand)→Option (List (Nat×Value))
 | []=>some []
 | (i,x)::r=>match a6 l x,zS l r with
  | some v,some vs=>some ((i,v)::vs)
  | _,_=>none
theorem GJ {ρ:Operand→Value} (h:∀ x u,a6 l x=some u→ρ x=u):∀ (gD:List (Nat×Operand)) (us:List (Nat×Value)),zS l gD=some us→gD.map (fun p=>(p.1,ρ p.2))=us:=by
 intro gD
 induction gD with
 | nil=>intro us hu;simp [zS] at hu;simp [← hu]
 | cons z gD dK=>
  obtain⟨i,x⟩:=z;intro us hu;simp only [zS] at hu
  split at hu
  ·rename_i v vs h1 aq
   simp only [Option.some.injEq] at hu;subst hu;simp [h _ _ h1,dK _ aq]
  cases hu
theorem a' {ia:List (Nat×Operand)} {us:List (Nat×Value)} {pl:List (Nat×Nat)} {gD cs:List Value} (cp:vT P t pl=true) (dk:hG P t gD) (ae:zS l ia=some us) (dI:oT (fun i:Nat=>pl[i]?) gD us=some cs) :
  bG P l ⟨dd,.build t ia.toArray,ty,pos,af,gg⟩ w (.agg cs.toArray) w:=fun ρ h=>by
 obtain⟨p4,h1,aq⟩:=NW cp
 obtain⟨i,z,aU,bM,cL⟩:=om dk
 have bk:=GJ h _ _ ae
 have b2:=GI us gD cs dI
 have kV:(ia.toArray.map fun(i,x)=>(i,ρ x)).toList=us:=by simpa using bk
 have Ig:=aq w
 simp only [bind_pure_comp] at Ig
 have afz:(fun i:Nat=>pl.toArray[i]?)=(fun i:Nat=>pl[i]?):=by funext i;simp
 simp only [execOp,Instr.build]
 simp [zeroValue,typeInfo,aU,bM,cL,run_underlying h1,Ig]
 rw [show Instr.fill (fun x=>pl[x]?) gD.toArray (List.map (fun x=>(x.fst,ρ x.snd)) ia)=some cs.toArray by rw [bk];exact b2]
 simp
theorem og {ia:List (Nat×Operand)} {us:List (Nat×Value)} {e c sz fZ:Nat} {gD cs:List Value} (cf:lC P t e sz fZ=true) (dk:hG P e gD) (ae:zS l ia=some us)
  (dI:oT (fun i=>some (i*sz,sz)) ((List.replicate c gD).flatten) us=some cs) (jo:gD.length=sz) (bj:c*sz≤16777216) :
  bG P l ⟨dd,.buildSlice t c ia.toArray,ty,pos,af,gg⟩ w (.slice (some ⟨w.heap.size,0,none⟩) c c) (w.alloc (.cells cs.toArray e)):=fun ρ fg=>by
 obtain⟨th,Eh,h1,aq,aU,bM,cL,eW⟩:=ir cf
 obtain⟨i,z,kz,kq,k0⟩:=om dk
 have bk:=GJ fg _ _ ae
 have b2:=GI us _ cs dI
 have zG:¬ (c*sz > 2 ^ 24):=by omega
 have kV:((Array.range (c*sz)).map fun i=>gD.toArray[i % gD.toArray.size]!)=((List.replicate c gD).flatten).toArray:=by
  apply Array.toList_inj.1
  simp only [Array.toList_map,Array.toList_range,List.size_toArray]
  clear dI b2 bj zG
  subst jo
  induction c with
  | zero=>simp
  | succ c dK=>
   rw [Nat.add_mul,Nat.one_mul,List.range_add,List.map_append,dK,List.replicate_succ',List.flatten_append]
   congr 1
   simp only [List.flatten_cons,List.flatten_nil,List.append_nil,List.map_map]
   apply List.ext_getElem
   ·simp
   intro j Jt al8
   simp at Jt
   simp [Nat.mod_eq_of_lt Jt,Jt]
 by_cases b3:c*sz=0
 ·have Ig:((List.replicate c gD).flatten) = []:=by
   apply List.eq_nil_of_length_eq_zero
   simp [jo,b3]
  rw [Ig] at b2
  simp only [execOp,Instr.buildSlice]
  simp [run_underlying h1,cM aq,aU,zG,b3]
  rw [show Instr.fill (fun i=>some (i*sz,sz)) (Array.map (fun x=>default) (Array.range 0)) (List.map (fun x=>(x.fst,ρ x.snd)) ia)=some cs.toArray by rw [bk,show(Array.map (fun x=>default) (Array.range 0):Array Value) = #[] by apply Array.toList_inj.1;simp];exact b2]
  simp [newRow]
 simp only [execOp,Instr.buildSlice]
 simp [run_underlying h1,cM aq,aU,zG,b3,zeroValue,typeInfo,kz,kq,k0]
 simp only [List.size_toArray,List.getElem!_toArray,List.getElem!_eq_getElem?_getD] at kV
 rw [kV,show Instr.fill (fun i=>some (i*sz,sz)) (List.replicate c gD).flatten.toArray (List.map (fun x=>(x.fst,ρ x.snd)) ia)=some cs.toArray by rw [bk];exact b2]
 simp [newRow]
theorem bD {ia:List (Nat×Operand)} {us:List (Nat×Value)} {e c sz fZ:Nat} {gD cs:List Value} (cf:lC P t e sz fZ=true) (dk:hG P e gD) (ae:zS l ia=some us)
  (dI:oT (fun i=>some (i*sz,sz)) ((List.replicate c gD).flatten) us=some cs) (jo:gD.length=sz) (bj:c*sz≤16777216) (bY:Nat.blt d n=true)
  (h:∀ g w',kt w w' g e cs→ga P ops Q rest n ds ((d,.slice (some ⟨g,0,none⟩) c c)::l) w') :
  ga P ops Q (⟨some d,.buildSlice t c ia.toArray,ty,pos,af,none⟩::rest) n ds l w:=fP (og cf dk ae dI jo bj) bY (h _ _ (kt.mk' w e cs))
/-! ### slicing -/
def hU:Option (IntKind×Int)→Int
 | some (_,m)=>m
 | none=>0
def iB (o:Option (IntKind×Int)) (c:Nat):Int:=match o with
 | some (_,m)=>m
 | none=>c
def BB (o:Option (IntKind×Int)):Option Value:=o.map fun p=>.int p.1 p.2
def tK (l:List (Nat×Value)):Option Operand→Option (Option (IntKind×Int))
 | none=>some none
 | some x=>match a6 l x with
  | some (.int k m)=>some (some (k,m))
  | _=>none
theorem va {ρ:Operand→Value} (h:∀ x u,a6 l x=some u→ρ x=u) {o:Option Operand} {p:Option (IntKind×Int)} (eo:tK l o=some p):o.map ρ=BB p:=by
 cases o with
 | none=>simp [tK] at eo;subst eo;rfl
 | some x=>
  simp only [tK] at eo
  split at eo
  ·rename_i k m ae
   simp at eo;subst eo;simp [BB,h _ _ ae]
  cases eo
def l1 (ad:Option Addr) (c' lo sz:Nat):Option Addr:=if c'=lo then ad else ad.map (·.add (lo*sz))
theorem Gl {ad:Option Addr} {c c' e sz fZ:Nat} {lo hi:Option Operand} {pl ph:Option (IntKind×Int)} (cf:lC P t e sz fZ=true) (ae:a6 l x=some (.slice ad c c')) (cg:tK l lo=some pl) (iq:tK l hi=some ph)
  (aS:0≤hU pl∧hU pl≤(iB ph c)∧(iB ph c)≤c') (bj:c≤c') :
  bG P l ⟨dd,.slice t x lo hi none,ty,pos,af,gg⟩ w (.slice (l1 ad c' (hU pl).toNat sz) ((iB ph c).toNat-(hU pl).toNat) (c'-(hU pl).toNat)) w:=fun ρ h=>by
 obtain⟨i,z,h1,aq,aU,bM,cL,eW⟩:=ir cf
 obtain⟨b0,dn,eJ⟩:=aS
 have bk:=va h cg
 have b2:=va h iq
 subst aU
 cases pl with
 | none=>
  cases ph with
  | none=>simp [execOp,Instr.sliceAt,Instr.slice,h _ _ ae,bk,b2,BB,run_underlying h1,cM aq,Instr.sliceBounds,hU,iB,l1]
  | some ph=>
   obtain⟨adm,XX⟩:=ph
   simp only [hU,iB] at b0 dn eJ
   have:=run_sliceBound (P:=P) (w:=w) adm XX c' .sliceAcap dn eJ
   simp [execOp,Instr.sliceAt,Instr.slice,h _ _ ae,bk,b2,BB,run_underlying h1,cM aq,Instr.sliceBounds,hU,iB,l1,this] <;> rfl
 | some pl=>
  obtain⟨ac1,ahU⟩:=pl
  cases ph with
  | none=>
   simp only [hU,iB] at b0 dn eJ
   have:=run_sliceBound (P:=P) (w:=w) ac1 ahU c .sliceB b0 dn
   simp [execOp,Instr.sliceAt,Instr.slice,h _ _ ae,bk,b2,BB,run_underlying h1,cM aq,Instr.sliceBounds,hU,iB,l1,this] <;> rfl
  | some ph=>
   obtain⟨adm,XX⟩:=ph
   simp only [hU,iB] at b0 dn eJ
   have t1:=run_sliceBound (P:=P) (w:=w) adm XX c' .sliceAcap (by omega) eJ
   have t2:=run_sliceBound (P:=P) (w:=w) ac1 ahU XX.toNat .sliceB b0 (by omega)
   simp [execOp,Instr.sliceAt,Instr.slice,h _ _ ae,bk,b2,BB,run_underlying h1,cM aq,Instr.sliceBounds,hU,iB,l1,t1,t2] <;> rfl
theorem y' {u:List UInt8} {lo hi:Option Operand} {pl ph:Option (IntKind×Int)} (cf:P.underlying t=some .string) (ae:a6 l x=some (S u)) (cg:tK l lo=some pl) (iq:tK l hi=some ph)
  (aS:0≤hU pl∧hU pl≤(iB ph u.length)∧(iB ph u.length)≤u.length) :
  bG P l ⟨dd,.slice t x lo hi none,ty,pos,af,gg⟩ w (S ((u.drop (hU pl).toNat).take ((iB ph u.length).toNat-(hU pl).toNat))) w:=fun ρ h=>by
 obtain⟨b0,dn,eJ⟩:=aS
 have bk:=va h cg
 have b2:=va h iq
 have im:(⟨⟨u⟩⟩:ByteArray).size=u.length:=rfl
 have hex:∀ i j,(⟨⟨u⟩⟩:ByteArray).extract i j=⟨⟨(u.drop i).take (j-i)⟩⟩:=fun i j=>Lib.extract_eq ⟨⟨u⟩⟩ i j
 cases pl with
 | none=>
  cases ph with
  | none=>simp [execOp,Instr.sliceAt,Instr.slice,h _ _ ae,bk,b2,BB,run_underlying cf,Instr.sliceBounds,hU,iB,im,hex]
  | some ph=>
   obtain⟨adm,XX⟩:=ph
   simp only [hU,iB] at b0 dn eJ
   have:=run_sliceBound (P:=P) (w:=w) adm XX u.length .sliceAlen dn eJ
   simp [execOp,Instr.sliceAt,Instr.slice,h _ _ ae,bk,b2,BB,run_underlying cf,Instr.sliceBounds,hU,iB,im,hex,this]
 | some pl=>
  obtain⟨ac1,ahU⟩:=pl
  cases ph with
  | none=>
   simp only [hU,iB] at b0 dn eJ
   have:=run_sliceBound (P:=P) (w:=w) ac1 ahU u.length .sliceB b0 dn
   simp [execOp,Instr.sliceAt,Instr.slice,h _ _ ae,bk,b2,BB,run_underlying cf,Instr.sliceBounds,hU,iB,im,hex,this]
  | some ph=>
   obtain⟨adm,XX⟩:=ph
   simp only [hU,iB] at b0 dn eJ
   have t1:=run_sliceBound (P:=P) (w:=w) adm XX u.length .sliceAlen (by omega) eJ
   have t2:=run_sliceBound (P:=P) (w:=w) ac1 ahU XX.toNat .sliceB b0 (by omega)
   simp [execOp,Instr.sliceAt,Instr.slice,h _ _ ae,bk,b2,BB,run_underlying cf,Instr.sliceBounds,hU,iB,im,hex,t1,t2]
theorem Own.cut {e sz c c' lo hi:Nat} {ad:Option Addr} {vs:List Value} (O:Own w e sz (.slice ad c c') c vs) (h1:lo≤hi) (aq:hi≤c):Own w e sz (.slice (l1 ad c' lo sz) (hi-lo) (c'-lo)) (hi-lo) ((vs.drop (lo*sz)).take ((hi-lo)*sz)):=by
 have cg:=O.1;have hle:hi*sz≤c*sz:=Nat.mul_le_mul_right _ aq;have Cu:lo*sz≤hi*sz:=Nat.mul_le_mul_right _ h1;rcases O.2 with⟨b3,adn⟩ | ⟨g,o,Vk,cs,bK,eh,fH,gC,r7,pW⟩
 ·injection b3 with bk b2 kV
  subst bk;subst kV;have:lo=0:=by omega
  subst this;have:hi=0:=by omega
  subst this;have:vs = []:=List.eq_nil_of_length_eq_zero (by rw [cg,adn,Nat.zero_mul]);subst this;simpa [l1] using Own.nil w e sz
 injection bK with bk b2 kV
 subst bk;subst kV;refine⟨by rw [List.length_take,List.length_drop,cg,Nat.sub_mul];omega,.inr ?_⟩;unfold l1
 by_cases I0:c'=lo
 ·have aby:hi=lo:=by omega
  subst aby;subst I0;exact⟨g,o,0,cs,by simp,eh,by omega,by simp [maxLen],by omega,by simp⟩
 refine⟨g,o+lo*sz,c'-lo,cs,by simp [I0,Addr.add_lit],eh,by omega,by omega,by rw [Nat.sub_mul];have:lo*sz≤c'*sz:=Nat.mul_le_mul_right _ (by omega);omega,?_⟩;rw [← pW,List.drop_take,List.take_take,List.drop_drop]
 congr 1
 rw [Nat.sub_mul];omega
theorem ba.cut {A:List Nat} {sz c c' lo hi:Nat} {ad:Option Addr} {rows:List (List D)} (h:ba A w (.ie sz rows) (.slice ad c c')) (h1:lo≤hi) (aq:hi≤c):ba A w (.ie sz ((rows.drop lo).take (hi-lo))) (.slice (l1 ad c' lo sz) (hi-lo) (c'-lo)):=by
 have fh:=h;simp only [ba] at h ⊢;obtain⟨rT,aq5,e,bM,cL,eW⟩:=h;injection e with bk b2 kV
 subst bk;subst kV;have hlen:((rows.drop lo).take (hi-lo)).length=hi-lo:=by simp;omega
 refine⟨_,_,by rw [hlen],by rw [hlen];omega,by omega,fun ck=>?_⟩;have bJ:lo<hi:=by
  rcases Nat.lt_or_ge lo hi with kz | kz
  ·exact kz
  exact absurd (List.eq_nil_of_length_eq_zero (by rw [hlen];omega)) ck
 obtain⟨a,ay,dF,aS,bq⟩:=eW (by intro he;subst he;simp at h1 aq b2;omega);subst ay;have:¬ c'=lo:=by omega
 refine⟨a.add (lo*sz),by simp [l1,this],by rw [mi];exact dF,by rw [mi];exact aS,c7.zR fun j r d'=>?_⟩;have u5:rows[lo+j]? = some r:=by
  rw [List.getElem?_take] at d'
  split at d'
  ·simpa using d'
  cases d'
 have:=bq.row (lo+j) r u5;rw [Nat.zero_add] at this;rw [Nat.zero_add,Addr.add_add,← Nat.add_mul];exact this
/-! ### copy, make -/
theorem XY {e sz fZ:Nat} {Cz:Int} {gD:List Value} (cf:lC P t e sz fZ=true) (dk:hG P e gD) (jo:gD.length=sz) (ae:a6 l x=some (.int k m)) (aY:a6 l y=some (.int iC Cz)) (aS:0≤m∧m≤Cz∧Cz≤9223372036854775807∧fZ*Cz≤281474976710656) (bY:Nat.blt d n=true)
  (h:∀ g w',kt w w' g e ((List.replicate Cz.toNat gD).flatten)→ga P ops Q rest n ds ((d,.slice (some ⟨g,0,none⟩) m.toNat Cz.toNat)::l) w') :
  ga P ops Q (⟨some d,.makeSlice t x y,ty,pos,af,none⟩::rest) n ds l w:=by
 obtain⟨th,Eh,h1,aq,aU,bM,cL,eW⟩:=ir cf
 obtain⟨i,z,kz,kq,k0⟩:=om dk
 have bq:bG P l ⟨some d,.makeSlice t x y,ty,pos,af,none⟩ w (.slice (some ⟨w.heap.size,0,none⟩) m.toNat Cz.toNat) (w.alloc (.cells ((List.replicate Cz.toNat gD).flatten).toArray e)):=fun ρ fg=>by
  have aB:IntKind.i64.wrap m=m:=wrap64_in _ (by omega)
  have cN:IntKind.i64.wrap Cz=Cz:=wrap64_in _ (by omega)
  have ado:th=i:=Option.some.inj (aq.symm.trans kz)
  subst ado
  have dn:¬ (Cz<0):=by omega
  have eJ:¬ ((th.bytes:Int)*Cz > 281474976710656):=by rw [bM];omega
  have lx:¬ (m<0):=by omega
  have EU:¬ (Cz<m):=by omega
  have kV:((Array.range (Cz.toNat*sz)).map fun i=>gD.toArray[i % gD.toArray.size]!)=((List.replicate Cz.toNat gD).flatten).toArray:=by
   apply Array.toList_inj.1
   simp only [Array.toList_map,Array.toList_range,List.size_toArray]
   generalize Cz.toNat=c
   subst jo
   clear h cf aU eW
   induction c with
   | zero=>simp
   | succ c dK=>
    rw [Nat.add_mul,Nat.one_mul,List.range_add,List.map_append,dK,List.replicate_succ',List.flatten_append]
    congr 1
    simp only [List.flatten_cons,List.flatten_nil,List.append_nil,List.map_map]
    apply List.ext_getElem
    ·simp
    intro j Jt al8
    simp at Jt
    simp [Nat.mod_eq_of_lt Jt,Jt]
  have Bv:(decide (Cz<0)||decide ((th.bytes:Int)*Cz > 2 ^ 48))=false:=by
   simp only [Bool.or_eq_false_iff,decide_eq_false_iff_not]
   exact⟨dn,by omega⟩
  by_cases b3:Cz.toNat*sz=0
  ·have Ig:((List.replicate Cz.toNat gD).flatten) = []:=by
    apply List.eq_nil_of_length_eq_zero
    simp [jo,b3]
   simp only [execOp,Instr.makeSlice]
   simp [fg _ _ ae,fg _ _ aY,asInt,asIntOf,run_underlying h1,typeInfo,aq,aB,cN,Bv,dn,eJ,lx,EU,cM aq,aU,b3,newRow,Ig]
   rw [show(Array.map (fun x=>default) (Array.range 0):Array Value) = #[] by apply Array.toList_inj.1;simp]
  simp only [List.size_toArray,List.getElem!_toArray,List.getElem!_eq_getElem?_getD] at kV
  simp only [execOp,Instr.makeSlice]
  simp [fg _ _ ae,fg _ _ aY,asInt,asIntOf,run_underlying h1,typeInfo,aq,aB,cN,Bv,dn,eJ,lx,EU,cM aq,aU,b3,newRow,zeroValue,kq,k0,kV]
 exact fP bq bY (h _ _ (kt.mk' w e _))
/-! ### bytes and strings -/
theorem adp {e:Nat} {v:Value} {u:List UInt8} (bf:P.underlying t=some (.slice e)) (he:P.underlying e=some (.int .u8)) (bY:P.underlying t'=some .string) (ae:a6 l x=some v) (O:Src P 1 t v u.length (u.map j8) w) (bK:(∃ c,v = .slice none 0 c)∨∃ a c,v = .slice (some a) u.length c∧ri w a (u.map j8)) :
  bG P l ⟨dd,.convert t t' x,ty,pos,af,gg⟩ w (S u) w:=fun ρ h=>by
 rcases bK with⟨c,rfl⟩ | ⟨a,c,rfl,bj⟩
 ·have hu:u = []:=by
   have:=O.len w
   simp [Builtin.lenOf] at this
   exact List.eq_nil_of_length_eq_zero this.symm
  subst hu
  have:=run_convert_bytes_nil w t e bf he 0 c t' bY
  simp [execOp,h _ _ ae,this]
  rfl
 have:=run_convert_bytes_back (P:=P) w t t' e a c u bf he bY (fun j d'=>bj j _ (by simp [d',j8]))
 simp [execOp,h _ _ ae,this]
theorem oH {e xe:Nat} {v:Value} {u:List UInt8} (bf:P.underlying t=some (.slice e)) (he:P.underlying e=some (.int .u8)) (bY:P.underlying t'=some .string) (ae:a6 l x=some v) (O:Own w xe 1 v u.length (u.map j8)) :
  bG P l ⟨dd,.convert t t' x,ty,pos,af,gg⟩ w (S u) w:=by
 refine adp bf he bY ae (Src.own bf O (fun x ae=>by obtain⟨c,_,rfl⟩:=List.mem_map.1 ae;rfl)) ?_
 obtain⟨ad,c,h1,aq,aU⟩:=O.form
 subst h1
 cases ad with
 | none=>
  rcases O.2 with⟨_,b3⟩ | ⟨g,o,c',cs,h1,_⟩
  ·rw [b3]
   exact .inl ⟨c,rfl⟩
  cases h1
 | some a=>exact .inr ⟨a,c,rfl,O.cs⟩
def LL (u:List UInt8):D:=.ie 1 (u.map fun c=>[.v (j8 c)])
theorem Ei {A:List Nat} {u:List UInt8} {vs:List Value} (h:ao A w ((u.map fun c=>[D.v (j8 c)]).flatten) vs):vs=u.map j8:=by
 induction u generalizing vs with
 | nil=>simpa [ao] using h
 | cons c u dK=>
  simp only [List.map_cons,List.flatten_cons,List.singleton_append,ao] at h;obtain⟨x,us,rfl,h1,aq⟩:=h;rw [dK aq,h1.l4];rfl
theorem Src.bytes {A:List Nat} {qY xe:Nat} {u:List UInt8} {v:Value} (hk:P.underlying qY=some (.slice xe)) (h:ba A w (LL u) v):Src P 1 qY v u.length (u.map j8) w:=by
 obtain⟨vs,h1,aq,aU⟩:=Src.rep (P:=P) hk h;rw [Ei h1] at aU;simpa using aU
theorem ba.byte {A:List Nat} {u:List UInt8} {ad:Option Addr} {c c' i:Nat} {b:UInt8} (h:ba A w (LL u) (.slice ad c c')) (hi:u[i]? = some b):∃ a,ad=some a∧w.cell? (a.add (i*1))=some (j8 b):=by
 obtain⟨a,us,h1,aq,aU,bM,_⟩:=ba.at_ (i:=i) (r:=[.v (j8 b)]) h (by simp [hi]);simp only [ao] at aq;obtain⟨x,gb,rfl,cL,rfl⟩:=aq;refine⟨a,h1,?_⟩;have:=bM 0 x rfl;rw [Addr.add_zero'] at this;rw [this,cL.l4]
end
/-! ## Regions that draw their order
Of each operation's value something is known that lasts in all later worlds; an operation uses what is known of those slots alone that it looks at. So one walk of the order of the text serves every order. -/
abbrev kf:=Nat→Option (Value→World→Prop)
def kf.put (N:kf) (o:Oper) (V:Value→World→Prop):kf:=match o.dst with
 | some d=>fun t=>if t=d then some V else N t
 | none=>N
def kf.on (ops:Array Oper) (N:kf) (o:Oper) (a:Act) (w:World):Prop:=∀ t V,t∈o.looksAt ops→N t=some V→V (a.tmps.getD t undef) w
def kf.all (N:kf) (n:Nat) (a:Act) (w:World):Prop:=a.tmps.size=n∧∀ t V,N t=some V→V (a.tmps.getD t undef) w
def oo (P:Program) (asp:World→World→Prop) (w:World) (V:Value→World→Prop):Result Next→Prop
 | .ok (.value u) w'=>asp w w'∧V u w'
 | .ok .skip w'=>asp w w'∧V undef w'
 | .ok (.enter f args) w'=>w'=w∧Calls P f args w (bL fun v adq=>asp w adq∧V v adq)
 | _=>False
section
variable {P:Program} {ops:Array Oper} {md:Region.Mode} {asp:World→World→Prop} {C:World→Prop} {n:Nat} {ds:List Deferred}
structure ass (P:Program) (ops:Array Oper) (asp:World→World→Prop) (C:World→Prop) (n:Nat) (N:kf) (o:Oper) (V:Value→World→Prop):Prop where
 lasts:∀ v w w',asp w w'→V v w→V v w'
 fits:∀ d,o.dst=some d→d<n
 run:∀ a w,C w→kf.on ops N o a w→
  if Region.wanted o (yielded ops a.tmps)then oo P asp w V ((execOp a.eval o).run P w)else V undef w
def GK (P:Program) (md:Region.Mode) (ops:Array Oper) (asp:World→World→Prop) (C:World→Prop) (n:Nat) (Fin:kf→Prop):Nat→Array Bool→kf→Prop
 | 0,listed,N=>Region.ready md ops listed = []∧Fin N
 | fuel+1,listed,N=>(Region.ready md ops listed = []→Fin N)∧
  ∀ i∈Region.ready md ops listed,∀ o,ops[i]? = some o→∃ V,ass P ops asp C n N o V∧GK P md ops asp C n Fin fuel (listed.setIfInBounds i true) (N.put o V)
structure zT (asp:World→World→Prop) (C:World→Prop):Prop where
 refl:∀ w,asp w w
 trans:∀ a b c,asp a b→asp b c→asp a c
 keeps:∀ w w',asp w w'→C w→C w'
theorem vb {N:kf} {o:Oper} {V:Value→World→Prop} {a:Act} {w w':World} {v:Value} (cg:∀ t asq,N t=some asq→∀ v w w',asp w w'→asq v w→asq v w') (iQ:asp w w') (h7:N.all n a w) (pk:V v w') (bY:∀ d,o.dst=some d→d<n):(N.put o V).all n (a.put o.dst v) w':=by
 unfold kf.put;cases eo:o.dst with
 | none=>exact⟨h7.1,fun t asq je=>cg t asq je _ _ _ iQ (h7.2 t asq je)⟩
 | some d=>
  refine⟨by simp [Act.put,h7.1],fun t asq je=>?_⟩
  dsimp only at je
  by_cases adr:t=d
  ·subst adr;rw [if_pos rfl] at je;injection je with je
   subst je;have:=bY t eo;simp [Act.put,h7.1,this];exact pk
  rw [if_neg adr] at je;have:=cg t asq je _ _ _ iQ (h7.2 t asq je);simpa [Act.put,Array.getElem?_setIfInBounds_ne (Ne.symm adr)] using this
def kf.lasts (asp:World→World→Prop) (N:kf):Prop:=∀ t asq,N t=some asq→∀ v w w',asp w w'→asq v w→asq v w'
theorem kf.lasts.put {N:kf} (h:N.lasts asp) {o:Oper} {V:Value→World→Prop} (pk:∀ v w w',asp w w'→V v w→V v w'):(N.put o V).lasts asp:=by
 intro t asq je;unfold kf.put at je;cases eo:o.dst with
 | none=>rw [eo] at je;exact h t asq je
 | some d=>
  rw [eo] at je
  dsimp only at je
  split at je
  ·injection je with je;subst je;exact pk
  exact h t asq je
theorem ud {o:Oper} {i:Nat} {N:kf} {V:Value→World→Prop} {a:Act} {w:World} {Q:Exit→Act→World→Prop} {K:Act→World→Prop} (pc:zT asp C) (X0:N.lasts asp) (hi:ops[i]? = some o) (rG:ass P ops asp C n N o V) (h4:C w) (h7:N.all n a w)
  (p5:∀ ye w',(ye.defers=a.defers)→C w'→asp w w'→(N.put o V).all n ye w'→K ye w'):wpOp P ops Q i K a w:=by
 unfold wpOp
 simp only [hi]
 have bq:=rG.run a w h4 (fun t asq _ je=>h7.2 t asq je)
 have LM:∀ v,(a.put o.dst v).defers=a.defers:=fun v=>by cases o.dst <;> rfl
 split
 rotate_left
 ·rename_i hw
  rw [if_neg hw] at bq
  exact p5 _ _ (LM _) h4 (pc.refl w) (vb X0 (pc.refl w) h7 bq rG.fits)
 rename_i hw
 rw [if_pos hw] at bq
 refine .inl ?_
 unfold Oper.wp
 generalize (execOp a.eval o).run P w=r at *
 cases r with
 | halt h w'=>exact bq.elim
 | ok x w'=>
  cases x <;> simp only [oo] at bq <;> simp only [Oper.upon]
  case value u=>exact p5 _ _ (LM _) (pc.keeps _ _ bq.1 h4) bq.1 (vb X0 bq.1 h7 bq.2 rG.fits)
  case skip=>exact p5 _ _ (LM _) (pc.keeps _ _ bq.1 h4) bq.1 (vb X0 bq.1 h7 bq.2 rG.fits)
  case enter f args=>
   obtain⟨rfl,bj⟩:=bq
   refine bj.mono fun e adq he=>?_
   cases e with
   | returned v=>exact p5 _ _ (LM _) (pc.keeps _ _ he.1 h4) he.1 (vb X0 he.1 h7 he.2 rG.fits)
   | panicked c=>exact he.elim
   | outgrown=>exact he.elim
theorem xu {Q:Exit→Act→World→Prop} {Fin:kf→Prop} {w0:World} {ds:List Deferred} (pc:zT asp C)
  (vc:∀ N a w,N.lasts asp→a.defers=ds→C w→asp w0 w→N.all n a w→Fin N→Q .normal a w):∀ (fuel:Nat) (listed:Array Bool) (N:kf) (a:Act) (w:World),N.lasts asp→a.defers=ds→C w→asp w0 w→N.all n a w→
  GK P md ops asp C n Fin fuel listed N→wpAny P md ops Q fuel listed a w
 | 0,listed,N,a,w,b3,h1,aq,aU,bM,h=>⟨h.1,vc N a w b3 h1 aq aU bM h.2⟩
 | fuel+1,listed,N,a,w,b3,h1,aq,aU,bM,h=>by
  refine⟨fun bq=>vc N a w b3 h1 aq aU bM (h.1 bq),fun i hi=>?_⟩
  obtain⟨_,o,eo,_⟩:=mem_ready.1 hi
  obtain⟨V,rG,ha⟩:=h.2 i hi o eo
  exact ud pc b3 eo rG aq bM fun ye w' bY h4 iQ h7=>xu pc vc fuel _ _ ye w' (b3.put rG.lasts) (bY.trans h1) h4 (pc.trans _ _ _ aU iQ) h7 ha
theorem ass.past {N:kf} {o vd:Oper} {V afA:Value→World→Prop} (h:ass P ops asp C n (N.put vd afA) o V) (ck:∀ d,vd.dst=some d→d∉o.looksAt ops):ass P ops asp C n N o V:=by
 refine⟨h.lasts,h.fits,fun a w h4 h7=>h.run a w h4 fun t asq cf je=>?_⟩;unfold kf.put at je;cases bY:vd.dst with
 | none=>rw [bY] at je;exact h7 t asq cf je
 | some d=>
  rw [bY] at je
  dsimp only at je
  split at je
  ·rename_i he;subst he;exact absurd cf (ck _ bY)
  exact h7 t asq cf je
theorem ass.ahead {N:kf} {o vd:Oper} {V afA:Value→World→Prop} (h:ass P ops asp C n N o V) (ck:∀ d,vd.dst=some d→d∉o.looksAt ops):ass P ops asp C n (N.put vd afA) o V:=by
 refine⟨h.lasts,h.fits,fun a w h4 h7=>h.run a w h4 fun t asq cf je=>?_⟩;refine h7 t asq cf ?_;unfold kf.put;cases bY:vd.dst with
 | none=>exact je
 | some d=>
  dsimp only
  rw [if_neg (fun he=>by subst he;exact ck _ bY cf)];exact je
theorem kf.put_comm (N:kf) {o vd:Oper} (V afA:Value→World→Prop) (h:∀ d,o.dst=some d→vd.dst≠some d):(N.put o V).put vd afA=(N.put vd afA).put o V:=by
 unfold kf.put;cases eo:o.dst with
 | none=>cases vd.dst <;> rfl
 | some d=>
  cases Sb:vd.dst with
  | none=>rfl
  | some s4=>
   have b1:s4≠d:=fun e=>h d eo (by rw [Sb,e])
   funext t
   dsimp only
   by_cases h1:t=d
   ·subst h1
    by_cases aq:t=s4
    ·exact absurd aq.symm b1
    simp [aq]
   simp [h1]
theorem GL {Fin:kf→Prop} {i:Nat} {A5:Oper} {V:Value→World→Prop} (hi:ops[i]? = some A5) :
  ∀ (fuel:Nat) (listed:Array Bool) (N:kf),
   (∀ j sP,ops[j]? = some sP→j≠i→listed.getD j true=false→(∀ e∈sP.after,Region.binds md e=true→e.on≠i)→A5.apart ops sP=true)→
   i∈Region.ready md ops listed→ass P ops asp C n N A5 V→
   GK P md ops asp C n Fin fuel (listed.setIfInBounds i true) (N.put A5 V)→GK P md ops asp C n Fin (fuel+1) listed N:=by
 intro fuel
 induction fuel with
 | zero=>
  intro listed N _ bq rG H
  refine⟨fun h=>(by rw [h] at bq;cases bq),fun j d' o eo=>?_⟩
  by_cases nc:j=i
  ·subst nc
   have:o=A5:=Option.some.inj (eo.symm.trans hi)
   subst this
   exact⟨V,rG,H⟩
  have:=ready_mono d' nc
  rw [H.1] at this
  cases this
 | succ fuel dK=>
  intro listed N se bq rG H
  refine⟨fun h=>(by rw [h] at bq;cases bq),fun j d' o eo=>?_⟩
  by_cases nc:j=i
  ·subst nc
   have:o=A5:=Option.some.inj (eo.symm.trans hi)
   subst this
   exact⟨V,rG,H⟩
  obtain⟨Sc,Sd,ha⟩:=H.2 j (ready_mono d' nc) o eo
  obtain⟨xv,sP,xV,kp⟩:=mem_ready.1 d'
  have:o=sP:=Option.some.inj (eo.symm.trans xV)
  subst this
  have ql:∀ e∈o.after,Region.binds md e=true→e.on≠i:=fun e he aS heq=>by
   have h1:=kp e he aS
   have b3:=(mem_ready.1 bq).1
   rw [heq] at h1
   rcases Nat.lt_or_ge i listed.size with fh | fh
   ·simp [fh] at b3 h1;rw [b3] at h1;cases h1
   simp [Array.getElem?_eq_none fh] at h1
  obtain⟨pb,a2,a3⟩:=Oper.apart_spec (se j o xV nc xv ql)
  refine⟨Sc,Sd.past pb,dK (listed.setIfInBounds j true) (N.put o Sc) (fun k ok hk Se k9 kA=>?_) (ready_mono bq (Ne.symm nc)) (rG.ahead a3) ?_⟩
  ·refine se k ok hk Se ?_ kA
   by_cases GM:j=k
   ·subst GM;exact xv
   rw [getD_set_ne true GM] at k9;exact k9
  rw [Array.setIfInBounds_comm _ _ nc,← kf.put_comm N V Sc a2]
  exact ha
def TW (P:Program) (ops:Array Oper) (asp:World→World→Prop) (C:World→Prop) (n:Nat) (Fin:kf→Prop):List Oper→kf→Prop
 | [],N=>Fin N
 | o::rest,N=>∃ V,ass P ops asp C n N o V∧TW P ops asp C n Fin rest (N.put o V)
theorem CA {Fin:kf→Prop}:∀ (l:List Oper) (k:Nat) (listed:Array Bool) (N:kf),(∀ j,l[j]? = ops[k+j]?)→
  Region.lexFrom md ops l.length k listed=true→TW P ops asp C n Fin l N→GK P md ops asp C n Fin l.length listed N
 | [],_,_,_,_,eh,h=>⟨by simpa [Region.lexFrom] using eh,h⟩
 | o::l,k,listed,N,cg,eh,h=>by
  have b3:ops[k]? = some o:=by simpa using (cg 0).symm
  simp only [List.length_cons,Region.lexFrom,Bool.and_eq_true] at eh
  obtain⟨⟨bq,dI⟩,Ej⟩:=eh
  obtain⟨V,rG,ha⟩:=h
  exact GL b3 l.length listed N (Region.free_spec b3 dI) (by simpa using bq) rG
   (CA l (k+1) _ _ (fun j=>by have:=cg (j+1);simpa [Nat.add_assoc,Nat.add_comm 1 j] using this) Ej ha)
/-! ### .. with operations behind it that come one behind the other -/
def zU (P:Program) (md:Region.Mode) (ops:Array Oper) (asp:World→World→Prop) (C:World→Prop) (n m:Nat) (L:Array Bool→kf→Prop):Nat→Array Bool→kf→Prop
 | 0,listed,N=>L listed N
 | f+1,listed,N=>Region.ready md ops listed≠[]∧
  ∀ i∈Region.ready md ops listed,i<m∧∀ o,ops[i]? = some o→∃ V,ass P ops asp C n N o V∧zU P md ops asp C n m L f (listed.setIfInBounds i true) (N.put o V)
theorem ve {Q:Exit→Act→World→Prop} {L:Array Bool→kf→Prop} {w0:World} {ds:List Deferred} {m g:Nat} (pc:zT asp C)
  (vc:∀ listed N a w,N.lasts asp→a.defers=ds→C w→asp w0 w→N.all n a w→L listed N→wpAny P md ops Q g listed a w):∀ (f:Nat) (listed:Array Bool) (N:kf) (a:Act) (w:World),N.lasts asp→a.defers=ds→C w→asp w0 w→N.all n a w→
  zU P md ops asp C n m L f listed N→wpAny P md ops Q (f+g) listed a w
 | 0,listed,N,a,w,b3,h1,aq,aU,bM,h=>by rw [Nat.zero_add];exact vc listed N a w b3 h1 aq aU bM h
 | f+1,listed,N,a,w,b3,h1,aq,aU,bM,h=>by
  rw [show f+1+g=(f+g)+1 by omega]
  refine⟨fun bq=>absurd bq h.1,fun i hi=>?_⟩
  obtain⟨_,o,eo,_⟩:=mem_ready.1 hi
  obtain⟨V,rG,ha⟩:=(h.2 i hi).2 o eo
  exact ud pc b3 eo rG aq bM fun ye w' bY h4 iQ h7=>ve pc vc f _ _ ye w' (b3.put rG.lasts) (bY.trans h1) h4 (pc.trans _ _ _ aU iQ) h7 ha
theorem Ek {m i:Nat} {A5:Oper} {V:Value→World→Prop} {L:Array Bool→kf→Prop} (hi:ops[i]? = some A5)
  (bf:Region.sinkB md ops m=true) (bj:Region.chainB md ops m=true) (ck:m<ops.size) (Sf:i<m)
  (Ju:∀ listed N,L listed N→∀ j∈Region.ready md ops listed,m≤j) :
  ∀ (f:Nat) (listed:Array Bool) (N:kf),HeadInv md ops m listed→
   (∀ j sP,ops[j]? = some sP→j≠i→listed.getD j true=false→(∀ e∈sP.after,Region.binds md e=true→e.on≠i)→A5.apart ops sP=true)→
   i∈Region.ready md ops listed→ass P ops asp C n N A5 V→
   zU P md ops asp C n m L f (listed.setIfInBounds i true) (N.put A5 V)→zU P md ops asp C n m L (f+1) listed N:=by
 intro f
 induction f with
 | zero=>
  intro listed N inv _ bq rG H
  have k9:=(mem_ready.1 bq).1
  refine⟨fun h=>(by rw [h] at bq;cases bq),fun j d'=>?_⟩
  have BC:j<m:=by
   rcases Nat.lt_or_ge j m with h | h
   ·exact h
   exact absurd d' (tail_waits bf bj ck inv _ i rfl Sf k9 j h)
  refine⟨BC,fun o eo=>?_⟩
  by_cases nc:j=i
  ·subst nc
   have:o=A5:=Option.some.inj (eo.symm.trans hi)
   subst this
   exact⟨V,rG,H⟩
  have:=Ju _ _ H j (ready_mono d' nc)
  omega
 | succ f dK=>
  intro listed N inv se bq rG H
  have k9:=(mem_ready.1 bq).1
  refine⟨fun h=>(by rw [h] at bq;cases bq),fun j d'=>?_⟩
  have BC:j<m:=by
   rcases Nat.lt_or_ge j m with h | h
   ·exact h
   exact absurd d' (tail_waits bf bj ck inv _ i rfl Sf k9 j h)
  refine⟨BC,fun o eo=>?_⟩
  by_cases nc:j=i
  ·subst nc
   have:o=A5:=Option.some.inj (eo.symm.trans hi)
   subst this
   exact⟨V,rG,H⟩
  obtain⟨Sc,Sd,ha⟩:=(H.2 j (ready_mono d' nc)).2 o eo
  obtain⟨xv,sP,xV,kp⟩:=mem_ready.1 d'
  have:o=sP:=Option.some.inj (eo.symm.trans xV)
  subst this
  have ql:∀ e∈o.after,Region.binds md e=true→e.on≠i:=fun e he aS heq=>by
   have h1:=kp e he aS
   rw [heq,getD_both k9] at h1
   cases h1
  obtain⟨pb,a2,a3⟩:=Oper.apart_spec (se j o xV nc xv ql)
  refine⟨Sc,Sd.past pb,dK (listed.setIfInBounds j true) (N.put o Sc) (inv.set d' BC) (fun k ok hk Se k9 kA=>?_) (ready_mono bq (Ne.symm nc)) (rG.ahead a3) ?_⟩
  ·refine se k ok hk Se ?_ kA
   by_cases GM:j=k
   ·subst GM;exact xv
   rw [getD_set_ne true GM] at k9;exact k9
  rw [Array.setIfInBounds_comm _ _ nc,← kf.put_comm N V Sc a2]
  exact ha
theorem zV {m g:Nat} {Fin:kf→Prop} (bf:Region.sinkB md ops m=true) (bj:Region.chainB md ops m=true) (ck:m<ops.size) :
  ∀ (l:List Oper) (k:Nat) (listed:Array Bool) (N:kf),(∀ j,j<l.length→l[j]? = ops[k+j]?)→k+l.length=m→HeadInv md ops m listed→
  Region.lexHead md ops g l.length k listed=true→TW P ops asp C n Fin l N→
  zU P md ops asp C n m (fun nd aaP=>Region.seqB md ops g m nd=true∧Fin aaP) l.length listed N
 | [],k,listed,N,_,hk,_,eh,h=>by
  have:k=m:=by simpa using hk
  subst this
  exact⟨by simpa [Region.lexHead] using eh,h⟩
 | o::l,k,listed,N,cg,hk,inv,eh,h=>by
  have b3:ops[k]? = some o:=by simpa using (cg 0 (by simp)).symm
  simp only [List.length_cons,Region.lexHead,Bool.and_eq_true] at eh
  obtain⟨⟨bq,dI⟩,Ej⟩:=eh
  have ahV:k<m:=by simp only [List.length_cons] at hk;omega
  have oK:k∈Region.ready md ops listed:=by simpa using bq
  obtain⟨V,rG,ha⟩:=h
  exact Ek b3 bf bj ck ahV (fun nd aaP pc=>seqB_ready pc.1) l.length listed N inv (Region.free_spec b3 dI) oK rG
   (zV bf bj ck l (k+1) _ _ (fun j d'=>by have:=cg (j+1) (by simp;omega);simpa [Nat.add_assoc,Nat.add_comm 1 j] using this) (by simp only [List.length_cons] at hk;omega) (inv.set oK ahV) Ej ha)
end
end Go.Proofs.YtnihidkbkhcfoaaGreatDoor.V
