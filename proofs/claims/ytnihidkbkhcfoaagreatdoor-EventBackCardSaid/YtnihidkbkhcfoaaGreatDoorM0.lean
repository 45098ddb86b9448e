/-
  A part of the proof: walks of functions. No condition of its own.
-/
import Derived.WalkKit
import Derived.Below
import Derived.Still
import Derived.KernelRfl
import Derived.Deep.AppendSrc
import Derived.Laws.CopyOwn
import Derived.Laws.Slices
import Derived.Lib.ConvBytes
import Derived.Laws.BytesArg
import Derived.Lib.Strings
import Derived.Laws.BytesString
import Derived.Laws.IdiomStrings
import Derived.StillTail
set_option linter.unusedVariables false
set_option linter.unusedSimpArgs false
namespace Go.Proofs.YtnihidkbkhcfoaaGreatDoor.V
open Go
/-! ## Frames -/
def iN (t:Nat):List (Nat×Value)→Option Value
 | []=>none
 | (s,v)::r=>match Nat.beq s t with
  | true=>some v
  | false=>iN t r
def aT (l:List (Nat×Value)):Operand→Option Value
 | .tmp t=>iN t l
 | .const v=>some v
 | .global g=>some (.pointer (some ⟨g,0,none⟩))
 | .func f=>some (.func (.func f) #[] #[])
def CO (l:List (Nat×Value)):List Operand→Option (List Value)
 | []=>some []
 | x::r=>match aT l x,CO l r with
  | some v,some vs=>some (v::vs)
  | _,_=>none
structure Has (n:Nat) (ds:List Deferred) (l:List (Nat×Value)) (a:Act):Prop where
 size:a.tmps.size=n
 defers:a.defers=ds
 get:∀ t v,iN t l=some v→a.tmps[t]? = some v
section
variable {P:Program} {ops:Array Oper} {Q:Exit→Act→World→Prop} {n:Nat} {ds:List Deferred} {l:List (Nat×Value)} {w w':World} {a:Act}
theorem Has.nU (h:Has n ds l a) {x:Operand} {v:Value} (ab:aT l x=some v):a.eval x=v:=by
 cases x with
 | tmp t=>simp only [aT] at ab;simp [Act.eval,h.get t v ab]
 | const u=>simpa [aT,Act.eval] using ab
 | global g=>simpa [aT,Act.eval] using ab
 | func f=>simpa [aT,Act.eval] using ab
theorem Has.put (h:Has n ds l a) {d:Nat} (bL:Nat.blt d n=true) (v:Value):Has n ds ((d,v)::l) (a.put (some d) v):=by
 refine⟨by simp [Act.put,h.size],by simp [Act.put,h.defers],fun t u hu=>?_⟩;have PV:d<n:=by simpa [Nat.blt_eq] using bL
 simp only [iN] at hu
 by_cases WU:d=t
 ·subst WU;simp at hu;subst hu;simp [Act.put,h.size,PV]
 have:Nat.beq d t=false:=by
  cases aH:Nat.beq d t
  ·rfl
  exact absurd (Nat.eq_of_beq_eq_true aH) WU
 rw [this] at hu;simp only at hu;rw [← h.get t u hu];simp [Act.put,Array.getElem?_setIfInBounds_ne WU]
def Sub (l:List (Nat×Value)):List (Nat×Value)→Prop
 | []=>True
 | (t,v)::r=>iN t l=some v∧Sub l r
theorem Sub.ah9 {l l':List (Nat×Value)} (h:Sub l l'):∀ t v,iN t l'=some v→iN t l=some v:=by
 induction l' with
 | nil=>intro t v bw;simp [iN] at bw
 | cons p r dh=>
  obtain⟨s,u⟩:=p;intro t v bw;simp only [iN] at bw;cases aH:Nat.beq s t with
  | true=>
   rw [aH] at bw;have hc:=Nat.eq_of_beq_eq_true aH;subst hc;simp at bw;subst bw;exact h.1
  | false=>
   rw [aH] at bw;exact dh h.2 t v bw
theorem Has.sub (h:Has n ds l a) {l':List (Nat×Value)} (aN:Sub l l'):Has n ds l' a:=⟨h.size,h.defers,fun t v bw=>h.get t v (aN.ah9 t v bw)⟩
/-! ## Goals over whatever frame has what is known -/
def fC (P:Program) (ops:Array Oper) (Q:Exit→Act→World→Prop) (rest:List Oper) (n:Nat) (ds:List Deferred) (l:List (Nat×Value)) (w:World):Prop:=
 ∀ a,Has n ds l a→wpList P ops Q rest a w
def nV (P:Program) (c:Code) (Q:Exit→Act→World→Prop) (n:Nat) (ds:List Deferred) (l:List (Nat×Value)) (w:World):Prop:=
 ∀ a,Has n ds l a→c.wp P Q a w
def hd (Q:Exit→Act→World→Prop) (e:Exit) (n:Nat) (ds:List Deferred) (l:List (Nat×Value)) (w:World):Prop:=
 ∀ a,Has n ds l a→Q e a w
theorem fC.sub {rest:List Oper} {l':List (Nat×Value)} (aN:Sub l l') (h:fC P ops Q rest n ds l' w):fC P ops Q rest n ds l w:=fun a ax=>h a (ax.sub aN)
theorem nV.sub {c:Code} {l':List (Nat×Value)} (aN:Sub l l') (h:nV P c Q n ds l' w):nV P c Q n ds l w:=fun a ax=>h a (ax.sub aN)
theorem hd.sub {e:Exit} {l':List (Nat×Value)} (aN:Sub l l') (h:hd Q e n ds l' w):hd Q e n ds l w:=fun a ax=>h a (ax.sub aN)
/-! ### Control -/
theorem l7 {x y:Code} (h:∀ K:Act→World→Prop,(∀ n ds l w,nV P y Q n ds l w→∀ a,Has n ds l a→K a w)→nV P x (Exit.then K Q) n ds l w):nV P (.seq x y) Q n ds l w:=
 fun a ax=>wp_seq (h (fun a w=>y.wp P Q a w) (fun _ _ _ _ h a ax=>h a ax) a ax)
theorem cJ (h:hd Q .normal n ds l w):nV P .skip Q n ds l w:=fun a ax=>wp_skip (h a ax)
theorem bg (h:hd Q .ret n ds l w):nV P .ret Q n ds l w:=fun a ax=>wp_ret (h a ax)
theorem bV {i:Nat} (h:hd Q (.exit i) n ds l w):nV P (.exit i) Q n ds l w:=fun a ax=>wp_exit (h a ax)
theorem fU {i:Nat} {c:Code} (h:nV P c (Exit.inBlock i Q) n ds l w):nV P (.block i c) Q n ds l w:=fun a ax=>wp_block (h a ax)
theorem aU {c:Operand} {x y:Code} {b:Bool} (a6:aT l c=some (.bool b)) (bQ:b=true→nV P x Q n ds l w) (dm:b=false→nV P y Q n ds l w):nV P (.cond c x y) Q n ds l w:=
 fun a ax=>wp_cond_split (ax.nU a6) (fun h=>bQ h a ax) (fun h=>dm h a ax)
theorem bm {c:Operand} {x y:Code} {p:Prop} [Decidable p] (a6:aT l c=some (.bool (decide p))) (bQ:p→nV P x Q n ds l w) (dm:¬ p→nV P y Q n ds l w):nV P (.cond c x y) Q n ds l w:=
 aU a6 (fun h=>bQ (of_decide_eq_true h)) (fun h=>dm (of_decide_eq_false h))
theorem aO {c:Operand} {x y:Code} (a6:aT l c=some (.bool true)) (bQ:nV P x Q n ds l w):nV P (.cond c x y) Q n ds l w:=
 aU a6 (fun _=>bQ) (fun h=>by cases h)
theorem aJ {c:Operand} {x y:Code} (a6:aT l c=some (.bool false)) (dm:nV P y Q n ds l w):nV P (.cond c x y) Q n ds l w:=
 aU a6 (fun h=>by cases h) (fun _=>dm)
theorem fv {K:Act→World→Prop} (h:∀ a,Has n ds l a→K a w):hd (Exit.then K Q) .normal n ds l w:=fun a ax=>h a ax
theorem a1 {K:Act→World→Prop} {e:Exit} (he:e≠.normal) (h:hd Q e n ds l w):hd (Exit.then K Q) e n ds l w:=fun a ax=>by
 have:=h a ax;cases e <;> first | exact this | exact absurd rfl he
theorem cr {i:Nat} (h:hd Q .normal n ds l w):hd (Exit.inBlock i Q) (.exit i) n ds l w:=fun a ax=>by simpa [Exit.inBlock] using h a ax
theorem b5 {i:Nat} {e:Exit} (he:∀ j,e≠.exit j) (h:hd Q e n ds l w):hd (Exit.inBlock i Q) e n ds l w:=fun a ax=>by
 have:=h a ax;cases e <;> first | exact this | exact absurd rfl (he _)
theorem cz {c:Code} {σ:Type} (L:σ→List (Nat×Value)) (apx:σ→World→Prop) (QV:σ→Nat) (acU:σ) (aN:Sub l (L acU)) (bD:apx acU w)
  (round:∀ s w,apx s w→nV P c (Exit.then (fun yc w'=>∃ FO,Has n ds (L FO) yc∧apx FO w'∧QV FO<QV s) Q) n ds (L s) w):nV P (.loop c) Q n ds l w:=by
 intro a ax
 have key:∀ m,∀ s a w,QV s=m→Has n ds (L s) a→apx s w→∀ (b:Frame) (k:List Item) (cs:List Frame),
   ∃ e yc w',Q e yc w'∧Arrives P (lone (b.at a (.code c::.inLoop c::k)) cs w) b k cs e yc w':=by
  intro m
  induction m using Nat.strongRecOn with
  | _ m dh=>
   intro s a w hm ax pF b k cs
   obtain⟨e,zn,zo,eE,u0⟩:=round s w pF a ax b (.inLoop c::k) cs
   cases e with
   | normal=>
    obtain⟨FO,ue,ah',bk⟩:=eE
    obtain⟨acV,acW,acX,WV,Nb⟩:=dh (QV FO) (hm▸bk) FO zn zo rfl ue ah' b k cs
    exact⟨acV,acW,acX,WV,.of_steps (Steps.trans u0 (.one step_inLoop)) Nb⟩
   | exit id=>exact⟨_,zn,zo,eE,.pass (x:=.inLoop c) rfl (fun _ _=>.inl (by simp)) u0⟩
   | goto l=>exact⟨_,zn,zo,eE,.pass (x:=.inLoop c) rfl (fun _ _=>.inl (by simp)) u0⟩
   | ret=>exact⟨_,zn,zo,eE,.pass (x:=.inLoop c) rfl (fun _ _=>.inl (by simp)) u0⟩
   | panic apo=>exact⟨_,zn,zo,eE,.pass (x:=.inLoop c) rfl (fun _ _=>.inl (by simp)) u0⟩
   | outgrown=>exact⟨_,zn,zo,eE,.pass (x:=.inLoop c) rfl (fun _ _=>.inl (by simp)) u0⟩
 intro b k cs
 obtain⟨e,yc,w',eE,u0⟩:=key _ acU a w rfl (ax.sub aN) bD b k cs
 exact⟨e,yc,w',eE,.of_steps (.one step_loop) u0⟩
theorem jW {σ:Type} {L:σ→List (Nat×Value)} {apx:σ→World→Prop} {QV:σ→Nat} {s:σ} (FO:σ) (aN:Sub l (L FO)) (pF:apx FO w) (hm:QV FO<QV s) :
  hd (Exit.then (fun yc w'=>∃ FO,Has n ds (L FO) yc∧apx FO w'∧QV FO<QV s) Q) .normal n ds l w:=fun a ax=>⟨FO,ax.sub aN,pF,hm⟩
/-! ### Regions, and their operations -/
theorem b8 {id:Nat} {lo:List Oper} (h:fC P lo.toArray Q lo n ds l w):nV P (.region id lo.toArray false) Q n ds l w:=fun a ax=>wp_region_lit (h a ax)
theorem eG (h:hd Q .normal n ds l w):fC P ops Q [] n ds l w:=fun a ax=>h a ax
def bo (P:Program) (l:List (Nat×Value)) (o:Oper) (w:World) (v:Value) (w':World):Prop:=
 ∀ ρ:Operand→Value,(∀ x u,aT l x=some u→ρ x=u)→(execOp ρ o).run P w = .ok (.value v) w'
def FP (P:Program) (l:List (Nat×Value)) (o:Oper) (w:World) (w':World):Prop:=
 ∀ ρ:Operand→Value,(∀ x u,aT l x=some u→ρ x=u)→(execOp ρ o).run P w = .ok .skip w'
def kL (P:Program) (l:List (Nat×Value)) (o:Oper) (w:World) (f:FuncId) (args:Array Value):Prop:=
 ∀ ρ:Operand→Value,(∀ x u,aT l x=some u→ρ x=u)→(execOp ρ o).run P w = .ok (.enter f args) w
variable {rest:List Oper} {d:Nat} {op:Op} {ty:TypeId} {pos:String} {af:Array Edge}
theorem e9 {v:Value} (bf:bo P l ⟨some d,op,ty,pos,af,none⟩ w v w') (bL:Nat.blt d n=true) (h:fC P ops Q rest n ds ((d,v)::l) w') :
  fC P ops Q (⟨some d,op,ty,pos,af,none⟩::rest) n ds l w:=by
 intro a ax
 refine wpList_plain rfl fun K lT=>?_
 have:=bf a.eval (fun x u ab=>ax.nU ab)
 simp only [Oper.wp,this,Oper.upon]
 exact lT _ _ (h _ (ax.put bL v))
theorem alD (bf:FP P l ⟨none,op,ty,pos,af,none⟩ w w') (h:fC P ops Q rest n ds l w') :
  fC P ops Q (⟨none,op,ty,pos,af,none⟩::rest) n ds l w:=by
 intro a ax
 refine wpList_plain rfl fun K lT=>?_
 have:=bf a.eval (fun x u ab=>ax.nU ab)
 simp only [Oper.wp,this,Oper.upon]
 exact lT _ _ (h _ ax)
def bI (vm:Value→World→Prop):Ending→World→Prop
 | .returned v,w=>vm v w
 | _,_=>False
theorem fP {f:FuncId} {args:Array Value} {vm:Value→World→Prop} (bf:kL P l ⟨some d,op,ty,pos,af,none⟩ w f args) (a6:Calls P f args w (bI vm)) (bL:Nat.blt d n=true)
  (h:∀ v w',vm v w'→fC P ops Q rest n ds ((d,v)::l) w') :
  fC P ops Q (⟨some d,op,ty,pos,af,none⟩::rest) n ds l w:=by
 intro a ax
 refine wpList_plain rfl fun K lT=>?_
 have:=bf a.eval (fun x u ab=>ax.nU ab)
 simp only [Oper.wp,this,Oper.upon]
 refine a6.mono fun e w' he=>?_
 cases e with
 | returned v=>exact lT _ _ (h v w' he _ (ax.put bL v))
 | panicked c=>exact he.elim
 | outgrown=>exact he.elim
end
section
variable {P:Program} {ops:Array Oper} {Q:Exit→Act→World→Prop} {n:Nat} {ds:List Deferred} {l:List (Nat×Value)} {w w':World} {a:Act}
variable {rest:List Oper} {d:Nat} {op:Op} {ty:TypeId} {pos:String} {af:Array Edge}
variable {dd:Option Nat} {gg:Option (Nat×Bool)} {x y z:Operand} {t t':TypeId} {k jH:IntKind} {m gR:Int} {b eA:Bool}
theorem dQ {v:Value} (ab:aT l x=some v):bo P l ⟨dd,.move x,ty,pos,af,gg⟩ w v w:=fun ρ h=>by
 simp [execOp,h x v ab]
theorem cI {v:Value} (ab:aT l x=some v):bo P l ⟨dd,.assign x,ty,pos,af,gg⟩ w v w:=fun ρ h=>by
 simp [execOp,h x v ab]
theorem p8 {α:Type} [BEq α] [LawfulBEq α] [DecidableEq α] (u v:α):(u == v)=decide (u=v):=by
 by_cases h:u=v <;> simp [h]
/-! ### whole numbers -/
theorem p1 (ab:aT l x=some (.int k m)) (aR:aT l y=some (.int k gR)):bo P l ⟨dd,.binOp .add t x y t',ty,pos,af,gg⟩ w (.int k (k.wrap (m+gR))) w:=fun ρ h=>by
 simp [execOp,eqGuard,h _ _ ab,h _ _ aR,binOp,Op.intArith]
theorem ia (ab:aT l x=some (.int k m)) (aR:aT l y=some (.int k gR)):bo P l ⟨dd,.binOp .sub t x y t',ty,pos,af,gg⟩ w (.int k (k.wrap (m-gR))) w:=fun ρ h=>by
 simp [execOp,eqGuard,h _ _ ab,h _ _ aR,binOp,Op.intArith]
theorem wrap64_in (z:Int) (h : -9223372036854775808≤z∧z≤9223372036854775807):IntKind.i64.wrap z=z:=by
 rw [IntKind.wrap_i64 z];omega
theorem bT (ab:aT l x=some (.int .i64 m)) (aR:aT l y=some (.int .i64 gR)) (aH : -9223372036854775808≤m+gR∧m+gR≤9223372036854775807):bo P l ⟨dd,.binOp .add t x y t',ty,pos,af,gg⟩ w (.int .i64 (m+gR)) w:=by
 have:=p1 (P:=P) (w:=w) (dd:=dd) (gg:=gg) (t:=t) (t':=t') (ty:=ty) (pos:=pos) (af:=af) ab aR
 rwa [wrap64_in _ aH] at this
theorem nm (ab:aT l x=some (.int .i64 m)) (aR:aT l y=some (.int .i64 gR)) (aH : -9223372036854775808≤m-gR∧m-gR≤9223372036854775807):bo P l ⟨dd,.binOp .sub t x y t',ty,pos,af,gg⟩ w (.int .i64 (m-gR)) w:=by
 have:=ia (P:=P) (w:=w) (dd:=dd) (gg:=gg) (t:=t) (t':=t') (ty:=ty) (pos:=pos) (af:=af) ab aR
 rwa [wrap64_in _ aH] at this
theorem wO (ab:aT l x=some (.int k m)) (aR:aT l y=some (.int jH gR)) (bD:0≤gR):bo P l ⟨dd,.binOp .shl t x y t',ty,pos,af,gg⟩ w (.int k (k.wrap (m*2 ^ (min gR.toNat k.bits)))) w:=fun ρ h=>by
 have:¬ gR<0:=by omega
 simp [execOp,eqGuard,h _ _ ab,h _ _ aR,binOp,Op.shift,this]
theorem FQ (ab:aT l x=some (.int k m)) (aR:aT l y=some (.int jH gR)) (bD:0≤gR):bo P l ⟨dd,.binOp .shr t x y t',ty,pos,af,gg⟩ w (.int k (m.fdiv (2 ^ (min gR.toNat k.bits)))) w:=fun ρ h=>by
 have:¬ gR<0:=by omega
 simp [execOp,eqGuard,h _ _ ab,h _ _ aR,binOp,Op.shift,this]
theorem FR (ab:aT l x=some (.int k m)) (aR:aT l y=some (.int k gR)):bo P l ⟨dd,.binOp .and t x y t',ty,pos,af,gg⟩ w (.int k (k.wrap (BitVec.ofInt k.bits m &&& BitVec.ofInt k.bits gR).toNat)) w:=fun ρ h=>by
 simp [execOp,eqGuard,h _ _ ab,h _ _ aR,binOp,Op.intBits]
theorem pk (ab:aT l x=some (.int k m)) (aR:aT l y=some (.int k gR)):bo P l ⟨dd,.binOp .or t x y t',ty,pos,af,gg⟩ w (.int k (k.wrap (BitVec.ofInt k.bits m ||| BitVec.ofInt k.bits gR).toNat)) w:=fun ρ h=>by
 simp [execOp,eqGuard,h _ _ ab,h _ _ aR,binOp,Op.intBits]
theorem dK (ab:aT l x=some (.int k m)) (aR:aT l y=some (.int k gR)):bo P l ⟨dd,.binOp .lss t x y t',ty,pos,af,gg⟩ w (.bool (decide (m<gR))) w:=fun ρ h=>by
 simp [execOp,eqGuard,h _ _ ab,h _ _ aR,binOp,Op.intCmp]
theorem uf (ab:aT l x=some (.int k m)) (aR:aT l y=some (.int k gR)):bo P l ⟨dd,.binOp .leq t x y t',ty,pos,af,gg⟩ w (.bool (decide (m≤gR))) w:=fun ρ h=>by
 simp [execOp,eqGuard,h _ _ ab,h _ _ aR,binOp,Op.intCmp]
theorem hY (ab:aT l x=some (.int k m)) (aR:aT l y=some (.int k gR)):bo P l ⟨dd,.binOp .gtr t x y t',ty,pos,af,gg⟩ w (.bool (decide (gR<m))) w:=fun ρ h=>by
 simp [execOp,eqGuard,h _ _ ab,h _ _ aR,binOp,Op.intCmp]
theorem et (ab:aT l x=some (.int k m)) (aR:aT l y=some (.int k gR)):bo P l ⟨dd,.binOp .geq t x y t',ty,pos,af,gg⟩ w (.bool (decide (gR≤m))) w:=fun ρ h=>by
 simp [execOp,eqGuard,h _ _ ab,h _ _ aR,binOp,Op.intCmp]
theorem oC (ab:aT l x=some (.int k m)) (aR:aT l y=some (.int k gR)):bo P l ⟨dd,.binOp .eql t x y t',ty,pos,af,gg⟩ w (.bool (decide (m=gR))) w:=fun ρ h=>by
 simp [execOp,eqGuard,h _ _ ab,h _ _ aR,binOp,Op.intCmp,p8]
theorem fE (ab:aT l x=some (.int k m)) (aR:aT l y=some (.int k gR)):bo P l ⟨dd,.binOp .neq t x y t',ty,pos,af,gg⟩ w (.bool (decide (m≠gR))) w:=fun ρ h=>by
 have:(m != gR)=decide (m≠gR):=by
  by_cases h:m=gR <;> simp [h]
 simp [execOp,eqGuard,h _ _ ab,h _ _ aR,binOp,Op.intCmp,this]
theorem gJ (ab:aT l x=some (.bool b)):bo P l ⟨dd,.unOp .not t x,ty,pos,af,gg⟩ w (.bool (!b)) w:=fun ρ h=>by
 simp [execOp,h _ _ ab,Op.unary]
theorem qC {d0:TypeDesc} (aN:P.underlying t=some d0) (bQ:P.underlying t'=some (.int jH)) (ab:aT l x=some (.int k m)):bo P l ⟨dd,.convert t t' x,ty,pos,af,gg⟩ w (.int jH (jH.wrap m)) w:=fun ρ h=>by
 simp [execOp,h _ _ ab,convert,run_underlying aN,run_underlying bQ,Conv.intToInt]
theorem sP {d0:TypeDesc} (aN:P.underlying t=some d0) (bQ:P.underlying t'=some (.int jH)) (ab:aT l x=some (.int k m)) (aH:jH.wrap m=m):bo P l ⟨dd,.convert t t' x,ty,pos,af,gg⟩ w (.int jH m) w:=by
 have:=qC (P:=P) (w:=w) (dd:=dd) (gg:=gg) (ty:=ty) (pos:=pos) (af:=af) aN bQ ab
 rwa [aH] at this
/-! ### strings -/
abbrev S (s:List UInt8):Value:=.string ⟨⟨s⟩⟩
theorem qJ (s:List UInt8):(⟨⟨s⟩⟩:ByteArray).toList=s:=by
 exact ByteArray.toList_mk s
theorem dM {u v:List UInt8} (ab:aT l x=some (S u)) (aR:aT l y=some (S v)):bo P l ⟨dd,.binOp .eql t x y t',ty,pos,af,gg⟩ w (.bool (decide (u=v))) w:=fun ρ h=>by
 simp [execOp,eqGuard,h _ _ ab,h _ _ aR,binOp,Op.stringOp,p8,qJ]
theorem e3 {u v:List UInt8} (ab:aT l x=some (S u)) (aR:aT l y=some (S v)):bo P l ⟨dd,.binOp .neq t x y t',ty,pos,af,gg⟩ w (.bool (decide (u≠v))) w:=fun ρ h=>by
 have:(!(u == v))=decide (u≠v):=by by_cases h:u=v <;> simp [h]
 simp [execOp,eqGuard,h _ _ ab,h _ _ aR,binOp,Op.stringOp,this,qJ]
abbrev fA (u v:List UInt8):Bool:=Op.bytesLess u v
theorem AT {u v:List UInt8} (ab:aT l x=some (S u)) (aR:aT l y=some (S v)):bo P l ⟨dd,.binOp .gtr t x y t',ty,pos,af,gg⟩ w (.bool (!(fA u v||u == v))) w:=fun ρ h=>by
 simp [execOp,eqGuard,h _ _ ab,h _ _ aR,binOp,Op.stringOp,qJ,fA]
theorem AU {u v:List UInt8} (ab:aT l x=some (S u)) (aR:aT l y=some (S v)):bo P l ⟨dd,.binOp .geq t x y t',ty,pos,af,gg⟩ w (.bool (!(fA u v))) w:=fun ρ h=>by
 simp [execOp,eqGuard,h _ _ ab,h _ _ aR,binOp,Op.stringOp,qJ,fA]
theorem QW {u v:List UInt8} (ab:aT l x=some (S u)) (aR:aT l y=some (S v)) (aH:u.length+v.length≤9223372036854775807):bo P l ⟨dd,.binOp .add t x y t',ty,pos,af,gg⟩ w (S (u++v)) w:=fun ρ h=>by
 have h1:((u.length:Int)+v.length)≤IntKind.i64.max:=by
  have:IntKind.i64.max=9223372036854775807:=by decide
  omega
 have aj:(⟨⟨u⟩⟩:ByteArray)++⟨⟨v⟩⟩=⟨⟨u++v⟩⟩:=by
  apply ByteArray.ext;simp [ByteArray.data_append]
 have aF:(⟨⟨u⟩⟩:ByteArray).size=u.length:=rfl;have bn:(⟨⟨v⟩⟩:ByteArray).size=v.length:=rfl;simp only [execOp,eqGuard,h _ _ ab,h _ _ aR,binOp,Op.stringOp];simp [aF,bn,aj];exact h1
theorem bF {u:List UInt8} (aN:P.underlying t=some .string) (ab:aT l x=some (S u)):bo P l ⟨dd,.call {callee:=.builtin .len,args:=#[x],argTypes:=#[t]},ty,pos,af,gg⟩ w (.int .i64 u.length) w:=fun ρ h=>by
 have aF:(⟨⟨u⟩⟩:ByteArray).size=u.length:=rfl;simp [execOp,resolve,invoke,builtin,Builtin.len_,h _ _ ab,run_underlying aN,goInt,aF]
theorem c8 {u:List UInt8} {c:UInt8} (aN:P.underlying t=some .string) (ab:aT l x=some (S u)) (aR:aT l y=some (.int k m)) (bD:0≤m) (a6:u[m.toNat]? = some c):bo P l ⟨dd,.index t x y,ty,pos,af,gg⟩ w (.int .u8 c.toNat) w:=fun ρ h=>by
 have bk:m.toNat<u.length:=(List.getElem?_eq_some_iff.1 a6).1;have aF:(⟨⟨u⟩⟩:ByteArray)[m.toNat]? = some c:=by
  have bn:m.toNat<(⟨⟨u⟩⟩:ByteArray).size:=bk;have ch:=(List.getElem?_eq_some_iff.1 a6).2;rw [getElem?_pos (⟨⟨u⟩⟩:ByteArray) m.toNat bn,← ch];rfl
 simp [execOp,Instr.index,h _ _ ab,h _ _ aR,asIntOf,run_underlying aN,bD,aF]
/-! ### the rest that touches no memory -/
theorem dU {vs:Array Value} {i:Nat} {v:Value} (ab:aT l x=some (.tuple vs)) (hi:vs[i]? = some v):bo P l ⟨dd,.extract x i,ty,pos,af,gg⟩ w v w:=fun ρ h=>by
 simp [execOp,Instr.extract,h _ _ ab,hi]
theorem dx {ad:Addr} (ab:aT l x=some (.pointer (some ad))):bo P l ⟨dd,.nilCheck x,ty,pos,af,gg⟩ w (.pointer (some ad)) w:=fun ρ h=>by
 simp [execOp,h _ _ ab]
theorem AV {e:TypeId} {ad:Option Addr} {c c':Nat} (dp:Nat) (he:P.underlying t=some (.slice e)):(Op.equalIn (dp+1) t (.slice ad c c') (.slice none 0 0)).run P w = .ok ad.isNone w:=by
 cases ad <;> simp [Op.equalIn,run_underlying he]
theorem FT {e:TypeId} {ad:Option Addr} {c c':Nat} (he:P.underlying t=some (.slice e)):(binOp .eql t (.slice ad c c') (.slice none 0 0)).run P w = .ok (.bool ad.isNone) w:=by
 have aV:binOp .eql t (.slice ad c c') (.slice none 0 0)=(do pure (.bool (← Op.equalIn (9999+1) t (.slice ad c c') (.slice none 0 0)))):=by cases ad <;> rfl
 have bs:=AV (w:=w) (ad:=ad) (c:=c) (c':=c') 9999 he;rw [aV,Sem.run_bind,bs];rfl
theorem GC {ad:Option Addr} {c c' e:Nat} (he:P.underlying t=some (.slice e)) (ab:aT l x=some (.slice ad c c')) (aR:aT l y=some (.slice none 0 0)):bo P l ⟨dd,.binOp .eql t x y t',ty,pos,af,gg⟩ w (.bool ad.isNone) w:=fun ρ h=>by
 have:=FT (w:=w) (ad:=ad) (c:=c) (c':=c') he;simp only [execOp,eqGuard,h _ _ ab,h _ _ aR];simp [this]
theorem bx {ad:Option Addr} {c c' e:Nat} (he:P.underlying t=some (.slice e)) (ab:aT l x=some (.slice ad c c')):bo P l ⟨dd,.call {callee:=.builtin .len,args:=#[x],argTypes:=#[t]},ty,pos,af,gg⟩ w (.int .i64 c) w:=fun ρ h=>by
 simp [execOp,resolve,invoke,builtin,Builtin.len_,h _ _ ab,run_underlying he,goInt]
theorem Uu {ad:Option Addr} {c c' e:Nat} (he:P.underlying t=some (.slice e)) (ab:aT l x=some (.slice ad c c')):bo P l ⟨dd,.call {callee:=.builtin .cap,args:=#[x],argTypes:=#[t]},ty,pos,af,gg⟩ w (.int .i64 c') w:=fun ρ h=>by
 simp [execOp,resolve,invoke,builtin,Builtin.cap_,h _ _ ab,run_underlying he,goInt]
theorem sQ {ρ:Operand→Value} (h:∀ x u,aT l x=some u→ρ x=u):∀ (h6:List Operand) (us:List Value),CO l h6=some us→h6.map ρ=us:=by
 intro h6
 induction h6 with
 | nil=>intro us hu;simp [CO] at hu;simp [← hu]
 | cons z h6 dh=>
  intro us hu;simp only [CO] at hu
  split at hu
  ·rename_i v vs h1 aj
   simp only [Option.some.injEq] at hu;subst hu;simp [h _ _ h1,dh _ aj]
  cases hu
theorem M0 {fn:Fn} {xs FN:Array Operand} {us vs:List Value} (ab:CO l xs.toList=some us) (aR:CO l FN.toList=some vs):bo P l ⟨dd,.makeFunc fn xs FN,ty,pos,af,gg⟩ w (.func fn us.toArray vs.toArray) w:=fun ρ h=>by
 have aV:xs.map ρ=us.toArray:=by apply Array.toList_inj.1;simpa using sQ h _ _ ab
 have bs:FN.map ρ=vs.toArray:=by apply Array.toList_inj.1;simpa using sQ h _ _ aR
 simp [execOp,Instr.makeFunc,aV,bs]
theorem Ft {v:Value} {d0:TypeDesc} (he:P.underlying t=some d0) (bW:(match d0 with | .interface _=>false | _=>true)=true) (ab:aT l x=some v):bo P l ⟨dd,.makeInterface t x,ty,pos,af,gg⟩ w (.iface t v) w:=fun ρ h=>by
 cases d0 <;> first | (simp at bW;done) | simp [execOp,Instr.makeInterface,h _ _ ab,run_underlying he]
/-! ### calls -/
def aP (P:Program) (f:FuncId):Prop:=∀ args w,(callFunc f args).run P w = .ok (.enter f args) w
theorem aP.of {f:FuncId} {fn:Func} (dm:P.funcs[f]? = some fn) (bW:(fn.name == "runtime.NumGoroutine")=false) (aH:fn.body.isNone=false):aP P f:=fun args w=>by
 have h1:fn.name≠ "runtime.NumGoroutine" :=by simpa using bW
 cases a6:fn.body with
 | none=>rw [a6] at aH;cases aH
 | some c=>simp [callFunc,dm,h1,a6]
theorem bt {f:FuncId} {xs:List Operand} {us:List Value} {fV:Array TypeId} (he:aP P f) (ab:CO l xs=some us):kL P l ⟨dd,.call {callee:=.value (.func f),args:=xs.toArray,argTypes:=fV},ty,pos,af,gg⟩ w f us.toArray:=fun ρ h=>by
 have aV:xs.map ρ=us:=sQ h _ _ ab;have bs:ρ (.func f) = .func (.func f) #[] #[]:=h _ _ rfl;have:=he us.toArray w;simp [execOp,resolve,bs,Deferred.ofValue,invoke,← aV] at this ⊢;simpa using this
theorem se {f:FuncId} {g:Operand} {xs:List Operand} {us vs:List Value} {fV:Array TypeId} (he:aP P f) (cN:aT l g=some (.func (.func f) #[] vs.toArray)) (ab:CO l xs=some us):kL P l ⟨dd,.call {callee:=.value g,args:=xs.toArray,argTypes:=fV},ty,pos,af,gg⟩ w f (us++vs).toArray:=fun ρ h=>by
 have aV:xs.map ρ=us:=sQ h _ _ ab;have bs:ρ g = .func (.func f) #[] vs.toArray:=h _ _ cN;have:=he (us++vs).toArray w;simp [execOp,resolve,bs,Deferred.ofValue,invoke,← aV] at this ⊢;simpa using this
end
/-! ## Memory -/
structure Mod (M:List Nat) (w w':World):Prop where
 os:w'.os=w.os
 tape:w'.tape=w.tape
 output:w'.output=w.output
 size:w.heap.size≤w'.heap.size
 block:∀ i,i<w.heap.size→i∉M→w'.heap[i]? = w.heap[i]?
theorem Mod.refl (M:List Nat) (w:World):Mod M w w:=⟨rfl,rfl,rfl,Nat.le_refl _,fun _ _ _=>rfl⟩
theorem Mod.trans' {M N:List Nat} {a b c:World} (h:Mod M a b) (k:Mod N b c) (hj:∀ x∈N,x∈M∨a.heap.size≤x):Mod M a c:=
 ⟨k.os.trans h.os,k.tape.trans h.tape,k.output.trans h.output,Nat.le_trans h.size k.size,fun i hi eb=>
  (k.block i (Nat.lt_of_lt_of_le hi h.size) (fun ab=>by rcases hj i ab with h1 | h1 <;> first | exact eb h1 | omega)).trans (h.block i hi eb)⟩
theorem Mod.trans {M:List Nat} {a b c:World} (h:Mod M a b) (k:Mod M b c):Mod M a c:=h.trans' k fun x ab=>.inl ab
theorem Mod.then {M:List Nat} {a b c:World} (h:Mod M a b) (k:Mod [] b c):Mod M a c:=h.trans' k fun x ab=>by cases ab
theorem Mod.own {M:List Nat} {a b c:World} {g:Nat} (h:Mod M a b) (k:Mod [g] b c) (cN:a.heap.size≤g):Mod M a c:=h.trans' k fun x ab=>by simp at ab;subst ab;exact .inr cN
theorem Mod.mono {M N:List Nat} {a b:World} (h:Mod M a b) (aia:∀ x∈M,x∈N):Mod N a b:=⟨h.os,h.tape,h.output,h.size,fun i hi hj=>h.block i hi (fun eb=>hj (aia i eb))⟩
theorem Mod.below {w w':World} (h:Mod [] w w'):RowKit.Below w.heap.size w w':=⟨h.os,h.tape,h.output,h.size,fun k hk=>h.block k hk (by simp)⟩
theorem Mod.drew (M:List Nat) (w:World):Mod M w w.drew:=⟨rfl,rfl,rfl,Nat.le_refl _,fun _ _ _=>rfl⟩
theorem Mod.alloc (w:World) (o:Obj):Mod [] w (w.alloc o):=⟨rfl,rfl,rfl,by simp,fun i hi _=>RowKit.Below.heap_alloc w o i hi⟩
def aD (w:World) (g:Nat) (T:TypeId) (cs:List Value):Prop:=w.heap[g]? = some (.cells cs.toArray T (0,0))
section
variable {w w':World} {g:Nat} {T:TypeId} {cs:List Value} {M:List Nat}
theorem aD.lt (h:aD w g T cs):g<w.heap.size:=(Array.getElem?_eq_some_iff.1 h).1
theorem aD.mod (h:aD w g T cs) (k:Mod M w w') (cN:g∉M):aD w' g T cs:=(k.block g h.lt cN).trans h
theorem aD.I (h:aD w g T cs) (k:Mod [] w w'):aD w' g T cs:=h.mod k (by simp)
theorem aD.ne {ER:Nat} (h:aD w g T cs) (k:Mod [ER] w w') (cN:g≠ER):aD w' g T cs:=h.mod k (by simp [cN])
theorem aD.cell (h:aD w g T cs) {i:Nat} {v:Value} (bw:cs[i]? = some v):w.cell? ⟨g,i,none⟩=some v:=by
 rw [cell_of_row w g i cs.toArray T (0,0) h];simpa using bw
theorem aD.frozen (h:aD w g T cs) (i:Nat):w.frozen? ⟨g,i,none⟩=false:=frozen_of_row w g i cs.toArray T h
end
def pd (w:World) (a:Addr) (vs:List Value):Prop:=∀ j v,vs[j]? = some v→w.cell? (a.add j)=some v
theorem pd.nil (w:World) (a:Addr):pd w a []:=fun j v h=>by simp at h
theorem aD.cs {w:World} {g:Nat} {T:TypeId} {cs vs:List Value} (h:aD w g T cs) {o:Nat} (bw:(cs.drop o).take vs.length=vs):pd w ⟨g,o,none⟩ vs:=by
 intro j v dG;rw [Addr.add_lit];apply h.cell;have bk:j<vs.length:=(List.getElem?_eq_some_iff.1 dG).1;rw [← bw,List.getElem?_take,List.getElem?_drop] at dG;simpa [bk] using dG
theorem pd.mod {w w':World} {a:Addr} {vs:List Value} {M:List Nat} (h:pd w a vs) (k:Mod M w w') (eb:a.block∉M):pd w' a vs:=by
 intro j v dG;have a6:=h j v dG;have aH:(a.add j).block=a.block:=by unfold Addr.add;split <;> rfl
 have bk:=World.block_lt_of_cell? w _ a6;rw [aH] at bk;rw [← a6];exact World.cell?_of_block (by rw [aH];exact k.block _ bk eb)
/-! ### what is asked of the program's table of types -/
def CP:TypeDesc→Bool
 | .struct _ | .array _ _=>true
 | _=>false
def mY (P:Program) (t:TypeId):Bool:=match P.underlying t,P.info? t with
 | some d,some i=>!CP d&&i.size == 1
 | _,_=>false
def pJ (P:Program) (t:TypeId) (n:Nat):Bool:=match P.underlying t,P.info? t with
 | some d,some i=>CP d&&i.size == n
 | _,_=>false
def k2 (P:Program) (t:TypeId) (e n fY:Nat):Bool:=match P.underlying t,P.info? e with
 | some (.slice uM),some i=>uM == e&&i.size == n&&i.bytes == fY&&(match i.zero with | some z=>z.cells.size == n | none=>false)
 | _,_=>false
def ho (P:Program) (t f off n:Nat):Bool:=match P.underlying t with
 | some (.struct nW)=>match nW[f]? with
  | some fd=>fd.offset == off&&(match P.info? fd.type with | some i=>i.size == n&&n != 0 | none=>false)
  | none=>false
 | _=>false
section
variable {P:Program} {t e n fY k f off:Nat} {w:World}
theorem qK (h:mY P t=true):∃ d i,P.underlying t=some d∧P.info? t=some i∧CP d=false∧i.size=1:=by
 unfold mY at h
 split at h
 ·rename_i d i h1 aj
  simp only [Bool.and_eq_true,Bool.not_eq_true',beq_iff_eq] at h;exact⟨d,i,h1,aj,h.1,h.2⟩
 cases h
theorem zp (h:pJ P t n=true):∃ d i,P.underlying t=some d∧P.info? t=some i∧CP d=true∧i.size=n:=by
 unfold pJ at h
 split at h
 ·rename_i d i h1 aj
  simp only [Bool.and_eq_true,beq_iff_eq] at h;exact⟨d,i,h1,aj,h.1,h.2⟩
 cases h
theorem hU (h:k2 P t e n fY=true):∃ i z,P.underlying t=some (.slice e)∧P.info? e=some i∧i.size=n∧i.bytes=fY∧i.zero=some z∧z.cells.size=n:=by
 unfold k2 at h
 split at h
 ·rename_i uM i h1 aj
  simp only [Bool.and_eq_true,beq_iff_eq] at h;obtain⟨⟨⟨ax,aH⟩,a6⟩,bL⟩:=h;subst ax
  split at bL
  ·rename_i z cO
   exact⟨i,z,h1,aj,aH,a6,cO,by simpa using bL⟩
  cases bL
 cases h
theorem Jo (h:ho P t f off n=true):∃ nW fd i,P.underlying t=some (.struct nW)∧nW[f]? = some fd∧fd.offset=off∧P.info? fd.type=some i∧i.size=n∧n≠0:=by
 unfold ho at h
 split at h
 ·rename_i nW h1
  split at h
  ·rename_i fd aj
   simp only [Bool.and_eq_true,beq_iff_eq] at h;obtain⟨ax,aH⟩:=h
   split at aH
   ·rename_i i aF
    simp only [Bool.and_eq_true,beq_iff_eq,bne_iff_ne,ne_eq] at aH;exact⟨nW,fd,i,h1,aj,ax,aF,aH.1,aH.2⟩
   cases aH
  cases h
 cases h
theorem i' {d:TypeDesc} (h:P.underlying t=some d):(isAgg t).run P w = .ok (CP d) w:=by
 unfold isAgg;simp only [Sem.run_bind,run_underlying h,Result.andThen_ok];cases d <;> rfl
theorem cu {i:TypeInfo} (h:P.info? t=some i):(sizeOf t).run P w = .ok i.size w:=by
 simp [sizeOf,typeInfo,h]
theorem jl (h:mY P t=true) {a:Addr} {v:Value} (a6:w.cell? a=some v):(loadVar t a).run P w = .ok v w:=by
 obtain⟨d,i,h1,aj,aF,bn⟩:=qK h;unfold loadVar;simp [i' h1,aF,a6]
theorem gq (h:pJ P t n=true) {a:Addr} {vs:List Value} (bW:vs.length=n) (a6:pd w a vs):(loadVar t a).run P w = .ok (.agg vs.toArray) w:=by
 obtain⟨d,i,h1,aj,aF,bn⟩:=zp h;subst bW;unfold loadVar;have:=run_loadCells_list (P:=P) w a vs a6;simp [i' h1,aF,cu aj,bn,this]
end
section
variable {P:Program} {ops:Array Oper} {Q:Exit→Act→World→Prop} {n:Nat} {ds:List Deferred} {l:List (Nat×Value)} {w w':World} {a:Act}
variable {rest:List Oper} {d:Nat} {op:Op} {ty:TypeId} {pos:String} {af:Array Edge}
variable {dd:Option Nat} {gg:Option (Nat×Bool)} {x y z:Operand} {t t':TypeId} {k jH:IntKind} {m gR:Int} {b eA:Bool}
theorem bh {v:Value} {ad:Addr} (bQ:mY P t=true) (ab:aT l x=some (.pointer (some ad))) (a6:w.cell? ad=some v):bo P l ⟨dd,.load t x,ty,pos,af,gg⟩ w v w:=fun ρ h=>by
 simp [execOp,Instr.loadAt,Instr.sureAddr,h _ _ ab,jl bQ a6]
theorem a8 {vs:List Value} {ad:Addr} {c:Nat} (bQ:pJ P t c=true) (ab:aT l x=some (.pointer (some ad))) (bW:vs.length=c) (a6:pd w ad vs):bo P l ⟨dd,.load t x,ty,pos,af,gg⟩ w (.agg vs.toArray) w:=fun ρ h=>by
 simp [execOp,Instr.loadAt,Instr.sureAddr,h _ _ ab,gq bQ bW a6]
theorem dL {ad:Addr} {f o c:Nat} (bQ:ho P t f o c=true) (ab:aT l x=some (.pointer (some ad))):bo P l ⟨dd,.fieldAddr t x f,ty,pos,af,gg⟩ w (.pointer (some (ad.add o))) w:=fun ρ h=>by
 obtain⟨nW,fd,i,h1,aj,aF,bn,ch,eB⟩:=Jo bQ;have kv:¬ i.size=0:=by omega
 simp [execOp,Instr.fieldAt,Instr.sureAddr,h _ _ ab,run_underlying h1,aj,fieldPlace,cu bn,kv,aF]
theorem zq {g off f o c:Nat} (bQ:ho P t f o c=true) (ab:aT l x=some (.pointer (some ⟨g,off,none⟩))):bo P l ⟨dd,.fieldAddr t x f,ty,pos,af,gg⟩ w (.pointer (some ⟨g,off+o,none⟩)) w:=by
 have:=dL (w:=w) (dd:=dd) (gg:=gg) (ty:=ty) (pos:=pos) (af:=af) bQ ab
 rwa [Addr.add_lit] at this
theorem au {g f o c:Nat} (bQ:ho P t f o c=true) (ab:aT l x=some (.pointer (some ⟨g,0,none⟩))):bo P l ⟨dd,.fieldAddr t x f,ty,pos,af,gg⟩ w (.pointer (some ⟨g,o,none⟩)) w:=by
 have:=zq (w:=w) (dd:=dd) (gg:=gg) (ty:=ty) (pos:=pos) (af:=af) bQ ab
 rwa [Nat.zero_add] at this
theorem cf {ad:Addr} {c c' e sz anF:Nat} (bQ:k2 P t e sz anF=true) (ab:aT l x=some (.slice (some ad) c c')) (aR:aT l y=some (.int k m)) (aH:0≤m∧m<c):bo P l ⟨dd,.indexAddr t x y,ty,pos,af,gg⟩ w (.pointer (some (ad.add (m.toNat*sz)))) w:=fun ρ h=>by
 obtain⟨i,z,h1,aj,aF,bn,ch,eB⟩:=hU bQ;simp [execOp,Instr.indexAt,h _ _ ab,h _ _ aR,asIntOf,run_underlying h1,aH.1,aH.2,cu aj,aF]
/-! ### new blocks -/
structure j5 (w w':World) (g:Nat) (T:TypeId) (cs:List Value):Prop where
 aA:aD w' g T cs
 at_:g=w.heap.size
 mod:Mod [] w w'
 size:w'.heap.size=g+1
theorem j5.mk' (w:World) (T:TypeId) (cs:List Value):j5 w (w.alloc (.cells cs.toArray T)) w.heap.size T cs:=
 ⟨heap_alloc_new w _,rfl,Mod.alloc w _,by simp⟩
theorem j5.ne {w w':World} {g ER T PO:Nat} {cs cs':List Value} (h:j5 w w' g T cs) (k:aD w ER PO cs'):ER≠g:=by
 have:=k.lt;have:=h.at_;omega
theorem j5.le {w0 w w':World} {M:List Nat} {g T:Nat} {cs:List Value} (h:j5 w w' g T cs) (k:Mod M w0 w):w0.heap.size≤g:=by
 have:=k.size;have:=h.at_;omega
theorem EP {v:Value} {cs:List Value} {T:Nat} (ab:aT l x=some v) (bw:v.cells=cs.toArray):bo P l ⟨dd,.box T x,ty,pos,af,gg⟩ w (.pointer (some ⟨w.heap.size,0,none⟩)) (w.alloc (.cells cs.toArray T)):=fun ρ e2=>by
 simp [execOp,Instr.box,newVar,newRow,e2 _ _ ab,bw]
theorem ef {v:Value} {cs:List Value} {T:Nat} (ab:aT l x=some v) (bw:v.cells=cs.toArray) (bL:Nat.blt d n=true)
  (h:∀ g w',j5 w w' g T cs→fC P ops Q rest n ds ((d,.pointer (some ⟨g,0,none⟩))::l) w') :
  fC P ops Q (⟨some d,.box T x,ty,pos,af,none⟩::rest) n ds l w:=e9 (EP ab bw) bL (h _ _ (j5.mk' w T cs))
def hq (P:Program) (t:TypeId) (cs:List Value):Prop:=((P.info? t).bind (·.zero)).map (·.cells)=some cs.toArray
theorem ov {t:Nat} {cs:List Value} (h:hq P t cs):∃ i z,P.info? t=some i∧i.zero=some z∧z.cells=cs.toArray:=by
 unfold hq at h;obtain⟨z,cO,aj⟩:=Option.map_eq_some_iff.1 h;obtain⟨i,hi,aF⟩:=Option.bind_eq_some_iff.1 cO;exact⟨i,z,hi,aF,aj⟩
theorem Nc {cs:List Value} {T:Nat} (cO:hq P T cs):bo P l ⟨dd,.alloc T,ty,pos,af,gg⟩ w (.pointer (some ⟨w.heap.size,0,none⟩)) (w.alloc (.cells cs.toArray T)):=fun ρ e2=>by
 obtain⟨i,z,h1,aj,aF⟩:=ov cO;simp [execOp,Instr.alloc,zeroValue,typeInfo,h1,aj,newVar,newRow,aF]
theorem bl {cs:List Value} {T:Nat} (cO:hq P T cs) (bL:Nat.blt d n=true)
  (h:∀ g w',j5 w w' g T cs→fC P ops Q rest n ds ((d,.pointer (some ⟨g,0,none⟩))::l) w') :
  fC P ops Q (⟨some d,.alloc T,ty,pos,af,none⟩::rest) n ds l w:=e9 (Nc cO) bL (h _ _ (j5.mk' w T cs))
/-! ### writing -/
theorem AW {g T i:Nat} {cs:List Value} {v:Value} (h:aD w g T cs):aD (w.setCell ⟨g,i,none⟩ v) g T (cs.set i v):=by
 unfold aD at h ⊢;rw [heap_setCell_same w g i cs.toArray T v h];simp
theorem AX (w:World) (g i:Nat) (v:Value):Mod [g] w (w.setCell ⟨g,i,none⟩ v):=
 ⟨rfl,rfl,rfl,by simp [World.setCell],fun j dG bW=>heap_setCell_other w ⟨g,i,none⟩ j v (by simpa using bW)⟩
structure MC (w w':World) (g:Nat) (T:TypeId) (cs:List Value):Prop where
 aA:aD w' g T cs
 mod:Mod [g] w w'
 size:w'.heap.size=w.heap.size
theorem CQ (w:World) (g:Nat) (cs:Array Value):Mod [g] w (w.setRow g cs):=
 ⟨rfl,rfl,rfl,by simp,fun j dG bW=>by
  simp only [List.mem_singleton] at bW
  simp [World.setRow,Array.getElem?_modify,Ne.symm bW]⟩
def splice (cs:List Value) (o:Nat) (vs:List Value):List Value:=cs.take o++vs++cs.drop (o+vs.length)
theorem gr {g o T:Nat} {cs vs:List Value} (h:aD w g T cs) (dV:o+vs.length≤cs.length) (h1:∀ v∈vs,v.oneCell'=true) :
  ∃ w',(storeCells ⟨g,o,none⟩ vs).run P w = .ok () w'∧MC w w' g T (splice cs o vs):=by
 have bf:=run_storeCells_at P g o T vs 0 cs.toArray w h (by simpa using dV) h1
 refine⟨_,bf,⟨?_,CQ w g _,by simp⟩⟩
 have:=setRow_heap w g cs.toArray (splice cs o vs).toArray T (0,0) h
 unfold aD
 simpa [splice] using this
theorem ea {v:Value} {g i T:Nat} {cs:List Value} (bQ:mY P t=true) (B:aD w g T cs) (ab:aT l x=some (.pointer (some ⟨g,i,none⟩))) (aR:aT l y=some v) (bw:v.oneCell'=true) (hi:i<cs.length)
  (h:∀ w',MC w w' g T (cs.set i v)→fC P ops Q rest n ds l w') :
  fC P ops Q (⟨none,.store t x y,ty,pos,af,none⟩::rest) n ds l w:=by
 obtain⟨QX,inf,h1,aj,aF,bn⟩:=qK bQ
 have a6:v.cells = #[v]:=by cases v <;> first | rfl | (simp [Value.oneCell'] at bw)
 have bf:FP P l ⟨none,.store t x y,ty,pos,af,none⟩ w (w.setCell ⟨g,i,none⟩ v):=fun ρ e2=>by
  have WW:=B.cell (i:=i) (v:=cs[i]) (by simp [hi])
  have dm:=B.frozen i
  have:=run_store P w ⟨g,i,none⟩ v .plain bw
  rw [WW] at this
  simp [dm] at this
  simp [execOp,Instr.storeAt,Instr.sureAddr,e2 _ _ ab,e2 _ _ aR,storeVar,a6,cu aj,bn,storeCells,Addr.add_zero',this]
 exact alD bf (h _ ⟨AW B,AX w g i v,by simp [World.setCell]⟩)
theorem bd {vs:List Value} {g i T c:Nat} {cs:List Value} (bQ:pJ P t c=true) (B:aD w g T cs) (ab:aT l x=some (.pointer (some ⟨g,i,none⟩))) (aR:aT l y=some (.agg vs.toArray)) (a6:vs.length=c)
  (bw:∀ v∈vs,v.oneCell'=true) (hi:i+vs.length≤cs.length)
  (h:∀ w',MC w w' g T (splice cs i vs)→fC P ops Q rest n ds l w') :
  fC P ops Q (⟨none,.store t x y,ty,pos,af,none⟩::rest) n ds l w:=by
 obtain⟨QX,inf,h1,aj,aF,bn⟩:=zp bQ
 obtain⟨aE,bf,bJ⟩:=gr (P:=P) B hi bw
 have bf:FP P l ⟨none,.store t x y,ty,pos,af,none⟩ w aE:=fun ρ e2=>by
  simp [execOp,Instr.storeAt,Instr.sureAddr,e2 _ _ ab,e2 _ _ aR,storeVar,Value.cells,cu aj,bn,a6,bf]
 exact alD bf (h _ bJ)
end
/-! ## What values read as -/
inductive D where
 | v (x:Value)
 | iW (sz:Nat) (rows:List (List D))
mutual
def aS (A:List Nat) (w:World):D→Value→Prop
 | .v x,u=>u=x∧x.oneCell'=true
 | .iW sz rows,u=>∃ ad c,u = .slice ad rows.length c∧rows.length≤c∧c≤maxLen∧
   (rows≠[]→∃ a,ad=some a∧a.block∉A∧a.block<w.heap.size∧de A w sz a 0 rows)
def de (A:List Nat) (w:World) (sz:Nat) (a:Addr):Nat→List (List D)→Prop
 | _,[]=>True
 | i,r::rs=>r.length=sz∧ft A w (a.add (i*sz)) 0 r∧de A w sz a (i+1) rs
def ft (A:List Nat) (w:World) (a:Addr):Nat→List D→Prop
 | _,[]=>True
 | j,d::ds=>(∃ u,w.cell? (a.add j)=some u∧aS A w d u)∧ft A w a (j+1) ds
end
def ak (A:List Nat) (w:World):List D→List Value→Prop
 | [],vs=>vs = []
 | d::ds,vs=>∃ u us,vs=u::us∧aS A w d u∧ak A w ds us
section
variable {A A' M:List Nat} {w w':World}
theorem kM (a:Addr) (n:Nat):(a.add n).block=a.block:=by unfold Addr.add;split <;> rfl
mutual
theorem aS.to (k:Mod M w w') (eb:∀ x∈M,x∈A) (du:∀ x∈A',x∈A∨w.heap.size≤x):∀ (d:D) (u:Value),aS A w d u→aS A' w' d u
 | .v x,u,h=>by simp only [aS] at h ⊢;exact h
 | .iW sz rows,u,h=>by
  simp only [aS] at h ⊢
  obtain⟨ad,c,h1,aj,aF,bn⟩:=h
  refine⟨ad,c,h1,aj,aF,fun bW=>?_⟩
  obtain⟨a,ch,eB,kv,j0⟩:=bn bW
  exact⟨a,ch,fun ab=>by rcases du _ ab with lQ | lQ <;> first | exact eB lQ | omega,Nat.lt_of_lt_of_le kv k.size,de.to k eb du sz a eB kv 0 rows j0⟩
theorem de.to (k:Mod M w w') (eb:∀ x∈M,x∈A) (du:∀ x∈A',x∈A∨w.heap.size≤x) (sz:Nat) (a:Addr) (ax:a.block∉A) (aH:a.block<w.heap.size):∀ (i:Nat) (rows:List (List D)),de A w sz a i rows→de A' w' sz a i rows
 | _,[],_=>by simp only [de]
 | i,r::rs,h=>by
  simp only [de] at h ⊢
  exact⟨h.1,ft.to k eb du _ (by rw [kM];exact ax) (by rw [kM];exact aH) 0 r h.2.1,de.to k eb du sz a ax aH (i+1) rs h.2.2⟩
theorem ft.to (k:Mod M w w') (eb:∀ x∈M,x∈A) (du:∀ x∈A',x∈A∨w.heap.size≤x) (a:Addr) (ax:a.block∉A) (aH:a.block<w.heap.size):∀ (j:Nat) (r:List D),ft A w a j r→ft A' w' a j r
 | _,[],_=>by simp only [ft]
 | j,d::ds,h=>by
  simp only [ft] at h ⊢
  obtain⟨⟨u,a6,bf⟩,bQ⟩:=h
  refine⟨⟨u,?_,aS.to k eb du d u bf⟩,ft.to k eb du a ax aH (j+1) ds bQ⟩
  rw [← a6]
  exact World.cell?_of_block (by rw [kM];exact k.block _ aH (fun ab=>ax (eb _ ab)))
end
theorem ak.to (k:Mod M w w') (eb:∀ x∈M,x∈A) (du:∀ x∈A',x∈A∨w.heap.size≤x):∀ (ds:List D) (us:List Value),ak A w ds us→ak A' w' ds us
 | [],us,h=>h
 | d::ds,us,h=>by
  simp only [ak] at h ⊢
  obtain⟨u,gH,rfl,h1,aj⟩:=h
  exact⟨u,gH,rfl,aS.to k eb du d u h1,ak.to k eb du ds gH aj⟩
theorem ak.length:∀ {ds:List D} {us:List Value},ak A w ds us→us.length=ds.length
 | [],us,h=>by simp only [ak] at h;subst h;rfl
 | d::ds,us,h=>by
  simp only [ak] at h
  obtain⟨u,gH,rfl,_,aj⟩:=h
  simp [aj.length]
theorem aS.one:∀ {d:D} {u:Value},aS A w d u→u.oneCell'=true
 | .v x,u,h=>by simp only [aS] at h;rw [h.1];exact h.2
 | .iW sz rows,u,h=>by
  simp only [aS] at h
  obtain⟨ad,c,h1,_⟩:=h
  subst h1
  rfl
theorem ak.one:∀ {ds:List D} {us:List Value},ak A w ds us→∀ u∈us,u.oneCell'=true
 | [],us,h=>by simp only [ak] at h;subst h;intro u hu;cases hu
 | d::ds,us,h=>by
  simp only [ak] at h
  obtain⟨u,gH,rfl,h1,aj⟩:=h
  intro x ab
  rcases List.mem_cons.1 ab with rfl | ab
  ·exact h1.one
  exact aj.one x ab
theorem ak.append {ds Nd:List D} {us gH:List Value} (h:ak A w ds us) (fb:ak A w Nd gH):ak A w (ds++Nd) (us++gH):=by
 induction ds generalizing us with
 | nil=>simp only [ak] at h;subst h;simpa using fb
 | cons d ds dh=>
  simp only [ak] at h;obtain⟨u,WX,rfl,h1,aj⟩:=h;simp only [List.cons_append,ak];exact⟨u,WX++gH,rfl,h1,dh aj⟩
theorem ak.cut {ds Nd:List D} {us:List Value} (h:ak A w (ds++Nd) us):ak A w ds (us.take ds.length)∧ak A w Nd (us.drop ds.length):=by
 induction ds generalizing us with
 | nil=>exact⟨by simp [ak],by simpa using h⟩
 | cons d ds dh=>
  simp only [List.cons_append,ak] at h;obtain⟨u,WX,rfl,h1,aj⟩:=h;obtain⟨i1,i2⟩:=dh aj;exact⟨by simp only [List.length_cons,List.take_succ_cons,ak];exact⟨u,_,rfl,h1,i1⟩,by simpa using i2⟩
theorem ak.lN:ak A w [] []:=rfl
theorem ak.fL {d:D} {ds:List D} {u:Value} {us:List Value} (h:aS A w d u) (fb:ak A w ds us):ak A w (d::ds) (u::us):=⟨u,us,rfl,h,fb⟩
theorem aS.cC {x:Value} (h:x.oneCell'=true):aS A w (.v x) x:=by simp only [aS];exact⟨trivial,h⟩
theorem aS.ku {x u:Value} (h:aS A w (.v x) u):u=x:=by simp only [aS] at h;exact h.1
theorem ft.cells {a:Addr}:∀ {j:Nat} {r:List D},ft A w a j r→∃ us,ak A w r us∧∀ i u,us[i]? = some u→w.cell? (a.add (j+i))=some u
 | j,[],_=>⟨[],rfl,fun i u h=>by simp at h⟩
 | j,d::ds,h=>by
  simp only [ft] at h
  obtain⟨⟨u,a6,bf⟩,bQ⟩:=h
  obtain⟨us,h1,aj⟩:=bQ.cells
  refine⟨u::us,⟨u,us,rfl,bf,h1⟩,fun i x ab=>?_⟩
  cases i with
  | zero=>simp at ab;subst ab;simpa using a6
  | succ i=>have:=aj i x (by simpa using ab);rwa [show j+(i+1)=j+1+i by omega]
theorem ft.zr {a:Addr}:∀ {j:Nat} {r:List D} {us:List Value},ak A w r us→(∀ i u,us[i]? = some u→w.cell? (a.add (j+i))=some u)→ft A w a j r
 | j,[],us,_,_=>by simp only [ft]
 | j,d::ds,us,h,a6=>by
  simp only [ak] at h
  obtain⟨u,gH,rfl,h1,aj⟩:=h
  simp only [ft]
  exact⟨⟨u,by simpa using a6 0 u (by simp),h1⟩,ft.zr aj (fun i x ab=>by have:=a6 (i+1) x (by simpa using ab);rwa [show j+1+i=j+(i+1)by omega])⟩
theorem de.row {sz:Nat} {a:Addr}:∀ {i:Nat} {rows:List (List D)},de A w sz a i rows→∀ j r,rows[j]? = some r→r.length=sz∧ft A w (a.add ((i+j)*sz)) 0 r
 | i,[],_,j,r,bf=>by simp at bf
 | i,Tc::rs,h,j,r,bf=>by
  simp only [de] at h
  cases j with
  | zero=>simp at bf;subst bf;exact⟨h.1,by simpa using h.2.1⟩
  | succ j=>
   have:=de.row h.2.2 j r (by simpa using bf)
   rwa [show i+1+j=i+(j+1)by omega] at this
theorem de.xh {sz:Nat} {a:Addr}:∀ {i:Nat} {rows:List (List D)},(∀ j r,rows[j]? = some r→r.length=sz∧ft A w (a.add ((i+j)*sz)) 0 r)→de A w sz a i rows
 | i,[],_=>by simp only [de]
 | i,Tc::rs,h=>by
  simp only [de]
  have bD:=h 0 Tc rfl
  exact⟨bD.1,by simpa using bD.2,de.xh fun j r bf=>by have:=h (j+1) r (by simpa using bf);rwa [show i+(j+1)=i+1+j by omega] at this⟩
theorem aS.Ab {sz:Nat} {rows:List (List D)} {u:Value} (h:aS A w (.iW sz rows) u):∃ ad c,u = .slice ad rows.length c∧rows.length≤c∧c≤9223372036854775807:=by
 simp only [aS] at h;obtain⟨ad,c,h1,aj,aF,_⟩:=h;exact⟨ad,c,h1,aj,by simp only [maxLen] at aF;omega⟩
theorem aS.at_ {sz:Nat} {rows:List (List D)} {ad:Option Addr} {n c i:Nat} {r:List D} (h:aS A w (.iW sz rows) (.slice ad n c)) (hi:rows[i]? = some r) :
  ∃ a us,ad=some a∧ak A w r us∧us.length=sz∧pd w (a.add (i*sz)) us∧a.block∉A:=by
 simp only [aS] at h
 obtain⟨we,c',h1,aj,aF,bn⟩:=h
 injection h1 with h1 ch eB
 subst h1
 obtain⟨a,ax,du,aH,bf⟩:=bn (by intro he;subst he;simp at hi)
 obtain⟨bM,uZ⟩:=bf.row i r hi
 rw [Nat.zero_add] at uZ
 obtain⟨us,kv,j0⟩:=uZ.cells
 exact⟨a,us,ax,kv,by rw [kv.length,bM],fun j v dG=>by have:=j0 j v dG;rwa [Nat.zero_add] at this,du⟩
theorem aS.dI {sz:Nat}:aS A w (.iW sz []) (.slice none 0 0):=by
 simp only [aS];exact⟨none,0,rfl,Nat.le_refl _,by simp [maxLen],fun h=>absurd rfl h⟩
theorem aS.Nf {sz:Nat} {rows:List (List D)} {a:Addr} {n c:Nat} (bW:rows.length=n) (a6:n≤c) (hm:c≤maxLen) (du:a.block∉A) (aH:a.block<w.heap.size)
  (h:∀ i r,rows[i]? = some r→r.length=sz∧∃ us,ak A w r us∧pd w (a.add (i*sz)) us):aS A w (.iW sz rows) (.slice (some a) n c):=by
 simp only [aS]
 subst bW
 refine⟨some a,c,rfl,a6,hm,fun _=>⟨a,rfl,du,aH,de.xh fun j r bf=>?_⟩⟩
 obtain⟨h1,us,aj,aF⟩:=h j r bf
 exact⟨h1,ft.zr aj (fun i u hu=>by rw [Nat.zero_add,Nat.zero_add];exact aF i u hu)⟩
theorem ak.o2:∀ {sz:Nat} {rows:List (List D)} {us:List Value},(∀ r∈rows,r.length=sz)→ak A w rows.flatten us→∀ i r,rows[i]? = some r→ak A w r ((us.drop (i*sz)).take sz)
 | sz,[],us,_,_,i,r,bf=>by simp at bf
 | sz,Tc::rs,us,bM,h,i,r,bf=>by
  simp only [List.flatten_cons] at h
  obtain⟨h1,aj⟩:=h.cut
  have bD:=bM Tc (by simp)
  rw [bD] at h1 aj
  cases i with
  | zero=>simp at bf;subst bf;simpa using h1
  | succ i=>
   have:=ak.o2 (fun r bf=>bM r (by simp [bf])) aj i r (by simpa using bf)
   rwa [List.drop_drop,show sz+i*sz=(i+1)*sz by rw [Nat.add_mul];omega] at this
end
/-! ## Slices of the call's own -/
def aL:Value→List Nat
  | .slice (some a) _ _=>[a.block]
  | _=>[]
def Own (w:World) (e sz:Nat) (v:Value) (n:Nat) (vs:List Value):Prop:=
  vs.length=n*sz∧
  ((v = .slice none 0 0∧n=0)∨
   ∃ g o c cs,v = .slice (some ⟨g,o,none⟩) n c∧aD w g e cs∧n≤c∧c≤maxLen∧o+c*sz≤cs.length∧(cs.drop o).take (n*sz)=vs)
section
variable {w w':World} {e sz n:Nat} {v:Value} {vs:List Value} {M:List Nat}
theorem Own.nil (w:World) (e sz:Nat):Own w e sz (.slice none 0 0) 0 []:=⟨by simp,.inl ⟨rfl,rfl⟩⟩
theorem Own.len (h:Own w e sz v n vs):vs.length=n*sz:=h.1
theorem Own.form (h:Own w e sz v n vs):∃ ad c,v = .slice ad n c∧n≤c∧c≤9223372036854775807:=by
  rcases h.2 with⟨rfl,rfl⟩ | ⟨g,o,c,cs,rfl,_,aj,aF,_⟩
  ·exact⟨none,0,rfl,Nat.le_refl _,by omega⟩
  exact⟨_,c,rfl,aj,by simp only [maxLen] at aF;omega⟩
theorem Own.mod (h:Own w e sz v n vs) (k:Mod M w w') (eb:∀ x∈aL v,x∉M):Own w' e sz v n vs:=by
  refine⟨h.1,?_⟩;rcases h.2 with bD | ⟨g,o,c,cs,rfl,h1,aj⟩
  ·exact .inl bD
  exact .inr ⟨g,o,c,cs,rfl,h1.mod k (eb g (by simp [aL])),aj⟩
theorem Own.I (h:Own w e sz v n vs) (k:Mod [] w w'):Own w' e sz v n vs:=h.mod k (by simp)
theorem Own.lt (h:Own w e sz v n vs):∀ x∈aL v,x<w.heap.size:=by
  rcases h.2 with⟨rfl,_⟩ | ⟨g,o,c,cs,rfl,h1,_⟩
  ·simp [aL]
  intro x ab;simp [aL] at ab;subst ab;exact h1.lt
theorem Own.cs {ad:Addr} {c:Nat} (h:Own w e sz (.slice (some ad) n c) n vs):pd w ad vs:=by
  rcases h.2 with⟨h1,_⟩ | ⟨g,o,c',cs,h1,aj,aF,bn,ch,eB⟩
  ·cases h1
  injection h1 with h1
  injection h1 with h1
  subst h1;exact aj.cs (by rw [h.1];exact eB)
theorem Own.QY {g c:Nat} {cs:List Value} (h:aD w g e cs) (bM:cs.length=c*sz) (bW:n≤c) (a6:c≤9223372036854775807):Own w e sz (.slice (some ⟨g,0,none⟩) n c) n (cs.take (n*sz)):=by
  have hle:n*sz≤c*sz:=Nat.mul_le_mul_right _ bW;refine⟨by simp;omega,.inr ⟨g,0,c,cs,rfl,h,bW,by simp only [maxLen];omega,by omega,by simp⟩⟩
theorem Own.all {g c:Nat} {cs:List Value} (h:aD w g e cs) (bM:cs.length=c*sz) (a6:c≤9223372036854775807):Own w e sz (.slice (some ⟨g,0,none⟩) c c) c cs:=by
  have:=Own.QY (n:=c) h bM (Nat.le_refl _) a6
  rwa [List.take_of_length_le (by omega)] at this
theorem Own.rep {A:List Nat} {rows:List (List D)} (h:Own w e sz v n vs) (bf:ak A w rows.flatten vs) (bM:∀ r∈rows,r.length=sz) (bW:rows.length=n) (du:∀ x∈aL v,x∉A):aS A w (.iW sz rows) v:=by
  rcases h.2 with⟨rfl,bD⟩ | ⟨g,o,c,cs,rfl,h1,aj,aF,bn,ch⟩
  ·have:rows = []:=List.eq_nil_of_length_eq_zero (by omega);subst this;exact aS.dI
  refine aS.Nf bW aj aF (du g (by simp [aL])) h1.lt fun i r hi=>?_;have anG:=(List.getElem?_eq_some_iff.1 hi).1;have Lp:=bM r (List.mem_of_getElem? hi);refine⟨Lp,_,ak.o2 bM bf i r hi,?_⟩;rw [Addr.add_lit];refine h1.cs ?_;have hle:(i+1)*sz≤n*sz:=Nat.mul_le_mul_right _ (by omega);rw [Nat.add_mul] at hle;have hlen:(List.take sz (List.drop (i*sz) vs)).length=sz:=by rw [List.length_take,List.length_drop,h.1];omega
  rw [hlen,← ch,List.drop_take,List.take_take,List.drop_drop]
  congr 1
  omega
end
section
variable {P:Program} {ops:Array Oper} {Q:Exit→Act→World→Prop} {n:Nat} {ds:List Deferred} {l:List (Nat×Value)} {w w':World} {a:Act}
variable {rest:List Oper} {d:Nat} {op:Op} {ty:TypeId} {pos:String} {af:Array Edge}
variable {dd:Option Nat} {gg:Option (Nat×Bool)} {x y z:Operand} {t t':TypeId} {k jH:IntKind} {m gR:Int} {b eA:Bool}
/-! ### what is appended -/
theorem Src.own {o1 e uM sz c:Nat} {v:Value} {vs:List Value} (hk:P.underlying o1=some (.slice uM)) (h:Own w e sz v c vs) (h1:∀ u∈vs,u.oneCell'=true):Src P sz o1 v c vs w:=by
  rcases h.2 with⟨rfl,bD⟩ | ⟨g,o,c',cs,rfl,_⟩
  ·subst bD;have:vs = []:=List.eq_nil_of_length_eq_zero (by simpa using h.1);subst this;exact Src.ofNil w hk 0
  exact Src.ofSlice w hk _ _ _ _ h.1 (fun j u hu=>h.cs j u hu) h1
theorem Src.rep {A:List Nat} {o1 uM sz:Nat} {rows:List (List D)} {v:Value} (hk:P.underlying o1=some (.slice uM)) (h:aS A w (.iW sz rows) v):∃ vs,ak A w rows.flatten vs∧vs.length=rows.length*sz∧Src P sz o1 v rows.length vs w:=by
  cases rZ:rows with
  | nil=>
    subst rZ;simp only [aS] at h;obtain⟨ad,c,rfl,aj,aF,bn⟩:=h;refine⟨[],rfl,by simp,?_⟩;cases ad with
    | none=>exact Src.ofNil w hk c
    | some ad=>exact Src.ofSlice w hk ad 0 c [] (by simp) (fun j u hu=>by simp at hu) (fun u hu=>by cases hu)
  | cons Tc rs=>
    rw [← rZ];have fb:=h;simp only [aS] at h;obtain⟨ad,c,rfl,aj,aF,bn⟩:=h;obtain⟨ad,rfl,du,aH,bf⟩:=bn (by simp [rZ])
    -- all rows, one behind the other
    have key:∀ (i:Nat) (rws:List (List D)),de A w sz ad i rws→∃ vs,ak A w rws.flatten vs∧vs.length=rws.length*sz∧∀ j u,vs[j]? = some u→w.cell? (ad.add (i*sz+j))=some u:=by
      intro i rws
      induction rws generalizing i with
      | nil=>intro _;exact⟨[],rfl,by simp,fun j u hu=>by simp at hu⟩
      | cons r rs dh=>
        intro jE;simp only [de] at jE;obtain⟨bM,uZ,f'⟩:=jE;obtain⟨us,FL,WS⟩:=uZ.cells;obtain⟨vs,wg,AO,FM⟩:=dh (i+1) f';refine⟨us++vs,by simp only [List.flatten_cons];exact FL.append wg,by simp [FL.length,bM,AO,Nat.add_mul];omega,fun j u dG=>?_⟩;rw [List.getElem?_append] at dG;have w6:us.length=sz:=by rw [FL.length,bM]
        split at dG
        ·have:=WS j u dG
         rwa [Nat.zero_add,Addr.add_add] at this
        rename_i eH
        have:=FM _ u dG
        rwa [show(i+1)*sz+(j-us.length)=i*sz+j by rw [Nat.add_mul,w6];rw [w6] at eH;omega] at this
    obtain⟨vs,wg,AO,FM⟩:=key 0 rows bf;exact⟨vs,wg,AO,Src.ofSlice w hk ad _ c vs AO (fun j u hu=>by have:=FM j u hu;rwa [Nat.zero_mul,Nat.zero_add] at this) wg.one⟩
def qW (c:UInt8):Value:=.int .u8 c.toNat
theorem Src.str {o1:Nat} (hk:P.underlying o1=some .string) (s:List UInt8):Src P 1 o1 (S s) s.length (s.map qW) w:=Src.ofString w hk ⟨⟨s⟩⟩
structure App (w w':World) (e sz:Nat) (v v':Value) (n:Nat) (vs:List Value):Prop where
  own:Own w' e sz v' n vs
  mod:Mod (aL v) w w'
  kn:∀ x∈aL v',x∈aL v∨w.heap.size≤x
theorem CR {t o1 e sz fY c c':Nat} {v u:Value} {vs news:List Value} (bQ:k2 P t e sz fY=true) (O:Own w e sz v c vs) (aN:Src P sz o1 u c' news w) (ha:0<sz)
    (aH:(c+c')*fY≤140737488355328) (b9:c+c'≤9223372036854775807) (ty:Nat) :
    ∃ v' w',(Builtin.append_ #[t,o1] ty #[v,u]).run P w = .ok v' w'∧App w w' e sz v v' (c+c') (vs++news):=by
  obtain⟨i,z,h1,aj,aF,bn,ch,eB⟩:=hU bQ
  subst aF;subst bn
  have hlen:(vs++news).length=(c+c')*i.size:=by rw [List.length_append,O.1,aN.newsLen,Nat.add_mul]
  have grow:∀ (base:Option Addr) (cap:Nat),cap<c+c'→(Builtin.firstCells i.size c (.slice base c cap)).run P w.drew = .ok vs.toArray w.drew→
      ∃ v' w',(Builtin.append_ #[t,o1] ty #[.slice base c cap,u]).run P w = .ok v' w'∧App w w' e i.size (.slice base c cap) v' (c+c') (vs++news):=by
    intro base cap pL hold
    have bf:=run_append_grow_src (P:=P) w t o1 ty e i z h1 aj ch base c cap vs hold u c' news aN pL (by omega) (growslice_fits pL aH)
    have eH:=grownCap_ge w (c+c') cap e
    have dT:aD (w.drew.alloc (.cells ((vs++news).toArray++Builtin.zeroCells z.cells (grownCap w (c+c') cap e-(c+c'))) e)) w.heap.size e ((vs++news)++(Builtin.zeroCells z.cells (grownCap w (c+c') cap e-(c+c'))).toList):=by
      have:=heap_alloc_new w.drew (.cells ((vs++news).toArray++Builtin.zeroCells z.cells (grownCap w (c+c') cap e-(c+c'))) e)
      unfold aD
      refine this.trans ?_
      congr 2
      apply Array.toList_inj.1
      simp
    refine⟨_,_,bf,⟨⟨hlen,.inr ⟨w.heap.size,0,_,_,rfl,dT,eH,grownCap_le_maxLen w (c+c') cap e (by simp only [maxLen];omega),?_,?_⟩⟩,?_,?_⟩⟩
    ·have jP:(Builtin.zeroCells z.cells (grownCap w (c+c') cap e-(c+c'))).toList.length=(grownCap w (c+c') cap e-(c+c'))*i.size:=by
       rw [Array.length_toList,size_zeroCells,eB]
     rw [List.length_append,hlen,jP,← Nat.add_mul]
     have:c+c'+(grownCap w (c+c') cap e-(c+c'))=grownCap w (c+c') cap e:=by omega
     rw [this]
     omega
    ·rw [List.drop_zero,← hlen]
     exact List.take_left
    ·exact⟨rfl,rfl,rfl,by simp,fun j dG _=>RowKit.Below.heap_alloc w.drew _ j dG⟩
    intro x ab
    simp [aL] at ab
    exact .inr (by omega)
  rcases O.2 with⟨rfl,bD⟩ | ⟨g,o,cap,cs,rfl,dT,fi,gA,qZ,o0⟩
  ·subst bD
   have oD:vs = []:=List.eq_nil_of_length_eq_zero (by simpa using O.1)
   subst oD
   rcases Nat.eq_zero_or_pos c' with bD | bD
   ·subst bD
    have WY:news = []:=List.eq_nil_of_length_eq_zero (by simpa using aN.newsLen)
    subst WY
    refine⟨.slice none 0 0,w,?_,⟨Own.nil w e i.size,Mod.refl _ w,fun x ab=>.inl ab⟩⟩
    have bM:=aN.len
    have lF:=aN.cells
    rcases aN.kind with⟨uM,hk⟩ | hk <;> simp [Builtin.append_,run_underlying h1,run_underlying hk,sizeOf,typeInfo,aj,bM,lF]
   exact grow none 0 (by omega) (run_firstCells_none w.drew i.size 0 0 0)
  by_cases lx:c+c'≤cap
  ·have hle:(c+c')*i.size≤cap*i.size:=Nat.mul_le_mul_right _ lx
   have jL:o+c*i.size+news.length≤cs.length:=by rw [aN.newsLen];rw [Nat.add_mul] at hle;omega
   obtain⟨aE,hc,bJ⟩:=gr (P:=P) dT jL aN.one
   refine⟨.slice (some ⟨g,o,none⟩) (c+c') cap,aE,?_,⟨⟨hlen,.inr ⟨g,o,cap,_,rfl,bJ.aA,lx,gA,?_,?_⟩⟩,?_,fun x ab=>.inl ab⟩⟩
   ·rcases aN.kind with⟨uM,hk⟩ | hk <;> simp [Builtin.append_,run_underlying h1,run_underlying hk,sizeOf,typeInfo,aj,aN.len,lx,aN.cells,Addr.add_lit,hc]
   ·simp only [splice,List.length_append,List.length_take,List.length_drop]
    omega
   ·have aV:List.take (o+c*i.size) cs=List.take o cs++vs:=by rw [← o0,List.take_add]
    have Qy:(List.take o cs).length=o:=by rw [List.length_take];omega
    rw [splice,aV,List.append_assoc,List.append_assoc,List.drop_left' Qy,← List.append_assoc,← hlen,List.take_left]
   exact bJ.mod
  refine grow _ cap (by omega) (run_firstCells_some w.drew i.size c _ c cap vs O.1 (fun j x ab=>?_))
  have:=O.cs j x ab
  simpa using this
theorem cV {o1 e sz fY c c':Nat} {v u:Value} {vs news:List Value} (bQ:k2 P t e sz fY=true) (ab:aT l x=some v) (aR:aT l y=some u) (O:Own w e sz v c vs) (aN:Src P sz o1 u c' news w) (ha:0<sz)
    (aH:(c+c')*fY≤140737488355328) (b9:c+c'≤9223372036854775807) (bL:Nat.blt d n=true)
    (h:∀ v' w',App w w' e sz v v' (c+c') (vs++news)→fC P ops Q rest n ds ((d,v')::l) w') :
    fC P ops Q (⟨some d,.call {callee:=.builtin .append,args:=#[x,y],argTypes:=#[t,o1]},ty,pos,af,none⟩::rest) n ds l w:=by
  obtain⟨v',w',bf,du⟩:=CR (P:=P) bQ O aN ha aH b9 ty
  refine e9 (v:=v') (w':=w') (fun ρ e2=>?_) bL (h v' w' du)
  simp [execOp,resolve,invoke,builtin,e2 _ _ ab,e2 _ _ aR,bf]
end
section
variable {P:Program} {ops:Array Oper} {Q:Exit→Act→World→Prop} {n:Nat} {ds:List Deferred} {l:List (Nat×Value)} {w w':World} {a:Act}
variable {rest:List Oper} {d:Nat} {op:Op} {ty:TypeId} {pos:String} {af:Array Edge}
variable {dd:Option Nat} {gg:Option (Nat×Bool)} {x y z:Operand} {t t':TypeId} {k jH:IntKind} {m gR:Int} {b eA:Bool}
/-! ### structs and arrays as values -/
def Jp (P:Program) (t f off:Nat):Bool:=match P.underlying t with
 | some (.struct nW)=>match nW[f]? with
  | some fd=>fd.offset == off&&mY P fd.type
  | none=>false
 | _=>false
theorem o3 {vs:List Value} {f o:Nat} {v:Value} (bQ:Jp P t f o=true) (ab:aT l x=some (.agg vs.toArray)) (bw:vs[o]? = some v):bo P l ⟨dd,.field t x f,ty,pos,af,gg⟩ w v w:=fun ρ h=>by
 unfold Jp at bQ
 split at bQ
 ·rename_i nW h1
  split at bQ
  ·rename_i fd aj
   simp only [Bool.and_eq_true,beq_iff_eq] at bQ;obtain⟨dV,aN⟩:=bQ;obtain⟨QX,i,aF,bn,ch,eB⟩:=qK aN;subst dV;simp [execOp,Instr.field,h _ _ ab,run_underlying h1,aj,asAgg,part,i' aF,ch,bw]
  cases bQ
 cases bQ
def sR (cs:List Value) (o:Nat):List Value→List Value
 | []=>cs
 | v::r=>sR (cs.set o v) (o+1) r
theorem yx (o:Nat):∀ (vs:List Value) (j:Nat) (cs:Array Value),
  (vs.zipIdx j).foldl (fun(cs:Array Value) (x:Value×Nat)=>cs.setIfInBounds (o+x.2) x.1) cs=(sR cs.toList (o+j) vs).toArray:=by
 intro vs
 induction vs with
 | nil=>intro j cs;apply Array.toList_inj.1;simp [sR]
 | cons v vs dh=>
  intro j cs
  simp only [List.zipIdx_cons,List.foldl_cons,sR]
  rw [dh (j+1)]
  simp [Nat.add_assoc]
def o4 (place:Nat→Option (Nat×Nat)) (cs:List Value):List (Nat×Value)→Option (List Value)
 | []=>some cs
 | (i,v)::r=>match place i with
  | none=>none
  | some (o,sz)=>match Nat.beq v.cells.toList.length sz&&Nat.ble (o+sz) cs.length with
   | true=>o4 place (sR cs o v.cells.toList) r
   | false=>none
theorem CS {place:Nat→Option (Nat×Nat)}:∀ (hI:List (Nat×Value)) (cs cs':List Value),o4 place cs hI=some cs'→Instr.fill place cs.toArray hI=some cs'.toArray:=by
 intro hI
 induction hI with
 | nil=>intro cs cs' h;simp [o4] at h;simp [Instr.fill,h]
 | cons p r dh=>
  obtain⟨i,v⟩:=p;intro cs cs' h;simp only [o4] at h
  split at h
  ·cases h
  rename_i o sz bJ
  split at h
  ·rename_i aH
   simp only [Bool.and_eq_true,Nat.beq_eq_true_eq,Nat.ble_eq,Array.length_toList] at aH;obtain⟨h1,aj⟩:=aH;have h1:=Nat.eq_of_beq_eq_true h1;have:=dh _ _ h;have aF:¬ (v.cells.size≠sz∨o+v.cells.size > cs.toArray.size):=by rw [h1];simp;omega
   have dm:=yx o v.cells.toList 0 cs.toArray;simp only [Instr.fill,bJ];simp only [ne_eq,gt_iff_lt,not_or,Classical.not_not,Nat.not_lt,List.size_toArray] at aF;have bn:¬ (v.cells.size≠sz):=by simpa using aF.1
   have ch:¬ (o+v.cells.size > cs.length):=by omega
   simp only [ne_eq,gt_iff_lt,List.size_toArray,Bool.or_eq_true,decide_eq_true_eq,bn,ch,or_self,if_false];rw [← Array.foldl_toList,Array.toList_zipIdx];rw [Nat.add_zero] at dm;simp only at dm;rw [dm];exact this
  cases h
def tC (P:Program) (t:Nat) (pl:List (Nat×Nat)):Bool:=match P.underlying t with
 | some (.struct nW)=>(nW.toList.map fun f=>(f.offset,(P.info? f.type).map (·.size))) == pl.map fun p=>(p.1,some p.2)
 | _=>false
theorem Jq {pl:List (Nat×Nat)} (h:tC P t pl=true):∃ nW,P.underlying t=some (.struct nW)∧∀ (w:World),(nW.mapM (fun(f:Field)=>(do pure (f.offset,← sizeOf f.type):Sem (Nat×Nat)))).run P w = .ok pl.toArray w:=by
 unfold tC at h
 split at h
 rotate_left
 ·cases h
 rename_i nW h1
 refine⟨nW,h1,fun w=>?_⟩;have aj:(nW.toList.map fun f=>(f.offset,(P.info? f.type).map (·.size)))=pl.map fun p=>(p.1,some p.2):=by simpa using h
 rw [Array.mapM_eq_mapM_toList];have key:∀ (l:List Field) (pl:List (Nat×Nat)),(l.map fun f=>(f.offset,(P.info? f.type).map (·.size)))=pl.map (fun p=>(p.1,some p.2))→(l.mapM (fun(f:Field)=>(do pure (f.offset,← sizeOf f.type):Sem (Nat×Nat)))).run P w = .ok pl w:=by
  intro l
  induction l with
  | nil=>intro pl h;cases pl <;> simp_all
  | cons f l dh=>
   intro pl h;cases pl with
   | nil=>simp at h
   | cons p pl=>
    simp only [List.map_cons,List.cons.injEq,Prod.mk.injEq] at h;obtain⟨⟨aF,bn⟩,ch⟩:=h;obtain⟨i,eB,kv⟩:=Option.map_eq_some_iff.1 bn;have:=dh pl ch;simp only [bind_pure_comp] at this;simp [List.mapM_cons,cu eB,this,kv,aF]
 have:=key nW.toList pl aj;simp only [bind_pure_comp] at this ⊢;simp [this]
def AY (l:List (Nat×Value)):List (Nat×Operand)→Option (List (Nat×Value))
 | []=>some []
 | (i,x)::r=>match aT l x,AY l r with
  | some v,some vs=>some ((i,v)::vs)
  | _,_=>none
theorem CT {ρ:Operand→Value} (h:∀ x u,aT l x=some u→ρ x=u):∀ (h6:List (Nat×Operand)) (us:List (Nat×Value)),AY l h6=some us→h6.map (fun p=>(p.1,ρ p.2))=us:=by
 intro h6
 induction h6 with
 | nil=>intro us hu;simp [AY] at hu;simp [← hu]
 | cons z h6 dh=>
  obtain⟨i,x⟩:=z;intro us hu;simp only [AY] at hu
  split at hu
  ·rename_i v vs h1 aj
   simp only [Option.some.injEq] at hu;subst hu;simp [h _ _ h1,dh _ aj]
  cases hu
theorem bj {hI:List (Nat×Operand)} {us:List (Nat×Value)} {pl:List (Nat×Nat)} {h6 cs:List Value} (bJ:tC P t pl=true) (cO:hq P t h6) (ab:AY l hI=some us) (dm:o4 (fun i:Nat=>pl[i]?) h6 us=some cs) :
  bo P l ⟨dd,.build t hI.toArray,ty,pos,af,gg⟩ w (.agg cs.toArray) w:=fun ρ h=>by
 obtain⟨nW,h1,aj⟩:=Jq bJ
 obtain⟨i,z,aF,bn,ch⟩:=ov cO
 have aV:=CT h _ _ ab
 have bs:=CS us h6 cs dm
 have kk:(hI.toArray.map fun(i,x)=>(i,ρ x)).toList=us:=by simpa using aV
 have GU:=aj w
 simp only [bind_pure_comp] at GU
 have aay:(fun i:Nat=>pl.toArray[i]?)=(fun i:Nat=>pl[i]?):=by funext i;simp
 simp only [execOp,Instr.build]
 simp [zeroValue,typeInfo,aF,bn,ch,run_underlying h1,GU]
 rw [show Instr.fill (fun x=>pl[x]?) h6.toArray (List.map (fun x=>(x.fst,ρ x.snd)) hI)=some cs.toArray by rw [aV];exact bs]
 simp
theorem oq {hI:List (Nat×Operand)} {us:List (Nat×Value)} {e c sz fY:Nat} {h6 cs:List Value} (bQ:k2 P t e sz fY=true) (cO:hq P e h6) (ab:AY l hI=some us)
  (dm:o4 (fun i=>some (i*sz,sz)) ((List.replicate c h6).flatten) us=some cs) (jP:h6.length=sz) (a6:c*sz≤16777216) :
  bo P l ⟨dd,.buildSlice t c hI.toArray,ty,pos,af,gg⟩ w (.slice (some ⟨w.heap.size,0,none⟩) c c) (w.alloc (.cells cs.toArray e)):=fun ρ e2=>by
 obtain⟨tA,BC,h1,aj,aF,bn,ch,eB⟩:=hU bQ
 obtain⟨i,z,kv,j0,lQ⟩:=ov cO
 have aV:=CT e2 _ _ ab
 have bs:=CS us _ cs dm
 have w7:¬ (c*sz > 2 ^ 24):=by omega
 have kk:((Array.range (c*sz)).map fun i=>h6.toArray[i % h6.toArray.size]!)=((List.replicate c h6).flatten).toArray:=by
  apply Array.toList_inj.1
  simp only [Array.toList_map,Array.toList_range,List.size_toArray]
  clear dm bs a6 w7
  subst jP
  induction c with
  | zero=>simp
  | succ c dh=>
   rw [Nat.add_mul,Nat.one_mul,List.range_add,List.map_append,dh,List.replicate_succ',List.flatten_append]
   congr 1
   simp only [List.flatten_cons,List.flatten_nil,List.append_nil,List.map_map]
   apply List.ext_getElem
   ·simp
   intro j WZ anH
   simp at WZ
   simp [Nat.mod_eq_of_lt WZ,WZ]
 by_cases bD:c*sz=0
 ·have GU:((List.replicate c h6).flatten) = []:=by
   apply List.eq_nil_of_length_eq_zero
   simp [jP,bD]
  rw [GU] at bs
  simp only [execOp,Instr.buildSlice]
  simp [run_underlying h1,cu aj,aF,w7,bD]
  rw [show Instr.fill (fun i=>some (i*sz,sz)) (Array.map (fun x=>default) (Array.range 0)) (List.map (fun x=>(x.fst,ρ x.snd)) hI)=some cs.toArray by rw [aV,show(Array.map (fun x=>default) (Array.range 0):Array Value) = #[] by apply Array.toList_inj.1;simp];exact bs]
  simp [newRow]
 simp only [execOp,Instr.buildSlice]
 simp [run_underlying h1,cu aj,aF,w7,bD,zeroValue,typeInfo,kv,j0,lQ]
 simp only [List.size_toArray,List.getElem!_toArray,List.getElem!_eq_getElem?_getD] at kk
 rw [kk,show Instr.fill (fun i=>some (i*sz,sz)) (List.replicate c h6).flatten.toArray (List.map (fun x=>(x.fst,ρ x.snd)) hI)=some cs.toArray by rw [aV];exact bs]
 simp [newRow]
theorem cF {hI:List (Nat×Operand)} {us:List (Nat×Value)} {e c sz fY:Nat} {h6 cs:List Value} (bQ:k2 P t e sz fY=true) (cO:hq P e h6) (ab:AY l hI=some us)
  (dm:o4 (fun i=>some (i*sz,sz)) ((List.replicate c h6).flatten) us=some cs) (jP:h6.length=sz) (a6:c*sz≤16777216) (bL:Nat.blt d n=true)
  (h:∀ g w',j5 w w' g e cs→fC P ops Q rest n ds ((d,.slice (some ⟨g,0,none⟩) c c)::l) w') :
  fC P ops Q (⟨some d,.buildSlice t c hI.toArray,ty,pos,af,none⟩::rest) n ds l w:=e9 (oq bQ cO ab dm jP a6) bL (h _ _ (j5.mk' w e cs))
/-! ### slicing -/
def hb:Option (IntKind×Int)→Int
 | some (_,m)=>m
 | none=>0
def hP (o:Option (IntKind×Int)) (c:Nat):Int:=match o with
 | some (_,m)=>m
 | none=>c
def yy (o:Option (IntKind×Int)):Option Value:=o.map fun p=>.int p.1 p.2
def tG (l:List (Nat×Value)):Option Operand→Option (Option (IntKind×Int))
 | none=>some none
 | some x=>match aT l x with
  | some (.int k m)=>some (some (k,m))
  | _=>none
theorem sS {ρ:Operand→Value} (h:∀ x u,aT l x=some u→ρ x=u) {o:Option Operand} {p:Option (IntKind×Int)} (dV:tG l o=some p):o.map ρ=yy p:=by
 cases o with
 | none=>simp [tG] at dV;subst dV;rfl
 | some x=>
  simp only [tG] at dV
  split at dV
  ·rename_i k m ab
   simp at dV;subst dV;simp [yy,h _ _ ab]
  cases dV
def ko (ad:Option Addr) (c' lo sz:Nat):Option Addr:=if c'=lo then ad else ad.map (·.add (lo*sz))
theorem Cz {ad:Option Addr} {c c' e sz fY:Nat} {lo hi:Option Operand} {pl ph:Option (IntKind×Int)} (bQ:k2 P t e sz fY=true) (ab:aT l x=some (.slice ad c c')) (bM:tG l lo=some pl) (jE:tG l hi=some ph)
  (aH:0≤hb pl∧hb pl≤(hP ph c)∧(hP ph c)≤c') (a6:c≤c') :
  bo P l ⟨dd,.slice t x lo hi none,ty,pos,af,gg⟩ w (.slice (ko ad c' (hb pl).toNat sz) ((hP ph c).toNat-(hb pl).toNat) (c'-(hb pl).toNat)) w:=fun ρ h=>by
 obtain⟨i,z,h1,aj,aF,bn,ch,eB⟩:=hU bQ
 obtain⟨dc,ev,eW⟩:=aH
 have aV:=sS h bM
 have bs:=sS h jE
 subst aF
 cases pl with
 | none=>
  cases ph with
  | none=>simp [execOp,Instr.sliceAt,Instr.slice,h _ _ ab,aV,bs,yy,run_underlying h1,cu aj,Instr.sliceBounds,hb,hP,ko]
  | some ph=>
   obtain⟨W6,QZ⟩:=ph
   simp only [hb,hP] at dc ev eW
   have:=run_sliceBound (P:=P) (w:=w) W6 QZ c' .sliceAcap ev eW
   simp [execOp,Instr.sliceAt,Instr.slice,h _ _ ab,aV,bs,yy,run_underlying h1,cu aj,Instr.sliceBounds,hb,hP,ko,this] <;> rfl
 | some pl=>
  obtain⟨WD,acY⟩:=pl
  cases ph with
  | none=>
   simp only [hb,hP] at dc ev eW
   have:=run_sliceBound (P:=P) (w:=w) WD acY c .sliceB dc ev
   simp [execOp,Instr.sliceAt,Instr.slice,h _ _ ab,aV,bs,yy,run_underlying h1,cu aj,Instr.sliceBounds,hb,hP,ko,this] <;> rfl
  | some ph=>
   obtain⟨W6,QZ⟩:=ph
   simp only [hb,hP] at dc ev eW
   have t1:=run_sliceBound (P:=P) (w:=w) W6 QZ c' .sliceAcap (by omega) eW
   have t2:=run_sliceBound (P:=P) (w:=w) WD acY QZ.toNat .sliceB dc (by omega)
   simp [execOp,Instr.sliceAt,Instr.slice,h _ _ ab,aV,bs,yy,run_underlying h1,cu aj,Instr.sliceBounds,hb,hP,ko,t1,t2] <;> rfl
theorem Ar {u:List UInt8} {lo hi:Option Operand} {pl ph:Option (IntKind×Int)} (bQ:P.underlying t=some .string) (ab:aT l x=some (S u)) (bM:tG l lo=some pl) (jE:tG l hi=some ph)
  (aH:0≤hb pl∧hb pl≤(hP ph u.length)∧(hP ph u.length)≤u.length) :
  bo P l ⟨dd,.slice t x lo hi none,ty,pos,af,gg⟩ w (S ((u.drop (hb pl).toNat).take ((hP ph u.length).toNat-(hb pl).toNat))) w:=fun ρ h=>by
 obtain⟨dc,ev,eW⟩:=aH
 have aV:=sS h bM
 have bs:=sS h jE
 have ha:(⟨⟨u⟩⟩:ByteArray).size=u.length:=rfl
 have hex:∀ i j,(⟨⟨u⟩⟩:ByteArray).extract i j=⟨⟨(u.drop i).take (j-i)⟩⟩:=fun i j=>Lib.extract_eq ⟨⟨u⟩⟩ i j
 cases pl with
 | none=>
  cases ph with
  | none=>simp [execOp,Instr.sliceAt,Instr.slice,h _ _ ab,aV,bs,yy,run_underlying bQ,Instr.sliceBounds,hb,hP,ha,hex]
  | some ph=>
   obtain⟨W6,QZ⟩:=ph
   simp only [hb,hP] at dc ev eW
   have:=run_sliceBound (P:=P) (w:=w) W6 QZ u.length .sliceAlen ev eW
   simp [execOp,Instr.sliceAt,Instr.slice,h _ _ ab,aV,bs,yy,run_underlying bQ,Instr.sliceBounds,hb,hP,ha,hex,this]
 | some pl=>
  obtain⟨WD,acY⟩:=pl
  cases ph with
  | none=>
   simp only [hb,hP] at dc ev eW
   have:=run_sliceBound (P:=P) (w:=w) WD acY u.length .sliceB dc ev
   simp [execOp,Instr.sliceAt,Instr.slice,h _ _ ab,aV,bs,yy,run_underlying bQ,Instr.sliceBounds,hb,hP,ha,hex,this]
  | some ph=>
   obtain⟨W6,QZ⟩:=ph
   simp only [hb,hP] at dc ev eW
   have t1:=run_sliceBound (P:=P) (w:=w) W6 QZ u.length .sliceAlen (by omega) eW
   have t2:=run_sliceBound (P:=P) (w:=w) WD acY QZ.toNat .sliceB dc (by omega)
   simp [execOp,Instr.sliceAt,Instr.slice,h _ _ ab,aV,bs,yy,run_underlying bQ,Instr.sliceBounds,hb,hP,ha,hex,t1,t2]
theorem Own.cut {e sz c c' lo hi:Nat} {ad:Option Addr} {vs:List Value} (O:Own w e sz (.slice ad c c') c vs) (h1:lo≤hi) (aj:hi≤c):Own w e sz (.slice (ko ad c' lo sz) (hi-lo) (c'-lo)) (hi-lo) ((vs.drop (lo*sz)).take ((hi-lo)*sz)):=by
 have bM:=O.1;have hle:hi*sz≤c*sz:=Nat.mul_le_mul_right _ aj;have zm:lo*sz≤hi*sz:=Nat.mul_le_mul_right _ h1;rcases O.2 with⟨bD,W8⟩ | ⟨g,o,PL,cs,bw,dT,fi,gA,qZ,o0⟩
 ·injection bD with aV bs kk
  subst aV;subst kk;have:lo=0:=by omega
  subst this;have:hi=0:=by omega
  subst this;have:vs = []:=List.eq_nil_of_length_eq_zero (by rw [bM,W8,Nat.zero_mul]);subst this;simpa [ko] using Own.nil w e sz
 injection bw with aV bs kk
 subst aV;subst kk;refine⟨by rw [List.length_take,List.length_drop,bM,Nat.sub_mul];omega,.inr ?_⟩;unfold ko
 by_cases Ff:c'=lo
 ·have Ur:hi=lo:=by omega
  subst Ur;subst Ff;exact⟨g,o,0,cs,by simp,dT,by omega,by simp [maxLen],by omega,by simp⟩
 refine⟨g,o+lo*sz,c'-lo,cs,by simp [Ff,Addr.add_lit],dT,by omega,by omega,by rw [Nat.sub_mul];have:lo*sz≤c'*sz:=Nat.mul_le_mul_right _ (by omega);omega,?_⟩;rw [← o0,List.drop_take,List.take_take,List.drop_drop]
 congr 1
 rw [Nat.sub_mul];omega
theorem aS.cut {A:List Nat} {sz c c' lo hi:Nat} {ad:Option Addr} {rows:List (List D)} (h:aS A w (.iW sz rows) (.slice ad c c')) (h1:lo≤hi) (aj:hi≤c):aS A w (.iW sz ((rows.drop lo).take (hi-lo))) (.slice (ko ad c' lo sz) (hi-lo) (c'-lo)):=by
 have fb:=h;simp only [aS] at h ⊢;obtain⟨we,anI,e,bn,ch,eB⟩:=h;injection e with aV bs kk
 subst aV;subst kk;have hlen:((rows.drop lo).take (hi-lo)).length=hi-lo:=by simp;omega
 refine⟨_,_,by rw [hlen],by rw [hlen];omega,by omega,fun bW=>?_⟩;have bk:lo<hi:=by
  rcases Nat.lt_or_ge lo hi with kv | kv
  ·exact kv
  exact absurd (List.eq_nil_of_length_eq_zero (by rw [hlen];omega)) bW
 obtain⟨a,ax,du,aH,bf⟩:=eB (by intro he;subst he;simp at h1 aj bs;omega);subst ax;have:¬ c'=lo:=by omega
 refine⟨a.add (lo*sz),by simp [ko,this],by rw [kM];exact du,by rw [kM];exact aH,de.xh fun j r dG=>?_⟩;have sM:rows[lo+j]? = some r:=by
  rw [List.getElem?_take] at dG
  split at dG
  ·simpa using dG
  cases dG
 have:=bf.row (lo+j) r sM;rw [Nat.zero_add] at this;rw [Nat.zero_add,Addr.add_add,← Nat.add_mul];exact this
/-! ### copy, make -/
/-! ### bytes and strings -/
theorem W9 {e:Nat} {v:Value} {u:List UInt8} (aN:P.underlying t=some (.slice e)) (he:P.underlying e=some (.int .u8)) (bL:P.underlying t'=some .string) (ab:aT l x=some v) (O:Src P 1 t v u.length (u.map qW) w) (bw:(∃ c,v = .slice none 0 c)∨∃ a c,v = .slice (some a) u.length c∧pd w a (u.map qW)) :
  bo P l ⟨dd,.convert t t' x,ty,pos,af,gg⟩ w (S u) w:=fun ρ h=>by
 rcases bw with⟨c,rfl⟩ | ⟨a,c,rfl,a6⟩
 ·have hu:u = []:=by
   have:=O.len w
   simp [Builtin.lenOf] at this
   exact List.eq_nil_of_length_eq_zero this.symm
  subst hu
  have:=run_convert_bytes_nil w t e aN he 0 c t' bL
  simp [execOp,h _ _ ab,this]
  rfl
 have:=run_convert_bytes_back (P:=P) w t t' e a c u aN he bL (fun j dG=>a6 j _ (by simp [dG,qW]))
 simp [execOp,h _ _ ab,this]
theorem rR {e uM:Nat} {v:Value} {u:List UInt8} (aN:P.underlying t=some (.slice e)) (he:P.underlying e=some (.int .u8)) (bL:P.underlying t'=some .string) (ab:aT l x=some v) (O:Own w uM 1 v u.length (u.map qW)) :
  bo P l ⟨dd,.convert t t' x,ty,pos,af,gg⟩ w (S u) w:=by
 refine W9 aN he bL ab (Src.own aN O (fun x ab=>by obtain⟨c,_,rfl⟩:=List.mem_map.1 ab;rfl)) ?_
 obtain⟨ad,c,h1,aj,aF⟩:=O.form
 subst h1
 cases ad with
 | none=>
  rcases O.2 with⟨_,bD⟩ | ⟨g,o,c',cs,h1,_⟩
  ·rw [bD]
   exact .inl ⟨c,rfl⟩
  cases h1
 | some a=>exact .inr ⟨a,c,rfl,O.cs⟩
def Hj (u:List UInt8):D:=.iW 1 (u.map fun c=>[.v (qW c)])
theorem AZ {A:List Nat} {u:List UInt8} {vs:List Value} (h:ak A w ((u.map fun c=>[D.v (qW c)]).flatten) vs):vs=u.map qW:=by
 induction u generalizing vs with
 | nil=>simpa [ak] using h
 | cons c u dh=>
  simp only [List.map_cons,List.flatten_cons,List.singleton_append,ak] at h;obtain⟨x,us,rfl,h1,aj⟩:=h;rw [dh aj,h1.ku];rfl
theorem Src.bytes {A:List Nat} {o1 uM:Nat} {u:List UInt8} {v:Value} (hk:P.underlying o1=some (.slice uM)) (h:aS A w (Hj u) v):Src P 1 o1 v u.length (u.map qW) w:=by
 obtain⟨vs,h1,aj,aF⟩:=Src.rep (P:=P) hk h;rw [AZ h1] at aF;simpa using aF
theorem aS.byte {A:List Nat} {u:List UInt8} {ad:Option Addr} {c c' i:Nat} {b:UInt8} (h:aS A w (Hj u) (.slice ad c c')) (hi:u[i]? = some b):∃ a,ad=some a∧w.cell? (a.add (i*1))=some (qW b):=by
 obtain⟨a,us,h1,aj,aF,bn,_⟩:=aS.at_ (i:=i) (r:=[.v (qW b)]) h (by simp [hi]);simp only [ak] at aj;obtain⟨x,gH,rfl,ch,rfl⟩:=aj;refine⟨a,h1,?_⟩;have:=bn 0 x rfl;rw [Addr.add_zero'] at this;rw [this,ch.ku]
end
/-! ## Regions that draw their order
Of each operation's value something is known that lasts in all later worlds; an operation uses what is known of those slots alone that it looks at. So one walk of the order of the text serves every order. -/
abbrev iE:=Nat→Option (Value→World→Prop)
def iE.put (N:iE) (o:Oper) (V:Value→World→Prop):iE:=match o.dst with
 | some d=>fun t=>if t=d then some V else N t
 | none=>N
def iE.on (ops:Array Oper) (N:iE) (o:Oper) (a:Act) (w:World):Prop:=∀ t V,t∈o.looksAt ops→N t=some V→V (a.tmps.getD t undef) w
def iE.all (N:iE) (n:Nat) (a:Act) (w:World):Prop:=a.tmps.size=n∧∀ t V,N t=some V→V (a.tmps.getD t undef) w
def ow (P:Program) (apv:World→World→Prop) (w:World) (V:Value→World→Prop):Result Next→Prop
 | .ok (.value u) w'=>apv w w'∧V u w'
 | .ok .skip w'=>apv w w'∧V undef w'
 | .ok (.enter f args) w'=>w'=w∧Calls P f args w (bI fun v W'=>apv w W'∧V v W')
 | _=>False
section
variable {P:Program} {ops:Array Oper} {md:Region.Mode} {apv:World→World→Prop} {C:World→Prop} {n:Nat} {ds:List Deferred}
structure apy (P:Program) (ops:Array Oper) (apv:World→World→Prop) (C:World→Prop) (n:Nat) (N:iE) (o:Oper) (V:Value→World→Prop):Prop where
 lasts:∀ v w w',apv w w'→V v w→V v w'
 fits:∀ d,o.dst=some d→d<n
 run:∀ a w,C w→iE.on ops N o a w→
  if Region.wanted o (yielded ops a.tmps)then ow P apv w V ((execOp a.eval o).run P w)else V undef w
def CU (P:Program) (md:Region.Mode) (ops:Array Oper) (apv:World→World→Prop) (C:World→Prop) (n:Nat) (Fin:iE→Prop):Nat→Array Bool→iE→Prop
 | 0,listed,N=>Region.ready md ops listed = []∧Fin N
 | fuel+1,listed,N=>(Region.ready md ops listed = []→Fin N)∧
  ∀ i∈Region.ready md ops listed,∀ o,ops[i]? = some o→∃ V,apy P ops apv C n N o V∧CU P md ops apv C n Fin fuel (listed.setIfInBounds i true) (N.put o V)
structure xi (apv:World→World→Prop) (C:World→Prop):Prop where
 refl:∀ w,apv w w
 trans:∀ a b c,apv a b→apv b c→apv a c
 keeps:∀ w w',apv w w'→C w→C w'
theorem sT {N:iE} {o:Oper} {V:Value→World→Prop} {a:Act} {w w':World} {v:Value} (bM:∀ t apw,N t=some apw→∀ v w w',apv w w'→apw v w→apw v w') (kX:apv w w') (hj:N.all n a w) (oO:V v w') (bL:∀ d,o.dst=some d→d<n):(N.put o V).all n (a.put o.dst v) w':=by
 unfold iE.put;cases dV:o.dst with
 | none=>exact⟨hj.1,fun t apw hZ=>bM t apw hZ _ _ _ kX (hj.2 t apw hZ)⟩
 | some d=>
  refine⟨by simp [Act.put,hj.1],fun t apw hZ=>?_⟩
  dsimp only at hZ
  by_cases Xa:t=d
  ·subst Xa;rw [if_pos rfl] at hZ;injection hZ with hZ
   subst hZ;have:=bL t dV;simp [Act.put,hj.1,this];exact oO
  rw [if_neg Xa] at hZ;have:=bM t apw hZ _ _ _ kX (hj.2 t apw hZ);simpa [Act.put,Array.getElem?_setIfInBounds_ne (Ne.symm Xa)] using this
def iE.lasts (apv:World→World→Prop) (N:iE):Prop:=∀ t apw,N t=some apw→∀ v w w',apv w w'→apw v w→apw v w'
theorem iE.lasts.put {N:iE} (h:N.lasts apv) {o:Oper} {V:Value→World→Prop} (oO:∀ v w w',apv w w'→V v w→V v w'):(N.put o V).lasts apv:=by
 intro t apw hZ;unfold iE.put at hZ;cases dV:o.dst with
 | none=>rw [dV] at hZ;exact h t apw hZ
 | some d=>
  rw [dV] at hZ
  dsimp only at hZ
  split at hZ
  ·injection hZ with hZ;subst hZ;exact oO
  exact h t apw hZ
theorem r0 {o:Oper} {i:Nat} {N:iE} {V:Value→World→Prop} {a:Act} {w:World} {Q:Exit→Act→World→Prop} {K:Act→World→Prop} (nn:xi apv C) (Q5:N.lasts apv) (hi:ops[i]? = some o) (pz:apy P ops apv C n N o V) (h0:C w) (hj:N.all n a w)
  (lT:∀ yc w',(yc.defers=a.defers)→C w'→apv w w'→(N.put o V).all n yc w'→K yc w'):wpOp P ops Q i K a w:=by
 unfold wpOp
 simp only [hi]
 have bf:=pz.run a w h0 (fun t apw _ hZ=>hj.2 t apw hZ)
 have Hk:∀ v,(a.put o.dst v).defers=a.defers:=fun v=>by cases o.dst <;> rfl
 split
 rotate_left
 ·rename_i hw
  rw [if_neg hw] at bf
  exact lT _ _ (Hk _) h0 (nn.refl w) (sT Q5 (nn.refl w) hj bf pz.fits)
 rename_i hw
 rw [if_pos hw] at bf
 refine .inl ?_
 unfold Oper.wp
 generalize (execOp a.eval o).run P w=r at *
 cases r with
 | halt h w'=>exact bf.elim
 | ok x w'=>
  cases x <;> simp only [ow] at bf <;> simp only [Oper.upon]
  case value u=>exact lT _ _ (Hk _) (nn.keeps _ _ bf.1 h0) bf.1 (sT Q5 bf.1 hj bf.2 pz.fits)
  case skip=>exact lT _ _ (Hk _) (nn.keeps _ _ bf.1 h0) bf.1 (sT Q5 bf.1 hj bf.2 pz.fits)
  case enter f args=>
   obtain⟨rfl,a6⟩:=bf
   refine a6.mono fun e W' he=>?_
   cases e with
   | returned v=>exact lT _ _ (Hk _) (nn.keeps _ _ he.1 h0) he.1 (sT Q5 he.1 hj he.2 pz.fits)
   | panicked c=>exact he.elim
   | outgrown=>exact he.elim
theorem u1 {Q:Exit→Act→World→Prop} {Fin:iE→Prop} {w0:World} {ds:List Deferred} (nn:xi apv C)
  (sU:∀ N a w,N.lasts apv→a.defers=ds→C w→apv w0 w→N.all n a w→Fin N→Q .normal a w):∀ (fuel:Nat) (listed:Array Bool) (N:iE) (a:Act) (w:World),N.lasts apv→a.defers=ds→C w→apv w0 w→N.all n a w→
  CU P md ops apv C n Fin fuel listed N→wpAny P md ops Q fuel listed a w
 | 0,listed,N,a,w,bD,h1,aj,aF,bn,h=>⟨h.1,sU N a w bD h1 aj aF bn h.2⟩
 | fuel+1,listed,N,a,w,bD,h1,aj,aF,bn,h=>by
  refine⟨fun bf=>sU N a w bD h1 aj aF bn (h.1 bf),fun i hi=>?_⟩
  obtain⟨_,o,dV,_⟩:=mem_ready.1 hi
  obtain⟨V,pz,f'⟩:=h.2 i hi o dV
  exact r0 nn bD dV pz aj bn fun yc w' bL h0 kX hj=>u1 nn sU fuel _ _ yc w' (bD.put pz.lasts) (bL.trans h1) h0 (nn.trans _ _ _ aF kX) hj f'
theorem apy.past {N:iE} {o sV:Oper} {V aaz:Value→World→Prop} (h:apy P ops apv C n (N.put sV aaz) o V) (bW:∀ d,sV.dst=some d→d∉o.looksAt ops):apy P ops apv C n N o V:=by
 refine⟨h.lasts,h.fits,fun a w h0 hj=>h.run a w h0 fun t apw bQ hZ=>?_⟩;unfold iE.put at hZ;cases bL:sV.dst with
 | none=>rw [bL] at hZ;exact hj t apw bQ hZ
 | some d=>
  rw [bL] at hZ
  dsimp only at hZ
  split at hZ
  ·rename_i he;subst he;exact absurd bQ (bW _ bL)
  exact hj t apw bQ hZ
theorem apy.ahead {N:iE} {o sV:Oper} {V aaz:Value→World→Prop} (h:apy P ops apv C n N o V) (bW:∀ d,sV.dst=some d→d∉o.looksAt ops):apy P ops apv C n (N.put sV aaz) o V:=by
 refine⟨h.lasts,h.fits,fun a w h0 hj=>h.run a w h0 fun t apw bQ hZ=>?_⟩;refine hj t apw bQ ?_;unfold iE.put;cases bL:sV.dst with
 | none=>exact hZ
 | some d=>
  dsimp only
  rw [if_neg (fun he=>by subst he;exact bW _ bL bQ)];exact hZ
theorem iE.put_comm (N:iE) {o sV:Oper} (V aaz:Value→World→Prop) (h:∀ d,o.dst=some d→sV.dst≠some d):(N.put o V).put sV aaz=(N.put sV aaz).put o V:=by
 unfold iE.put;cases dV:o.dst with
 | none=>cases sV.dst <;> rfl
 | some d=>
  cases Ng:sV.dst with
  | none=>rfl
  | some rA=>
   have bS:rA≠d:=fun e=>h d dV (by rw [Ng,e])
   funext t
   dsimp only
   by_cases h1:t=d
   ·subst h1
    by_cases aj:t=rA
    ·exact absurd aj.symm bS
    simp [aj]
   simp [h1]
theorem CV {Fin:iE→Prop} {i:Nat} {yd:Oper} {V:Value→World→Prop} (hi:ops[i]? = some yd) :
  ∀ (fuel:Nat) (listed:Array Bool) (N:iE),
   (∀ j qL,ops[j]? = some qL→j≠i→listed.getD j true=false→(∀ e∈qL.after,Region.binds md e=true→e.on≠i)→yd.apart ops qL=true)→
   i∈Region.ready md ops listed→apy P ops apv C n N yd V→
   CU P md ops apv C n Fin fuel (listed.setIfInBounds i true) (N.put yd V)→CU P md ops apv C n Fin (fuel+1) listed N:=by
 intro fuel
 induction fuel with
 | zero=>
  intro listed N _ bf pz H
  refine⟨fun h=>(by rw [h] at bf;cases bf),fun j dG o dV=>?_⟩
  by_cases lh:j=i
  ·subst lh
   have:o=yd:=Option.some.inj (dV.symm.trans hi)
   subst this
   exact⟨V,pz,H⟩
  have:=ready_mono dG lh
  rw [H.1] at this
  cases this
 | succ fuel dh=>
  intro listed N p9 bf pz H
  refine⟨fun h=>(by rw [h] at bf;cases bf),fun j dG o dV=>?_⟩
  by_cases lh:j=i
  ·subst lh
   have:o=yd:=Option.some.inj (dV.symm.trans hi)
   subst this
   exact⟨V,pz,H⟩
  obtain⟨Nh,Ni,f'⟩:=H.2 j (ready_mono dG lh) o dV
  obtain⟨u2,qL,vn,jK⟩:=mem_ready.1 dG
  have:o=qL:=Option.some.inj (dV.symm.trans vn)
  subst this
  have og:∀ e∈o.after,Region.binds md e=true→e.on≠i:=fun e he aH heq=>by
   have h1:=jK e he aH
   have bD:=(mem_ready.1 bf).1
   rw [heq] at h1
   rcases Nat.lt_or_ge i listed.size with fb | fb
   ·simp [fb] at bD h1;rw [bD] at h1;cases h1
   simp [Array.getElem?_eq_none fb] at h1
  obtain⟨sa,a2,a3⟩:=Oper.apart_spec (p9 j o vn lh u2 og)
  refine⟨Nh,Ni.past sa,dh (listed.setIfInBounds j true) (N.put o Nh) (fun k ok hk Nj jw kz=>?_) (ready_mono bf (Ne.symm lh)) (pz.ahead a3) ?_⟩
  ·refine p9 k ok hk Nj ?_ kz
   by_cases CW:j=k
   ·subst CW;exact u2
   rw [getD_set_ne true CW] at jw;exact jw
  rw [Array.setIfInBounds_comm _ _ lh,← iE.put_comm N V Nh a2]
  exact f'
def TW (P:Program) (ops:Array Oper) (apv:World→World→Prop) (C:World→Prop) (n:Nat) (Fin:iE→Prop):List Oper→iE→Prop
 | [],N=>Fin N
 | o::rest,N=>∃ V,apy P ops apv C n N o V∧TW P ops apv C n Fin rest (N.put o V)
theorem zs {Fin:iE→Prop}:∀ (l:List Oper) (k:Nat) (listed:Array Bool) (N:iE),(∀ j,l[j]? = ops[k+j]?)→
  Region.lexFrom md ops l.length k listed=true→TW P ops apv C n Fin l N→CU P md ops apv C n Fin l.length listed N
 | [],_,_,_,_,dT,h=>⟨by simpa [Region.lexFrom] using dT,h⟩
 | o::l,k,listed,N,bM,dT,h=>by
  have bD:ops[k]? = some o:=by simpa using (bM 0).symm
  simp only [List.length_cons,Region.lexFrom,Bool.and_eq_true] at dT
  obtain⟨⟨bf,dm⟩,A0⟩:=dT
  obtain⟨V,pz,f'⟩:=h
  exact CV bD l.length listed N (Region.free_spec bD dm) (by simpa using bf) pz
   (zs l (k+1) _ _ (fun j=>by have:=bM (j+1);simpa [Nat.add_assoc,Nat.add_comm 1 j] using this) A0 f')
/-! ### .. with operations behind it that come one behind the other -/
def xj (P:Program) (md:Region.Mode) (ops:Array Oper) (apv:World→World→Prop) (C:World→Prop) (n m:Nat) (L:Array Bool→iE→Prop):Nat→Array Bool→iE→Prop
 | 0,listed,N=>L listed N
 | f+1,listed,N=>Region.ready md ops listed≠[]∧
  ∀ i∈Region.ready md ops listed,i<m∧∀ o,ops[i]? = some o→∃ V,apy P ops apv C n N o V∧xj P md ops apv C n m L f (listed.setIfInBounds i true) (N.put o V)
theorem sW {Q:Exit→Act→World→Prop} {L:Array Bool→iE→Prop} {w0:World} {ds:List Deferred} {m g:Nat} (nn:xi apv C)
  (sU:∀ listed N a w,N.lasts apv→a.defers=ds→C w→apv w0 w→N.all n a w→L listed N→wpAny P md ops Q g listed a w):∀ (f:Nat) (listed:Array Bool) (N:iE) (a:Act) (w:World),N.lasts apv→a.defers=ds→C w→apv w0 w→N.all n a w→
  xj P md ops apv C n m L f listed N→wpAny P md ops Q (f+g) listed a w
 | 0,listed,N,a,w,bD,h1,aj,aF,bn,h=>by rw [Nat.zero_add];exact sU listed N a w bD h1 aj aF bn h
 | f+1,listed,N,a,w,bD,h1,aj,aF,bn,h=>by
  rw [show f+1+g=(f+g)+1 by omega]
  refine⟨fun bf=>absurd bf h.1,fun i hi=>?_⟩
  obtain⟨_,o,dV,_⟩:=mem_ready.1 hi
  obtain⟨V,pz,f'⟩:=(h.2 i hi).2 o dV
  exact r0 nn bD dV pz aj bn fun yc w' bL h0 kX hj=>sW nn sU f _ _ yc w' (bD.put pz.lasts) (bL.trans h1) h0 (nn.trans _ _ _ aF kX) hj f'
theorem A1 {m i:Nat} {yd:Oper} {V:Value→World→Prop} {L:Array Bool→iE→Prop} (hi:ops[i]? = some yd)
  (aN:Region.sinkB md ops m=true) (a6:Region.chainB md ops m=true) (bW:m<ops.size) (Nk:i<m)
  (FU:∀ listed N,L listed N→∀ j∈Region.ready md ops listed,m≤j) :
  ∀ (f:Nat) (listed:Array Bool) (N:iE),HeadInv md ops m listed→
   (∀ j qL,ops[j]? = some qL→j≠i→listed.getD j true=false→(∀ e∈qL.after,Region.binds md e=true→e.on≠i)→yd.apart ops qL=true)→
   i∈Region.ready md ops listed→apy P ops apv C n N yd V→
   xj P md ops apv C n m L f (listed.setIfInBounds i true) (N.put yd V)→xj P md ops apv C n m L (f+1) listed N:=by
 intro f
 induction f with
 | zero=>
  intro listed N inv _ bf pz H
  have jw:=(mem_ready.1 bf).1
  refine⟨fun h=>(by rw [h] at bf;cases bf),fun j dG=>?_⟩
  have yz:j<m:=by
   rcases Nat.lt_or_ge j m with h | h
   ·exact h
   exact absurd dG (tail_waits aN a6 bW inv _ i rfl Nk jw j h)
  refine⟨yz,fun o dV=>?_⟩
  by_cases lh:j=i
  ·subst lh
   have:o=yd:=Option.some.inj (dV.symm.trans hi)
   subst this
   exact⟨V,pz,H⟩
  have:=FU _ _ H j (ready_mono dG lh)
  omega
 | succ f dh=>
  intro listed N inv p9 bf pz H
  have jw:=(mem_ready.1 bf).1
  refine⟨fun h=>(by rw [h] at bf;cases bf),fun j dG=>?_⟩
  have yz:j<m:=by
   rcases Nat.lt_or_ge j m with h | h
   ·exact h
   exact absurd dG (tail_waits aN a6 bW inv _ i rfl Nk jw j h)
  refine⟨yz,fun o dV=>?_⟩
  by_cases lh:j=i
  ·subst lh
   have:o=yd:=Option.some.inj (dV.symm.trans hi)
   subst this
   exact⟨V,pz,H⟩
  obtain⟨Nh,Ni,f'⟩:=(H.2 j (ready_mono dG lh)).2 o dV
  obtain⟨u2,qL,vn,jK⟩:=mem_ready.1 dG
  have:o=qL:=Option.some.inj (dV.symm.trans vn)
  subst this
  have og:∀ e∈o.after,Region.binds md e=true→e.on≠i:=fun e he aH heq=>by
   have h1:=jK e he aH
   rw [heq,getD_both jw] at h1
   cases h1
  obtain⟨sa,a2,a3⟩:=Oper.apart_spec (p9 j o vn lh u2 og)
  refine⟨Nh,Ni.past sa,dh (listed.setIfInBounds j true) (N.put o Nh) (inv.set dG yz) (fun k ok hk Nj jw kz=>?_) (ready_mono bf (Ne.symm lh)) (pz.ahead a3) ?_⟩
  ·refine p9 k ok hk Nj ?_ kz
   by_cases CW:j=k
   ·subst CW;exact u2
   rw [getD_set_ne true CW] at jw;exact jw
  rw [Array.setIfInBounds_comm _ _ lh,← iE.put_comm N V Nh a2]
  exact f'
theorem xk {m g:Nat} {Fin:iE→Prop} (aN:Region.sinkB md ops m=true) (a6:Region.chainB md ops m=true) (bW:m<ops.size) :
  ∀ (l:List Oper) (k:Nat) (listed:Array Bool) (N:iE),(∀ j,j<l.length→l[j]? = ops[k+j]?)→k+l.length=m→HeadInv md ops m listed→
  Region.lexHead md ops g l.length k listed=true→TW P ops apv C n Fin l N→
  xj P md ops apv C n m (fun lj Tw=>Region.seqB md ops g m lj=true∧Fin Tw) l.length listed N
 | [],k,listed,N,_,hk,_,dT,h=>by
  have:k=m:=by simpa using hk
  subst this
  exact⟨by simpa [Region.lexHead] using dT,h⟩
 | o::l,k,listed,N,bM,hk,inv,dT,h=>by
  have bD:ops[k]? = some o:=by simpa using (bM 0 (by simp)).symm
  simp only [List.length_cons,Region.lexHead,Bool.and_eq_true] at dT
  obtain⟨⟨bf,dm⟩,A0⟩:=dT
  have acZ:k<m:=by simp only [List.length_cons] at hk;omega
  have nJ:k∈Region.ready md ops listed:=by simpa using bf
  obtain⟨V,pz,f'⟩:=h
  exact A1 bD aN a6 bW acZ (fun lj Tw nn=>seqB_ready nn.1) l.length listed N inv (Region.free_spec bD dm) nJ pz
   (xk aN a6 bW l (k+1) _ _ (fun j dG=>by have:=bM (j+1) (by simp;omega);simpa [Nat.add_assoc,Nat.add_comm 1 j] using this) (by simp only [List.length_cons] at hk;omega) (inv.set nJ acZ) A0 f')
end
end Go.Proofs.YtnihidkbkhcfoaaGreatDoor.V
