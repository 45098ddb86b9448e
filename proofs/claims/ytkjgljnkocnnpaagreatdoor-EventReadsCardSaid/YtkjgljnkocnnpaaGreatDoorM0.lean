/-
  A part of the proof: walks of functions. No condition of its own.
-/
import Derived.WalkKit
import Derived.Below
import Derived.Still
import Derived.KernelRfl
import Derived.Test.YtkjgljnkocnnpaaGreatDoorProg
import Derived.Deep.AppendSrc
import Derived.Laws.CopyOwn
import Derived.Laws.Slices
import Derived.Lib.ConvBytes
import Derived.Laws.BytesArg
import Derived.Lib.Strings
import Derived.Laws.BytesString
import Derived.Laws.IdiomStrings
set_option linter.all false
namespace Go.Proofs.YtkjgljnkocnnpaaGreatDoor.V
open Go
/-! ## Frames -/
def iF (t:Nat):List (Nat×Value)→Option Value
 | []=>none
 | (s,v)::r=>match Nat.beq s t with
  | true=>some v
  | false=>iF t r
def bf (l:List (Nat×Value)):Operand→Option Value
 | .tmp t=>iF t l
 | .const v=>some v
 | .global g=>some (.pointer (some ⟨g,0,none⟩))
 | .func f=>some (.func (.func f) #[] #[])
def JL (l:List (Nat×Value)):List Operand→Option (List Value)
 | []=>some []
 | x::r=>match bf l x,JL l r with
  | some v,some vs=>some (v::vs)
  | _,_=>none
theorem ak {c:Prop} {h:Decidable c} (abj:¬ c) {α:Sort _} {t e:α} : @ite α c h t e=e:=if_neg abj
theorem aL {c:Prop} {h:Decidable c} (aZ:c) {α:Sort _} {t e:α} : @ite α c h t e=t:=if_pos aZ
theorem cf {a b:Bool} (h:a=b):Value.bool a=Value.bool b:=congrArg Value.bool h
theorem kZ {α β:Type} {a b:α} (f:α→β) (h:a=b):f a=f b:=congrArg f h
theorem dx {α:Type} {a b:α} (h:a∈[b]):a=b:=List.mem_singleton.1 h
theorem cB {α:Type} {a b:α} {l:List α} (h:a∈b::l):a=b∨a∈l:=List.mem_cons.1 h
structure Has (n:Nat) (ds:List Deferred) (l:List (Nat×Value)) (a:Act):Prop where
 size:a.tmps.size=n
 defers:a.defers=ds
 get:∀ t v,iF t l=some v→a.tmps[t]? = some v
section
variable {P:Program} {ops:Array Oper} {Q:Exit→Act→World→Prop} {n:Nat} {ds:List Deferred} {l:List (Nat×Value)} {w w':World} {a:Act}
theorem Has.rX (h:Has n ds l a) {x:Operand} {v:Value} (ae:bf l x=some v):a.eval x=v:=by
 cases x with
 | tmp t=>simp only [bf] at ae;simp [Act.eval,h.get t v ae]
 | const u=>simpa [bf,Act.eval] using ae
 | global g=>simpa [bf,Act.eval] using ae
 | func f=>simpa [bf,Act.eval] using ae
theorem Has.put (h:Has n ds l a) {d:Nat} (bT:Nat.blt d n=true) (v:Value):Has n ds ((d,v)::l) (a.put (some d) v):=by
 refine⟨by simp [Act.put,h.size],by simp [Act.put,h.defers],fun t u hu=>?_⟩;have abm:d<n:=by simpa [Nat.blt_eq] using bT
 simp only [iF] at hu
 by_cases ahG:d=t
 ·subst ahG;simp at hu;subst hu;simp [Act.put,h.size,abm]
 have:Nat.beq d t=false:=by
  cases aW:Nat.beq d t
  ·rfl
  exact absurd (Nat.eq_of_beq_eq_true aW) ahG
 rw [this] at hu;simp only at hu;rw [← h.get t u hu];simp [Act.put,Array.getElem?_setIfInBounds_ne ahG]
def Sub (l:List (Nat×Value)):List (Nat×Value)→Prop
 | []=>True
 | (t,v)::r=>iF t l=some v∧Sub l r
theorem Sub.asY {l l':List (Nat×Value)} (h:Sub l l'):∀ t v,iF t l'=some v→iF t l=some v:=by
 induction l' with
 | nil=>intro t v bI;simp [iF] at bI
 | cons p r ea=>
  obtain⟨s,u⟩:=p;intro t v bI;simp only [iF] at bI;cases aW:Nat.beq s t with
  | true=>
   rw [aW] at bI;have hf:=Nat.eq_of_beq_eq_true aW;subst hf;simp at bI;subst bI;exact h.1
  | false=>
   rw [aW] at bI;exact ea h.2 t v bI
theorem Has.sub (h:Has n ds l a) {l':List (Nat×Value)} (bh:Sub l l'):Has n ds l' a:=⟨h.size,h.defers,fun t v bI=>h.get t v (bh.asY t v bI)⟩
/-! ## Goals over whatever frame has what is known -/
def fI (P:Program) (ops:Array Oper) (Q:Exit→Act→World→Prop) (rest:List Oper) (n:Nat) (ds:List Deferred) (l:List (Nat×Value)) (w:World):Prop:=
 ∀ a,Has n ds l a→wpList P ops Q rest a w
def k2 (P:Program) (c:Code) (Q:Exit→Act→World→Prop) (n:Nat) (ds:List Deferred) (l:List (Nat×Value)) (w:World):Prop:=
 ∀ a,Has n ds l a→c.wp P Q a w
def fH (Q:Exit→Act→World→Prop) (e:Exit) (n:Nat) (ds:List Deferred) (l:List (Nat×Value)) (w:World):Prop:=
 ∀ a,Has n ds l a→Q e a w
theorem fI.sub {rest:List Oper} {l':List (Nat×Value)} (bh:Sub l l') (h:fI P ops Q rest n ds l' w):fI P ops Q rest n ds l w:=fun a aE=>h a (aE.sub bh)
theorem k2.sub {c:Code} {l':List (Nat×Value)} (bh:Sub l l') (h:k2 P c Q n ds l' w):k2 P c Q n ds l w:=fun a aE=>h a (aE.sub bh)
theorem fH.sub {e:Exit} {l':List (Nat×Value)} (bh:Sub l l') (h:fH Q e n ds l' w):fH Q e n ds l w:=fun a aE=>h a (aE.sub bh)
/-! ### Control -/
theorem mU {x y:Code} (h:∀ K:Act→World→Prop,(∀ n ds l w,k2 P y Q n ds l w→∀ a,Has n ds l a→K a w)→k2 P x (Exit.then K Q) n ds l w):k2 P (.seq x y) Q n ds l w:=
 fun a aE=>wp_seq (h (fun a w=>y.wp P Q a w) (fun _ _ _ _ h a aE=>h a aE) a aE)
theorem b' (h:fH Q .normal n ds l w):k2 P .skip Q n ds l w:=fun a aE=>wp_skip (h a aE)
theorem bn (h:fH Q .ret n ds l w):k2 P .ret Q n ds l w:=fun a aE=>wp_ret (h a aE)
theorem bL {i:Nat} (h:fH Q (.exit i) n ds l w):k2 P (.exit i) Q n ds l w:=fun a aE=>wp_exit (h a aE)
theorem eN {i:Nat} {c:Code} (h:k2 P c (Exit.inBlock i Q) n ds l w):k2 P (.block i c) Q n ds l w:=fun a aE=>wp_block (h a aE)
theorem a1 {c:Operand} {x y:Code} {b:Bool} (aZ:bf l c=some (.bool b)) (bW:b=true→k2 P x Q n ds l w) (dn:b=false→k2 P y Q n ds l w):k2 P (.cond c x y) Q n ds l w:=
 fun a aE=>wp_cond_split (aE.rX aZ) (fun h=>bW h a aE) (fun h=>dn h a aE)
theorem aX {c:Operand} {x y:Code} {p:Prop} [Decidable p] (aZ:bf l c=some (.bool (decide p))) (bW:p→k2 P x Q n ds l w) (dn:¬ p→k2 P y Q n ds l w):k2 P (.cond c x y) Q n ds l w:=
 a1 aZ (fun h=>bW (of_decide_eq_true h)) (fun h=>dn (of_decide_eq_false h))
theorem az {c:Operand} {x y:Code} (aZ:bf l c=some (.bool true)) (bW:k2 P x Q n ds l w):k2 P (.cond c x y) Q n ds l w:=
 a1 aZ (fun _=>bW) (fun h=>by cases h)
theorem aI {c:Operand} {x y:Code} (aZ:bf l c=some (.bool false)) (dn:k2 P y Q n ds l w):k2 P (.cond c x y) Q n ds l w:=
 a1 aZ (fun h=>by cases h) (fun _=>dn)
theorem dq {K:Act→World→Prop} (h:∀ a,Has n ds l a→K a w):fH (Exit.then K Q) .normal n ds l w:=fun a aE=>h a aE
theorem aP {K:Act→World→Prop} {e:Exit} (h:fH Q e n ds l w) (he:e≠.normal:=by simp):fH (Exit.then K Q) e n ds l w:=fun a aE=>by
 have:=h a aE;cases e <;> first | exact this | exact absurd rfl he
theorem ch {i:Nat} (h:fH Q .normal n ds l w):fH (Exit.inBlock i Q) (.exit i) n ds l w:=fun a aE=>by simpa [Exit.inBlock] using h a aE
theorem bw {i:Nat} {e:Exit} (h:fH Q e n ds l w) (he:∀ j,e≠.exit j:=by simp):fH (Exit.inBlock i Q) e n ds l w:=fun a aE=>by
 have:=h a aE;cases e <;> first | exact this | exact absurd rfl (he _)
theorem ac7 {c:Code} {σ:Type} (L:σ→List (Nat×Value)) (aBp:σ→World→Prop) (HV:σ→Nat) (ac8:σ) (bh:Sub l (L ac8)) (cg:aBp ac8 w)
  (round:∀ s w,aBp s w→k2 P c (Exit.then (fun ye w'=>∃ yf,Has n ds (L yf) ye∧aBp yf w'∧HV yf<HV s) Q) n ds (L s) w):k2 P (.loop c) Q n ds l w:=by
 intro a aE
 have key:∀ m,∀ s a w,HV s=m→Has n ds (L s) a→aBp s w→∀ (b:Frame) (k:List Item) (cs:List Frame),
   ∃ e ye w',Q e ye w'∧Arrives P (lone (b.at a (.code c::.inLoop c::k)) cs w) b k cs e ye w':=by
  intro m
  induction m using Nat.strongRecOn with
  | _ m ea=>
   intro s a w hm aE lI b k cs
   obtain⟨e,Fb,Fc,e8,zM⟩:=round s w lI a aE b (.inLoop c::k) cs
   cases e with
   | normal=>
    obtain⟨yf,y0,asZ,bM⟩:=e8
    obtain⟨anc,ane,anf,ahH,Xg⟩:=ea (HV yf) (hm▸bM) yf Fb Fc rfl y0 asZ b k cs
    exact⟨anc,ane,anf,ahH,.of_steps (Steps.trans zM (.one step_inLoop)) Xg⟩
   | exit id=>exact⟨_,Fb,Fc,e8,.pass (x:=.inLoop c) rfl (fun _ _=>.inl (by simp)) zM⟩
   | goto l=>exact⟨_,Fb,Fc,e8,.pass (x:=.inLoop c) rfl (fun _ _=>.inl (by simp)) zM⟩
   | ret=>exact⟨_,Fb,Fc,e8,.pass (x:=.inLoop c) rfl (fun _ _=>.inl (by simp)) zM⟩
   | panic aBi=>exact⟨_,Fb,Fc,e8,.pass (x:=.inLoop c) rfl (fun _ _=>.inl (by simp)) zM⟩
   | outgrown=>exact⟨_,Fb,Fc,e8,.pass (x:=.inLoop c) rfl (fun _ _=>.inl (by simp)) zM⟩
 intro b k cs
 obtain⟨e,ye,w',e8,zM⟩:=key _ ac8 a w rfl (aE.sub bh) cg b k cs
 exact⟨e,ye,w',e8,.of_steps (.one step_loop) zM⟩
theorem bK {c:Code} {σ:Type} (L:σ→List (Nat×Value)) (aBp:σ→World→Prop) (HV:σ→Nat) (ac8:σ) (cg:aBp ac8 w) (round:∀ s w,aBp s w→k2 P c (Exit.then (fun ye w'=>∃ yf,Has n ds (L yf) ye∧aBp yf w'∧HV yf<HV s) Q) n ds (L s) w) (bh:Sub l (L ac8):=by repeat (first | exact True.intro | refine⟨rfl,?_⟩)):k2 P (.loop c) Q n ds l w:=ac7 L aBp HV ac8 bh cg round
theorem aeR {σ:Type} {L:σ→List (Nat×Value)} {aBp:σ→World→Prop} {HV:σ→Nat} {s:σ} (yf:σ) (bh:Sub l (L yf)) (lI:aBp yf w) (hm:HV yf<HV s) :
  fH (Exit.then (fun ye w'=>∃ yf,Has n ds (L yf) ye∧aBp yf w'∧HV yf<HV s) Q) .normal n ds l w:=fun a aE=>⟨yf,aE.sub bh,lI,hm⟩
theorem aw {σ:Type} {L:σ→List (Nat×Value)} {aBp:σ→World→Prop} {HV:σ→Nat} {s:σ} (yf:σ) (lI:aBp yf w) (bh:Sub l (L yf):=by repeat (first | exact True.intro | refine⟨rfl,?_⟩)) (hm:HV yf<HV s:=by first | omega | (dsimp only;omega)):fH (Exit.then (fun ye w'=>∃ yf,Has n ds (L yf) ye∧aBp yf w'∧HV yf<HV s) Q) .normal n ds l w:=aeR yf bh lI hm
/-! ### Regions, and their operations -/
theorem b5 {id:Nat} {lo:List Oper} (h:fI P lo.toArray Q lo n ds l w):k2 P (.region id lo.toArray false) Q n ds l w:=fun a aE=>wp_region_lit (h a aE)
theorem cx (h:fH Q .normal n ds l w):fI P ops Q [] n ds l w:=fun a aE=>h a aE
def bE (P:Program) (l:List (Nat×Value)) (o:Oper) (w:World) (v:Value) (w':World):Prop:=
 ∀ ρ:Operand→Value,(∀ x u,bf l x=some u→ρ x=u)→(execOp ρ o).run P w = .ok (.value v) w'
def M1 (P:Program) (l:List (Nat×Value)) (o:Oper) (w:World) (w':World):Prop:=
 ∀ ρ:Operand→Value,(∀ x u,bf l x=some u→ρ x=u)→(execOp ρ o).run P w = .ok .skip w'
def lQ (P:Program) (l:List (Nat×Value)) (o:Oper) (w:World) (f:FuncId) (args:Array Value):Prop:=
 ∀ ρ:Operand→Value,(∀ x u,bf l x=some u→ρ x=u)→(execOp ρ o).run P w = .ok (.enter f args) w
variable {rest:List Oper} {d:Nat} {op:Op} {ty:TypeId} {pos:String} {af:Array Edge}
theorem hg {v:Value} (bo:bE P l ⟨some d,op,ty,pos,af,none⟩ w v w') (bT:Nat.blt d n=true) (h:fI P ops Q rest n ds ((d,v)::l) w') :
  fI P ops Q (⟨some d,op,ty,pos,af,none⟩::rest) n ds l w:=by
 intro a aE
 refine wpList_plain rfl fun K nI=>?_
 have:=bo a.eval (fun x u ae=>aE.rX ae)
 simp only [Oper.wp,this,Oper.upon]
 exact nI _ _ (h _ (aE.put bT v))
theorem aww (bo:M1 P l ⟨none,op,ty,pos,af,none⟩ w w') (h:fI P ops Q rest n ds l w') :
  fI P ops Q (⟨none,op,ty,pos,af,none⟩::rest) n ds l w:=by
 intro a aE
 refine wpList_plain rfl fun K nI=>?_
 have:=bo a.eval (fun x u ae=>aE.rX ae)
 simp only [Oper.wp,this,Oper.upon]
 exact nI _ _ (h _ aE)
def bH (sG:Value→World→Prop):Ending→World→Prop
 | .returned v,w=>sG v w
 | _,_=>False
theorem Bn {f:FuncId} {args:Array Value} {sG:Value→World→Prop} (bo:lQ P l ⟨some d,op,ty,pos,af,none⟩ w f args) (aZ:Calls P f args w (bH sG)) (bT:Nat.blt d n=true)
  (h:∀ v w',sG v w'→fI P ops Q rest n ds ((d,v)::l) w') :
  fI P ops Q (⟨some d,op,ty,pos,af,none⟩::rest) n ds l w:=by
 intro a aE
 refine wpList_plain rfl fun K nI=>?_
 have:=bo a.eval (fun x u ae=>aE.rX ae)
 simp only [Oper.wp,this,Oper.upon]
 refine aZ.mono fun e w' he=>?_
 cases e with
 | returned v=>exact nI _ _ (h v w' he _ (aE.put bT v))
 | panicked c=>exact he.elim
 | outgrown=>exact he.elim
theorem cJ {f:FuncId} {args:Array Value} {sG:Value→World→Prop} (bo:lQ P l ⟨some d,op,ty,pos,af,none⟩ w f args) (aZ:Calls P f args w (bH sG)) (h:∀ v w',sG v w'→fI P ops Q rest n ds ((d,v)::l) w') (bT:Nat.blt d n=true:=by exact rfl):fI P ops Q (⟨some d,op,ty,pos,af,none⟩::rest) n ds l w:=Bn bo aZ bT h
end
end Go.Proofs.YtkjgljnkocnnpaaGreatDoor.V
namespace Go.Proofs.YtkjgljnkocnnpaaGreatDoor.V
open Go Go.Proofs
noncomputable abbrev aR:Program:=Tryz.prog
def arB:=Tryz.underlying0
def gj:=Tryz.underlying3
def LN:=Tryz.underlying4
def dH:=Tryz.underlying5
def aA:=Tryz.underlying9
def gE:=Tryz.underlying21
def Bj:=Tryz.underlying127
def da:=Tryz.underlying58
def IK:=Tryz.underlying180
def sd:=Tryz.underlying175
def pR:=Tryz.underlying44
def cO:=Tryz.underlying23
def hJ:=Tryz.underlying22
def hQ:=Tryz.underlying43
def nn:=Tryz.underlying69
end Go.Proofs.YtkjgljnkocnnpaaGreatDoor.V
namespace Go.Proofs.YtkjgljnkocnnpaaGreatDoor.V
open Go
section
variable {P:Program} {ops:Array Oper} {Q:Exit→Act→World→Prop} {n:Nat} {ds:List Deferred} {l:List (Nat×Value)} {w w':World} {a:Act}
variable {rest:List Oper} {d:Nat} {op:Op} {ty:TypeId} {pos:String} {af:Array Edge}
variable {dd:Option Nat} {gg:Option (Nat×Bool)} {x y z:Operand} {t t':TypeId} {k kS:IntKind} {m gZ:Int} {b gv:Bool}
theorem fj {v:Value} (ae:bf l x=some v):bE P l ⟨dd,.move x,ty,pos,af,gg⟩ w v w:=fun ρ h=>by
 simp [execOp,h x v ae]
theorem cS {v:Value} (ae:bf l x=some v):bE P l ⟨dd,.assign x,ty,pos,af,gg⟩ w v w:=fun ρ h=>by
 simp [execOp,h x v ae]
theorem uq {α:Type} [BEq α] [LawfulBEq α] [DecidableEq α] (u v:α):(u == v)=decide (u=v):=by
 by_cases h:u=v <;> simp [h]
/-! ### whole numbers -/
theorem sT (ae:bf l x=some (.int k m)) (ba:bf l y=some (.int k gZ)):bE P l ⟨dd,.binOp .add t x y t',ty,pos,af,gg⟩ w (.int k (k.wrap (m+gZ))) w:=fun ρ h=>by
 simp [execOp,eqGuard,h _ _ ae,h _ _ ba,binOp,Op.intArith]
theorem hB (ae:bf l x=some (.int k m)) (ba:bf l y=some (.int k gZ)):bE P l ⟨dd,.binOp .sub t x y t',ty,pos,af,gg⟩ w (.int k (k.wrap (m-gZ))) w:=fun ρ h=>by
 simp [execOp,eqGuard,h _ _ ae,h _ _ ba,binOp,Op.intArith]
theorem Xh (ae:bf l x=some (.int k m)) (ba:bf l y=some (.int k gZ)):bE P l ⟨dd,.binOp .mul t x y t',ty,pos,af,gg⟩ w (.int k (k.wrap (m*gZ))) w:=fun ρ h=>by
 simp [execOp,eqGuard,h _ _ ae,h _ _ ba,binOp,Op.intArith]
theorem wrap64_in (z:Int) (h : -9223372036854775808≤z∧z≤9223372036854775807):IntKind.i64.wrap z=z:=by
 rw [IntKind.wrap_i64 z];omega
theorem bt (ae:bf l x=some (.int .i64 m)) (ba:bf l y=some (.int .i64 gZ)) (aW : -9223372036854775808≤m+gZ∧m+gZ≤9223372036854775807):bE P l ⟨dd,.binOp .add t x y t',ty,pos,af,gg⟩ w (.int .i64 (m+gZ)) w:=by
 have:=sT (P:=P) (w:=w) (dd:=dd) (gg:=gg) (t:=t) (t':=t') (ty:=ty) (pos:=pos) (af:=af) ae ba
 rwa [wrap64_in _ aW] at this
theorem xq (ae:bf l x=some (.int .i64 m)) (ba:bf l y=some (.int .i64 gZ)) (aW : -9223372036854775808≤m-gZ∧m-gZ≤9223372036854775807):bE P l ⟨dd,.binOp .sub t x y t',ty,pos,af,gg⟩ w (.int .i64 (m-gZ)) w:=by
 have:=hB (P:=P) (w:=w) (dd:=dd) (gg:=gg) (t:=t) (t':=t') (ty:=ty) (pos:=pos) (af:=af) ae ba
 rwa [wrap64_in _ aW] at this
theorem O7 (ae:bf l x=some (.int .i64 m)) (ba:bf l y=some (.int .i64 gZ)) (aW : -9223372036854775808≤m*gZ∧m*gZ≤9223372036854775807):bE P l ⟨dd,.binOp .mul t x y t',ty,pos,af,gg⟩ w (.int .i64 (m*gZ)) w:=by
 have:=Xh (P:=P) (w:=w) (dd:=dd) (gg:=gg) (t:=t) (t':=t') (ty:=ty) (pos:=pos) (af:=af) ae ba
 rwa [wrap64_in _ aW] at this
theorem T2 (ae:bf l x=some (.int k m)) (ba:bf l y=some (.int k gZ)) (cg:gZ≠0):bE P l ⟨dd,.binOp .quo t x y t',ty,pos,af,gg⟩ w (.int k (k.wrap (m.tdiv gZ))) w:=fun ρ h=>by
 simp [execOp,eqGuard,h _ _ ae,h _ _ ba,binOp,Op.intDiv,cg]
theorem ahI (ae:bf l x=some (.int k m)) (ba:bf l y=some (.int k gZ)) (cg:gZ≠0):bE P l ⟨dd,.binOp .rem t x y t',ty,pos,af,gg⟩ w (.int k (m.tmod gZ)) w:=fun ρ h=>by
 simp [execOp,eqGuard,h _ _ ae,h _ _ ba,binOp,Op.intDiv,cg]
theorem oC (ae:bf l x=some (.int .i64 m)) (ba:bf l y=some (.int .i64 gZ)) (aW:0≤m∧m≤9223372036854775807∧0<gZ):bE P l ⟨dd,.binOp .quo t x y t',ty,pos,af,gg⟩ w (.int .i64 (m / gZ)) w:=by
 have:=T2 (P:=P) (w:=w) (dd:=dd) (gg:=gg) (t:=t) (t':=t') (ty:=ty) (pos:=pos) (af:=af) ae ba (by omega);rw [Int.tdiv_eq_ediv_of_nonneg aW.1] at this;have h1:0≤m / gZ:=Int.ediv_nonneg aW.1 (by omega);have aq:m / gZ≤m:=Int.ediv_le_self _ aW.1
 rwa [wrap64_in _ (by omega)] at this
theorem ln (ae:bf l x=some (.int k m)) (ba:bf l y=some (.int k gZ)) (aW:0≤m∧0<gZ):bE P l ⟨dd,.binOp .rem t x y t',ty,pos,af,gg⟩ w (.int k (m % gZ)) w:=by
 have:=ahI (P:=P) (w:=w) (dd:=dd) (gg:=gg) (t:=t) (t':=t') (ty:=ty) (pos:=pos) (af:=af) ae ba (by omega)
 rwa [Int.tmod_eq_emod_of_nonneg aW.1] at this
theorem GF (ae:bf l x=some (.int k m)) (ba:bf l y=some (.int kS gZ)) (cg:0≤gZ):bE P l ⟨dd,.binOp .shl t x y t',ty,pos,af,gg⟩ w (.int k (k.wrap (m*2 ^ (min gZ.toNat k.bits)))) w:=fun ρ h=>by
 have:¬ gZ<0:=by omega
 simp [execOp,eqGuard,h _ _ ae,h _ _ ba,binOp,Op.shift,this]
theorem Cq (ae:bf l x=some (.int k m)) (ba:bf l y=some (.int kS gZ)) (cg:0≤gZ):bE P l ⟨dd,.binOp .shr t x y t',ty,pos,af,gg⟩ w (.int k (m.fdiv (2 ^ (min gZ.toNat k.bits)))) w:=fun ρ h=>by
 have:¬ gZ<0:=by omega
 simp [execOp,eqGuard,h _ _ ae,h _ _ ba,binOp,Op.shift,this]
theorem G7 (ae:bf l x=some (.int k m)) (ba:bf l y=some (.int k gZ)):bE P l ⟨dd,.binOp .and t x y t',ty,pos,af,gg⟩ w (.int k (k.wrap (BitVec.ofInt k.bits m &&& BitVec.ofInt k.bits gZ).toNat)) w:=fun ρ h=>by
 simp [execOp,eqGuard,h _ _ ae,h _ _ ba,binOp,Op.intBits]
theorem vt (ae:bf l x=some (.int k m)) (ba:bf l y=some (.int k gZ)):bE P l ⟨dd,.binOp .or t x y t',ty,pos,af,gg⟩ w (.int k (k.wrap (BitVec.ofInt k.bits m ||| BitVec.ofInt k.bits gZ).toNat)) w:=fun ρ h=>by
 simp [execOp,eqGuard,h _ _ ae,h _ _ ba,binOp,Op.intBits]
theorem cT (ae:bf l x=some (.int k m)) (ba:bf l y=some (.int k gZ)):bE P l ⟨dd,.binOp .lss t x y t',ty,pos,af,gg⟩ w (.bool (decide (m<gZ))) w:=fun ρ h=>by
 simp [execOp,eqGuard,h _ _ ae,h _ _ ba,binOp,Op.intCmp]
theorem pr (ae:bf l x=some (.int k m)) (ba:bf l y=some (.int k gZ)):bE P l ⟨dd,.binOp .leq t x y t',ty,pos,af,gg⟩ w (.bool (decide (m≤gZ))) w:=fun ρ h=>by
 simp [execOp,eqGuard,h _ _ ae,h _ _ ba,binOp,Op.intCmp]
theorem hV (ae:bf l x=some (.int k m)) (ba:bf l y=some (.int k gZ)):bE P l ⟨dd,.binOp .gtr t x y t',ty,pos,af,gg⟩ w (.bool (decide (gZ<m))) w:=fun ρ h=>by
 simp [execOp,eqGuard,h _ _ ae,h _ _ ba,binOp,Op.intCmp]
theorem dA (ae:bf l x=some (.int k m)) (ba:bf l y=some (.int k gZ)):bE P l ⟨dd,.binOp .geq t x y t',ty,pos,af,gg⟩ w (.bool (decide (gZ≤m))) w:=fun ρ h=>by
 simp [execOp,eqGuard,h _ _ ae,h _ _ ba,binOp,Op.intCmp]
theorem k1 (ae:bf l x=some (.int k m)) (ba:bf l y=some (.int k gZ)):bE P l ⟨dd,.binOp .eql t x y t',ty,pos,af,gg⟩ w (.bool (decide (m=gZ))) w:=fun ρ h=>by
 simp [execOp,eqGuard,h _ _ ae,h _ _ ba,binOp,Op.intCmp,uq]
theorem fO (ae:bf l x=some (.int k m)) (ba:bf l y=some (.int k gZ)):bE P l ⟨dd,.binOp .neq t x y t',ty,pos,af,gg⟩ w (.bool (decide (m≠gZ))) w:=fun ρ h=>by
 have:(m != gZ)=decide (m≠gZ):=by
  by_cases h:m=gZ <;> simp [h]
 simp [execOp,eqGuard,h _ _ ae,h _ _ ba,binOp,Op.intCmp,this]
theorem fC (ae:bf l x=some (.bool b)):bE P l ⟨dd,.unOp .not t x,ty,pos,af,gg⟩ w (.bool (!b)) w:=fun ρ h=>by
 simp [execOp,h _ _ ae,Op.unary]
theorem uT {d0:TypeDesc} (bh:P.underlying t=some d0) (bW:P.underlying t'=some (.int kS)) (ae:bf l x=some (.int k m)):bE P l ⟨dd,.convert t t' x,ty,pos,af,gg⟩ w (.int kS (kS.wrap m)) w:=fun ρ h=>by
 simp [execOp,h _ _ ae,convert,run_underlying bh,run_underlying bW,Conv.intToInt]
theorem nw {d0:TypeDesc} (bh:P.underlying t=some d0) (bW:P.underlying t'=some (.int kS)) (ae:bf l x=some (.int k m)) (aW:kS.wrap m=m):bE P l ⟨dd,.convert t t' x,ty,pos,af,gg⟩ w (.int kS m) w:=by
 have:=uT (P:=P) (w:=w) (dd:=dd) (gg:=gg) (ty:=ty) (pos:=pos) (af:=af) bh bW ae
 rwa [aW] at this
/-! ### strings -/
abbrev S (s:List UInt8):Value:=.string ⟨⟨s⟩⟩
theorem qd (s:List UInt8):(⟨⟨s⟩⟩:ByteArray).toList=s:=by
 exact ByteArray.toList_mk s
theorem jr {u v:List UInt8} (ae:bf l x=some (S u)) (ba:bf l y=some (S v)):bE P l ⟨dd,.binOp .eql t x y t',ty,pos,af,gg⟩ w (.bool (decide (u=v))) w:=fun ρ h=>by
 simp [execOp,eqGuard,h _ _ ae,h _ _ ba,binOp,Op.stringOp,uq,qd]
theorem ia {u v:List UInt8} (ae:bf l x=some (S u)) (ba:bf l y=some (S v)):bE P l ⟨dd,.binOp .neq t x y t',ty,pos,af,gg⟩ w (.bool (decide (u≠v))) w:=fun ρ h=>by
 have:(!(u == v))=decide (u≠v):=by by_cases h:u=v <;> simp [h]
 simp [execOp,eqGuard,h _ _ ae,h _ _ ba,binOp,Op.stringOp,this,qd]
abbrev fx (u v:List UInt8):Bool:=Op.bytesLess u v
theorem af9 {u v:List UInt8} (ae:bf l x=some (S u)) (ba:bf l y=some (S v)):bE P l ⟨dd,.binOp .lss t x y t',ty,pos,af,gg⟩ w (.bool (fx u v)) w:=fun ρ h=>by
 simp [execOp,eqGuard,h _ _ ae,h _ _ ba,binOp,Op.stringOp,qd,fx]
theorem yl {u v:List UInt8} (ae:bf l x=some (S u)) (ba:bf l y=some (S v)):bE P l ⟨dd,.binOp .gtr t x y t',ty,pos,af,gg⟩ w (.bool (!(fx u v||u == v))) w:=fun ρ h=>by
 simp [execOp,eqGuard,h _ _ ae,h _ _ ba,binOp,Op.stringOp,qd,fx]
theorem T8 {u v:List UInt8} (ae:bf l x=some (S u)) (ba:bf l y=some (S v)):bE P l ⟨dd,.binOp .leq t x y t',ty,pos,af,gg⟩ w (.bool (fx u v||u == v)) w:=fun ρ h=>by
 simp [execOp,eqGuard,h _ _ ae,h _ _ ba,binOp,Op.stringOp,qd,fx]
theorem Cr {u v:List UInt8} (ae:bf l x=some (S u)) (ba:bf l y=some (S v)):bE P l ⟨dd,.binOp .geq t x y t',ty,pos,af,gg⟩ w (.bool (!(fx u v))) w:=fun ρ h=>by
 simp [execOp,eqGuard,h _ _ ae,h _ _ ba,binOp,Op.stringOp,qd,fx]
theorem ac9 {u v:List UInt8} (ae:bf l x=some (S u)) (ba:bf l y=some (S v)) (aW:u.length+v.length≤9223372036854775807):bE P l ⟨dd,.binOp .add t x y t',ty,pos,af,gg⟩ w (S (u++v)) w:=fun ρ h=>by
 have h1:((u.length:Int)+v.length)≤IntKind.i64.max:=by
  have:IntKind.i64.max=9223372036854775807:=by decide
  omega
 have aq:(⟨⟨u⟩⟩:ByteArray)++⟨⟨v⟩⟩=⟨⟨u++v⟩⟩:=by
  apply ByteArray.ext;simp [ByteArray.data_append]
 have bb:(⟨⟨u⟩⟩:ByteArray).size=u.length:=rfl;have bP:(⟨⟨v⟩⟩:ByteArray).size=v.length:=rfl;simp only [execOp,eqGuard,h _ _ ae,h _ _ ba,binOp,Op.stringOp];simp [bb,bP,aq];exact h1
theorem bQ {u:List UInt8} (bh:P.underlying t=some .string) (ae:bf l x=some (S u)):bE P l ⟨dd,.call {callee:=.builtin .len,args:=#[x],argTypes:=#[t]},ty,pos,af,gg⟩ w (.int .i64 u.length) w:=fun ρ h=>by
 have bb:(⟨⟨u⟩⟩:ByteArray).size=u.length:=rfl;simp [execOp,resolve,invoke,builtin,Builtin.len_,h _ _ ae,run_underlying bh,goInt,bb]
theorem hM {u:List UInt8} {c:UInt8} (bh:P.underlying t=some .string) (ae:bf l x=some (S u)) (ba:bf l y=some (.int k m)) (cg:0≤m) (aZ:u[m.toNat]? = some c):bE P l ⟨dd,.index t x y,ty,pos,af,gg⟩ w (.int .u8 c.toNat) w:=fun ρ h=>by
 have bM:m.toNat<u.length:=(List.getElem?_eq_some_iff.1 aZ).1;have bb:(⟨⟨u⟩⟩:ByteArray)[m.toNat]? = some c:=by
  have bP:m.toNat<(⟨⟨u⟩⟩:ByteArray).size:=bM;have cZ:=(List.getElem?_eq_some_iff.1 aZ).2;rw [getElem?_pos (⟨⟨u⟩⟩:ByteArray) m.toNat bP,← cZ];rfl
 simp [execOp,Instr.index,h _ _ ae,h _ _ ba,asIntOf,run_underlying bh,cg,bb]
theorem bN {u:List UInt8} {c:UInt8} {j:Nat} (bh:P.underlying t=some .string) (ae:bf l x=some (S u)) (ba:bf l y=some (.int k (j:Int))) (aZ:u[j]? = some c):bE P l ⟨dd,.index t x y,ty,pos,af,gg⟩ w (.int .u8 c.toNat) w:=hM bh ae ba (by omega) (by rw [Int.toNat_natCast];exact aZ)
/-! ### the rest that touches no memory -/
theorem fo {vs:Array Value} {i:Nat} {v:Value} (ae:bf l x=some (.tuple vs)) (hi:vs[i]? = some v):bE P l ⟨dd,.extract x i,ty,pos,af,gg⟩ w v w:=fun ρ h=>by
 simp [execOp,Instr.extract,h _ _ ae,hi]
theorem eS {ad:Addr} (ae:bf l x=some (.pointer (some ad))):bE P l ⟨dd,.nilCheck x,ty,pos,af,gg⟩ w (.pointer (some ad)) w:=fun ρ h=>by
 simp [execOp,h _ _ ae]
theorem G8 {e:TypeId} {ad:Option Addr} {c c':Nat} (dp:Nat) (he:P.underlying t=some (.slice e)):(Op.equalIn (dp+1) t (.slice ad c c') (.slice none 0 0)).run P w = .ok ad.isNone w:=by
 cases ad <;> simp [Op.equalIn,run_underlying he]
theorem M3 {e:TypeId} {ad:Option Addr} {c c':Nat} (he:P.underlying t=some (.slice e)):(binOp .eql t (.slice ad c c') (.slice none 0 0)).run P w = .ok (.bool ad.isNone) w:=by
 have bu:binOp .eql t (.slice ad c c') (.slice none 0 0)=(do pure (.bool (← Op.equalIn (9999+1) t (.slice ad c c') (.slice none 0 0)))):=by cases ad <;> rfl
 have ee:=G8 (w:=w) (ad:=ad) (c:=c) (c':=c') 9999 he;rw [bu,Sem.run_bind,ee];rfl
theorem Ob {ad:Option Addr} {c c' e:Nat} (he:P.underlying t=some (.slice e)) (ae:bf l x=some (.slice ad c c')) (ba:bf l y=some (.slice none 0 0)):bE P l ⟨dd,.binOp .eql t x y t',ty,pos,af,gg⟩ w (.bool ad.isNone) w:=fun ρ h=>by
 have:=M3 (w:=w) (ad:=ad) (c:=c) (c':=c') he;simp only [execOp,eqGuard,h _ _ ae,h _ _ ba];simp [this]
theorem bY {ad:Option Addr} {c c' e:Nat} (he:P.underlying t=some (.slice e)) (ae:bf l x=some (.slice ad c c')):bE P l ⟨dd,.call {callee:=.builtin .len,args:=#[x],argTypes:=#[t]},ty,pos,af,gg⟩ w (.int .i64 c) w:=fun ρ h=>by
 simp [execOp,resolve,invoke,builtin,Builtin.len_,h _ _ ae,run_underlying he,goInt]
theorem af5 {ad:Option Addr} {c c' e:Nat} (he:P.underlying t=some (.slice e)) (ae:bf l x=some (.slice ad c c')):bE P l ⟨dd,.call {callee:=.builtin .cap,args:=#[x],argTypes:=#[t]},ty,pos,af,gg⟩ w (.int .i64 c') w:=fun ρ h=>by
 simp [execOp,resolve,invoke,builtin,Builtin.cap_,h _ _ ae,run_underlying he,goInt]
theorem xw {ρ:Operand→Value} (h:∀ x u,bf l x=some u→ρ x=u):∀ (ft:List Operand) (us:List Value),JL l ft=some us→ft.map ρ=us:=by
 intro ft
 induction ft with
 | nil=>intro us hu;simp [JL] at hu;simp [← hu]
 | cons z ft ea=>
  intro us hu;simp only [JL] at hu
  split at hu
  ·rename_i v vs h1 aq
   simp only [Option.some.injEq] at hu;subst hu;simp [h _ _ h1,ea _ aq]
  cases hu
theorem WL {fn:Fn} {xs M0:Array Operand} {us vs:List Value} (ae:JL l xs.toList=some us) (ba:JL l M0.toList=some vs):bE P l ⟨dd,.makeFunc fn xs M0,ty,pos,af,gg⟩ w (.func fn us.toArray vs.toArray) w:=fun ρ h=>by
 have bu:xs.map ρ=us.toArray:=by apply Array.toList_inj.1;simpa using xw h _ _ ae
 have ee:M0.map ρ=vs.toArray:=by apply Array.toList_inj.1;simpa using xw h _ _ ba
 simp [execOp,Instr.makeFunc,bu,ee]
theorem MB {v:Value} {d0:TypeDesc} (he:P.underlying t=some d0) (cu:(match d0 with | .interface _=>false | _=>true)=true) (ae:bf l x=some v):bE P l ⟨dd,.makeInterface t x,ty,pos,af,gg⟩ w (.iface t v) w:=fun ρ h=>by
 cases d0 <;> first | (simp at cu;done) | simp [execOp,Instr.makeInterface,h _ _ ae,run_underlying he]
/-! ### calls -/
def vh (P:Program) (f:FuncId):Prop:=∀ args w,(callFunc f args).run P w = .ok (.enter f args) w
theorem vh.of {f:FuncId} {fn:Func} (dn:P.funcs[f]? = some fn) (cu:(fn.name == "runtime.NumGoroutine")=false) (aW:fn.body.isNone=false):vh P f:=fun args w=>by
 have h1:fn.name≠ "runtime.NumGoroutine" :=by simpa using cu
 cases aZ:fn.body with
 | none=>rw [aZ] at aW;cases aW
 | some c=>simp [callFunc,dn,h1,aZ]
theorem eW {P:Program} {f:FuncId} {fn:Func} (dn:P.funcs[f]? = some fn) (cu:(fn.name == "runtime.NumGoroutine")=false:=by kernel_rfl) (aW:fn.body.isNone=false:=by kernel_rfl):vh P f:=vh.of dn cu aW
theorem kT (b:Bool) (h:b=true:=by kernel_rfl):b=true:=h
theorem bB {f:FuncId} {xs:List Operand} {us:List Value} {iz:Array TypeId} (he:vh P f) (ae:JL l xs=some us):lQ P l ⟨dd,.call {callee:=.value (.func f),args:=xs.toArray,argTypes:=iz},ty,pos,af,gg⟩ w f us.toArray:=fun ρ h=>by
 have bu:xs.map ρ=us:=xw h _ _ ae;have ee:ρ (.func f) = .func (.func f) #[] #[]:=h _ _ rfl;have:=he us.toArray w;simp [execOp,resolve,ee,Deferred.ofValue,invoke,← bu] at this ⊢;simpa using this
theorem wK {f:FuncId} {g:Operand} {xs:List Operand} {us vs:List Value} {iz:Array TypeId} (he:vh P f) (dY:bf l g=some (.func (.func f) #[] vs.toArray)) (ae:JL l xs=some us):lQ P l ⟨dd,.call {callee:=.value g,args:=xs.toArray,argTypes:=iz},ty,pos,af,gg⟩ w f (us++vs).toArray:=fun ρ h=>by
 have bu:xs.map ρ=us:=xw h _ _ ae;have ee:ρ g = .func (.func f) #[] vs.toArray:=h _ _ dY;have:=he (us++vs).toArray w;simp [execOp,resolve,ee,Deferred.ofValue,invoke,← bu] at this ⊢;simpa using this
end
/-! ## Memory -/
structure Mod (M:List Nat) (w w':World):Prop where
 os:w'.os=w.os
 tape:w'.tape=w.tape
 output:w'.output=w.output
 size:w.heap.size≤w'.heap.size
 block:∀ i,i<w.heap.size→i∉M→w'.heap[i]? = w.heap[i]?
theorem Mod.refl (M:List Nat) (w:World):Mod M w w:=⟨rfl,rfl,rfl,Nat.le_refl _,fun _ _ _=>rfl⟩
theorem Mod.trans' {M N:List Nat} {a b c:World} (h:Mod M a b) (k:Mod N b c) (gy:∀ x∈N,x∈M∨a.heap.size≤x):Mod M a c:=
 ⟨k.os.trans h.os,k.tape.trans h.tape,k.output.trans h.output,Nat.le_trans h.size k.size,fun i hi eX=>
  (k.block i (Nat.lt_of_lt_of_le hi h.size) (fun ae=>by rcases gy i ae with h1 | h1 <;> first | exact eX h1 | omega)).trans (h.block i hi eX)⟩
theorem Mod.trans {M:List Nat} {a b c:World} (h:Mod M a b) (k:Mod M b c):Mod M a c:=h.trans' k fun x ae=>.inl ae
theorem Mod.then {M:List Nat} {a b c:World} (h:Mod M a b) (k:Mod [] b c):Mod M a c:=h.trans' k fun x ae=>by cases ae
theorem Mod.own {M:List Nat} {a b c:World} {g:Nat} (h:Mod M a b) (k:Mod [g] b c) (dY:a.heap.size≤g):Mod M a c:=h.trans' k fun x ae=>by simp at ae;subst ae;exact .inr dY
theorem Mod.mono {M N:List Nat} {a b:World} (h:Mod M a b) (as0:∀ x∈M,x∈N):Mod N a b:=⟨h.os,h.tape,h.output,h.size,fun i hi gy=>h.block i hi (fun eX=>gy (as0 i eX))⟩
theorem Mod.below {w w':World} (h:Mod [] w w'):RowKit.Below w.heap.size w w':=⟨h.os,h.tape,h.output,h.size,fun k hk=>h.block k hk (by simp)⟩
theorem Mod.drew (M:List Nat) (w:World):Mod M w w.drew:=⟨rfl,rfl,rfl,Nat.le_refl _,fun _ _ _=>rfl⟩
theorem Mod.alloc (w:World) (o:Obj):Mod [] w (w.alloc o):=⟨rfl,rfl,rfl,by simp,fun i hi _=>RowKit.Below.heap_alloc w o i hi⟩
def aF (w:World) (g:Nat) (T:TypeId) (cs:List Value):Prop:=w.heap[g]? = some (.cells cs.toArray T (0,0))
section
variable {w w':World} {g:Nat} {T:TypeId} {cs:List Value} {M:List Nat}
theorem aF.lt (h:aF w g T cs):g<w.heap.size:=(Array.getElem?_eq_some_iff.1 h).1
theorem aF.mod (h:aF w g T cs) (k:Mod M w w') (dY:g∉M):aF w' g T cs:=(k.block g h.lt dY).trans h
theorem aF.I (h:aF w g T cs) (k:Mod [] w w'):aF w' g T cs:=h.mod k (by simp)
theorem aF.ne {HR:Nat} (h:aF w g T cs) (k:Mod [HR] w w') (dY:g≠HR):aF w' g T cs:=h.mod k (by simp [dY])
theorem aF.cell (h:aF w g T cs) {i:Nat} {v:Value} (bI:cs[i]? = some v):w.cell? ⟨g,i,none⟩=some v:=by
 rw [cell_of_row w g i cs.toArray T (0,0) h];simpa using bI
theorem aF.frozen (h:aF w g T cs) (i:Nat):w.frozen? ⟨g,i,none⟩=false:=frozen_of_row w g i cs.toArray T h
end
def pF (w:World) (a:Addr) (vs:List Value):Prop:=∀ j v,vs[j]? = some v→w.cell? (a.add j)=some v
theorem pF.nil (w:World) (a:Addr):pF w a []:=fun j v h=>by simp at h
theorem aF.cs {w:World} {g:Nat} {T:TypeId} {cs vs:List Value} (h:aF w g T cs) {o:Nat} (bI:(cs.drop o).take vs.length=vs):pF w ⟨g,o,none⟩ vs:=by
 intro j v eD;rw [Addr.add_lit];apply h.cell;have bM:j<vs.length:=(List.getElem?_eq_some_iff.1 eD).1;rw [← bI,List.getElem?_take,List.getElem?_drop] at eD;simpa [bM] using eD
theorem pF.mod {w w':World} {a:Addr} {vs:List Value} {M:List Nat} (h:pF w a vs) (k:Mod M w w') (eX:a.block∉M):pF w' a vs:=by
 intro j v eD;have aZ:=h j v eD;have aW:(a.add j).block=a.block:=by unfold Addr.add;split <;> rfl
 have bM:=World.block_lt_of_cell? w _ aZ;rw [aW] at bM;rw [← aZ];exact World.cell?_of_block (by rw [aW];exact k.block _ bM eX)
/-! ### what is asked of the program's table of types -/
def JM:TypeDesc→Bool
 | .struct _ | .array _ _=>true
 | _=>false
def pa (P:Program) (t:TypeId):Bool:=match P.underlying t,P.info? t with
 | some d,some i=>!JM d&&i.size == 1
 | _,_=>false
def lG (P:Program) (t:TypeId) (n:Nat):Bool:=match P.underlying t,P.info? t with
 | some d,some i=>JM d&&i.size == n
 | _,_=>false
def kU (P:Program) (t:TypeId) (e n fM:Nat):Bool:=match P.underlying t,P.info? e with
 | some (.slice yu),some i=>yu == e&&i.size == n&&i.bytes == fM&&(match i.zero with | some z=>z.cells.size == n | none=>false)
 | _,_=>false
def j4 (P:Program) (t f off n:Nat):Bool:=match P.underlying t with
 | some (.struct rY)=>match rY[f]? with
  | some fd=>fd.offset == off&&(match P.info? fd.type with | some i=>i.size == n&&n != 0 | none=>false)
  | none=>false
 | _=>false
section
variable {P:Program} {t e n fM k f off:Nat} {w:World}
theorem u0 (h:pa P t=true):∃ d i,P.underlying t=some d∧P.info? t=some i∧JM d=false∧i.size=1:=by
 unfold pa at h
 split at h
 ·rename_i d i h1 aq
  simp only [Bool.and_eq_true,Bool.not_eq_true',beq_iff_eq] at h;exact⟨d,i,h1,aq,h.1,h.2⟩
 cases h
theorem Fe (h:lG P t n=true):∃ d i,P.underlying t=some d∧P.info? t=some i∧JM d=true∧i.size=n:=by
 unfold lG at h
 split at h
 ·rename_i d i h1 aq
  simp only [Bool.and_eq_true,beq_iff_eq] at h;exact⟨d,i,h1,aq,h.1,h.2⟩
 cases h
theorem jZ (h:kU P t e n fM=true):∃ i z,P.underlying t=some (.slice e)∧P.info? e=some i∧i.size=n∧i.bytes=fM∧i.zero=some z∧z.cells.size=n:=by
 unfold kU at h
 split at h
 ·rename_i yu i h1 aq
  simp only [Bool.and_eq_true,beq_iff_eq] at h;obtain⟨⟨⟨aE,aW⟩,aZ⟩,bT⟩:=h;subst aE
  split at bT
  ·rename_i z cP
   exact⟨i,z,h1,aq,aW,aZ,cP,by simpa using bT⟩
  cases bT
 cases h
theorem Rx (h:j4 P t f off n=true):∃ rY fd i,P.underlying t=some (.struct rY)∧rY[f]? = some fd∧fd.offset=off∧P.info? fd.type=some i∧i.size=n∧n≠0:=by
 unfold j4 at h
 split at h
 ·rename_i rY h1
  split at h
  ·rename_i fd aq
   simp only [Bool.and_eq_true,beq_iff_eq] at h;obtain⟨aE,aW⟩:=h
   split at aW
   ·rename_i i bb
    simp only [Bool.and_eq_true,beq_iff_eq,bne_iff_ne,ne_eq] at aW;exact⟨rY,fd,i,h1,aq,aE,bb,aW.1,aW.2⟩
   cases aW
  cases h
 cases h
theorem mb {d:TypeDesc} (h:P.underlying t=some d):(isAgg t).run P w = .ok (JM d) w:=by
 unfold isAgg;simp only [Sem.run_bind,run_underlying h,Result.andThen_ok];cases d <;> rfl
theorem dj {i:TypeInfo} (h:P.info? t=some i):(sizeOf t).run P w = .ok i.size w:=by
 simp [sizeOf,typeInfo,h]
theorem mm (h:pa P t=true) {a:Addr} {v:Value} (aZ:w.cell? a=some v):(loadVar t a).run P w = .ok v w:=by
 obtain⟨d,i,h1,aq,bb,bP⟩:=u0 h;unfold loadVar;simp [mb h1,bb,aZ]
theorem hY (h:lG P t n=true) {a:Addr} {vs:List Value} (cu:vs.length=n) (aZ:pF w a vs):(loadVar t a).run P w = .ok (.agg vs.toArray) w:=by
 obtain⟨d,i,h1,aq,bb,bP⟩:=Fe h;subst cu;unfold loadVar;have:=run_loadCells_list (P:=P) w a vs aZ;simp [mb h1,bb,dj aq,bP,this]
end
section
variable {P:Program} {ops:Array Oper} {Q:Exit→Act→World→Prop} {n:Nat} {ds:List Deferred} {l:List (Nat×Value)} {w w':World} {a:Act}
variable {rest:List Oper} {d:Nat} {op:Op} {ty:TypeId} {pos:String} {af:Array Edge}
variable {dd:Option Nat} {gg:Option (Nat×Bool)} {x y z:Operand} {t t':TypeId} {k kS:IntKind} {m gZ:Int} {b gv:Bool}
theorem bF {v:Value} {ad:Addr} (bW:pa P t=true) (ae:bf l x=some (.pointer (some ad))) (aZ:w.cell? ad=some v):bE P l ⟨dd,.load t x,ty,pos,af,gg⟩ w v w:=fun ρ h=>by
 simp [execOp,Instr.loadAt,Instr.sureAddr,h _ _ ae,mm bW aZ]
theorem fb {vs:List Value} {ad:Addr} {c:Nat} (bW:lG P t c=true) (ae:bf l x=some (.pointer (some ad))) (cu:vs.length=c) (aZ:pF w ad vs):bE P l ⟨dd,.load t x,ty,pos,af,gg⟩ w (.agg vs.toArray) w:=fun ρ h=>by
 simp [execOp,Instr.loadAt,Instr.sureAddr,h _ _ ae,hY bW cu aZ]
theorem br {a0 e6 a2 a3 a4 a5:Value} {ad:Addr} (bW:lG P t 6=true) (ae:bf l x=some (.pointer (some ad))) (aZ:pF w ad [a0,e6,a2,a3,a4,a5]):bE P l ⟨dd,.load t x,ty,pos,af,gg⟩ w (.agg ([a0,e6,a2,a3,a4,a5]:List Value).toArray) w:=fb bW ae rfl aZ
theorem tH {a0 e6 a2 a3 a4 a5 qz:Value} {ad:Addr} (bW:lG P t 7=true) (ae:bf l x=some (.pointer (some ad))) (aZ:pF w ad [a0,e6,a2,a3,a4,a5,qz]):bE P l ⟨dd,.load t x,ty,pos,af,gg⟩ w (.agg ([a0,e6,a2,a3,a4,a5,qz]:List Value).toArray) w:=fb bW ae rfl aZ
theorem jb {a0 e6 a2 a3 a4 a5 qz vo vp a9 pZ ob a12 sw qA q1 q2:Value} {ad:Addr} (bW:lG P t 17=true) (ae:bf l x=some (.pointer (some ad))) (aZ:pF w ad [a0,e6,a2,a3,a4,a5,qz,vo,vp,a9,pZ,ob,a12,sw,qA,q1,q2]):bE P l ⟨dd,.load t x,ty,pos,af,gg⟩ w (.agg ([a0,e6,a2,a3,a4,a5,qz,vo,vp,a9,pZ,ob,a12,sw,qA,q1,q2]:List Value).toArray) w:=fb bW ae rfl aZ
theorem fY {ad:Addr} {f o c:Nat} (bW:j4 P t f o c=true) (ae:bf l x=some (.pointer (some ad))):bE P l ⟨dd,.fieldAddr t x f,ty,pos,af,gg⟩ w (.pointer (some (ad.add o))) w:=fun ρ h=>by
 obtain⟨rY,fd,i,h1,aq,bb,bP,cZ,fy⟩:=Rx bW;have lL:¬ i.size=0:=by omega
 simp [execOp,Instr.fieldAt,Instr.sureAddr,h _ _ ae,run_underlying h1,aq,fieldPlace,dj bP,lL,bb]
theorem vx {g off f o c:Nat} (bW:j4 P t f o c=true) (ae:bf l x=some (.pointer (some ⟨g,off,none⟩))):bE P l ⟨dd,.fieldAddr t x f,ty,pos,af,gg⟩ w (.pointer (some ⟨g,off+o,none⟩)) w:=by
 have:=fY (w:=w) (dd:=dd) (gg:=gg) (ty:=ty) (pos:=pos) (af:=af) bW ae
 rwa [Addr.add_lit] at this
theorem aD {g f o c:Nat} (bW:j4 P t f o c=true) (ae:bf l x=some (.pointer (some ⟨g,0,none⟩))):bE P l ⟨dd,.fieldAddr t x f,ty,pos,af,gg⟩ w (.pointer (some ⟨g,o,none⟩)) w:=by
 have:=vx (w:=w) (dd:=dd) (gg:=gg) (ty:=ty) (pos:=pos) (af:=af) bW ae
 rwa [Nat.zero_add] at this
theorem c8 {ad:Addr} {c c' e sz azG:Nat} (bW:kU P t e sz azG=true) (ae:bf l x=some (.slice (some ad) c c')) (ba:bf l y=some (.int k m)) (aW:0≤m∧m<c):bE P l ⟨dd,.indexAddr t x y,ty,pos,af,gg⟩ w (.pointer (some (ad.add (m.toNat*sz)))) w:=fun ρ h=>by
 obtain⟨i,z,h1,aq,bb,bP,cZ,fy⟩:=jZ bW;simp [execOp,Instr.indexAt,h _ _ ae,h _ _ ba,asIntOf,run_underlying h1,aW.1,aW.2,dj aq,bb]
/-! ### new blocks -/
structure j6 (w w':World) (g:Nat) (T:TypeId) (cs:List Value):Prop where
 ar:aF w' g T cs
 at_:g=w.heap.size
 mod:Mod [] w w'
 size:w'.heap.size=g+1
theorem j6.mk' (w:World) (T:TypeId) (cs:List Value):j6 w (w.alloc (.cells cs.toArray T)) w.heap.size T cs:=
 ⟨heap_alloc_new w _,rfl,Mod.alloc w _,by simp⟩
theorem j6.ne {w w':World} {g HR T Rg:Nat} {cs cs':List Value} (h:j6 w w' g T cs) (k:aF w HR Rg cs'):HR≠g:=by
 have:=k.lt;have:=h.at_;omega
theorem j6.le {w0 w w':World} {M:List Nat} {g T:Nat} {cs:List Value} (h:j6 w w' g T cs) (k:Mod M w0 w):w0.heap.size≤g:=by
 have:=k.size;have:=h.at_;omega
theorem Me {v:Value} {cs:List Value} {T:Nat} (ae:bf l x=some v) (bI:v.cells=cs.toArray):bE P l ⟨dd,.box T x,ty,pos,af,gg⟩ w (.pointer (some ⟨w.heap.size,0,none⟩)) (w.alloc (.cells cs.toArray T)):=fun ρ gw=>by
 simp [execOp,Instr.box,newVar,newRow,gw _ _ ae,bI]
theorem eY {v:Value} {cs:List Value} {T:Nat} (ae:bf l x=some v) (bI:v.cells=cs.toArray) (bT:Nat.blt d n=true)
  (h:∀ g w',j6 w w' g T cs→fI P ops Q rest n ds ((d,.pointer (some ⟨g,0,none⟩))::l) w') :
  fI P ops Q (⟨some d,.box T x,ty,pos,af,none⟩::rest) n ds l w:=hg (Me ae bI) bT (h _ _ (j6.mk' w T cs))
def gX (P:Program) (t:TypeId) (cs:List Value):Prop:=((P.info? t).bind (·.zero)).map (·.cells)=some cs.toArray
theorem qe {t:Nat} {cs:List Value} (h:gX P t cs):∃ i z,P.info? t=some i∧i.zero=some z∧z.cells=cs.toArray:=by
 unfold gX at h;obtain⟨z,cP,aq⟩:=Option.map_eq_some_iff.1 h;obtain⟨i,hi,bb⟩:=Option.bind_eq_some_iff.1 cP;exact⟨i,z,hi,bb,aq⟩
theorem JN {cs:List Value} {T:Nat} (cP:gX P T cs):bE P l ⟨dd,.alloc T,ty,pos,af,gg⟩ w (.pointer (some ⟨w.heap.size,0,none⟩)) (w.alloc (.cells cs.toArray T)):=fun ρ gw=>by
 obtain⟨i,z,h1,aq,bb⟩:=qe cP;simp [execOp,Instr.alloc,zeroValue,typeInfo,h1,aq,newVar,newRow,bb]
theorem bj {cs:List Value} {T:Nat} (cP:gX P T cs) (bT:Nat.blt d n=true)
  (h:∀ g w',j6 w w' g T cs→fI P ops Q rest n ds ((d,.pointer (some ⟨g,0,none⟩))::l) w') :
  fI P ops Q (⟨some d,.alloc T,ty,pos,af,none⟩::rest) n ds l w:=hg (JN cP) bT (h _ _ (j6.mk' w T cs))
/-! ### writing -/
theorem G9 {g T i:Nat} {cs:List Value} {v:Value} (h:aF w g T cs):aF (w.setCell ⟨g,i,none⟩ v) g T (cs.set i v):=by
 unfold aF at h ⊢;rw [heap_setCell_same w g i cs.toArray T v h];simp
theorem G' (w:World) (g i:Nat) (v:Value):Mod [g] w (w.setCell ⟨g,i,none⟩ v):=
 ⟨rfl,rfl,rfl,by simp [World.setCell],fun j eD cu=>heap_setCell_other w ⟨g,i,none⟩ j v (by simpa using cu)⟩
structure B2 (w w':World) (g:Nat) (T:TypeId) (cs:List Value):Prop where
 ar:aF w' g T cs
 mod:Mod [g] w w'
 size:w'.heap.size=w.heap.size
theorem JO (w:World) (g:Nat) (cs:Array Value):Mod [g] w (w.setRow g cs):=
 ⟨rfl,rfl,rfl,by simp,fun j eD cu=>by
  simp only [List.mem_singleton] at cu
  simp [World.setRow,Array.getElem?_modify,Ne.symm cu]⟩
def splice (cs:List Value) (o:Nat) (vs:List Value):List Value:=cs.take o++vs++cs.drop (o+vs.length)
theorem jc {g o T:Nat} {cs vs:List Value} (h:aF w g T cs) (fv:o+vs.length≤cs.length) (h1:∀ v∈vs,v.oneCell'=true) :
  ∃ w',(storeCells ⟨g,o,none⟩ vs).run P w = .ok () w'∧B2 w w' g T (splice cs o vs):=by
 have bo:=run_storeCells_at P g o T vs 0 cs.toArray w h (by simpa using fv) h1
 refine⟨_,bo,⟨?_,JO w g _,by simp⟩⟩
 have:=setRow_heap w g cs.toArray (splice cs o vs).toArray T (0,0) h
 unfold aF
 simpa [splice] using this
theorem Wn {v:Value} {g i T:Nat} {cs:List Value} (bW:pa P t=true) (B:aF w g T cs) (ae:bf l x=some (.pointer (some ⟨g,i,none⟩))) (ba:bf l y=some v) (bI:v.oneCell'=true) (hi:i<cs.length)
  (h:∀ w',B2 w w' g T (cs.set i v)→fI P ops Q rest n ds l w') :
  fI P ops Q (⟨none,.store t x y,ty,pos,af,none⟩::rest) n ds l w:=by
 obtain⟨ac',inf,h1,aq,bb,bP⟩:=u0 bW
 have aZ:v.cells = #[v]:=by cases v <;> first | rfl | (simp [Value.oneCell'] at bI)
 have bo:M1 P l ⟨none,.store t x y,ty,pos,af,none⟩ w (w.setCell ⟨g,i,none⟩ v):=fun ρ gw=>by
  have ahJ:=B.cell (i:=i) (v:=cs[i]) (by simp [hi])
  have dn:=B.frozen i
  have:=run_store P w ⟨g,i,none⟩ v .plain bI
  rw [ahJ] at this
  simp [dn] at this
  simp [execOp,Instr.storeAt,Instr.sureAddr,gw _ _ ae,gw _ _ ba,storeVar,aZ,dj aq,bP,storeCells,Addr.add_zero',this]
 exact aww bo (h _ ⟨G9 B,G' w g i v,by simp [World.setCell]⟩)
theorem cL {v:Value} {g i T:Nat} {cs:List Value} (bW:pa P t=true) (B:aF w g T cs) (ae:bf l x=some (.pointer (some ⟨g,i,none⟩))) (ba:bf l y=some v) (h:∀ w',B2 w w' g T (cs.set i v)→fI P ops Q rest n ds l w') (bI:v.oneCell'=true:=by exact rfl) (hi:i<cs.length:=by simp):fI P ops Q (⟨none,.store t x y,ty,pos,af,none⟩::rest) n ds l w:=Wn bW B ae ba bI hi h
theorem oa {vs:List Value} {g i T c:Nat} {cs:List Value} (bW:lG P t c=true) (B:aF w g T cs) (ae:bf l x=some (.pointer (some ⟨g,i,none⟩))) (ba:bf l y=some (.agg vs.toArray)) (aZ:vs.length=c)
  (bI:∀ v∈vs,v.oneCell'=true) (hi:i+vs.length≤cs.length)
  (h:∀ w',B2 w w' g T (splice cs i vs)→fI P ops Q rest n ds l w') :
  fI P ops Q (⟨none,.store t x y,ty,pos,af,none⟩::rest) n ds l w:=by
 obtain⟨ac',inf,h1,aq,bb,bP⟩:=Fe bW
 obtain⟨aJ,bo,cc⟩:=jc (P:=P) B hi bI
 have bo:M1 P l ⟨none,.store t x y,ty,pos,af,none⟩ w aJ:=fun ρ gw=>by
  simp [execOp,Instr.storeAt,Instr.sureAddr,gw _ _ ae,gw _ _ ba,storeVar,Value.cells,dj aq,bP,aZ,bo]
 exact aww bo (h _ cc)
theorem Xi {a0:Value} {g i T:Nat} {cs:List Value} (bW:lG P t 1=true) (B:aF w g T cs) (ae:bf l x=some (.pointer (some ⟨g,i,none⟩))) (ba:bf l y=some (.agg [a0].toArray)) (h:∀ w',B2 w w' g T (splice cs i [a0])→fI P ops Q rest n ds l w') (bI:∀ v∈([a0]:List Value),v.oneCell'=true:=by simp [Value.oneCell']) (hi:i+([a0]:List Value).length≤cs.length:=by simp):fI P ops Q (⟨none,.store t x y,ty,pos,af,none⟩::rest) n ds l w:=oa bW B ae ba rfl bI hi h
theorem ur {a0 e6 a2:Value} {g i T:Nat} {cs:List Value} (bW:lG P t 3=true) (B:aF w g T cs) (ae:bf l x=some (.pointer (some ⟨g,i,none⟩))) (ba:bf l y=some (.agg [a0,e6,a2].toArray)) (h:∀ w',B2 w w' g T (splice cs i [a0,e6,a2])→fI P ops Q rest n ds l w') (bI:∀ v∈([a0,e6,a2]:List Value),v.oneCell'=true:=by simp [Value.oneCell']) (hi:i+([a0,e6,a2]:List Value).length≤cs.length:=by simp):fI P ops Q (⟨none,.store t x y,ty,pos,af,none⟩::rest) n ds l w:=oa bW B ae ba rfl bI hi h
theorem aK {a0 e6 a2 a3 a4 a5:Value} {g i T:Nat} {cs:List Value} (bW:lG P t 6=true) (B:aF w g T cs) (ae:bf l x=some (.pointer (some ⟨g,i,none⟩))) (ba:bf l y=some (.agg [a0,e6,a2,a3,a4,a5].toArray)) (h:∀ w',B2 w w' g T (splice cs i [a0,e6,a2,a3,a4,a5])→fI P ops Q rest n ds l w') (bI:∀ v∈([a0,e6,a2,a3,a4,a5]:List Value),v.oneCell'=true:=by simp [Value.oneCell']) (hi:i+([a0,e6,a2,a3,a4,a5]:List Value).length≤cs.length:=by simp):fI P ops Q (⟨none,.store t x y,ty,pos,af,none⟩::rest) n ds l w:=oa bW B ae ba rfl bI hi h
theorem nf {a0 e6 a2 a3 a4 a5 qz:Value} {g i T:Nat} {cs:List Value} (bW:lG P t 7=true) (B:aF w g T cs) (ae:bf l x=some (.pointer (some ⟨g,i,none⟩))) (ba:bf l y=some (.agg [a0,e6,a2,a3,a4,a5,qz].toArray)) (h:∀ w',B2 w w' g T (splice cs i [a0,e6,a2,a3,a4,a5,qz])→fI P ops Q rest n ds l w') (bI:∀ v∈([a0,e6,a2,a3,a4,a5,qz]:List Value),v.oneCell'=true:=by simp [Value.oneCell']) (hi:i+([a0,e6,a2,a3,a4,a5,qz]:List Value).length≤cs.length:=by simp):fI P ops Q (⟨none,.store t x y,ty,pos,af,none⟩::rest) n ds l w:=oa bW B ae ba rfl bI hi h
theorem ed {a0 e6 a2 a3 a4 a5 qz vo vp a9 pZ ob a12 sw qA q1 q2:Value} {g i T:Nat} {cs:List Value} (bW:lG P t 17=true) (B:aF w g T cs) (ae:bf l x=some (.pointer (some ⟨g,i,none⟩))) (ba:bf l y=some (.agg [a0,e6,a2,a3,a4,a5,qz,vo,vp,a9,pZ,ob,a12,sw,qA,q1,q2].toArray)) (h:∀ w',B2 w w' g T (splice cs i [a0,e6,a2,a3,a4,a5,qz,vo,vp,a9,pZ,ob,a12,sw,qA,q1,q2])→fI P ops Q rest n ds l w') (bI:∀ v∈([a0,e6,a2,a3,a4,a5,qz,vo,vp,a9,pZ,ob,a12,sw,qA,q1,q2]:List Value),v.oneCell'=true:=by simp [Value.oneCell']) (hi:i+([a0,e6,a2,a3,a4,a5,qz,vo,vp,a9,pZ,ob,a12,sw,qA,q1,q2]:List Value).length≤cs.length:=by simp):fI P ops Q (⟨none,.store t x y,ty,pos,af,none⟩::rest) n ds l w:=oa bW B ae ba rfl bI hi h
end
/-! ## What values read as -/
inductive D where
 | v (x:Value)
 | jH (sz:Nat) (rows:List (List D))
mutual
def bq (A:List Nat) (w:World):D→Value→Prop
 | .v x,u=>u=x∧x.oneCell'=true
 | .jH sz rows,u=>∃ ad c,u = .slice ad rows.length c∧rows.length≤c∧c≤maxLen∧
   (rows≠[]→∃ a,ad=some a∧a.block∉A∧a.block<w.heap.size∧dE A w sz a 0 rows)
def dE (A:List Nat) (w:World) (sz:Nat) (a:Addr):Nat→List (List D)→Prop
 | _,[]=>True
 | i,r::rs=>r.length=sz∧fF A w (a.add (i*sz)) 0 r∧dE A w sz a (i+1) rs
def fF (A:List Nat) (w:World) (a:Addr):Nat→List D→Prop
 | _,[]=>True
 | j,d::ds=>(∃ u,w.cell? (a.add j)=some u∧bq A w d u)∧fF A w a (j+1) ds
end
def ao (A:List Nat) (w:World):List D→List Value→Prop
 | [],vs=>vs = []
 | d::ds,vs=>∃ u us,vs=u::us∧bq A w d u∧ao A w ds us
section
variable {A A' M:List Nat} {w w':World}
theorem oc (a:Addr) (n:Nat):(a.add n).block=a.block:=by unfold Addr.add;split <;> rfl
mutual
theorem bq.to (k:Mod M w w') (eX:∀ x∈M,x∈A) (dy:∀ x∈A',x∈A∨w.heap.size≤x):∀ (d:D) (u:Value),bq A w d u→bq A' w' d u
 | .v x,u,h=>by simp only [bq] at h ⊢;exact h
 | .jH sz rows,u,h=>by
  simp only [bq] at h ⊢
  obtain⟨ad,c,h1,aq,bb,bP⟩:=h
  refine⟨ad,c,h1,aq,bb,fun cu=>?_⟩
  obtain⟨a,cZ,fy,lL,lZ⟩:=bP cu
  exact⟨a,cZ,fun ae=>by rcases dy _ ae with l2 | l2 <;> first | exact fy l2 | omega,Nat.lt_of_lt_of_le lL k.size,dE.to k eX dy sz a fy lL 0 rows lZ⟩
theorem dE.to (k:Mod M w w') (eX:∀ x∈M,x∈A) (dy:∀ x∈A',x∈A∨w.heap.size≤x) (sz:Nat) (a:Addr) (aE:a.block∉A) (aW:a.block<w.heap.size):∀ (i:Nat) (rows:List (List D)),dE A w sz a i rows→dE A' w' sz a i rows
 | _,[],_=>by simp only [dE]
 | i,r::rs,h=>by
  simp only [dE] at h ⊢
  exact⟨h.1,fF.to k eX dy _ (by rw [oc];exact aE) (by rw [oc];exact aW) 0 r h.2.1,dE.to k eX dy sz a aE aW (i+1) rs h.2.2⟩
theorem fF.to (k:Mod M w w') (eX:∀ x∈M,x∈A) (dy:∀ x∈A',x∈A∨w.heap.size≤x) (a:Addr) (aE:a.block∉A) (aW:a.block<w.heap.size):∀ (j:Nat) (r:List D),fF A w a j r→fF A' w' a j r
 | _,[],_=>by simp only [fF]
 | j,d::ds,h=>by
  simp only [fF] at h ⊢
  obtain⟨⟨u,aZ,bo⟩,bW⟩:=h
  refine⟨⟨u,?_,bq.to k eX dy d u bo⟩,fF.to k eX dy a aE aW (j+1) ds bW⟩
  rw [← aZ]
  exact World.cell?_of_block (by rw [oc];exact k.block _ aW (fun ae=>aE (eX _ ae)))
end
theorem ao.to (k:Mod M w w') (eX:∀ x∈M,x∈A) (dy:∀ x∈A',x∈A∨w.heap.size≤x):∀ (ds:List D) (us:List Value),ao A w ds us→ao A' w' ds us
 | [],us,h=>h
 | d::ds,us,h=>by
  simp only [ao] at h ⊢
  obtain⟨u,ga,rfl,h1,aq⟩:=h
  exact⟨u,ga,rfl,bq.to k eX dy d u h1,ao.to k eX dy ds ga aq⟩
theorem ao.length:∀ {ds:List D} {us:List Value},ao A w ds us→us.length=ds.length
 | [],us,h=>by simp only [ao] at h;subst h;rfl
 | d::ds,us,h=>by
  simp only [ao] at h
  obtain⟨u,ga,rfl,_,aq⟩:=h
  simp [aq.length]
theorem bq.one:∀ {d:D} {u:Value},bq A w d u→u.oneCell'=true
 | .v x,u,h=>by simp only [bq] at h;rw [h.1];exact h.2
 | .jH sz rows,u,h=>by
  simp only [bq] at h
  obtain⟨ad,c,h1,_⟩:=h
  subst h1
  rfl
theorem ao.one:∀ {ds:List D} {us:List Value},ao A w ds us→∀ u∈us,u.oneCell'=true
 | [],us,h=>by simp only [ao] at h;subst h;intro u hu;cases hu
 | d::ds,us,h=>by
  simp only [ao] at h
  obtain⟨u,ga,rfl,h1,aq⟩:=h
  intro x ae
  rcases cB ae with rfl | ae
  ·exact h1.one
  exact aq.one x ae
theorem ao.append {ds Xj:List D} {us ga:List Value} (h:ao A w ds us) (fW:ao A w Xj ga):ao A w (ds++Xj) (us++ga):=by
 induction ds generalizing us with
 | nil=>simp only [ao] at h;subst h;simpa using fW
 | cons d ds ea=>
  simp only [ao] at h;obtain⟨u,ada,rfl,h1,aq⟩:=h;simp only [List.cons_append,ao];exact⟨u,ada++ga,rfl,h1,ea aq⟩
theorem ao.cut {ds Xj:List D} {us:List Value} (h:ao A w (ds++Xj) us):ao A w ds (us.take ds.length)∧ao A w Xj (us.drop ds.length):=by
 induction ds generalizing us with
 | nil=>exact⟨by simp [ao],by simpa using h⟩
 | cons d ds ea=>
  simp only [List.cons_append,ao] at h;obtain⟨u,ada,rfl,h1,aq⟩:=h;obtain⟨i1,i2⟩:=ea aq;exact⟨by simp only [List.length_cons,List.take_succ_cons,ao];exact⟨u,_,rfl,h1,i1⟩,by simpa using i2⟩
theorem ao.oJ:ao A w [] []:=rfl
theorem ao.ig {d:D} {ds:List D} {u:Value} {us:List Value} (h:bq A w d u) (fW:ao A w ds us):ao A w (d::ds) (u::us):=⟨u,us,rfl,h,fW⟩
theorem bq.cN {x:Value} (h:x.oneCell'=true):bq A w (.v x) x:=by simp only [bq];exact⟨trivial,h⟩
theorem bq.np {x u:Value} (h:bq A w (.v x) u):u=x:=by simp only [bq] at h;exact h.1
theorem fF.cells {a:Addr}:∀ {j:Nat} {r:List D},fF A w a j r→∃ us,ao A w r us∧∀ i u,us[i]? = some u→w.cell? (a.add (j+i))=some u
 | j,[],_=>⟨[],rfl,fun i u h=>by simp at h⟩
 | j,d::ds,h=>by
  simp only [fF] at h
  obtain⟨⟨u,aZ,bo⟩,bW⟩:=h
  obtain⟨us,h1,aq⟩:=bW.cells
  refine⟨u::us,⟨u,us,rfl,bo,h1⟩,fun i x ae=>?_⟩
  cases i with
  | zero=>simp at ae;subst ae;simpa using aZ
  | succ i=>have:=aq i x (by simpa using ae);rwa [show j+(i+1)=j+1+i by omega]
theorem fF.Ff {a:Addr}:∀ {j:Nat} {r:List D} {us:List Value},ao A w r us→(∀ i u,us[i]? = some u→w.cell? (a.add (j+i))=some u)→fF A w a j r
 | j,[],us,_,_=>by simp only [fF]
 | j,d::ds,us,h,aZ=>by
  simp only [ao] at h
  obtain⟨u,ga,rfl,h1,aq⟩:=h
  simp only [fF]
  exact⟨⟨u,by simpa using aZ 0 u (by simp),h1⟩,fF.Ff aq (fun i x ae=>by have:=aZ (i+1) x (by simpa using ae);rwa [show j+1+i=j+(i+1)by omega])⟩
theorem dE.row {sz:Nat} {a:Addr}:∀ {i:Nat} {rows:List (List D)},dE A w sz a i rows→∀ j r,rows[j]? = some r→r.length=sz∧fF A w (a.add ((i+j)*sz)) 0 r
 | i,[],_,j,r,bo=>by simp at bo
 | i,aeU::rs,h,j,r,bo=>by
  simp only [dE] at h
  cases j with
  | zero=>simp at bo;subst bo;exact⟨h.1,by simpa using h.2.1⟩
  | succ j=>
   have:=dE.row h.2.2 j r (by simpa using bo)
   rwa [show i+1+j=i+(j+1)by omega] at this
theorem dE.Cs {sz:Nat} {a:Addr}:∀ {i:Nat} {rows:List (List D)},(∀ j r,rows[j]? = some r→r.length=sz∧fF A w (a.add ((i+j)*sz)) 0 r)→dE A w sz a i rows
 | i,[],_=>by simp only [dE]
 | i,aeU::rs,h=>by
  simp only [dE]
  have cg:=h 0 aeU rfl
  exact⟨cg.1,by simpa using cg.2,dE.Cs fun j r bo=>by have:=h (j+1) r (by simpa using bo);rwa [show i+(j+1)=i+1+j by omega] at this⟩
theorem bq.vL {sz:Nat} {rows:List (List D)} {u:Value} (h:bq A w (.jH sz rows) u):∃ ad c,u = .slice ad rows.length c∧rows.length≤c∧c≤9223372036854775807:=by
 simp only [bq] at h;obtain⟨ad,c,h1,aq,bb,_⟩:=h;exact⟨ad,c,h1,aq,by simp only [maxLen] at bb;omega⟩
theorem bq.at_ {sz:Nat} {rows:List (List D)} {ad:Option Addr} {n c i:Nat} {r:List D} (h:bq A w (.jH sz rows) (.slice ad n c)) (hi:rows[i]? = some r) :
  ∃ a us,ad=some a∧ao A w r us∧us.length=sz∧pF w (a.add (i*sz)) us∧a.block∉A:=by
 simp only [bq] at h
 obtain⟨tK,c',h1,aq,bb,bP⟩:=h
 injection h1 with h1 cZ fy
 subst h1
 obtain⟨a,aE,dy,aW,bo⟩:=bP (by intro he;subst he;simp at hi)
 obtain⟨cb,zL⟩:=bo.row i r hi
 rw [Nat.zero_add] at zL
 obtain⟨us,lL,lZ⟩:=zL.cells
 exact⟨a,us,aE,lL,by rw [lL.length,cb],fun j v eD=>by have:=lZ j v eD;rwa [Nat.zero_add] at this,dy⟩
theorem bq.eh {sz:Nat}:bq A w (.jH sz []) (.slice none 0 0):=by
 simp only [bq];exact⟨none,0,rfl,Nat.le_refl _,by simp [maxLen],fun h=>absurd rfl h⟩
theorem bq.Xk {sz:Nat} {rows:List (List D)} {a:Addr} {n c:Nat} (cu:rows.length=n) (aZ:n≤c) (hm:c≤maxLen) (dy:a.block∉A) (aW:a.block<w.heap.size)
  (h:∀ i r,rows[i]? = some r→r.length=sz∧∃ us,ao A w r us∧pF w (a.add (i*sz)) us):bq A w (.jH sz rows) (.slice (some a) n c):=by
 simp only [bq]
 subst cu
 refine⟨some a,c,rfl,aZ,hm,fun _=>⟨a,rfl,dy,aW,dE.Cs fun j r bo=>?_⟩⟩
 obtain⟨h1,us,aq,bb⟩:=h j r bo
 exact⟨h1,fF.Ff aq (fun i u hu=>by rw [Nat.zero_add,Nat.zero_add];exact bb i u hu)⟩
theorem ao.s9:∀ {sz:Nat} {rows:List (List D)} {us:List Value},(∀ r∈rows,r.length=sz)→ao A w rows.flatten us→∀ i r,rows[i]? = some r→ao A w r ((us.drop (i*sz)).take sz)
 | sz,[],us,_,_,i,r,bo=>by simp at bo
 | sz,aeU::rs,us,cb,h,i,r,bo=>by
  simp only [List.flatten_cons] at h
  obtain⟨h1,aq⟩:=h.cut
  have cg:=cb aeU (by simp)
  rw [cg] at h1 aq
  cases i with
  | zero=>simp at bo;subst bo;simpa using h1
  | succ i=>
   have:=ao.s9 (fun r bo=>cb r (by simp [bo])) aq i r (by simpa using bo)
   rwa [List.drop_drop,show sz+i*sz=(i+1)*sz by rw [Nat.add_mul];omega] at this
end
/-! ## Slices of the call's own -/
def bk:Value→List Nat
  | .slice (some a) _ _=>[a.block]
  | _=>[]
def Own (w:World) (e sz:Nat) (v:Value) (n:Nat) (vs:List Value):Prop:=
  vs.length=n*sz∧
  ((v = .slice none 0 0∧n=0)∨
   ∃ g o c cs,v = .slice (some ⟨g,o,none⟩) n c∧aF w g e cs∧n≤c∧c≤maxLen∧o+c*sz≤cs.length∧(cs.drop o).take (n*sz)=vs)
section
variable {w w':World} {e sz n:Nat} {v:Value} {vs:List Value} {M:List Nat}
theorem Own.nil (w:World) (e sz:Nat):Own w e sz (.slice none 0 0) 0 []:=⟨by simp,.inl ⟨rfl,rfl⟩⟩
theorem Own.len (h:Own w e sz v n vs):vs.length=n*sz:=h.1
theorem Own.form (h:Own w e sz v n vs):∃ ad c,v = .slice ad n c∧n≤c∧c≤9223372036854775807:=by
  rcases h.2 with⟨rfl,rfl⟩ | ⟨g,o,c,cs,rfl,_,aq,bb,_⟩
  ·exact⟨none,0,rfl,Nat.le_refl _,by omega⟩
  exact⟨_,c,rfl,aq,by simp only [maxLen] at bb;omega⟩
theorem Own.mod (h:Own w e sz v n vs) (k:Mod M w w') (eX:∀ x∈bk v,x∉M):Own w' e sz v n vs:=by
  refine⟨h.1,?_⟩;rcases h.2 with cg | ⟨g,o,c,cs,rfl,h1,aq⟩
  ·exact .inl cg
  exact .inr ⟨g,o,c,cs,rfl,h1.mod k (eX g (by simp [bk])),aq⟩
theorem Own.I (h:Own w e sz v n vs) (k:Mod [] w w'):Own w' e sz v n vs:=h.mod k (by simp)
theorem Own.lt (h:Own w e sz v n vs):∀ x∈bk v,x<w.heap.size:=by
  rcases h.2 with⟨rfl,_⟩ | ⟨g,o,c,cs,rfl,h1,_⟩
  ·simp [bk]
  intro x ae;simp [bk] at ae;subst ae;exact h1.lt
theorem Own.cs {ad:Addr} {c:Nat} (h:Own w e sz (.slice (some ad) n c) n vs):pF w ad vs:=by
  rcases h.2 with⟨h1,_⟩ | ⟨g,o,c',cs,h1,aq,bb,bP,cZ,fy⟩
  ·cases h1
  injection h1 with h1
  injection h1 with h1
  subst h1;exact aq.cs (by rw [h.1];exact fy)
theorem Own.adb {g c:Nat} {cs:List Value} (h:aF w g e cs) (cb:cs.length=c*sz) (cu:n≤c) (aZ:c≤9223372036854775807):Own w e sz (.slice (some ⟨g,0,none⟩) n c) n (cs.take (n*sz)):=by
  have hle:n*sz≤c*sz:=Nat.mul_le_mul_right _ cu;refine⟨by simp;omega,.inr ⟨g,0,c,cs,rfl,h,cu,by simp only [maxLen];omega,by omega,by simp⟩⟩
theorem Own.all {g c:Nat} {cs:List Value} (h:aF w g e cs) (cb:cs.length=c*sz) (aZ:c≤9223372036854775807):Own w e sz (.slice (some ⟨g,0,none⟩) c c) c cs:=by
  have:=Own.adb (n:=c) h cb (Nat.le_refl _) aZ
  rwa [List.take_of_length_le (by omega)] at this
theorem Own.rep {A:List Nat} {rows:List (List D)} (h:Own w e sz v n vs) (bo:ao A w rows.flatten vs) (cb:∀ r∈rows,r.length=sz) (cu:rows.length=n) (dy:∀ x∈bk v,x∉A):bq A w (.jH sz rows) v:=by
  rcases h.2 with⟨rfl,cg⟩ | ⟨g,o,c,cs,rfl,h1,aq,bb,bP,cZ⟩
  ·have:rows = []:=List.eq_nil_of_length_eq_zero (by omega);subst this;exact bq.eh
  refine bq.Xk cu aq bb (dy g (by simp [bk])) h1.lt fun i r hi=>?_;have azH:=(List.getElem?_eq_some_iff.1 hi).1;have Uy:=cb r (List.mem_of_getElem? hi);refine⟨Uy,_,ao.s9 cb bo i r hi,?_⟩;rw [Addr.add_lit];refine h1.cs ?_;have hle:(i+1)*sz≤n*sz:=Nat.mul_le_mul_right _ (by omega);rw [Nat.add_mul] at hle;have hlen:(List.take sz (List.drop (i*sz) vs)).length=sz:=by rw [List.length_take,List.length_drop,h.1];omega
  rw [hlen,← cZ,List.drop_take,List.take_take,List.drop_drop]
  congr 1
  omega
end
section
variable {P:Program} {ops:Array Oper} {Q:Exit→Act→World→Prop} {n:Nat} {ds:List Deferred} {l:List (Nat×Value)} {w w':World} {a:Act}
variable {rest:List Oper} {d:Nat} {op:Op} {ty:TypeId} {pos:String} {af:Array Edge}
variable {dd:Option Nat} {gg:Option (Nat×Bool)} {x y z:Operand} {t t':TypeId} {k kS:IntKind} {m gZ:Int} {b gv:Bool}
/-! ### what is appended -/
theorem Src.own {s8 e yu sz c:Nat} {v:Value} {vs:List Value} (hk:P.underlying s8=some (.slice yu)) (h:Own w e sz v c vs) (h1:∀ u∈vs,u.oneCell'=true):Src P sz s8 v c vs w:=by
  rcases h.2 with⟨rfl,cg⟩ | ⟨g,o,c',cs,rfl,_⟩
  ·subst cg;have:vs = []:=List.eq_nil_of_length_eq_zero (by simpa using h.1);subst this;exact Src.ofNil w hk 0
  exact Src.ofSlice w hk _ _ _ _ h.1 (fun j u hu=>h.cs j u hu) h1
theorem Src.rep {A:List Nat} {s8 yu sz:Nat} {rows:List (List D)} {v:Value} (hk:P.underlying s8=some (.slice yu)) (h:bq A w (.jH sz rows) v):∃ vs,ao A w rows.flatten vs∧vs.length=rows.length*sz∧Src P sz s8 v rows.length vs w:=by
  cases wu:rows with
  | nil=>
    subst wu;simp only [bq] at h;obtain⟨ad,c,rfl,aq,bb,bP⟩:=h;refine⟨[],rfl,by simp,?_⟩;cases ad with
    | none=>exact Src.ofNil w hk c
    | some ad=>exact Src.ofSlice w hk ad 0 c [] (by simp) (fun j u hu=>by simp at hu) (fun u hu=>by cases hu)
  | cons aeU rs=>
    rw [← wu];have fW:=h;simp only [bq] at h;obtain⟨ad,c,rfl,aq,bb,bP⟩:=h;obtain⟨ad,rfl,dy,aW,bo⟩:=bP (by simp [wu])
    -- all rows, one behind the other
    have key:∀ (i:Nat) (rws:List (List D)),dE A w sz ad i rws→∃ vs,ao A w rws.flatten vs∧vs.length=rws.length*sz∧∀ j u,vs[j]? = some u→w.cell? (ad.add (i*sz+j))=some u:=by
      intro i rws
      induction rws generalizing i with
      | nil=>intro _;exact⟨[],rfl,by simp,fun j u hu=>by simp at hu⟩
      | cons r rs ea=>
        intro kf;simp only [dE] at kf;obtain⟨cb,zL,iI⟩:=kf;obtain⟨us,MY,kL⟩:=zL.cells;obtain⟨vs,Bp,G2,MZ⟩:=ea (i+1) iI;refine⟨us++vs,by simp only [List.flatten_cons];exact MY.append Bp,by simp [MY.length,cb,G2,Nat.add_mul];omega,fun j u eD=>?_⟩;rw [List.getElem?_append] at eD;have Cb:us.length=sz:=by rw [MY.length,cb]
        split at eD
        ·have:=kL j u eD
         rwa [Nat.zero_add,Addr.add_add] at this
        rename_i e5
        have:=MZ _ u eD
        rwa [show(i+1)*sz+(j-us.length)=i*sz+j by rw [Nat.add_mul,Cb];rw [Cb] at e5;omega] at this
    obtain⟨vs,Bp,G2,MZ⟩:=key 0 rows bo;exact⟨vs,Bp,G2,Src.ofSlice w hk ad _ c vs G2 (fun j u hu=>by have:=MZ j u hu;rwa [Nat.zero_mul,Nat.zero_add] at this) Bp.one⟩
def ku (c:UInt8):Value:=.int .u8 c.toNat
theorem Src.str {s8:Nat} (hk:P.underlying s8=some .string) (s:List UInt8):Src P 1 s8 (S s) s.length (s.map ku) w:=Src.ofString w hk ⟨⟨s⟩⟩
structure App (w w':World) (e sz:Nat) (v v':Value) (n:Nat) (vs:List Value):Prop where
  own:Own w' e sz v' n vs
  mod:Mod (bk v) w w'
  lH:∀ x∈bk v',x∈bk v∨w.heap.size≤x
theorem JP {t s8 e sz fM c c':Nat} {v u:Value} {vs news:List Value} (bW:kU P t e sz fM=true) (O:Own w e sz v c vs) (bh:Src P sz s8 u c' news w) (jV:0<sz)
    (aW:(c+c')*fM≤140737488355328) (fu:c+c'≤9223372036854775807) (ty:Nat) :
    ∃ v' w',(Builtin.append_ #[t,s8] ty #[v,u]).run P w = .ok v' w'∧App w w' e sz v v' (c+c') (vs++news):=by
  obtain⟨i,z,h1,aq,bb,bP,cZ,fy⟩:=jZ bW
  subst bb;subst bP
  have hlen:(vs++news).length=(c+c')*i.size:=by rw [List.length_append,O.1,bh.newsLen,Nat.add_mul]
  have grow:∀ (base:Option Addr) (cap:Nat),cap<c+c'→(Builtin.firstCells i.size c (.slice base c cap)).run P w.drew = .ok vs.toArray w.drew→
      ∃ v' w',(Builtin.append_ #[t,s8] ty #[.slice base c cap,u]).run P w = .ok v' w'∧App w w' e i.size (.slice base c cap) v' (c+c') (vs++news):=by
    intro base cap ti hold
    have bo:=run_append_grow_src (P:=P) w t s8 ty e i z h1 aq cZ base c cap vs hold u c' news bh ti (by omega) (growslice_fits ti aW)
    have e5:=grownCap_ge w (c+c') cap e
    have ev:aF (w.drew.alloc (.cells ((vs++news).toArray++Builtin.zeroCells z.cells (grownCap w (c+c') cap e-(c+c'))) e)) w.heap.size e ((vs++news)++(Builtin.zeroCells z.cells (grownCap w (c+c') cap e-(c+c'))).toList):=by
      have:=heap_alloc_new w.drew (.cells ((vs++news).toArray++Builtin.zeroCells z.cells (grownCap w (c+c') cap e-(c+c'))) e)
      unfold aF
      refine this.trans ?_
      congr 2
      apply Array.toList_inj.1
      simp
    refine⟨_,_,bo,⟨⟨hlen,.inr ⟨w.heap.size,0,_,_,rfl,ev,e5,grownCap_le_maxLen w (c+c') cap e (by simp only [maxLen];omega),?_,?_⟩⟩,?_,?_⟩⟩
    ·have hT:(Builtin.zeroCells z.cells (grownCap w (c+c') cap e-(c+c'))).toList.length=(grownCap w (c+c') cap e-(c+c'))*i.size:=by
       rw [Array.length_toList,size_zeroCells,fy]
     rw [List.length_append,hlen,hT,← Nat.add_mul]
     have:c+c'+(grownCap w (c+c') cap e-(c+c'))=grownCap w (c+c') cap e:=by omega
     rw [this]
     omega
    ·rw [List.drop_zero,← hlen]
     exact List.take_left
    ·exact⟨rfl,rfl,rfl,by simp,fun j eD _=>RowKit.Below.heap_alloc w.drew _ j eD⟩
    intro x ae
    simp [bk] at ae
    exact .inr (by omega)
  rcases O.2 with⟨rfl,cg⟩ | ⟨g,o,cap,cs,rfl,ev,eQ,h3,uc,rG⟩
  ·subst cg
   have nG:vs = []:=List.eq_nil_of_length_eq_zero (by simpa using O.1)
   subst nG
   rcases Nat.eq_zero_or_pos c' with cg | cg
   ·subst cg
    have ahK:news = []:=List.eq_nil_of_length_eq_zero (by simpa using bh.newsLen)
    subst ahK
    refine⟨.slice none 0 0,w,?_,⟨Own.nil w e i.size,Mod.refl _ w,fun x ae=>.inl ae⟩⟩
    have cb:=bh.len
    have lJ:=bh.cells
    rcases bh.kind with⟨yu,hk⟩ | hk <;> simp [Builtin.append_,run_underlying h1,run_underlying hk,sizeOf,typeInfo,aq,cb,lJ]
   exact grow none 0 (by omega) (run_firstCells_none w.drew i.size 0 0 0)
  by_cases pc:c+c'≤cap
  ·have hle:(c+c')*i.size≤cap*i.size:=Nat.mul_le_mul_right _ pc
   have mQ:o+c*i.size+news.length≤cs.length:=by rw [bh.newsLen];rw [Nat.add_mul] at hle;omega
   obtain⟨aJ,hf,cc⟩:=jc (P:=P) ev mQ bh.one
   refine⟨.slice (some ⟨g,o,none⟩) (c+c') cap,aJ,?_,⟨⟨hlen,.inr ⟨g,o,cap,_,rfl,cc.ar,pc,h3,?_,?_⟩⟩,?_,fun x ae=>.inl ae⟩⟩
   ·rcases bh.kind with⟨yu,hk⟩ | hk <;> simp [Builtin.append_,run_underlying h1,run_underlying hk,sizeOf,typeInfo,aq,bh.len,pc,bh.cells,Addr.add_lit,hf]
   ·simp only [splice,List.length_append,List.length_take,List.length_drop]
    omega
   ·have bu:List.take (o+c*i.size) cs=List.take o cs++vs:=by rw [← rG,List.take_add]
    have Wf:(List.take o cs).length=o:=by rw [List.length_take];omega
    rw [splice,bu,List.append_assoc,List.append_assoc,List.drop_left' Wf,← List.append_assoc,← hlen,List.take_left]
   exact cc.mod
  refine grow _ cap (by omega) (run_firstCells_some w.drew i.size c _ c cap vs O.1 (fun j x ae=>?_))
  have:=O.cs j x ae
  simpa using this
theorem bz {s8 e sz fM c c':Nat} {v u:Value} {vs news:List Value} (bW:kU P t e sz fM=true) (ae:bf l x=some v) (ba:bf l y=some u) (O:Own w e sz v c vs) (bh:Src P sz s8 u c' news w) (jV:0<sz)
    (aW:(c+c')*fM≤140737488355328) (fu:c+c'≤9223372036854775807) (bT:Nat.blt d n=true)
    (h:∀ v' w',App w w' e sz v v' (c+c') (vs++news)→fI P ops Q rest n ds ((d,v')::l) w') :
    fI P ops Q (⟨some d,.call {callee:=.builtin .append,args:=#[x,y],argTypes:=#[t,s8]},ty,pos,af,none⟩::rest) n ds l w:=by
  obtain⟨v',w',bo,dy⟩:=JP (P:=P) bW O bh jV aW fu ty
  refine hg (v:=v') (w':=w') (fun ρ gw=>?_) bT (h v' w' dy)
  simp [execOp,resolve,invoke,builtin,gw _ _ ae,gw _ _ ba,bo]
end
section
variable {P:Program} {ops:Array Oper} {Q:Exit→Act→World→Prop} {n:Nat} {ds:List Deferred} {l:List (Nat×Value)} {w w':World} {a:Act}
variable {rest:List Oper} {d:Nat} {op:Op} {ty:TypeId} {pos:String} {af:Array Edge}
variable {dd:Option Nat} {gg:Option (Nat×Bool)} {x y z:Operand} {t t':TypeId} {k kS:IntKind} {m gZ:Int} {b gv:Bool}
/-! ### structs and arrays as values -/
def Ry (P:Program) (t f off:Nat):Bool:=match P.underlying t with
 | some (.struct rY)=>match rY[f]? with
  | some fd=>fd.offset == off&&pa P fd.type
  | none=>false
 | _=>false
theorem lR {vs:List Value} {f o:Nat} {v:Value} (bW:Ry P t f o=true) (ae:bf l x=some (.agg vs.toArray)) (bI:vs[o]? = some v):bE P l ⟨dd,.field t x f,ty,pos,af,gg⟩ w v w:=fun ρ h=>by
 unfold Ry at bW
 split at bW
 ·rename_i rY h1
  split at bW
  ·rename_i fd aq
   simp only [Bool.and_eq_true,beq_iff_eq] at bW;obtain⟨fv,bh⟩:=bW;obtain⟨ac',i,bb,bP,cZ,fy⟩:=u0 bh;subst fv;simp [execOp,Instr.field,h _ _ ae,run_underlying h1,aq,asAgg,part,mb bb,cZ,bI]
  cases bW
 cases bW
def xx (cs:List Value) (o:Nat):List Value→List Value
 | []=>cs
 | v::r=>xx (cs.set o v) (o+1) r
theorem DU (o:Nat):∀ (vs:List Value) (j:Nat) (cs:Array Value),
  (vs.zipIdx j).foldl (fun(cs:Array Value) (x:Value×Nat)=>cs.setIfInBounds (o+x.2) x.1) cs=(xx cs.toList (o+j) vs).toArray:=by
 intro vs
 induction vs with
 | nil=>intro j cs;apply Array.toList_inj.1;simp [xx]
 | cons v vs ea=>
  intro j cs
  simp only [List.zipIdx_cons,List.foldl_cons,xx]
  rw [ea (j+1)]
  simp [Nat.add_assoc]
def iJ (place:Nat→Option (Nat×Nat)) (cs:List Value):List (Nat×Value)→Option (List Value)
 | []=>some cs
 | (i,v)::r=>match place i with
  | none=>none
  | some (o,sz)=>match Nat.beq v.cells.toList.length sz&&Nat.ble (o+sz) cs.length with
   | true=>iJ place (xx cs o v.cells.toList) r
   | false=>none
theorem JQ {place:Nat→Option (Nat×Nat)}:∀ (gC:List (Nat×Value)) (cs cs':List Value),iJ place cs gC=some cs'→Instr.fill place cs.toArray gC=some cs'.toArray:=by
 intro gC
 induction gC with
 | nil=>intro cs cs' h;simp [iJ] at h;simp [Instr.fill,h]
 | cons p r ea=>
  obtain⟨i,v⟩:=p;intro cs cs' h;simp only [iJ] at h
  split at h
  ·cases h
  rename_i o sz cc
  split at h
  ·rename_i aW
   simp only [Bool.and_eq_true,Nat.beq_eq_true_eq,Nat.ble_eq,Array.length_toList] at aW;obtain⟨h1,aq⟩:=aW;have h1:=Nat.eq_of_beq_eq_true h1;have:=ea _ _ h;have bb:¬ (v.cells.size≠sz∨o+v.cells.size > cs.toArray.size):=by rw [h1];simp;omega
   have dn:=DU o v.cells.toList 0 cs.toArray;simp only [Instr.fill,cc];simp only [ne_eq,gt_iff_lt,not_or,Classical.not_not,Nat.not_lt,List.size_toArray] at bb;have bP:¬ (v.cells.size≠sz):=by simpa using bb.1
   have cZ:¬ (o+v.cells.size > cs.length):=by omega
   simp only [ne_eq,gt_iff_lt,List.size_toArray,Bool.or_eq_true,decide_eq_true_eq,bP,cZ,or_self,if_false];rw [← Array.foldl_toList,Array.toList_zipIdx];rw [Nat.add_zero] at dn;simp only at dn;rw [dn];exact this
  cases h
def tp (P:Program) (t:Nat) (pl:List (Nat×Nat)):Bool:=match P.underlying t with
 | some (.struct rY)=>(rY.toList.map fun f=>(f.offset,(P.info? f.type).map (·.size))) == pl.map fun p=>(p.1,some p.2)
 | _=>false
theorem Rz {pl:List (Nat×Nat)} (h:tp P t pl=true):∃ rY,P.underlying t=some (.struct rY)∧∀ (w:World),(rY.mapM (fun(f:Field)=>(do pure (f.offset,← sizeOf f.type):Sem (Nat×Nat)))).run P w = .ok pl.toArray w:=by
 unfold tp at h
 split at h
 rotate_left
 ·cases h
 rename_i rY h1
 refine⟨rY,h1,fun w=>?_⟩;have aq:(rY.toList.map fun f=>(f.offset,(P.info? f.type).map (·.size)))=pl.map fun p=>(p.1,some p.2):=by simpa using h
 rw [Array.mapM_eq_mapM_toList];have key:∀ (l:List Field) (pl:List (Nat×Nat)),(l.map fun f=>(f.offset,(P.info? f.type).map (·.size)))=pl.map (fun p=>(p.1,some p.2))→(l.mapM (fun(f:Field)=>(do pure (f.offset,← sizeOf f.type):Sem (Nat×Nat)))).run P w = .ok pl w:=by
  intro l
  induction l with
  | nil=>intro pl h;cases pl <;> simp_all
  | cons f l ea=>
   intro pl h;cases pl with
   | nil=>simp at h
   | cons p pl=>
    simp only [List.map_cons,List.cons.injEq,Prod.mk.injEq] at h;obtain⟨⟨bb,bP⟩,cZ⟩:=h;obtain⟨i,fy,lL⟩:=Option.map_eq_some_iff.1 bP;have:=ea pl cZ;simp only [bind_pure_comp] at this;simp [List.mapM_cons,dj fy,this,lL,bb]
 have:=key rY.toList pl aq;simp only [bind_pure_comp] at this ⊢;simp [this]
def qB (l:List (Nat×Value)):List (Nat×Operand)→Option (List (Nat×Value))
 | []=>some []
 | (i,x)::r=>match bf l x,qB l r with
  | some v,some vs=>some ((i,v)::vs)
  | _,_=>none
theorem JR {ρ:Operand→Value} (h:∀ x u,bf l x=some u→ρ x=u):∀ (ft:List (Nat×Operand)) (us:List (Nat×Value)),qB l ft=some us→ft.map (fun p=>(p.1,ρ p.2))=us:=by
 intro ft
 induction ft with
 | nil=>intro us hu;simp [qB] at hu;simp [← hu]
 | cons z ft ea=>
  obtain⟨i,x⟩:=z;intro us hu;simp only [qB] at hu
  split at hu
  ·rename_i v vs h1 aq
   simp only [Option.some.injEq] at hu;subst hu;simp [h _ _ h1,ea _ aq]
  cases hu
theorem ma {gC:List (Nat×Operand)} {us:List (Nat×Value)} {pl:List (Nat×Nat)} {ft cs:List Value} (cc:tp P t pl=true) (cP:gX P t ft) (ae:qB l gC=some us) (dn:iJ (fun i:Nat=>pl[i]?) ft us=some cs) :
  bE P l ⟨dd,.build t gC.toArray,ty,pos,af,gg⟩ w (.agg cs.toArray) w:=fun ρ h=>by
 obtain⟨rY,h1,aq⟩:=Rz cc
 obtain⟨i,z,bb,bP,cZ⟩:=qe cP
 have bu:=JR h _ _ ae
 have ee:=JQ us ft cs dn
 have kH:(gC.toArray.map fun(i,x)=>(i,ρ x)).toList=us:=by simpa using bu
 have EJ:=aq w
 simp only [bind_pure_comp] at EJ
 have abc:(fun i:Nat=>pl.toArray[i]?)=(fun i:Nat=>pl[i]?):=by funext i;simp
 simp only [execOp,Instr.build]
 simp [zeroValue,typeInfo,bb,bP,cZ,run_underlying h1,EJ]
 rw [show Instr.fill (fun x=>pl[x]?) ft.toArray (List.map (fun x=>(x.fst,ρ x.snd)) gC)=some cs.toArray by rw [bu];exact ee]
 simp
theorem Ct {a0:Value} {gC:List (Nat×Operand)} {us:List (Nat×Value)} {pl:List (Nat×Nat)} {ft:List Value} (cc:tp P t pl=true) (cP:gX P t ft) (ae:qB l gC=some us) (dn:iJ (fun i:Nat=>pl[i]?) ft us=some [a0]):bE P l ⟨dd,.build t gC.toArray,ty,pos,af,gg⟩ w (.agg ([a0]:List Value).toArray) w:=ma cc cP ae dn
theorem sY {a0 e6 a2:Value} {gC:List (Nat×Operand)} {us:List (Nat×Value)} {pl:List (Nat×Nat)} {ft:List Value} (cc:tp P t pl=true) (cP:gX P t ft) (ae:qB l gC=some us) (dn:iJ (fun i:Nat=>pl[i]?) ft us=some [a0,e6,a2]):bE P l ⟨dd,.build t gC.toArray,ty,pos,af,gg⟩ w (.agg ([a0,e6,a2]:List Value).toArray) w:=ma cc cP ae dn
theorem bc {a0 e6 a2 a3 a4 a5:Value} {gC:List (Nat×Operand)} {us:List (Nat×Value)} {pl:List (Nat×Nat)} {ft:List Value} (cc:tp P t pl=true) (cP:gX P t ft) (ae:qB l gC=some us) (dn:iJ (fun i:Nat=>pl[i]?) ft us=some [a0,e6,a2,a3,a4,a5]):bE P l ⟨dd,.build t gC.toArray,ty,pos,af,gg⟩ w (.agg ([a0,e6,a2,a3,a4,a5]:List Value).toArray) w:=ma cc cP ae dn
theorem cD {a0 e6 a2 a3 a4 a5 qz:Value} {gC:List (Nat×Operand)} {us:List (Nat×Value)} {pl:List (Nat×Nat)} {ft:List Value} (cc:tp P t pl=true) (cP:gX P t ft) (ae:qB l gC=some us) (dn:iJ (fun i:Nat=>pl[i]?) ft us=some [a0,e6,a2,a3,a4,a5,qz]):bE P l ⟨dd,.build t gC.toArray,ty,pos,af,gg⟩ w (.agg ([a0,e6,a2,a3,a4,a5,qz]:List Value).toArray) w:=ma cc cP ae dn
theorem fq {a0 e6 a2 a3 a4 a5 qz vo vp a9 pZ ob a12 sw qA q1 q2:Value} {gC:List (Nat×Operand)} {us:List (Nat×Value)} {pl:List (Nat×Nat)} {ft:List Value} (cc:tp P t pl=true) (cP:gX P t ft) (ae:qB l gC=some us) (dn:iJ (fun i:Nat=>pl[i]?) ft us=some [a0,e6,a2,a3,a4,a5,qz,vo,vp,a9,pZ,ob,a12,sw,qA,q1,q2]):bE P l ⟨dd,.build t gC.toArray,ty,pos,af,gg⟩ w (.agg ([a0,e6,a2,a3,a4,a5,qz,vo,vp,a9,pZ,ob,a12,sw,qA,q1,q2]:List Value).toArray) w:=ma cc cP ae dn
theorem qa {gC:List (Nat×Operand)} {us:List (Nat×Value)} {e c sz fM:Nat} {ft cs:List Value} (bW:kU P t e sz fM=true) (cP:gX P e ft) (ae:qB l gC=some us)
  (dn:iJ (fun i=>some (i*sz,sz)) ((List.replicate c ft).flatten) us=some cs) (hT:ft.length=sz) (aZ:c*sz≤16777216) :
  bE P l ⟨dd,.buildSlice t c gC.toArray,ty,pos,af,gg⟩ w (.slice (some ⟨w.heap.size,0,none⟩) c c) (w.alloc (.cells cs.toArray e)):=fun ρ gw=>by
 obtain⟨vy,Ha,h1,aq,bb,bP,cZ,fy⟩:=jZ bW
 obtain⟨i,z,lL,lZ,l2⟩:=qe cP
 have bu:=JR gw _ _ ae
 have ee:=JQ us _ cs dn
 have Cc:¬ (c*sz > 2 ^ 24):=by omega
 have kH:((Array.range (c*sz)).map fun i=>ft.toArray[i % ft.toArray.size]!)=((List.replicate c ft).flatten).toArray:=by
  apply Array.toList_inj.1
  simp only [Array.toList_map,Array.toList_range,List.size_toArray]
  clear dn ee aZ Cc
  subst hT
  induction c with
  | zero=>simp
  | succ c ea=>
   rw [Nat.add_mul,Nat.one_mul,List.range_add,List.map_append,ea,List.replicate_succ',List.flatten_append]
   congr 1
   simp only [List.flatten_cons,List.flatten_nil,List.append_nil,List.map_map]
   apply List.ext_getElem
   ·simp
   intro j M4 as1
   simp at M4
   simp [Nat.mod_eq_of_lt M4,M4]
 by_cases cg:c*sz=0
 ·have EJ:((List.replicate c ft).flatten) = []:=by
   apply List.eq_nil_of_length_eq_zero
   simp [hT,cg]
  rw [EJ] at ee
  simp only [execOp,Instr.buildSlice]
  simp [run_underlying h1,dj aq,bb,Cc,cg]
  rw [show Instr.fill (fun i=>some (i*sz,sz)) (Array.map (fun x=>default) (Array.range 0)) (List.map (fun x=>(x.fst,ρ x.snd)) gC)=some cs.toArray by rw [bu,show(Array.map (fun x=>default) (Array.range 0):Array Value) = #[] by apply Array.toList_inj.1;simp];exact ee]
  simp [newRow]
 simp only [execOp,Instr.buildSlice]
 simp [run_underlying h1,dj aq,bb,Cc,cg,zeroValue,typeInfo,lL,lZ,l2]
 simp only [List.size_toArray,List.getElem!_toArray,List.getElem!_eq_getElem?_getD] at kH
 rw [kH,show Instr.fill (fun i=>some (i*sz,sz)) (List.replicate c ft).flatten.toArray (List.map (fun x=>(x.fst,ρ x.snd)) gC)=some cs.toArray by rw [bu];exact ee]
 simp [newRow]
theorem kA {gC:List (Nat×Operand)} {us:List (Nat×Value)} {e c sz fM:Nat} {ft cs:List Value} (bW:kU P t e sz fM=true) (cP:gX P e ft) (ae:qB l gC=some us)
  (dn:iJ (fun i=>some (i*sz,sz)) ((List.replicate c ft).flatten) us=some cs) (hT:ft.length=sz) (aZ:c*sz≤16777216) (bT:Nat.blt d n=true)
  (h:∀ g w',j6 w w' g e cs→fI P ops Q rest n ds ((d,.slice (some ⟨g,0,none⟩) c c)::l) w') :
  fI P ops Q (⟨some d,.buildSlice t c gC.toArray,ty,pos,af,none⟩::rest) n ds l w:=hg (qa bW cP ae dn hT aZ) bT (h _ _ (j6.mk' w e cs))
theorem dm {a0:Value} {gC:List (Nat×Operand)} {us:List (Nat×Value)} {e c sz fM:Nat} {ft:List Value} (bW:kU P t e sz fM=true) (cP:gX P e ft) (ae:qB l gC=some us) (dn:iJ (fun i=>some (i*sz,sz)) ((List.replicate c ft).flatten) us=some [a0]) (h:∀ g w',j6 w w' g e [a0]→fI P ops Q rest n ds ((d,.slice (some ⟨g,0,none⟩) c c)::l) w') (hT:ft.length=sz:=by exact rfl) (aZ:c*sz≤16777216:=by decide) (bT:Nat.blt d n=true:=by exact rfl):fI P ops Q (⟨some d,.buildSlice t c gC.toArray,ty,pos,af,none⟩::rest) n ds l w:=kA bW cP ae dn hT aZ bT h
theorem ir {a0 e6:Value} {gC:List (Nat×Operand)} {us:List (Nat×Value)} {e c sz fM:Nat} {ft:List Value} (bW:kU P t e sz fM=true) (cP:gX P e ft) (ae:qB l gC=some us) (dn:iJ (fun i=>some (i*sz,sz)) ((List.replicate c ft).flatten) us=some [a0,e6]) (h:∀ g w',j6 w w' g e [a0,e6]→fI P ops Q rest n ds ((d,.slice (some ⟨g,0,none⟩) c c)::l) w') (hT:ft.length=sz:=by exact rfl) (aZ:c*sz≤16777216:=by decide) (bT:Nat.blt d n=true:=by exact rfl):fI P ops Q (⟨some d,.buildSlice t c gC.toArray,ty,pos,af,none⟩::rest) n ds l w:=kA bW cP ae dn hT aZ bT h
theorem mM {a0 e6 a2:Value} {gC:List (Nat×Operand)} {us:List (Nat×Value)} {e c sz fM:Nat} {ft:List Value} (bW:kU P t e sz fM=true) (cP:gX P e ft) (ae:qB l gC=some us) (dn:iJ (fun i=>some (i*sz,sz)) ((List.replicate c ft).flatten) us=some [a0,e6,a2]) (h:∀ g w',j6 w w' g e [a0,e6,a2]→fI P ops Q rest n ds ((d,.slice (some ⟨g,0,none⟩) c c)::l) w') (hT:ft.length=sz:=by exact rfl) (aZ:c*sz≤16777216:=by decide) (bT:Nat.blt d n=true:=by exact rfl):fI P ops Q (⟨some d,.buildSlice t c gC.toArray,ty,pos,af,none⟩::rest) n ds l w:=kA bW cP ae dn hT aZ bT h
theorem zJ {a0 e6 a2 a3:Value} {gC:List (Nat×Operand)} {us:List (Nat×Value)} {e c sz fM:Nat} {ft:List Value} (bW:kU P t e sz fM=true) (cP:gX P e ft) (ae:qB l gC=some us) (dn:iJ (fun i=>some (i*sz,sz)) ((List.replicate c ft).flatten) us=some [a0,e6,a2,a3]) (h:∀ g w',j6 w w' g e [a0,e6,a2,a3]→fI P ops Q rest n ds ((d,.slice (some ⟨g,0,none⟩) c c)::l) w') (hT:ft.length=sz:=by exact rfl) (aZ:c*sz≤16777216:=by decide) (bT:Nat.blt d n=true:=by exact rfl):fI P ops Q (⟨some d,.buildSlice t c gC.toArray,ty,pos,af,none⟩::rest) n ds l w:=kA bW cP ae dn hT aZ bT h
theorem q8 {a0 e6 a2 a3 a4 a5:Value} {gC:List (Nat×Operand)} {us:List (Nat×Value)} {e c sz fM:Nat} {ft:List Value} (bW:kU P t e sz fM=true) (cP:gX P e ft) (ae:qB l gC=some us) (dn:iJ (fun i=>some (i*sz,sz)) ((List.replicate c ft).flatten) us=some [a0,e6,a2,a3,a4,a5]) (h:∀ g w',j6 w w' g e [a0,e6,a2,a3,a4,a5]→fI P ops Q rest n ds ((d,.slice (some ⟨g,0,none⟩) c c)::l) w') (hT:ft.length=sz:=by exact rfl) (aZ:c*sz≤16777216:=by decide) (bT:Nat.blt d n=true:=by exact rfl):fI P ops Q (⟨some d,.buildSlice t c gC.toArray,ty,pos,af,none⟩::rest) n ds l w:=kA bW cP ae dn hT aZ bT h
theorem mE {a0 e6 a2 a3 a4 a5 qz:Value} {gC:List (Nat×Operand)} {us:List (Nat×Value)} {e c sz fM:Nat} {ft:List Value} (bW:kU P t e sz fM=true) (cP:gX P e ft) (ae:qB l gC=some us) (dn:iJ (fun i=>some (i*sz,sz)) ((List.replicate c ft).flatten) us=some [a0,e6,a2,a3,a4,a5,qz]) (h:∀ g w',j6 w w' g e [a0,e6,a2,a3,a4,a5,qz]→fI P ops Q rest n ds ((d,.slice (some ⟨g,0,none⟩) c c)::l) w') (hT:ft.length=sz:=by exact rfl) (aZ:c*sz≤16777216:=by decide) (bT:Nat.blt d n=true:=by exact rfl):fI P ops Q (⟨some d,.buildSlice t c gC.toArray,ty,pos,af,none⟩::rest) n ds l w:=kA bW cP ae dn hT aZ bT h
theorem sW {a0 e6 a2 a3 a4 a5 qz vo vp a9 pZ ob a12 sw qA q1 q2 a17:Value} {gC:List (Nat×Operand)} {us:List (Nat×Value)} {e c sz fM:Nat} {ft:List Value} (bW:kU P t e sz fM=true) (cP:gX P e ft) (ae:qB l gC=some us) (dn:iJ (fun i=>some (i*sz,sz)) ((List.replicate c ft).flatten) us=some [a0,e6,a2,a3,a4,a5,qz,vo,vp,a9,pZ,ob,a12,sw,qA,q1,q2,a17]) (h:∀ g w',j6 w w' g e [a0,e6,a2,a3,a4,a5,qz,vo,vp,a9,pZ,ob,a12,sw,qA,q1,q2,a17]→fI P ops Q rest n ds ((d,.slice (some ⟨g,0,none⟩) c c)::l) w') (hT:ft.length=sz:=by exact rfl) (aZ:c*sz≤16777216:=by decide) (bT:Nat.blt d n=true:=by exact rfl):fI P ops Q (⟨some d,.buildSlice t c gC.toArray,ty,pos,af,none⟩::rest) n ds l w:=kA bW cP ae dn hT aZ bT h
/-! ### slicing -/
def ib:Option (IntKind×Int)→Int
 | some (_,m)=>m
 | none=>0
def iR (o:Option (IntKind×Int)) (c:Nat):Int:=match o with
 | some (_,m)=>m
 | none=>c
def DV (o:Option (IntKind×Int)):Option Value:=o.map fun p=>.int p.1 p.2
def vW (l:List (Nat×Value)):Option Operand→Option (Option (IntKind×Int))
 | none=>some none
 | some x=>match bf l x with
  | some (.int k m)=>some (some (k,m))
  | _=>none
theorem xy {ρ:Operand→Value} (h:∀ x u,bf l x=some u→ρ x=u) {o:Option Operand} {p:Option (IntKind×Int)} (fv:vW l o=some p):o.map ρ=DV p:=by
 cases o with
 | none=>simp [vW] at fv;subst fv;rfl
 | some x=>
  simp only [vW] at fv
  split at fv
  ·rename_i k m ae
   simp at fv;subst fv;simp [DV,h _ _ ae]
  cases fv
def nO (ad:Option Addr) (c' lo sz:Nat):Option Addr:=if c'=lo then ad else ad.map (·.add (lo*sz))
theorem Jm {ad:Option Addr} {c c' e sz fM:Nat} {lo hi:Option Operand} {pl ph:Option (IntKind×Int)} (bW:kU P t e sz fM=true) (ae:bf l x=some (.slice ad c c')) (cb:vW l lo=some pl) (kf:vW l hi=some ph)
  (aW:0≤ib pl∧ib pl≤(iR ph c)∧(iR ph c)≤c') (aZ:c≤c') :
  bE P l ⟨dd,.slice t x lo hi none,ty,pos,af,gg⟩ w (.slice (nO ad c' (ib pl).toNat sz) ((iR ph c).toNat-(ib pl).toNat) (c'-(ib pl).toNat)) w:=fun ρ h=>by
 obtain⟨i,z,h1,aq,bb,bP,cZ,fy⟩:=jZ bW
 obtain⟨b0,dN,fz⟩:=aW
 have bu:=xy h cb
 have ee:=xy h kf
 subst bb
 cases pl with
 | none=>
  cases ph with
  | none=>simp [execOp,Instr.sliceAt,Instr.slice,h _ _ ae,bu,ee,DV,run_underlying h1,dj aq,Instr.sliceBounds,ib,iR,nO]
  | some ph=>
   obtain⟨ahL,ade⟩:=ph
   simp only [ib,iR] at b0 dN fz
   have:=run_sliceBound (P:=P) (w:=w) ahL ade c' .sliceAcap dN fz
   simp [execOp,Instr.sliceAt,Instr.slice,h _ _ ae,bu,ee,DV,run_underlying h1,dj aq,Instr.sliceBounds,ib,iR,nO,this] <;> rfl
 | some pl=>
  obtain⟨ahc,ang⟩:=pl
  cases ph with
  | none=>
   simp only [ib,iR] at b0 dN fz
   have:=run_sliceBound (P:=P) (w:=w) ahc ang c .sliceB b0 dN
   simp [execOp,Instr.sliceAt,Instr.slice,h _ _ ae,bu,ee,DV,run_underlying h1,dj aq,Instr.sliceBounds,ib,iR,nO,this] <;> rfl
  | some ph=>
   obtain⟨ahL,ade⟩:=ph
   simp only [ib,iR] at b0 dN fz
   have t1:=run_sliceBound (P:=P) (w:=w) ahL ade c' .sliceAcap (by omega) fz
   have t2:=run_sliceBound (P:=P) (w:=w) ahc ang ade.toNat .sliceB b0 (by omega)
   simp [execOp,Instr.sliceAt,Instr.slice,h _ _ ae,bu,ee,DV,run_underlying h1,dj aq,Instr.sliceBounds,ib,iR,nO,t1,t2] <;> rfl
theorem tS {u:List UInt8} {lo hi:Option Operand} {pl ph:Option (IntKind×Int)} (bW:P.underlying t=some .string) (ae:bf l x=some (S u)) (cb:vW l lo=some pl) (kf:vW l hi=some ph)
  (aW:0≤ib pl∧ib pl≤(iR ph u.length)∧(iR ph u.length)≤u.length) :
  bE P l ⟨dd,.slice t x lo hi none,ty,pos,af,gg⟩ w (S ((u.drop (ib pl).toNat).take ((iR ph u.length).toNat-(ib pl).toNat))) w:=fun ρ h=>by
 obtain⟨b0,dN,fz⟩:=aW
 have bu:=xy h cb
 have ee:=xy h kf
 have jV:(⟨⟨u⟩⟩:ByteArray).size=u.length:=rfl
 have hex:∀ i j,(⟨⟨u⟩⟩:ByteArray).extract i j=⟨⟨(u.drop i).take (j-i)⟩⟩:=fun i j=>Lib.extract_eq ⟨⟨u⟩⟩ i j
 cases pl with
 | none=>
  cases ph with
  | none=>simp [execOp,Instr.sliceAt,Instr.slice,h _ _ ae,bu,ee,DV,run_underlying bW,Instr.sliceBounds,ib,iR,jV,hex]
  | some ph=>
   obtain⟨ahL,ade⟩:=ph
   simp only [ib,iR] at b0 dN fz
   have:=run_sliceBound (P:=P) (w:=w) ahL ade u.length .sliceAlen dN fz
   simp [execOp,Instr.sliceAt,Instr.slice,h _ _ ae,bu,ee,DV,run_underlying bW,Instr.sliceBounds,ib,iR,jV,hex,this]
 | some pl=>
  obtain⟨ahc,ang⟩:=pl
  cases ph with
  | none=>
   simp only [ib,iR] at b0 dN fz
   have:=run_sliceBound (P:=P) (w:=w) ahc ang u.length .sliceB b0 dN
   simp [execOp,Instr.sliceAt,Instr.slice,h _ _ ae,bu,ee,DV,run_underlying bW,Instr.sliceBounds,ib,iR,jV,hex,this]
  | some ph=>
   obtain⟨ahL,ade⟩:=ph
   simp only [ib,iR] at b0 dN fz
   have t1:=run_sliceBound (P:=P) (w:=w) ahL ade u.length .sliceAlen (by omega) fz
   have t2:=run_sliceBound (P:=P) (w:=w) ahc ang ade.toNat .sliceB b0 (by omega)
   simp [execOp,Instr.sliceAt,Instr.slice,h _ _ ae,bu,ee,DV,run_underlying bW,Instr.sliceBounds,ib,iR,jV,hex,t1,t2]
theorem Own.cut {e sz c c' lo hi:Nat} {ad:Option Addr} {vs:List Value} (O:Own w e sz (.slice ad c c') c vs) (h1:lo≤hi) (aq:hi≤c):Own w e sz (.slice (nO ad c' lo sz) (hi-lo) (c'-lo)) (hi-lo) ((vs.drop (lo*sz)).take ((hi-lo)*sz)):=by
 have cb:=O.1;have hle:hi*sz≤c*sz:=Nat.mul_le_mul_right _ aq;have Fa:lo*sz≤hi*sz:=Nat.mul_le_mul_right _ h1;rcases O.2 with⟨cg,ahM⟩ | ⟨g,o,aa6,cs,bI,ev,eQ,h3,uc,rG⟩
 ·injection cg with bu ee kH
  subst bu;subst kH;have:lo=0:=by omega
  subst this;have:hi=0:=by omega
  subst this;have:vs = []:=List.eq_nil_of_length_eq_zero (by rw [cb,ahM,Nat.zero_mul]);subst this;simpa [nO] using Own.nil w e sz
 injection bI with bu ee kH
 subst bu;subst kH;refine⟨by rw [List.length_take,List.length_drop,cb,Nat.sub_mul];omega,.inr ?_⟩;unfold nO
 by_cases Ms:c'=lo
 ·have af2:hi=lo:=by omega
  subst af2;subst Ms;exact⟨g,o,0,cs,by simp,ev,by omega,by simp [maxLen],by omega,by simp⟩
 refine⟨g,o+lo*sz,c'-lo,cs,by simp [Ms,Addr.add_lit],ev,by omega,by omega,by rw [Nat.sub_mul];have:lo*sz≤c'*sz:=Nat.mul_le_mul_right _ (by omega);omega,?_⟩;rw [← rG,List.drop_take,List.take_take,List.drop_drop]
 congr 1
 rw [Nat.sub_mul];omega
theorem bq.cut {A:List Nat} {sz c c' lo hi:Nat} {ad:Option Addr} {rows:List (List D)} (h:bq A w (.jH sz rows) (.slice ad c c')) (h1:lo≤hi) (aq:hi≤c):bq A w (.jH sz ((rows.drop lo).take (hi-lo))) (.slice (nO ad c' lo sz) (hi-lo) (c'-lo)):=by
 have fW:=h;simp only [bq] at h ⊢;obtain⟨tK,azI,e,bP,cZ,fy⟩:=h;injection e with bu ee kH
 subst bu;subst kH;have hlen:((rows.drop lo).take (hi-lo)).length=hi-lo:=by simp;omega
 refine⟨_,_,by rw [hlen],by rw [hlen];omega,by omega,fun cu=>?_⟩;have bM:lo<hi:=by
  rcases Nat.lt_or_ge lo hi with lL | lL
  ·exact lL
  exact absurd (List.eq_nil_of_length_eq_zero (by rw [hlen];omega)) cu
 obtain⟨a,aE,dy,aW,bo⟩:=fy (by intro he;subst he;simp at h1 aq ee;omega);subst aE;have:¬ c'=lo:=by omega
 refine⟨a.add (lo*sz),by simp [nO,this],by rw [oc];exact dy,by rw [oc];exact aW,dE.Cs fun j r eD=>?_⟩;have xt:rows[lo+j]? = some r:=by
  rw [List.getElem?_take] at eD
  split at eD
  ·simpa using eD
  cases eD
 have:=bo.row (lo+j) r xt;rw [Nat.zero_add] at this;rw [Nat.zero_add,Addr.add_add,← Nat.add_mul];exact this
/-! ### copy, make -/
theorem adf {e sz fM:Nat} {Fg:Int} {ft:List Value} (bW:kU P t e sz fM=true) (cP:gX P e ft) (hT:ft.length=sz) (ae:bf l x=some (.int k m)) (ba:bf l y=some (.int kS Fg)) (aW:0≤m∧m≤Fg∧Fg≤9223372036854775807∧fM*Fg≤281474976710656) (bT:Nat.blt d n=true)
  (h:∀ g w',j6 w w' g e ((List.replicate Fg.toNat ft).flatten)→fI P ops Q rest n ds ((d,.slice (some ⟨g,0,none⟩) m.toNat Fg.toNat)::l) w') :
  fI P ops Q (⟨some d,.makeSlice t x y,ty,pos,af,none⟩::rest) n ds l w:=by
 obtain⟨vy,Ha,h1,aq,bb,bP,cZ,fy⟩:=jZ bW
 obtain⟨i,z,lL,lZ,l2⟩:=qe cP
 have bo:bE P l ⟨some d,.makeSlice t x y,ty,pos,af,none⟩ w (.slice (some ⟨w.heap.size,0,none⟩) m.toNat Fg.toNat) (w.alloc (.cells ((List.replicate Fg.toNat ft).flatten).toArray e)):=fun ρ gw=>by
  have aJ:IntKind.i64.wrap m=m:=wrap64_in _ (by omega)
  have cX:IntKind.i64.wrap Fg=Fg:=wrap64_in _ (by omega)
  have ahN:vy=i:=Option.some.inj (aq.symm.trans lL)
  subst ahN
  have dN:¬ (Fg<0):=by omega
  have fz:¬ ((vy.bytes:Int)*Fg > 281474976710656):=by rw [bP];omega
  have mW:¬ (m<0):=by omega
  have HP:¬ (Fg<m):=by omega
  have kH:((Array.range (Fg.toNat*sz)).map fun i=>ft.toArray[i % ft.toArray.size]!)=((List.replicate Fg.toNat ft).flatten).toArray:=by
   apply Array.toList_inj.1
   simp only [Array.toList_map,Array.toList_range,List.size_toArray]
   generalize Fg.toNat=c
   subst hT
   clear h bW bb fy
   induction c with
   | zero=>simp
   | succ c ea=>
    rw [Nat.add_mul,Nat.one_mul,List.range_add,List.map_append,ea,List.replicate_succ',List.flatten_append]
    congr 1
    simp only [List.flatten_cons,List.flatten_nil,List.append_nil,List.map_map]
    apply List.ext_getElem
    ·simp
    intro j M4 as1
    simp at M4
    simp [Nat.mod_eq_of_lt M4,M4]
  have Jr:(decide (Fg<0)||decide ((vy.bytes:Int)*Fg > 2 ^ 48))=false:=by
   simp only [Bool.or_eq_false_iff,decide_eq_false_iff_not]
   exact⟨dN,by omega⟩
  by_cases cg:Fg.toNat*sz=0
  ·have EJ:((List.replicate Fg.toNat ft).flatten) = []:=by
    apply List.eq_nil_of_length_eq_zero
    simp [hT,cg]
   simp only [execOp,Instr.makeSlice]
   simp [gw _ _ ae,gw _ _ ba,asInt,asIntOf,run_underlying h1,typeInfo,aq,aJ,cX,Jr,dN,fz,mW,HP,dj aq,bb,cg,newRow,EJ]
   rw [show(Array.map (fun x=>default) (Array.range 0):Array Value) = #[] by apply Array.toList_inj.1;simp]
  simp only [List.size_toArray,List.getElem!_toArray,List.getElem!_eq_getElem?_getD] at kH
  simp only [execOp,Instr.makeSlice]
  simp [gw _ _ ae,gw _ _ ba,asInt,asIntOf,run_underlying h1,typeInfo,aq,aJ,cX,Jr,dN,fz,mW,HP,dj aq,bb,cg,newRow,zeroValue,lZ,l2,kH]
 exact hg bo bT (h _ _ (j6.mk' w e _))
/-! ### bytes and strings -/
theorem ahO {e:Nat} {v:Value} {u:List UInt8} (bh:P.underlying t=some (.slice e)) (he:P.underlying e=some (.int .u8)) (bT:P.underlying t'=some .string) (ae:bf l x=some v) (O:Src P 1 t v u.length (u.map ku) w) (bI:(∃ c,v = .slice none 0 c)∨∃ a c,v = .slice (some a) u.length c∧pF w a (u.map ku)) :
  bE P l ⟨dd,.convert t t' x,ty,pos,af,gg⟩ w (S u) w:=fun ρ h=>by
 rcases bI with⟨c,rfl⟩ | ⟨a,c,rfl,aZ⟩
 ·have hu:u = []:=by
   have:=O.len w
   simp [Builtin.lenOf] at this
   exact List.eq_nil_of_length_eq_zero this.symm
  subst hu
  have:=run_convert_bytes_nil w t e bh he 0 c t' bT
  simp [execOp,h _ _ ae,this]
  rfl
 have:=run_convert_bytes_back (P:=P) w t t' e a c u bh he bT (fun j eD=>aZ j _ (by simp [eD,ku]))
 simp [execOp,h _ _ ae,this]
theorem js {e yu:Nat} {v:Value} {u:List UInt8} (bh:P.underlying t=some (.slice e)) (he:P.underlying e=some (.int .u8)) (bT:P.underlying t'=some .string) (ae:bf l x=some v) (O:Own w yu 1 v u.length (u.map ku)) :
  bE P l ⟨dd,.convert t t' x,ty,pos,af,gg⟩ w (S u) w:=by
 refine ahO bh he bT ae (Src.own bh O (fun x ae=>by obtain⟨c,_,rfl⟩:=List.mem_map.1 ae;rfl)) ?_
 obtain⟨ad,c,h1,aq,bb⟩:=O.form
 subst h1
 cases ad with
 | none=>
  rcases O.2 with⟨_,cg⟩ | ⟨g,o,c',cs,h1,_⟩
  ·rw [cg]
   exact .inl ⟨c,rfl⟩
  cases h1
 | some a=>exact .inr ⟨a,c,rfl,O.cs⟩
def Pa (u:List UInt8):D:=.jH 1 (u.map fun c=>[.v (ku c)])
theorem Hb {A:List Nat} {u:List UInt8} {vs:List Value} (h:ao A w ((u.map fun c=>[D.v (ku c)]).flatten) vs):vs=u.map ku:=by
 induction u generalizing vs with
 | nil=>simpa [ao] using h
 | cons c u ea=>
  simp only [List.map_cons,List.flatten_cons,List.singleton_append,ao] at h;obtain⟨x,us,rfl,h1,aq⟩:=h;rw [ea aq,h1.np];rfl
theorem Src.bytes {A:List Nat} {s8 yu:Nat} {u:List UInt8} {v:Value} (hk:P.underlying s8=some (.slice yu)) (h:bq A w (Pa u) v):Src P 1 s8 v u.length (u.map ku) w:=by
 obtain⟨vs,h1,aq,bb⟩:=Src.rep (P:=P) hk h;rw [Hb h1] at bb;simpa using bb
theorem bq.byte {A:List Nat} {u:List UInt8} {ad:Option Addr} {c c' i:Nat} {b:UInt8} (h:bq A w (Pa u) (.slice ad c c')) (hi:u[i]? = some b):∃ a,ad=some a∧w.cell? (a.add (i*1))=some (ku b):=by
 obtain⟨a,us,h1,aq,bb,bP,_⟩:=bq.at_ (i:=i) (r:=[.v (ku b)]) h (by simp [hi]);simp only [ao] at aq;obtain⟨x,ga,rfl,cZ,rfl⟩:=aq;refine⟨a,h1,?_⟩;have:=bP 0 x rfl;rw [Addr.add_zero'] at this;rw [this,cZ.np]
end
end Go.Proofs.YtkjgljnkocnnpaaGreatDoor.V
