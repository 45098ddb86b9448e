/-
  A part of the proof: parts of own slices; copy into a part; append of zeros; the entry for slices.overlaps; truths held against one another; drawn operations that look at two slots of which something is known; an argument's reading opened: what its cells stand for, and how great it is; behind the call: true, and each argument reads as it did, where nothing that was there has turned; strings compared by the library's stand-in; values of several cells in a slot; rows of cells; a slice that is built in a region whose order is drawn; a guard on a truth that was not asked; JSON values: what they stand for in memory, and what Same, rises, Get and Find say of them, in plain Lean. No condition of its own.
-/
import Derived.Test.YtnihidkbkhcfoaaGreatDoorM0
import Derived.Laws.StructEq
import Derived.Lib.Overlaps
import Derived.OpenShut
import Derived.DataReads
import Derived.ProofKit
import Derived.Carry
import Derived.WalkKit
import Derived.Lib.Bytealg
set_option linter.unusedVariables false
set_option linter.unusedSimpArgs false
namespace Go.Proofs.YtnihidkbkhcfoaaGreatDoor.V
open Go
def n1 (t:Nat):List (Nat×(Value→World→Prop))→Option (Value→World→Prop)
 | []=>none
 | (s,v)::r=>match Nat.beq s t with
  | true=>some v
  | false=>n1 t r
def rH (l:List (Nat×Value)) (M:List (Nat×(Value→World→Prop))):kf:=fun t=>match i' t l with
 | some v=>some fun u _=>u=v
 | none=>n1 t M
section
variable {P:Program} {ops:Array Oper} {Q:Exit→Act→World→Prop} {n:Nat} {ds:List Deferred} {l:List (Nat×Value)} {M:List (Nat×(Value→World→Prop))} {w w':World} {a:Act}
variable {rest:List Oper} {d:Nat} {op:Op} {ty:TypeId} {pos:String} {af:Array Edge} {Fin:kf→Prop}
theorem later (w:World):zT (Mod []) (Mod [] w):=⟨Mod.refl [],fun _ _ _ h k=>h.trans k,fun _ _ h k=>k.trans h⟩
abbrev gw (P:Program) (ops:Array Oper) (w:World) (n:Nat) (Fin:kf→Prop) (rest:List Oper) (l:List (Nat×Value)) (M:List (Nat×(Value→World→Prop))):Prop:=TW P ops (Mod []) (Mod [] w) n Fin rest (rH l M)
def LN (Q:Exit→Act→World→Prop) (n:Nat) (ds:List Deferred) (w:World) (N:kf):Prop:=∀ a w',a.defers=ds→Mod [] w w'→N.all n a w'→Q .normal a w'
theorem sQ (l:List (Nat×Value)):(rH l []).lasts (Mod []):=by
 intro t asq je;unfold rH at je
 split at je
 ·injection je with je;subst je;exact fun _ _ _ _ h=>h
 simp [n1] at je
theorem yf {l:List (Nat×Value)} (ay:Has n ds l a):(rH l []).all n a w:=by
 refine⟨ay.size,fun t asq je=>?_⟩;unfold rH at je
 split at je
 ·rename_i v bK
  injection je with je
  subst je;simp [ay.get t v bK]
 simp [n1] at je
theorem bT {id:Nat} {lo:List Oper} (hm:P.follows .mixedOrders=true) (eh:Region.lexB .any lo.toArray=true) (h:gw P lo.toArray w n (LN Q n ds w) lo l []):p3 P (.region id lo.toArray true) Q n ds l w:=by
 intro a ay;simp only [Region.lexB,Bool.and_eq_true] at eh;refine wp_region_any hm (xu (n:=n) (ds:=ds) (w0:=w) (Fin:=LN Q n ds w) (later w) (fun N a w' _ bY h4 _ h7 ja=>ja a w' bY h4 h7) _ _ (rH l []) a _ (sQ l) ay.defers (Mod.drew [] w) (Mod.drew [] w) (yf ay) ?_);have:=CA (md:=.any) lo 0 (Array.replicate lo.toArray.size false) (rH l []) (by simp) (by simpa using eh.2) h;simpa using this
theorem zz {id:Nat} {lo:List Oper} (m:Nat) (hm:P.follows .mixedOrders=true) (eh:Region.lexTailB .any lo.toArray m=true)
  (h:gw P lo.toArray w n (fun N=>∀ a w',a.defers=ds→Mod [] w w'→N.all n a w'→wpList P lo.toArray Q (lo.drop m) a w') (lo.take m) l []):p3 P (.region id lo.toArray true) Q n ds l w:=by
 intro a ay
 simp only [Region.lexTailB,Bool.and_eq_true,decide_eq_true_eq] at eh
 obtain⟨⟨⟨⟨ti,ck⟩,bf⟩,bj⟩,ahW⟩:=eh
 have aq6:m<lo.length:=by simpa using ck
 have Bf:(lo.take m).length=m:=by simp;omega
 have X8:(lo.drop m).length=lo.toArray.size-m:=by simp
 have GN:HeadInv .any lo.toArray m (Array.replicate lo.toArray.size false):=
  ⟨by simp,fun j sP _ cg=>(by rw [getD_replicate_false] at cg;cases cg),fun t _ cf=>getD_in (by simpa using cf) (getD_replicate_false _ _)⟩
 have H:=zV (md:=.any) (g:=lo.toArray.size-m) bf bj ck (lo.take m) 0 _ (rH l []) (fun j d'=>by
  have u5:j<m:=by rw [Bf] at d';exact d'
  simp [u5]) (by simpa using Bf) GN (by rw [Bf];exact ahW) h
 refine wp_region_any hm ?_
 have:=ve (n:=n) (ds:=ds) (w0:=w) (Q:=Q) (g:=lo.toArray.size-m) (later w) (fun listed N a w' _ bY h4 _ h7 pc=>by
  have:=wpAny_of_seq (md:=.any) (Q':=Q) (lo.drop m) m listed a w' (fun j=>by simp [List.getElem?_drop]) (by rw [X8];exact pc.1) (pc.2 a w' bY h4 h7)
  rwa [X8] at this) _ _ (rH l []) a _ (sQ l) ay.defers (Mod.drew [] w) (Mod.drew [] w) (yf ay) H
 rw [Bf,show m+(lo.toArray.size-m)=lo.toArray.size by omega] at this
 exact this
theorem vf {l:List (Nat×Value)} {M:List (Nat×(Value→World→Prop))} (bY:a.defers=ds) (h:(rH l M).all n a w):Has n ds (l.filter fun p=>decide (p.1<n)) a:=by
 refine⟨h.1,bY,fun t v bK=>?_⟩;have bJ:t<n:=by
  clear h
  induction l with
  | nil=>simp [i'] at bK
  | cons p r dK=>
   obtain⟨s,u⟩:=p
   by_cases bf:s<n
   ·simp only [List.filter_cons,bf,decide_true,if_true,i'] at bK;cases aS:Nat.beq s t with
    | true=>have:=Nat.eq_of_beq_eq_true aS;omega
    | false=>rw [aS] at bK;exact dK bK
   simp only [List.filter_cons,bf,decide_false] at bK;exact dK bK
 have qj:i' t l=some v:=by
  clear h
  induction l with
  | nil=>simp [i'] at bK
  | cons p r dK=>
   obtain⟨s,u⟩:=p
   by_cases bf:s<n
   ·simp only [List.filter_cons,bf,decide_true,if_true,i'] at bK ⊢;cases aS:Nat.beq s t with
    | true=>rw [aS] at bK;exact bK
    | false=>rw [aS] at bK;exact dK bK
   simp only [List.filter_cons,bf,decide_false] at bK;simp only [i'];cases aS:Nat.beq s t with
   | true=>have:=Nat.eq_of_beq_eq_true aS;omega
   | false=>exact dK bK
 have:=h.2 t (fun u _=>u=v) (by simp [rH,qj]);rw [← h.1] at bJ;simp [bJ] at this;simp [bJ,this]
def xw (n:Nat):List (Nat×Value)→Bool
 | []=>true
 | (t,_)::r=>Nat.blt t n&&xw n r
theorem kg {n:Nat}:∀ {l:List (Nat×Value)},xw n l=true→(l.filter fun p=>decide (p.1<n))=l
 | [],_=>rfl
 | (t,v)::r,h=>by
  simp only [xw,Bool.and_eq_true,Nat.blt_eq] at h
  simp [List.filter_cons,h.1,kg h.2]
theorem bV (dI:xw n l=true) (h:∀ w',Mod [] w w'→fI Q .normal n ds l w'):gw P ops w n (LN Q n ds w) [] l M:=by
 intro a w' bY h4 h7;have:=vf bY h7;rw [kg dI] at this;exact h w' h4 a this
theorem Sg {t:Nat} {V:Value→World→Prop} (dI:xw n l=true) (cf:i' t l=none) (eY:n1 t M=some V) (Sh:Nat.blt t n=true) (h:∀ w' v,Mod [] w w'→V v w'→fI Q .normal n ds ((t,v)::l) w'):gw P ops w n (LN Q n ds w) [] l M:=by
 intro a w' bY h4 h7;have h1:=vf bY h7;rw [kg dI] at h1;have xx:t<a.tmps.size:=by rw [h7.1];simpa [Nat.blt_eq] using Sh
 have aq:=h7.2 t V (by simp [rH,cf,eY]);have aU:a.tmps.getD t undef=a.tmps[t]:=by simp [xx]
 rw [aU] at aq;refine h w' _ h4 aq a ⟨h1.size,h1.defers,fun s v bK=>?_⟩;simp only [i'] at bK;cases aS:Nat.beq t s with
 | true=>
  rw [aS] at bK;have:=Nat.eq_of_beq_eq_true aS;subst this;injection bK with bK
  subst bK;simp [xx]
 | false=>rw [aS] at bK;exact h1.get s v bK
theorem mJ {sf:List Oper} (dI:xw n l=true) (h:∀ w',Mod [] w w'→ga P ops Q sf n ds l w'):gw P ops w n (fun N=>∀ a w',a.defers=ds→Mod [] w w'→N.all n a w'→wpList P ops Q sf a w') [] l M:=by
 intro a w' bY h4 h7;have:=vf bY h7;rw [kg dI] at this;exact h w' h4 a this
theorem mg {sf:List Oper} {t:Nat} {V:Value→World→Prop} (dI:xw n l=true) (cf:i' t l=none) (eY:n1 t M=some V) (Sh:Nat.blt t n=true) (h:∀ w' v,Mod [] w w'→V v w'→ga P ops Q sf n ds ((t,v)::l) w') :
  gw P ops w n (fun N=>∀ a w',a.defers=ds→Mod [] w w'→N.all n a w'→wpList P ops Q sf a w') [] l M:=by
 intro a w' bY h4 h7
 have h1:=vf bY h7
 rw [kg dI] at h1
 have xx:t<a.tmps.size:=by rw [h7.1];simpa [Nat.blt_eq] using Sh
 have aq:=h7.2 t V (by simp [rH,cf,eY])
 have aU:a.tmps.getD t undef=a.tmps[t]:=by simp [xx]
 rw [aU] at aq
 refine h w' _ h4 aq a ⟨h1.size,h1.defers,fun s v bK=>?_⟩
 simp only [i'] at bK
 cases aS:Nat.beq t s with
 | true=>
  rw [aS] at bK
  have:=Nat.eq_of_beq_eq_true aS
  subst this
  injection bK with bK
  subst bK
  simp [xx]
 | false=>rw [aS] at bK;exact h1.get s v bK
def fu:Op→Bool
 | .select ..=>false
 | _=>true
theorem tj {V:Value→World→Prop} (pk:∀ v aB cN,Mod [] aB cN→V v aB→V v cN) (bY:Nat.blt d n=true) (bf:fu op=true)
  (bq:∀ (ρ:Operand→Value) aB,Mod [] w aB→(∀ x u,a6 l x=some u→ρ x=u)→(∀ t asq,i' t l=none→n1 t M=some asq→(∃ x∈op.operands.toList,x = .tmp t)→asq (ρ (.tmp t)) aB)→
   oo P (Mod []) aB V ((execOp ρ ⟨some d,op,ty,pos,af,none⟩).run P aB)) :
  ass P ops (Mod []) (Mod [] w) n (rH l M) ⟨some d,op,ty,pos,af,none⟩ V:=by
 refine⟨pk,fun s4 r4=>by injection r4 with r4;subst r4;simpa [Nat.blt_eq] using bY,fun a aB h4 h7=>?_⟩
 rw [if_pos (by simp [Region.wanted])]
 let ρ:Operand→Value:=fun x=>match a6 l x with
  | some u=>u
  | none=>a.eval x
 have wK:∀ t,(∃ x∈op.operands.toList,x = .tmp t)→t∈Oper.looksAt ops ⟨some d,op,ty,pos,af,none⟩:=by
  rintro t ⟨x,ae,rfl⟩
  unfold Oper.looksAt
  exact List.mem_append_left _ (List.mem_filterMap.2 ⟨.tmp t,ae,rfl⟩)
 have fg:∀ x∈op.operands,a.eval x=ρ x:=by
  intro x ae
  show a.eval x=match a6 l x with | some u=>u | none=>a.eval x
  cases bK:a6 l x with
  | none=>rfl
  | some u=>
   cases x with
   | tmp t=>
    have:=h7 t (fun mU _=>mU=u) (wK t ⟨_,by simpa using ae,rfl⟩) (by simp only [a6] at bK;simp [rH,bK])
    simpa [Act.eval] using this
   | const c=>simp only [a6] at bK;injection bK
   | global g=>simp only [a6] at bK;injection bK
   | func f=>simp only [a6] at bK;injection bK
 have he:=execOp_congr ⟨some d,op,ty,pos,af,none⟩ (fun cs b h=>by dsimp only at h;rw [h] at bf;simp [fu] at bf) fg
 rw [he]
 refine bq ρ aB h4 (fun x u ae=>?_) (fun t asq cf je ae=>?_)
 ·show(match a6 l x with | some u=>u | none=>a.eval x)=u
  rw [ae]
 have h1:=h7 t asq (wK t ae) (by simp [rH,cf,je])
 show asq (match a6 l (.tmp t)with | some u=>u | none=>a.eval (.tmp t)) aB
 simp only [a6,cf]
 simpa [Act.eval] using h1
theorem mj {o:Oper} (bY:o.dst=some d) (v:Value):(rH l M).put o (fun u _=>u=v)=rH ((d,v)::l) M:=by
 funext t
 unfold kf.put rH;simp only [bY,i']
 by_cases h:t=d
 ·subst h;simp
 have:Nat.beq d t=false:=by
  cases aS:Nat.beq d t
  ·rfl
  exact absurd (Nat.eq_of_beq_eq_true aS).symm h
 simp [h,this]
theorem ml {o:Oper} (bY:o.dst=some d) (cg:i' d l=none) (V:Value→World→Prop):(rH l M).put o V=rH l ((d,V)::M):=by
 funext t
 unfold kf.put rH;simp only [bY,n1]
 by_cases h:t=d
 ·subst h;simp [cg]
 have:Nat.beq d t=false:=by
  cases aS:Nat.beq d t
  ·rfl
  exact absurd (Nat.eq_of_beq_eq_true aS).symm h
 simp [h,this]
theorem alA {v:Value} (bq:∀ aB,Mod [] w aB→bG P l ⟨some d,op,ty,pos,af,none⟩ aB v aB) (bY:Nat.blt d n=true) (bf:fu op=true) (h:gw P ops w n Fin rest ((d,v)::l) M) :
  gw P ops w n Fin (⟨some d,op,ty,pos,af,none⟩::rest) l M:=by
 refine⟨fun u _=>u=v,tj (fun _ _ _ _ h=>h) bY bf fun ρ aB h4 h1 aq=>?_,?_⟩
 ·rw [bq aB h4 ρ h1];exact⟨Mod.refl [] aB,rfl⟩
 rw [mj rfl];exact h
theorem ajX (V:Value→World→Prop) (pk:∀ v aB cN,Mod [] aB cN→V v aB→V v cN) (bq:∀ aB,Mod [] w aB→∃ v cN,bG P l ⟨some d,op,ty,pos,af,none⟩ aB v cN∧Mod [] aB cN∧V v cN) (bY:Nat.blt d n=true) (bf:fu op=true) (cg:i' d l=none)
  (h:gw P ops w n Fin rest l ((d,V)::M)):gw P ops w n Fin (⟨some d,op,ty,pos,af,none⟩::rest) l M:=by
 refine⟨V,tj pk bY bf fun ρ aB h4 h1 aq=>?_,?_⟩
 ·obtain⟨v,cN,e,hm,bK⟩:=bq aB h4
  rw [e ρ h1]
  exact⟨hm,bK⟩
 rw [ml rfl cg];exact h
theorem BQ {f:FuncId} {args:Array Value} {v:Value} (bq:∀ aB,Mod [] w aB→mh P l ⟨some d,op,ty,pos,af,none⟩ aB f args) (bj:∀ aB,Mod [] w aB→Calls P f args aB (bL fun u cN=>u=v∧Mod [] aB cN)) (bY:Nat.blt d n=true) (bf:fu op=true) (h:gw P ops w n Fin rest ((d,v)::l) M) :
  gw P ops w n Fin (⟨some d,op,ty,pos,af,none⟩::rest) l M:=by
 refine⟨fun u _=>u=v,tj (fun _ _ _ _ h=>h) bY bf fun ρ aB h4 h1 aq=>?_,?_⟩
 ·rw [bq aB h4 ρ h1]
  exact⟨rfl,(bj aB h4).mono fun e cN he=>by cases e <;> first | exact⟨he.2,he.1⟩ | exact he⟩
 rw [mj rfl];exact h
theorem GO {f:FuncId} {args:Array Value} (V:Value→World→Prop) (pk:∀ v aB cN,Mod [] aB cN→V v aB→V v cN) (bq:∀ aB,Mod [] w aB→mh P l ⟨some d,op,ty,pos,af,none⟩ aB f args) (bj:∀ aB,Mod [] w aB→Calls P f args aB (bL fun u cN=>V u cN∧Mod [] aB cN)) (bY:Nat.blt d n=true) (bf:fu op=true) (cg:i' d l=none)
  (h:gw P ops w n Fin rest l ((d,V)::M)):gw P ops w n Fin (⟨some d,op,ty,pos,af,none⟩::rest) l M:=by
 refine⟨V,tj pk bY bf fun ρ aB h4 h1 aq=>?_,?_⟩
 ·rw [bq aB h4 ρ h1]
  exact⟨rfl,(bj aB h4).mono fun e cN he=>by cases e <;> first | exact⟨he.2,he.1⟩ | exact he⟩
 rw [ml rfl cg];exact h
theorem Jv {V:Value→World→Prop} {t:Nat} {asq:Value→World→Prop} (cf:i' t l=none) (eY:n1 t M=some asq) (ae:∃ x∈op.operands.toList,x = .tmp t) (pk:∀ v aB cN,Mod [] aB cN→V v aB→V v cN) (bY:Nat.blt d n=true) (bf:fu op=true)
  (bq:∀ (ρ:Operand→Value) aB u,Mod [] w aB→asq u aB→(∀ x v,a6 ((t,u)::l) x=some v→ρ x=v)→oo P (Mod []) aB V ((execOp ρ ⟨some d,op,ty,pos,af,none⟩).run P aB)) :
  ass P ops (Mod []) (Mod [] w) n (rH l M) ⟨some d,op,ty,pos,af,none⟩ V:=by
 refine tj pk bY bf fun ρ aB h4 h1 aq=>bq ρ aB (ρ (.tmp t)) h4 (aq t asq cf eY ae) fun x v bK=>?_
 cases x with
 | tmp s=>
  simp only [a6,i'] at bK
  cases aS:Nat.beq t s with
  | true=>
   rw [aS] at bK
   have:=Nat.eq_of_beq_eq_true aS
   subst this
   injection bK
  | false=>rw [aS] at bK;exact h1 _ _ bK
 | const c=>exact h1 _ _ bK
 | global g=>exact h1 _ _ bK
 | func f=>exact h1 _ _ bK
theorem GP (V:Value→World→Prop) (pk:∀ v aB cN,Mod [] aB cN→V v aB→V v cN) (t:Nat) {asq:Value→World→Prop} (cf:i' t l=none) (eY:n1 t M=some asq) (ae:∃ x∈op.operands.toList,x = .tmp t) (bq:∀ aB u,Mod [] w aB→asq u aB→∃ v cN,bG P ((t,u)::l) ⟨some d,op,ty,pos,af,none⟩ aB v cN∧Mod [] aB cN∧V v cN)
  (bY:Nat.blt d n=true) (bf:fu op=true) (cg:i' d l=none) (h:gw P ops w n Fin rest l ((d,V)::M)) :
  gw P ops w n Fin (⟨some d,op,ty,pos,af,none⟩::rest) l M:=by
 refine⟨V,Jv cf eY ae pk bY bf fun ρ aB u h4 je h1=>?_,?_⟩
 ·obtain⟨v,cN,e,hm,bK⟩:=bq aB u h4 je
  rw [e ρ h1]
  exact⟨hm,bK⟩
 rw [ml rfl cg];exact h
theorem aaQ {f:FuncId} {args:Value→Array Value} (V:Value→World→Prop) (pk:∀ v aB cN,Mod [] aB cN→V v aB→V v cN) (t:Nat) {asq:Value→World→Prop} (cf:i' t l=none) (eY:n1 t M=some asq) (ae:∃ x∈op.operands.toList,x = .tmp t) (bq:∀ aB u,Mod [] w aB→asq u aB→mh P ((t,u)::l) ⟨some d,op,ty,pos,af,none⟩ aB f (args u)) (bj:∀ aB u,Mod [] w aB→asq u aB→Calls P f (args u) aB (bL fun u cN=>V u cN∧Mod [] aB cN)) (bY:Nat.blt d n=true) (bf:fu op=true) (cg:i' d l=none)
  (h:gw P ops w n Fin rest l ((d,V)::M)):gw P ops w n Fin (⟨some d,op,ty,pos,af,none⟩::rest) l M:=by
 refine⟨V,Jv cf eY ae pk bY bf fun ρ aB u h4 je h1=>?_,?_⟩
 ·rw [bq aB u h4 je ρ h1]
  exact⟨rfl,(bj aB u h4 je).mono fun e cN he=>by cases e <;> first | exact⟨he.2,he.1⟩ | exact he⟩
 rw [ml rfl cg];exact h
end
section
variable {P:Program} {ops:Array Oper} {Q:Exit→Act→World→Prop} {n:Nat} {ds:List Deferred} {l:List (Nat×Value)} {M:List (Nat×(Value→World→Prop))} {w w':World} {a:Act}
variable {rest:List Oper} {d:Nat} {op:Op} {ty:TypeId} {pos:String} {af:Array Edge} {Fin:kf→Prop} {j:Nat} {want b:Bool}
/-! ## Guarded operations -/
def zW (ops:Array Oper) (l:List (Nat×Value)) (j:Nat):Option Bool:=match (ops[j]?).bind (·.dst)with
 | some t=>match i' t l with
  | some (.bool b)=>some b
  | _=>none
 | none=>none
theorem GQ (h:zW ops l j=some b):∃ t,(ops[j]?).bind (·.dst)=some t∧i' t l=some (.bool b):=by
 unfold zW at h
 split at h
 ·rename_i t cf
  split at h
  ·rename_i e8 aS
   injection h with h
   subst h;exact⟨t,cf,aS⟩
  cases h
 cases h
theorem sg (ay:Has n ds l a) (h:zW ops l j=some b):yielded ops a.tmps j=some b:=by
 obtain⟨t,h1,aq⟩:=GQ h;unfold yielded;rw [h1];simp [ay.get t _ aq]
theorem lB {v:Value} (dA:zW ops l j=some b) (aS:b=want) (bq:bG P l ⟨some d,op,ty,pos,af,some (j,want)⟩ w v w') (bY:Nat.blt d n=true) (h:ga P ops Q rest n ds ((d,v)::l) w') :
  ga P ops Q (⟨some d,op,ty,pos,af,some (j,want)⟩::rest) n ds l w:=by
 intro a ay
 refine wpList_step fun K p5=>?_
 have hw:Region.wanted ⟨some d,op,ty,pos,af,some (j,want)⟩ (yielded ops a.tmps)=true:=by
  simp [Region.wanted,sg ay dA,aS]
 rw [if_pos hw]
 have:=bq a.eval (fun x u ae=>ay.rD ae)
 simp only [Oper.wp,this,Oper.upon]
 exact p5 _ _ (h _ (ay.put bY v))
theorem X9 {f:FuncId} {args:Array Value} {xU:Value→World→Prop} (dA:zW ops l j=some b) (aS:b=want) (bq:mh P l ⟨some d,op,ty,pos,af,some (j,want)⟩ w f args) (bj:Calls P f args w (bL xU)) (bY:Nat.blt d n=true) (h:∀ v w',xU v w'→ga P ops Q rest n ds ((d,v)::l) w') :
  ga P ops Q (⟨some d,op,ty,pos,af,some (j,want)⟩::rest) n ds l w:=by
 intro a ay
 refine wpList_step fun K p5=>?_
 have hw:Region.wanted ⟨some d,op,ty,pos,af,some (j,want)⟩ (yielded ops a.tmps)=true:=by
  simp [Region.wanted,sg ay dA,aS]
 rw [if_pos hw]
 have:=bq a.eval (fun x u ae=>ay.rD ae)
 simp only [Oper.wp,this,Oper.upon]
 refine bj.mono fun e w' he=>?_
 cases e with
 | returned v=>exact p5 _ _ (h v w' he _ (ay.put bY v))
 | panicked c=>exact he.elim
 | outgrown=>exact he.elim
theorem al9 (dA:zW ops l j=some b) (aS:b≠want) (bY:Nat.blt d n=true) (h:ga P ops Q rest n ds ((d,undef)::l) w) :
  ga P ops Q (⟨some d,op,ty,pos,af,some (j,want)⟩::rest) n ds l w:=by
 intro a ay
 refine wpList_step fun K p5=>?_
 have hw:¬ (Region.wanted ⟨some d,op,ty,pos,af,some (j,want)⟩ (yielded ops a.tmps)=true):=by
  simp [Region.wanted,sg ay dA,aS]
 rw [if_neg hw]
 exact p5 _ _ (h _ (ay.put bY undef))
/-! .. in regions that draw -/
theorem zX {a:Act} {aB:World} {o:Oper} (eo:o.guard=some (j,want)) (dA:zW ops l j=some b) (h7:kf.on ops (rH l M) o a aB):Region.wanted o (yielded ops a.tmps)=(b == want):=by
 obtain⟨t,h1,aq⟩:=GQ dA;have wK:t∈Oper.looksAt ops o:=by
  unfold Oper.looksAt;rw [eo];exact List.mem_append_right _ (by simp [h1])
 have:=h7 t (fun u _=>u = .bool b) wK (by simp [rH,aq]);have bJ:t<a.tmps.size:=by
  rcases Nat.lt_or_ge t a.tmps.size with h | h
  ·exact h
  simp [Array.getElem?_eq_none h] at this;cases this
 simp [bJ] at this;have aY:yielded ops a.tmps j=some b:=by
  unfold yielded;rw [h1];simp [bJ,this]
 simp [Region.wanted,eo,aY]
theorem X' {V:Value→World→Prop} (dA:zW ops l j=some b) (aS:b=want) (h:ass P ops (Mod []) (Mod [] w) n (rH l M) ⟨some d,op,ty,pos,af,none⟩ V):ass P ops (Mod []) (Mod [] w) n (rH l M) ⟨some d,op,ty,pos,af,some (j,want)⟩ V:=by
 refine⟨h.lasts,h.fits,fun a aB h4 h7=>?_⟩;have hw:=zX (o:=⟨some d,op,ty,pos,af,some (j,want)⟩) rfl dA h7;rw [hw,aS];simp only [beq_self_eq_true,if_true];have:=h.run a aB h4 (fun t asq cf je=>h7 t asq (by
  unfold Oper.looksAt at cf ⊢;simp only [List.append_nil] at cf;exact List.mem_append_left _ cf) je)
 rw [if_pos (by simp [Region.wanted])] at this;exact this
theorem al' (dA:zW ops l j=some b) (aS:b≠want) (bY:Nat.blt d n=true):ass P ops (Mod []) (Mod [] w) n (rH l M) ⟨some d,op,ty,pos,af,some (j,want)⟩ (fun u _=>u=undef):=by
 refine⟨fun _ _ _ _ h=>h,fun s4 r4=>by injection r4 with r4;subst r4;simpa [Nat.blt_eq] using bY,fun a aB h4 h7=>?_⟩;have hw:=zX (o:=⟨some d,op,ty,pos,af,some (j,want)⟩) rfl dA h7;have:(b == want)=false:=by simp [aS]
 rw [hw,this];simp
theorem NX {v:Value} (dA:zW ops l j=some b) (aS:b=want) (bq:∀ aB,Mod [] w aB→bG P l ⟨some d,op,ty,pos,af,none⟩ aB v aB) (bY:Nat.blt d n=true) (bf:fu op=true) (h:gw P ops w n Fin rest ((d,v)::l) M) :
  gw P ops w n Fin (⟨some d,op,ty,pos,af,some (j,want)⟩::rest) l M:=by
 refine⟨fun u _=>u=v,X' dA aS (tj (fun _ _ _ _ h=>h) bY bf fun ρ aB h4 h1 aq=>?_),?_⟩
 ·rw [bq aB h4 ρ h1];exact⟨Mod.refl [] aB,rfl⟩
 rw [mj rfl];exact h
theorem Fc {f:FuncId} {args:Array Value} {v:Value} (dA:zW ops l j=some b) (aS:b=want) (bq:∀ aB,Mod [] w aB→mh P l ⟨some d,op,ty,pos,af,none⟩ aB f args) (bj:∀ aB,Mod [] w aB→Calls P f args aB (bL fun u cN=>u=v∧Mod [] aB cN)) (bY:Nat.blt d n=true) (bf:fu op=true) (h:gw P ops w n Fin rest ((d,v)::l) M) :
  gw P ops w n Fin (⟨some d,op,ty,pos,af,some (j,want)⟩::rest) l M:=by
 refine⟨fun u _=>u=v,X' dA aS (tj (fun _ _ _ _ h=>h) bY bf fun ρ aB h4 h1 aq=>?_),?_⟩
 ·rw [bq aB h4 ρ h1]
  exact⟨rfl,(bj aB h4).mono fun e cN he=>by cases e <;> first | exact⟨he.2,he.1⟩ | exact he⟩
 rw [mj rfl];exact h
theorem ahX {f:FuncId} {args:Array Value} (V:Value→World→Prop) (pk:∀ v aB cN,Mod [] aB cN→V v aB→V v cN) (dA:zW ops l j=some b) (aS:b=want) (bq:∀ aB,Mod [] w aB→mh P l ⟨some d,op,ty,pos,af,none⟩ aB f args) (bj:∀ aB,Mod [] w aB→Calls P f args aB (bL fun u cN=>V u cN∧Mod [] aB cN)) (bY:Nat.blt d n=true) (bf:fu op=true) (cg:i' d l=none)
  (h:gw P ops w n Fin rest l ((d,V)::M)):gw P ops w n Fin (⟨some d,op,ty,pos,af,some (j,want)⟩::rest) l M:=by
 refine⟨V,X' dA aS (tj pk bY bf fun ρ aB h4 h1 aq=>?_),?_⟩
 ·rw [bq aB h4 ρ h1]
  exact⟨rfl,(bj aB h4).mono fun e cN he=>by cases e <;> first | exact⟨he.2,he.1⟩ | exact he⟩
 rw [ml rfl cg];exact h
theorem ama (dA:zW ops l j=some b) (aS:b≠want) (bY:Nat.blt d n=true) (h:gw P ops w n Fin rest ((d,undef)::l) M) :
  gw P ops w n Fin (⟨some d,op,ty,pos,af,some (j,want)⟩::rest) l M:=
 ⟨fun u _=>u=undef,al' dA aS bY,by rw [mj rfl];exact h⟩
/-! ## A call's begin and end -/
def tk (i:Nat):List Value→List (Nat×Value)
 | []=>[]
 | v::r=>(i,v)::tk (i+1) r
theorem sR:∀ (vs:List Value) (i t:Nat) (v:Value),i' t (tk i vs)=some v→i≤t∧vs[t-i]? = some v
 | [],_,_,_,h=>by simp [tk,i'] at h
 | u::r,i,t,v,h=>by
  simp only [tk,i'] at h
  cases aS:Nat.beq i t with
  | true=>
   rw [aS] at h
   have:=Nat.eq_of_beq_eq_true aS
   subst this
   exact⟨Nat.le_refl _,by simpa using h⟩
  | false=>
   rw [aS] at h
   obtain⟨h1,aq⟩:=sR r (i+1) t v h
   refine⟨by omega,?_⟩
   rw [show t-i=(t-(i+1))+1 by omega]
   simpa using aq
theorem enter {f:FuncId} {fn:Func} {c:Code} {vs:List Value} {asp:Ending→World→Prop} (dI:P.funcs[f]? = some fn) (aS:fn.body=some c) (ck:fn.ntmps=n) (hle:Nat.ble vs.length n=true) (bf:Sub (tk 0 vs) l)
  (h:p3 P c (bodyPost P fn asp) n [] l w):Calls P f vs.toArray w asp:=by
 have aaR:vs.length≤n:=by simpa using hle
 have ay:Has n [] (tk 0 vs) {tmps:=vs.toArray++Array.replicate (fn.ntmps-vs.toArray.size) undef,defers:=[]}:=by
  refine⟨by rw [Array.size_append,Array.size_replicate,List.size_toArray,ck];omega,rfl,fun t v bK=>?_⟩
  obtain⟨_,aq⟩:=sR vs 0 t v bK
  rw [Nat.sub_zero] at aq
  have bJ:=(List.getElem?_eq_some_iff.1 aq).1
  dsimp only
  rw [Array.getElem?_append_left (by simpa using bJ)]
  simpa using aq
 exact calls_of_wp dI aS (h _ (ay.sub bf))
variable {fn:Func} {xU:Value→World→Prop} {t t' ads:Nat} {v v' adt:Value}
theorem vg (ay:Has n ds l a) (h:i' t l=some v):a.tmps.getD t undef=v:=by simp [ay.get t v h]
theorem ahY (bq:fn.results = #[]) (h:xU (.tuple #[]) w):fI (bodyPost P fn (bL xU)) .ret n [] l w:=fun a ay=>⟨ay.defers,_,results_none bq _ _ _,h⟩
theorem Rh (bq:fn.results = #[]) (h:xU (.tuple #[]) w):fI (bodyPost P fn (bL xU)) .normal n [] l w:=fun a ay=>⟨ay.defers,_,results_none bq _ _ _,h⟩
theorem au (bq:fn.results = #[.tmp t]) (bK:i' t l=some v) (h:xU v w):fI (bodyPost P fn (bL xU)) .ret n [] l w:=fun a ay=>⟨ay.defers,_,results_tmp bq _ _ _,by rw [vg ay bK];exact h⟩
theorem ct (bq:fn.results = #[.tmp t,.tmp t']) (bK:i' t l=some v) (qj:i' t' l=some v') (h:xU (.tuple #[v,v']) w):fI (bodyPost P fn (bL xU)) .ret n [] l w:=fun a ay=>⟨ay.defers,_,results_tmp2 bq _ _ _,by rw [vg ay bK,vg ay qj];exact h⟩
theorem r8 (bq:fn.results = #[.tmp t,.tmp t',.tmp ads]) (bK:i' t l=some v) (qj:i' t' l=some v') (ahZ:i' ads l=some adt) (h:xU (.tuple #[v,v',adt]) w):fI (bodyPost P fn (bL xU)) .ret n [] l w:=fun a ay=>
 ⟨ay.defers,.tuple #[v,v',adt],by simp [results,bq,ay.get _ _ bK,ay.get _ _ qj,ay.get _ _ ahZ],h⟩
theorem kj {ad:Addr} {vs:List Value} {T c:Nat} (bq:fn.results = #[.cell t T]) (cf:rO P T c=true) (bK:i' t l=some (.pointer (some ad))) (bj:vs.length=c) (tI:ri w ad vs) (h:xU (.agg vs.toArray) w):fI (bodyPost P fn (bL xU)) .ret n [] l w:=fun a ay=>
 ⟨ay.defers,.agg vs.toArray,by simp [results,bq,ay.get _ _ bK,asAddr,hy cf bj tI],h⟩
theorem js {ad:Addr} {vs:List Value} {T c:Nat} (bq:fn.results = #[.cell t T,.tmp t']) (cf:rO P T c=true) (bK:i' t l=some (.pointer (some ad))) (bj:vs.length=c) (tI:ri w ad vs) (qj:i' t' l=some v') (h:xU (.tuple #[.agg vs.toArray,v']) w):fI (bodyPost P fn (bL xU)) .ret n [] l w:=fun a ay=>
 ⟨ay.defers,.tuple #[.agg vs.toArray,v'],by simp [results,bq,ay.get _ _ bK,ay.get _ _ qj,asAddr,hy cf bj tI],h⟩
end
section
variable {P:Program} {ops:Array Oper} {Q:Exit→Act→World→Prop} {n:Nat} {ds:List Deferred} {l:List (Nat×Value)} {M:List (Nat×(Value→World→Prop))} {w w':World} {Fin:kf→Prop} {rest:List Oper} {d:Nat} {op:Op} {ty:TypeId} {pos:String} {af:Array Edge} {j:Nat} {b c want:Bool} {v:Value} {x:Operand}
theorem aaG (dA:zW ops l j=some b) (aS:b=c) (h:ga P ops Q rest n ds ((d,undef)::l) w) (bj:(c != want)=true:=by exact rfl) (bY:Nat.blt d n=true:=by exact rfl):ga P ops Q (⟨some d,op,ty,pos,af,some (j,want)⟩::rest) n ds l w:=
 al9 dA (fun e=>by subst aS;subst e;simp at bj) bY h
theorem eV (dA:zW ops l j=some b) (aS:b=c) (h:gw P ops w n Fin rest ((d,undef)::l) M) (bj:(c != want)=true:=by exact rfl) (bY:Nat.blt d n=true:=by exact rfl):gw P ops w n Fin (⟨some d,op,ty,pos,af,some (j,want)⟩::rest) l M:=
 ama dA (fun e=>by subst aS;subst e;simp at bj) bY h
theorem ag (bq:bG P l ⟨some d,op,ty,pos,af,none⟩ w v w') (h:ga P ops Q rest n ds ((d,v)::l) w') (bY:Nat.blt d n=true:=by exact rfl):ga P ops Q (⟨some d,op,ty,pos,af,none⟩::rest) n ds l w:=fP bq bY h
theorem Cn (dA:zW ops l j=some b) (aS:b=want) (bq:bG P l ⟨some d,op,ty,pos,af,some (j,want)⟩ w v w') (h:ga P ops Q rest n ds ((d,v)::l) w') (bY:Nat.blt d n=true:=by exact rfl):ga P ops Q (⟨some d,op,ty,pos,af,some (j,want)⟩::rest) n ds l w:=lB dA aS bq bY h
theorem aG (ae:a6 l x=some v) (h:ga P ops Q rest n ds ((d,v)::l) w) (bY:Nat.blt d n=true:=by exact rfl):ga P ops Q (⟨some d,.move x,ty,pos,af,none⟩::rest) n ds l w:=fP (ec ae) bY h
theorem aT (ae:a6 l x=some v) (h:ga P ops Q rest n ds ((d,v)::l) w) (bY:Nat.blt d n=true:=by exact rfl):ga P ops Q (⟨some d,.assign x,ty,pos,af,none⟩::rest) n ds l w:=fP (cr ae) bY h
theorem J {K:Act→World→Prop} {y:Code} {Q2:Exit→Act→World→Prop} (p5:∀ n ds l w,p3 P y Q2 n ds l w→∀ a,Has n ds l a→K a w) (h:p3 P y Q2 n ds l w):ga P ops (Exit.then K Q) [] n ds l w:=cF (dU (p5 _ _ _ _ h))
theorem aw {K:Act→World→Prop} {y:Code} {Q2:Exit→Act→World→Prop} (p5:∀ n ds l w,p3 P y Q2 n ds l w→∀ a,Has n ds l a→K a w) (h:p3 P y Q2 n ds l w):fI (Exit.then K Q) .normal n ds l w:=dU (p5 _ _ _ _ h)
theorem ax {x y:Code} (h:∀ {K:Act→World→Prop},(∀ n ds l w,p3 P y Q n ds l w→∀ a,Has n ds l a→K a w)→p3 P x (Exit.then K Q) n ds l w):p3 P (.seq x y) Q n ds l w:=nm fun _ aq=>h aq
theorem ab {lo:List Oper} {id:Nat} {y:Code} (h:∀ {K:Act→World→Prop},(∀ n ds l w,p3 P y Q n ds l w→∀ a,Has n ds l a→K a w)→ga P lo.toArray (Exit.then K Q) lo n ds l w):p3 P (.seq (.region id lo.toArray false) y) Q n ds l w:=nm fun _ aq=>bQ (h aq)
theorem ai (bq:∀ {aB},Mod [] w aB→bG P l ⟨some d,op,ty,pos,af,none⟩ aB v aB) (h:gw P ops w n Fin rest ((d,v)::l) M) (bY:Nat.blt d n=true:=by exact rfl) (bf:fu op=true:=by exact rfl):gw P ops w n Fin (⟨some d,op,ty,pos,af,none⟩::rest) l M:=alA (fun _ e=>bq e) bY bf h
theorem aM (aS:b=want) (bq:∀ {aB},Mod [] w aB→bG P l ⟨some d,op,ty,pos,af,none⟩ aB v aB) (h:gw P ops w n Fin rest ((d,v)::l) M) (dA:zW ops l j=some b:=by exact rfl) (bY:Nat.blt d n=true:=by exact rfl) (bf:fu op=true:=by exact rfl):gw P ops w n Fin (⟨some d,op,ty,pos,af,some (j,want)⟩::rest) l M:=NX dA aS (fun _ e=>bq e) bY bf h
theorem ar (bq:bG P l ⟨some d,op,ty,pos,af,some (j,want)⟩ w v w') (h:ga P ops Q rest n ds ((d,v)::l) w') (dA:zW ops l j=some want:=by exact rfl) (bY:Nat.blt d n=true:=by exact rfl):ga P ops Q (⟨some d,op,ty,pos,af,some (j,want)⟩::rest) n ds l w:=lB dA rfl bq bY h
theorem cP {f:FuncId} {args:Array Value} (bq:mh P l ⟨some d,op,ty,pos,af,none⟩ w f args) (bj:Calls P f args w (bL fun u w'=>u=v∧Mod [] w w')) (h:∀ w',Mod [] w w'→ga P ops Q rest n ds ((d,v)::l) w') (bY:Nat.blt d n=true:=by exact rfl):ga P ops Q (⟨some d,op,ty,pos,af,none⟩::rest) n ds l w:=fA bq bj bY fun _ w' aA=>aA.1▸h w' aA.2
theorem fD {f:FuncId} {args:Array Value} (bq:mh P l ⟨some d,op,ty,pos,af,some (j,want)⟩ w f args) (bj:Calls P f args w (bL fun u w'=>u=v∧Mod [] w w')) (h:∀ w',Mod [] w w'→ga P ops Q rest n ds ((d,v)::l) w') (dA:zW ops l j=some want:=by exact rfl) (bY:Nat.blt d n=true:=by exact rfl):ga P ops Q (⟨some d,op,ty,pos,af,some (j,want)⟩::rest) n ds l w:=X9 dA rfl bq bj bY fun _ w' aA=>aA.1▸h w' aA.2
theorem bh {p:Prop} [h:Decidable p] (cp:p):decide p=true:=decide_eq_true cp
theorem bN {p:Prop} [h:Decidable p] (cp:¬ p):decide p=false:=decide_eq_false cp
theorem dO {a:Bool} (h:¬ a=true):a=false:=Bool.eq_false_iff.2 h
end
theorem bZ':(∀ b,(true&&b)=b)∧(∀ b,(b&&true)=b)∧(∀ b,(false&&b)=false)∧(∀ b,(b&&false)=false)∧(∀ b,(true||b)=true)∧(∀ b,(b||true)=true)∧(∀ b,(false||b)=b)∧(∀ b,(b||false)=b)∧(!true)=false∧(!false)=true:=by simp
section
variable {A A' M:List Nat} {w w':World}
theorem ba.bB {d:D} {u:Value} (h:ba A w d u) (k:Mod [] w w'):ba A w' d u:=ba.to k (by simp) (fun x ae=>.inl ae) d u h
theorem ba.toM {d:D} {u:Value} (h:ba A w d u) (k:Mod M w w') (eY:∀ x∈M,x∈A):ba A w' d u:=ba.to k eY (fun x ae=>.inl ae) d u h
theorem ba.e9 {d:D} {u:Value} (h:ba A w d u) (dF:∀ x∈A',x∈A):ba A' w d u:=ba.to (Mod.refl [] w) (by simp) (fun x ae=>.inl (dF x ae)) d u h
theorem ba.more {d:D} {u:Value} (h:ba A w d u) (dF:∀ x∈A',x∈A∨w.heap.size≤x):ba A' w d u:=ba.to (Mod.refl [] w) (by simp) dF d u h
theorem ao.bB {ds:List D} {us:List Value} (h:ao A w ds us) (k:Mod [] w w'):ao A w' ds us:=ao.to k (by simp) (fun x ae=>.inl ae) ds us h
theorem ao.toM {ds:List D} {us:List Value} (h:ao A w ds us) (k:Mod M w w') (eY:∀ x∈M,x∈A):ao A w' ds us:=ao.to k eY (fun x ae=>.inl ae) ds us h
theorem ao.e9 {ds:List D} {us:List Value} (h:ao A w ds us) (dF:∀ x∈A',x∈A):ao A' w ds us:=ao.to (Mod.refl [] w) (by simp) (fun x ae=>.inl (dF x ae)) ds us h
theorem ao.more {ds:List D} {us:List Value} (h:ao A w ds us) (dF:∀ x∈A',x∈A∨w.heap.size≤x):ao A' w ds us:=ao.to (Mod.refl [] w) (by simp) dF ds us h
/-! ### rows of values that are their own reading -/
variable {α:Type}
def flat (sz:Nat) (cells:α→List Value) (xs:List α):D:=.ie sz (xs.map fun x=>(cells x).map D.v)
theorem El:∀ {cs us:List Value},ao A w (cs.map D.v) us→us=cs
 | [],us,h=>by simpa [ao] using h
 | c::cs,us,h=>by
  simp only [List.map_cons,ao] at h
  obtain⟨u,gb,rfl,h1,aq⟩:=h
  rw [h1.l4,El aq]
theorem zY:∀ {cs:List Value},(∀ c∈cs,c.oneCell'=true)→ao A w (cs.map D.v) cs
 | [],_=>rfl
 | c::cs,h=>ao.gL (ba.cO (h c (by simp))) (zY fun x ae=>h x (by simp [ae]))
theorem eN {sz:Nat} {cells:α→List Value} {xs:List α} {u:Value} (h:ba A w (flat sz cells xs) u):∃ ad c,u = .slice ad xs.length c∧xs.length≤c∧c≤9223372036854775807:=by
 obtain⟨ad,c,h1,aq,aU⟩:=h.uu;simp only [List.length_map] at h1 aq;exact⟨ad,c,h1,aq,aU⟩
theorem dW {sz n c i:Nat} {cells:α→List Value} {xs:List α} {ad:Option Addr} {x:α} (h:ba A w (flat sz cells xs) (.slice ad n c)) (hi:xs[i]? = some x):∃ a,ad=some a∧ri w (a.add (i*sz)) (cells x)∧(cells x).length=sz:=by
 obtain⟨a,us,h1,aq,aU,bM,_⟩:=ba.at_ (i:=i) (r:=(cells x).map D.v) h (by simp [hi]);have:=El aq;subst this;exact⟨a,h1,bM,aU⟩
theorem tl (cells:α→List Value) (xs:List α):(xs.map fun x=>(cells x).map D.v).flatten=((xs.map cells).flatten).map D.v:=by
 induction xs with
 | nil=>rfl
 | cons x xs dK=>simp [dK]
theorem Own.flat {e sz n:Nat} {v:Value} {cells:α→List Value} {xs:List α} (h:Own w e sz v n ((xs.map cells).flatten)) (cg:∀ x∈xs,(cells x).length=sz) (h1:∀ x∈xs,∀ c∈cells x,c.oneCell'=true) (ck:xs.length=n) (dF:∀ x∈a1 v,x∉A):ba A w (flat sz cells xs) v:=by
 refine h.rep ?_ ?_ (by simpa using ck) dF
 ·rw [tl];exact zY fun c bj=>by
   obtain⟨cs,aq,aU⟩:=List.mem_flatten.1 bj;obtain⟨x,bM,rfl⟩:=List.mem_map.1 aq;exact h1 x bM c aU
 intro r bq;obtain⟨x,bM,rfl⟩:=List.mem_map.1 bq;simp [cg x bM]
theorem Src.flat {P:Program} {qY xe sz:Nat} {cells:α→List Value} {xs:List α} {v:Value} (hk:P.underlying qY=some (.slice xe)) (h:ba A w (flat sz cells xs) v):Src P sz qY v xs.length ((xs.map cells).flatten) w:=by
 obtain⟨vs,h1,aq,aU⟩:=Src.rep (P:=P) hk h;rw [tl] at h1;have:=El h1;subst this;simpa using aU
end
/-! ## Structs held against each other -/
section
variable {P:Program} {n:Nat} {l:List (Nat×Value)} {w w':World}
variable {d:Nat} {ty:TypeId} {pos:String} {af:Array Edge}
variable {dd:Option Nat} {gg:Option (Nat×Bool)} {x y z:Operand} {t t':TypeId}
def ah0:Value→Value→Option Bool
 | .int _ a,.int _ b=>some (decide (a=b))
 | .bool a,.bool b=>some (decide (a=b))
 | .string a,.string b=>some (decide (a.data.toList=b.data.toList))
 | _,_=>none
def CB:List Value→List Value→Option Bool
 | [],[]=>some true
 | u::us,v::vs=>match ah0 u v,CB us vs with
  | some a,some b=>some (a&&b)
  | _,_=>none
 | _,_=>none
def okF (P:Program):List Field→Nat→List Value→List Value→Bool
 | [],_,[],[]=>true
 | f::p4,i,u::us,v::vs=>f.name != "_" && f.offset == i&&nM P f.type&&(match P.underlying f.type,u,v with
  | some (.int _),.int k _,.int iC _=>k == iC
  | some .bool,.bool _,.bool _=>true
  | some .string,.string _,.string _=>true
  | _,_,_=>false)&&okF P p4 (i+1) us vs
 | _,_,_,_=>false
def Ya (P:Program) (t:Nat) (us vs:List Value):Bool:=match P.underlying t with
 | some (.struct p4)=>!P.stoodInHeld t && !P.eqGuardType P.depth t&&okF P p4.toList 0 us vs
 | _=>false
theorem tm {dp:Nat}:∀ (p4:List Field) (i:Nat) (us vs:List Value) (xs yd:Array Value) (b:Bool),okF P p4 i us vs=true→(∀ j u,us[j]? = some u→xs[i+j]? = some u)→(∀ j u,vs[j]? = some u→yd[i+j]? = some u)→CB us vs=some b→
  (Op.eqFields (dp+1) xs yd p4).run P w = .ok b w
 | [],i,us,vs,xs,yd,b,h,ae,aY,aS=>by
  cases us <;> cases vs <;> simp [okF] at h
  simp [CB] at aS
  subst aS
  simp [Op.eqFields]
 | f::p4,i,us,vs,xs,yd,b,h,ae,aY,aS=>by
  cases us with
  | nil=>simp [okF] at h
  | cons u us=>
   cases vs with
   | nil=>simp [okF] at h
   | cons v vs=>
    simp only [okF,Bool.and_eq_true,bne_iff_ne,ne_eq,beq_iff_eq] at h
    obtain⟨⟨⟨⟨h1,aq⟩,aU⟩,bM⟩,cL⟩:=h
    obtain⟨XV,inf,eW,kz,kq,k0⟩:=sO aU
    simp only [CB] at aS
    split at aS
    rotate_left
    ·cases aS
    rename_i dn eJ bk b2
    injection aS with aS
    have dK:=tm (dp:=dp) p4 (i+1) us vs xs yd eJ cL (fun j mU d'=>by have:=ae (j+1) mU (by simpa using d');rwa [show i+(j+1)=i+1+j by omega] at this) (fun j mU d'=>by have:=aY (j+1) mU (by simpa using d');rwa [show i+(j+1)=i+1+j by omega] at this) b2
    have ah1:=ae 0 u rfl
    have NY:=aY 0 v rfl
    rw [Nat.add_zero] at ah1 NY
    have MS:(part f.type xs f.offset).run P w = .ok u w:=by simp [part,kK eW,kq,aq,ah1]
    have IX:(part f.type yd f.offset).run P w = .ok v w:=by simp [part,kK eW,kq,aq,NY]
    have e:(Op.equalIn (dp+1) f.type u v).run P w = .ok dn w:=by
     rw [eW] at bM
     cases XV <;> cases u <;> (try (simp at bM;done)) <;> cases v <;> (try (simp at bM;done)) <;> simp only [ah0] at bk <;> injection bk with bk <;> subst bk
     ·rw [run_equalIn_bool' w dp f.type _ _ eW,sd]
     ·simp only [beq_iff_eq] at bM
      subst bM
      rw [run_equalIn_int w dp f.type _ _ _ _ eW,sd]
     rw [run_equalIn_string w dp f.type _ _ eW,ByteArray.toList_eq,ByteArray.toList_eq,sd]
    simp only [Op.eqFields,h1,ne_eq,not_false_eq_true,if_true,Sem.run_bind,MS,IX,e,Result.andThen_ok]
    cases dn
    ·simp at aS ⊢
     exact aS
    simp at aS ⊢
    rw [dK,aS]
theorem NZ {us vs:List Value} {b:Bool} (bf:Ya P t us vs=true) (aS:CB us vs=some b) (x y:Operand):((do eqGuard .neq t x y (.agg us.toArray) (.agg vs.toArray);binOp .neq t (.agg us.toArray) (.agg vs.toArray)):Sem Value).run P w = .ok (.bool (!b)) w:=by
 unfold Ya at bf
 split at bf
 ·rename_i p4 h1
  simp only [Bool.and_eq_true,Bool.not_eq_true'] at bf;obtain⟨⟨aq,aU⟩,bM⟩:=bf;have cL:P.fieldsOf t=p4:=by simp [Program.fieldsOf,h1]
  have eW:=run_equalIn_agg (P:=P) w 9999 t us.toArray vs.toArray (by rw [cL];exact h1) aq;rw [cL] at eW;have kz:=tm (P:=P) (w:=w) (dp:=9998) p4.toList 0 us vs us.toArray vs.toArray b bM (fun j u d'=>by simpa using d') (fun j u d'=>by simpa using d') aS;rw [Sem.run_bind,run_eqGuard_agg w .neq t x y _ _ aU];simp only [Result.andThen_ok];rw [run_neq_struct];rw [show(10000:Nat)=9999+1 from rfl,eW,show(9999:Nat)=9998+1 from rfl,kz];rfl
 cases bf
theorem LO {us vs:List Value} {b:Bool} (bf:Ya P t us vs=true) (ae:a6 l x=some (.agg us.toArray)) (aY:a6 l y=some (.agg vs.toArray)) (aS:CB us vs=some b):bG P l ⟨dd,.binOp .neq t x y t',ty,pos,af,gg⟩ w (.bool (!b)) w:=fun ρ h=>by
 have:=NZ (w:=w) bf aS x y;simp only [execOp,h _ _ ae,h _ _ aY,Sem.run_bind];rw [Sem.run_bind] at this;rw [this];rfl
end
/-! ## Regions that draw: some operations first, a head in whatever order, a tail one behind the other
'ps': operations that touch no memory (their value is the same in all worlds): they may be taken first. 'hs': the head. 'ts': the tail: each waits for the one ahead of it, the first for the head. -/
section
variable {P:Program} {ops:Array Oper} {md:Region.Mode} {asp:World→World→Prop} {C:World→Prop} {n:Nat} {ds:List Deferred} {Q:Exit→Act→World→Prop} {w w':World} {l:List (Nat×Value)} {a:Act}
def lM (listed:Array Bool):List Nat→Array Bool
 | []=>listed
 | i::r=>lM (listed.setIfInBounds i true) r
def qt (md:Region.Mode) (ops:Array Oper):List Nat→Array Bool→Bool
 | [],listed=>(Region.ready md ops listed).isEmpty
 | t::gV,listed=>decide (Region.ready md ops listed = [t])&&qt md ops gV (listed.setIfInBounds t true)
def zZ (md:Region.Mode) (ops:Array Oper) (gV:List Nat):List Nat→Array Bool→Bool
 | [],listed=>qt md ops gV listed
 | i::bf,listed=>(Region.ready md ops listed).contains i&&Region.free md ops listed i&&zZ md ops gV bf (listed.setIfInBounds i true)
def wL (md:Region.Mode) (ops:Array Oper):List Nat→Array Bool→Bool
 | [],_=>true
 | i::ia,listed=>(Region.ready md ops listed).contains i&&Region.free md ops listed i&&wL md ops ia (listed.setIfInBounds i true)
def z1 (md:Region.Mode) (ops:Array Oper) (t0:Nat):List Nat→Bool
 | []=>true
 | i::bf=>(bf ++ [t0]).any (fun j=>Region.waitsFor md ops j i)&&z1 md ops t0 bf
def yg (md:Region.Mode) (ops:Array Oper):Nat→List Nat→Bool
 | _,[]=>true
 | p,t::gV=>Region.waitsFor md ops t p&&yg md ops t gV
def GR (md:Region.Mode) (ops:Array Oper) (listed:Array Bool):Bool:=
 (List.range ops.size).all fun j=>!listed.getD j false||match ops[j]? with
  | some sP=>sP.after.all fun e=>!Region.binds md e||listed.getD e.on false
  | none=>true
structure qu (md:Region.Mode) (ops:Array Oper) (bf:List Nat) (gV:List Nat) (listed:Array Bool):Prop where
 size:listed.size=ops.size
 closed:∀ j sP,ops[j]? = some sP→listed.getD j false=true→∀ e∈sP.after,Region.binds md e=true→listed.getD e.on false=true
 tail:∀ t∈gV,listed.getD t true=false
theorem qu.set {bf gV:List Nat} {i:Nat} {listed:Array Bool} (inv:qu md ops bf gV listed) (hi:i∈Region.ready md ops listed) (Sf:i∉gV):qu md ops bf gV (listed.setIfInBounds i true):=by
 obtain⟨_,A5,amb,kp⟩:=mem_ready.1 hi;refine⟨by simp [inv.size],fun j sP d' cg e he aS=>?_,fun t cf=>by rw [getD_set_ne true (fun e=>by subst e;exact Sf cf)];exact inv.tail t cf⟩
 by_cases xC:i=j
 ·subst xC;have:sP=A5:=Option.some.inj (d'.symm.trans amb);subst this;exact getD_set_true (kp e he aS)
 rw [getD_set_ne false xC] at cg;exact getD_set_true (inv.closed j sP d' cg e he aS)
theorem vh {ts0:List Nat} {listed:Array Bool}:∀ (gV:List Nat) (p:Nat),(∀ t∈p::gV,t∈ts0)→yg md ops p gV=true→(∀ t∈ts0,listed.getD t true=false)→∀ t∈gV,t∉Region.ready md ops listed
 | [],_,_,_,_,t,cf=>by cases cf
 | t1::gV,p,j0,bj,k9,t,cf=>by
  simp only [yg,Bool.and_eq_true] at bj
  rcases List.mem_cons.1 cf with rfl | DY
  ·intro bq
   obtain⟨_,ah2,Si,kp⟩:=mem_ready.1 bq
   obtain⟨vd,Sb,e,he,aS,N1⟩:=Region.waitsFor_spec bj.1
   have:vd=ah2:=Option.some.inj (Sb.symm.trans Si)
   subst this
   have aq:=kp e he aS
   rw [N1,getD_both (k9 p (j0 p (by simp)))] at aq
   cases aq
  exact vh gV t1 (fun t cf=>j0 t (by simp at cf ⊢;exact .inr cf)) bj.2 k9 t DY
theorem pG {t0:Nat} {listed:Array Bool} (im:listed.size=ops.size) (lE:∀ j sP,ops[j]? = some sP→listed.getD j false=true→∀ e∈sP.after,Region.binds md e=true→listed.getD e.on false=true) :
  ∀ (bf:List Nat),z1 md ops t0 bf=true→∀ i∈bf,listed.getD i true=false→t0∉Region.ready md ops listed
 | [],_,i,hi,_=>by cases hi
 | b3::bf,cg,i,hi,k9=>by
  simp only [z1,Bool.and_eq_true] at cg
  rcases List.mem_cons.1 hi with rfl | amc
  rotate_left
  ·exact pG im lE bf cg.2 i amc k9
  obtain⟨j,d',hw⟩:=List.any_eq_true.1 cg.1
  obtain⟨sP,xV,e,he,aS,N1⟩:=Region.waitsFor_spec hw
  rcases List.mem_append.1 d' with u5 | u5
  ·cases ah3:listed.getD j false with
   | true=>
    have aq:=lE j sP xV ah3 e he aS
    rw [N1,getD_both k9] at aq
    cases aq
   | false=>
    have amd:j<listed.size:=by rw [im];exact(Array.getElem?_eq_some_iff.1 xV).1
    exact pG im lE bf cg.2 j u5 (getD_in amd ah3)
  simp only [List.mem_singleton] at u5
  subst u5
  intro bq
  obtain⟨_,ah2,Si,kp⟩:=mem_ready.1 bq
  have:sP=ah2:=Option.some.inj (xV.symm.trans Si)
  subst this
  have aq:=kp e he aS
  rw [N1,getD_both k9] at aq
  cases aq
def CC (P:Program) (md:Region.Mode) (ops:Array Oper) (asp:World→World→Prop) (C:World→Prop) (n:Nat) (gV:List Nat) (L:Array Bool→kf→Prop):Nat→Array Bool→kf→Prop
 | 0,listed,N=>L listed N
 | f+1,listed,N=>Region.ready md ops listed≠[]∧
  ∀ i∈Region.ready md ops listed,i∉gV∧∀ o,ops[i]? = some o→∃ V,ass P ops asp C n N o V∧CC P md ops asp C n gV L f (listed.setIfInBounds i true) (N.put o V)
theorem sh {L:Array Bool→kf→Prop} {w0:World} {ds:List Deferred} {gV:List Nat} {g:Nat} (pc:zT asp C)
  (vc:∀ listed N a w,N.lasts asp→a.defers=ds→C w→asp w0 w→N.all n a w→L listed N→wpAny P md ops Q g listed a w):∀ (f:Nat) (listed:Array Bool) (N:kf) (a:Act) (w:World),N.lasts asp→a.defers=ds→C w→asp w0 w→N.all n a w→
  CC P md ops asp C n gV L f listed N→wpAny P md ops Q (f+g) listed a w
 | 0,listed,N,a,w,b3,h1,aq,aU,bM,h=>by rw [Nat.zero_add];exact vc listed N a w b3 h1 aq aU bM h
 | f+1,listed,N,a,w,b3,h1,aq,aU,bM,h=>by
  rw [show f+1+g=(f+g)+1 by omega]
  refine⟨fun bq=>absurd bq h.1,fun i hi=>?_⟩
  obtain⟨_,o,eo,_⟩:=mem_ready.1 hi
  obtain⟨V,rG,ha⟩:=(h.2 i hi).2 o eo
  exact ud pc b3 eo rG aq bM fun ye w' bY h4 iQ h7=>sh pc vc f _ _ ye w' (b3.put rG.lasts) (bY.trans h1) h4 (pc.trans _ _ _ aU iQ) h7 ha
theorem xy {i:Nat} {A5:Oper} {V:Value→World→Prop} {L:Array Bool→kf→Prop} {s0 gV:List Nat} (hi:ops[i]? = some A5) (Sf:i∉gV)
  (hw:∀ listed,qu md ops s0 gV listed→listed.getD i true=false→∀ t∈gV,t∉Region.ready md ops listed)
  (Ju:∀ listed N,L listed N→∀ j∈Region.ready md ops listed,j∈gV) :
  ∀ (f:Nat) (listed:Array Bool) (N:kf),qu md ops s0 gV listed→
   (∀ j sP,ops[j]? = some sP→j≠i→listed.getD j true=false→(∀ e∈sP.after,Region.binds md e=true→e.on≠i)→A5.apart ops sP=true)→
   i∈Region.ready md ops listed→ass P ops asp C n N A5 V→
   CC P md ops asp C n gV L f (listed.setIfInBounds i true) (N.put A5 V)→CC P md ops asp C n gV L (f+1) listed N:=by
 intro f
 induction f with
 | zero=>
  intro listed N inv _ bq rG H
  have k9:=(mem_ready.1 bq).1
  refine⟨fun h=>(by rw [h] at bq;cases bq),fun j d'=>?_⟩
  have BC:j∉gV:=fun cf=>hw listed inv k9 j cf d'
  refine⟨BC,fun o eo=>?_⟩
  by_cases nc:j=i
  ·subst nc
   have:o=A5:=Option.some.inj (eo.symm.trans hi)
   subst this
   exact⟨V,rG,H⟩
  exact absurd (Ju _ _ H j (ready_mono d' nc)) BC
 | succ f dK=>
  intro listed N inv se bq rG H
  have k9:=(mem_ready.1 bq).1
  refine⟨fun h=>(by rw [h] at bq;cases bq),fun j d'=>?_⟩
  have BC:j∉gV:=fun cf=>hw listed inv k9 j cf d'
  refine⟨BC,fun o eo=>?_⟩
  by_cases nc:j=i
  ·subst nc
   have:o=A5:=Option.some.inj (eo.symm.trans hi)
   subst this
   exact⟨V,rG,H⟩
  obtain⟨Sc,Sd,ha⟩:=(H.2 j (ready_mono d' nc)).2 o eo
  obtain⟨xv,sP,xV,kp⟩:=mem_ready.1 d'
  have:o=sP:=Option.some.inj (eo.symm.trans xV)
  subst this
  have ql:∀ e∈o.after,Region.binds md e=true→e.on≠i:=fun e he aS heq=>by
   have h1:=kp e he aS
   rw [heq,getD_both k9] at h1
   cases h1
  obtain⟨pb,a2,a3⟩:=Oper.apart_spec (se j o xV nc xv ql)
  refine⟨Sc,Sd.past pb,dK (listed.setIfInBounds j true) (N.put o Sc) (inv.set d' BC) (fun k ok hk Se k9 kA=>?_) (ready_mono bq (Ne.symm nc)) (rG.ahead a3) ?_⟩
  ·refine se k ok hk Se ?_ kA
   by_cases GM:j=k
   ·subst GM;exact xv
   rw [getD_set_ne true GM] at k9;exact k9
  rw [Array.setIfInBounds_comm _ _ nc,← kf.put_comm N V Sc a2]
  exact ha
def pick (ops:Array Oper) (is:List Nat):List Oper:=is.filterMap (ops[·]?)
theorem GS {gV:List Nat} {listed:Array Bool} (h:qt md ops gV listed=true):∀ j∈Region.ready md ops listed,j∈gV:=by
 cases gV with
 | nil=>intro j d';simp only [qt,List.isEmpty_iff] at h;rw [h] at d';cases d'
 | cons t gV=>
  intro j d';simp only [qt,Bool.and_eq_true,decide_eq_true_eq] at h;rw [h.1] at d';simp only [List.mem_singleton] at d';exact d'▸List.mem_cons_self ..
theorem CD {s0 gV:List Nat} {Fin:kf→Prop} (hw:∀ listed,qu md ops s0 gV listed→(∃ i∈s0,listed.getD i true=false)→∀ t∈gV,t∉Region.ready md ops listed) :
  ∀ (bf:List Nat) (listed:Array Bool) (N:kf),(∀ i∈bf,i∈s0)→(∀ i∈bf,i∉gV)→qu md ops s0 gV listed→
  zZ md ops gV bf listed=true→TW P ops asp C n Fin (pick ops bf) N→
  CC P md ops asp C n gV (fun nd aaP=>qt md ops gV nd=true∧Fin aaP) bf.length listed N
 | [],listed,N,_,_,_,eh,h=>⟨by simpa [zZ] using eh,h⟩
 | i::bf,listed,N,j0,Jw,inv,eh,h=>by
  simp only [zZ,Bool.and_eq_true] at eh
  obtain⟨⟨bq,dI⟩,Ej⟩:=eh
  have oK:i∈Region.ready md ops listed:=by simpa using bq
  obtain⟨k9,o,eo,_⟩:=mem_ready.1 oK
  have cp:pick ops (i::bf)=o::pick ops bf:=by simp [pick,List.filterMap_cons,eo]
  rw [cp] at h
  obtain⟨V,rG,ha⟩:=h
  exact xy eo (Jw i (by simp)) (fun listed inv hu=>hw listed inv ⟨i,j0 i (by simp),hu⟩) (fun nd aaP pc=>GS pc.1) bf.length listed N inv (Region.free_spec eo dI) oK rG
   (CD hw bf _ _ (fun i hi=>j0 i (by simp [hi])) (fun i hi=>Jw i (by simp [hi])) (inv.set oK (Jw i (by simp))) Ej ha)
theorem lN:∀ (gV:List Nat) (listed:Array Bool) (a:Act) (w:World),qt md ops gV listed=true→wpList P ops Q (pick ops gV) a w→wpAny P md ops Q gV.length listed a w
 | [],listed,a,w,eh,h=>⟨by simpa [qt] using eh,h⟩
 | t::gV,listed,a,w,eh,h=>by
  simp only [qt,Bool.and_eq_true,decide_eq_true_eq] at eh
  have bq:t∈Region.ready md ops listed:=by rw [eh.1];simp
  obtain⟨_,o,eo,_⟩:=mem_ready.1 bq
  have cp:pick ops (t::gV)=o::pick ops gV:=by simp [pick,List.filterMap_cons,eo]
  rw [cp] at h
  refine⟨fun h1=>(by rw [eh.1] at h1;cases h1),fun i hi=>?_⟩
  rw [eh.1] at hi
  have ame:i=t:=by simpa using hi
  subst ame
  have hw:wpOp P ops Q i (wpList P ops Q (pick ops gV)) a w:=by unfold wpOp;simp only [eo];exact h
  exact wpOp_mono (fun ye w' fh=>lN gV _ ye w' eh.2 fh) hw
def Yb (P:Program) (n:Nat) (K:List (Nat×Value)→Prop):List Oper→List (Nat×Value)→Prop
 | [],l=>K l
 | o::rest,l=>∃ d v,o.dst=some d∧o.guard=none∧fu o.op=true∧Nat.blt d n=true∧(∀ w,bG P l o w v w)∧Yb P n K rest ((d,v)::l)
theorem iN {K:List (Nat×Value)→Prop} (h:K l):Yb P n K [] l:=h
theorem WB {K:List (Nat×Value)→Prop} {rest:List Oper} {d:Nat} {op:Op} {ty:TypeId} {pos:String} {af:Array Edge} {v:Value} (bq:∀ w,bG P l ⟨some d,op,ty,pos,af,none⟩ w v w) (bY:Nat.blt d n=true) (bf:fu op=true) (h:Yb P n K rest ((d,v)::l)) :
  Yb P n K (⟨some d,op,ty,pos,af,none⟩::rest) l:=⟨d,v,rfl,rfl,bf,bY,bq,h⟩
theorem pH (CE:∀ c a w,¬ Q (.panic c) a w) (ti:∀ (j:Nat) (o:Oper) cs b,ops[j]? = some o→o.op≠.select cs b) {K:List (Nat×Value)→Prop} {g:Nat}:∀ (ia:List Nat) (listed:Array Bool) (l:List (Nat×Value)) (a:Act),Has n ds l a→wL md ops ia listed=true→Yb P n K (pick ops ia) l→
  (∀ l a,Has n ds l a→K l→wpAny P md ops Q g (lM listed ia) a w)→wpAny P md ops Q (ia.length+g) listed a w
 | [],listed,l,a,ay,_,h,p5=>by
  have:([]:List Nat).length+g=g:=by simp
  rw [this]
  exact p5 l a ay h
 | i::ia,listed,l,a,ay,eh,h,p5=>by
  simp only [wL,Bool.and_eq_true] at eh
  obtain⟨⟨bq,dI⟩,Ej⟩:=eh
  have oK:i∈Region.ready md ops listed:=by simpa using bq
  obtain⟨_,o,eo,_⟩:=mem_ready.1 oK
  have cp:pick ops (i::ia)=o::pick ops ia:=by simp [pick,List.filterMap_cons,eo]
  rw [cp] at h
  obtain⟨d,v,h1,aq,aU,bM,cL,eW⟩:=h
  have hlen:(i::ia).length+g=(ia.length+g)+1:=by simp;omega
  rw [hlen]
  have aY:Yields P ops o v a:=.inl ⟨by simp [Region.wanted,aq],fun w=>cL w a.eval (fun x u ae=>ay.rD ae)⟩
  have wJ:Has n ds ((d,v)::l) (a.put o.dst v):=by rw [h1];exact ay.put bM v
  exact wpAny_first eo ti (fun c a w e5=>absurd e5 (CE c _ w)) (ia.length+g) listed a w (Region.free_spec eo dI) oK aY
   (pH CE ti ia (listed.setIfInBounds i true) ((d,v)::l) (a.put o.dst v) wJ Ej eW p5)
def Sj (ops:Array Oper) (ia bf:List Nat) (t0:Nat) (gV:List Nat):Bool:=
 Region.noSelect ops&&decide (ia.length+(bf.length+(gV.length+1))=ops.size)&&wL .any ops ia (Array.replicate ops.size false) &&
 GR .any ops (lM (Array.replicate ops.size false) ia)&&(t0::gV).all (fun t=>!(lM (Array.replicate ops.size false) ia).getD t true) &&
 bf.all (fun i=>!(t0::gV).contains i)&&z1 .any ops t0 bf&&yg .any ops t0 gV&&zZ .any ops (t0::gV) bf (lM (Array.replicate ops.size false) ia)
theorem ue:∀ (ia:List Nat) (listed:Array Bool),(lM listed ia).size=listed.size
 | [],_=>rfl
 | i::ia,listed=>by simp [lM,ue ia]
theorem jI {id:Nat} {lo:List Oper} (ia bf:List Nat) (t0:Nat) (gV:List Nat) (hm:P.follows .mixedOrders=true) (eh:Sj lo.toArray ia bf t0 gV=true) (CE:∀ c a w,¬ Q (.panic c) a w)
  (h:Yb P n (fun l=>gw P lo.toArray w n (fun N=>∀ a w',a.defers=ds→Mod [] w w'→N.all n a w'→wpList P lo.toArray Q (pick lo.toArray (t0::gV)) a w') (pick lo.toArray bf) l []) (pick lo.toArray ia) l):p3 P (.region id lo.toArray true) Q n ds l w:=by
 intro a ay
 unfold Sj at eh
 simp only [Bool.and_eq_true,decide_eq_true_eq] at eh
 obtain⟨⟨⟨⟨⟨⟨⟨⟨ti,hlen⟩,cp⟩,lE⟩,Bf⟩,adu⟩,Jx⟩,adv⟩,GU⟩:=eh
 refine wp_region_any hm ?_
 rw [← hlen]
 have im:(lM (Array.replicate lo.toArray.size false) ia).size=lo.toArray.size:=by rw [ue];simp
 have Sk:∀ t∈t0::gV,(lM (Array.replicate lo.toArray.size false) ia).getD t true=false:=fun t cf=>by
  have:=List.all_eq_true.1 Bf t cf
  simpa using this
 have GN:qu .any lo.toArray bf (t0::gV) (lM (Array.replicate lo.toArray.size false) ia):=by
  refine⟨im,fun j sP d' cg e he aS=>?_,Sk⟩
  have h1:=List.all_eq_true.1 lE j (List.mem_range.2 (Array.getElem?_eq_some_iff.1 d').1)
  rw [cg,d'] at h1
  simp only [Bool.not_true,Bool.false_or,Array.all_eq_true_iff_forall_mem] at h1
  have aq:=h1 e he
  rw [aS] at aq
  simpa using aq
 have hw:∀ listed,qu .any lo.toArray bf (t0::gV) listed→(∃ i∈bf,listed.getD i true=false)→∀ t∈t0::gV,t∉Region.ready .any lo.toArray listed:=by
  rintro listed inv ⟨i,hi,k9⟩ t cf
  rcases List.mem_cons.1 cf with rfl | DY
  ·exact pG inv.size inv.closed bf Jx i hi k9
  exact vh (ts0:=t0::gV) gV t0 (fun t h=>h) adv inv.tail t DY
 have Jy:(Array.replicate (ia.length+(bf.length+(gV.length+1))) false)=Array.replicate lo.toArray.size false:=by rw [hlen]
 rw [Jy]
 refine pH (n:=n) (ds:=ds) CE (Region.noSelect_spec ti) ia _ l a ay cp h fun l a ay jG=>?_
 have H:=CD (md:=.any) hw bf _ (rH l []) (fun i hi=>hi) (fun i hi=>by
  have:=List.all_eq_true.1 adu i hi
  simpa using this) GN GU jG
 exact sh (n:=n) (ds:=ds) (w0:=w) (Q:=Q) (g:=gV.length+1) (later w) (fun listed N a w' _ bY h4 _ h7 pc=>lN (md:=.any) (t0::gV) listed a w' pc.1 (pc.2 a w' bY h4 h7)) _ _ (rH l []) a _ (sQ l) ay.defers (Mod.drew [] w) (Mod.drew [] w) (yf ay) H
end
section
variable {P:Program} {ops:Array Oper} {Q:Exit→Act→World→Prop} {n:Nat} {ds:List Deferred} {l:List (Nat×Value)} {w w':World} {a:Act}
variable {rest:List Oper} {d:Nat} {op:Op} {ty:TypeId} {pos:String} {af:Array Edge}
variable {dd:Option Nat} {gg:Option (Nat×Bool)} {x y z:Operand} {t t':TypeId} {k iC:IntKind} {m gr r:Int}
/-! ## Operations whose value is told in other words -/
theorem Own.put {e sz c g:Nat} {v:Value} {vs:List Value} (h:Own w e sz v c vs) (k:Mod [g] w w') (D:∀ x∈a1 v,x≠g):Own w' e sz v c vs:=h.mod k fun x ae dA=>D x ae (by simpa using dA)
theorem kt.b8 {e sz c g T:Nat} {cs:List Value} {v:Value} {vs:List Value} (N:kt w w' g T cs) (h:Own w e sz v c vs):∀ x∈a1 v,x≠g:=fun x ae=>Nat.ne_of_lt (N.at_▸h.lt x ae)
theorem App.ne {e sz c g T:Nat} {cs:List Value} {v v':Value} {vs:List Value} (h:App w w' e sz v v' c vs) (D:∀ x∈a1 v,x≠g) (B:aF w g T cs):∀ x∈a1 v',x≠g:=fun x ae=>by
 rcases h.lZ x ae with h1 | h1
 ·exact D x h1
 have:=B.lt;omega
theorem App.ge {e sz c:Nat} {w0:World} {M:List Nat} {v v':Value} {vs:List Value} (h:App w w' e sz v v' c vs) (L:∀ x∈a1 v,w0.heap.size≤x) (E:Mod M w0 w):∀ x∈a1 v',w0.heap.size≤x:=fun x ae=>by
 rcases h.lZ x ae with h1 | h1
 ·exact L x h1
 exact Nat.le_trans E.size h1
theorem ri.I {ad:Addr} {vs:List Value} (h:ri w ad vs) (k:Mod [] w w'):ri w' ad vs:=h.mod k (by simp)
theorem lU {b:Bool} {u:Value} (aS:b=true) (ae:a6 l x=some (.bool b)) (aY:a6 l y=some u):bG P l ⟨dd,.pick x y z,ty,pos,af,gg⟩ w u w:=fun ρ h=>by
 subst aS;simp [execOp,h _ _ ae,h _ _ aY,asBool]
theorem ji {b:Bool} {v:Value} (aS:b=false) (ae:a6 l x=some (.bool b)) (dk:a6 l z=some v):bG P l ⟨dd,.pick x y z,ty,pos,af,gg⟩ w v w:=fun ρ h=>by
 subst aS;simp [execOp,h _ _ ae,h _ _ dk,asBool]
theorem bG.to {o:Oper} {v v':Value} (h:bG P l o w v w') (e:v=v'):bG P l o w v' w':=e▸h
theorem cW (ae:a6 l x=some (.int k m)) (aY:a6 l y=some (.int k gr)) (bq:k.wrap (m+gr)=r):bG P l ⟨dd,.binOp .add t x y t',ty,pos,af,gg⟩ w (.int k r) w:=bq▸oO ae aY
theorem ez (ae:a6 l x=some (.int k m)) (aY:a6 l y=some (.int k gr)) (bq:k.wrap (m-gr)=r):bG P l ⟨dd,.binOp .sub t x y t',ty,pos,af,gg⟩ w (.int k r) w:=bq▸hN ae aY
theorem xZ (ae:a6 l x=some (.int k m)) (aY:a6 l y=some (.int k gr)) (bq:k.wrap (m*gr)=r):bG P l ⟨dd,.binOp .mul t x y t',ty,pos,af,gg⟩ w (.int k r) w:=bq▸adi ae aY
theorem V' (ae:a6 l x=some (.int k m)) (aY:a6 l y=some (.int iC gr)) (b3:0≤gr) (bq:m.fdiv (2 ^ (min gr.toNat k.bits))=r):bG P l ⟨dd,.binOp .shr t x y t',ty,pos,af,gg⟩ w (.int k r) w:=bq▸uc ae aY b3
theorem p' {d0:TypeDesc} (bf:P.underlying t=some d0) (cf:P.underlying t'=some (.int iC)) (ae:a6 l x=some (.int k m)) (bq:iC.wrap m=r):bG P l ⟨dd,.convert t t' x,ty,pos,af,gg⟩ w (.int iC r) w:=bq▸sK bf cf ae
theorem fF (z:Int) (h:0≤z∧z≤18446744073709551615):IntKind.u64.wrap z=z:=by
 simp only [IntKind.wrap,IntKind.bits,IntKind.signed,Bool.false_and];exact Int.emod_eq_of_lt h.1 (by omega)
theorem iR (z:Int) (h:0≤z∧z≤255):IntKind.u8.wrap z=z:=by
 simp only [IntKind.wrap,IntKind.bits,IntKind.signed,Bool.false_and];exact Int.emod_eq_of_lt h.1 (by omega)
theorem Mt (m:Int):m.fdiv (2 ^ (min (1:Int).toNat 64))=m / 2:=by
 rw [show(2:Int) ^ (min (1:Int).toNat 64)=2 from rfl];exact Int.fdiv_eq_ediv_of_nonneg _ (by omega)
theorem Io (i j:Nat):((i:Int)+j) / 2=((i+j) / 2:Nat):=by omega
end
section
variable {P:Program} {ops:Array Oper} {Q:Exit→Act→World→Prop} {n:Nat} {ds:List Deferred} {l:List (Nat×Value)} {w w':World} {a:Act}
variable {rest:List Oper} {d:Nat} {op:Op} {ty:TypeId} {pos:String} {af:Array Edge}
variable {dd:Option Nat} {gg:Option (Nat×Bool)} {x y z:Operand} {t t':TypeId} {k iC:IntKind} {m gr:Int} {b e8:Bool}
theorem Own.take {e sz n c m:Nat} {ad:Option Addr} {vs:List Value} (O:Own w e sz (.slice ad n c) n vs) (hm:m≤n):Own w e sz (.slice ad m c) m (vs.take (m*sz)):=by
 have hle:m*sz≤n*sz:=Nat.mul_le_mul_right _ hm;have cg:=O.1;rcases O.2 with⟨b3,adn⟩ | ⟨g,o,Vk,cs,bK,eh,fH,gC,r7,pW⟩
 ·injection b3 with bk b2 kV
  subst bk;subst kV;subst b2;have:m=0:=by omega
  subst this;simpa using Own.nil w e sz
 injection bK with bk b2 kV
 subst bk;subst kV;refine⟨by rw [List.length_take];omega,.inr ⟨g,o,c,cs,rfl,eh,by omega,gC,r7,?_⟩⟩;rw [← pW,List.take_take]
 congr 1
 omega
theorem Own.extend {e sz n c m:Nat} {ad:Addr} {vs:List Value} (O:Own w e sz (.slice (some ad) n c) n vs) (hm:n≤m) (bj:m≤c):∃ jE,Own w e sz (.slice (some ad) m c) m jE∧jE.take (n*sz)=vs:=by
 have hle:n*sz≤m*sz:=Nat.mul_le_mul_right _ hm;have Cu:m*sz≤c*sz:=Nat.mul_le_mul_right _ bj;have cg:=O.1;rcases O.2 with⟨b3,adn⟩ | ⟨g,o,Vk,cs,bK,eh,fH,gC,r7,pW⟩
 ·cases b3
 injection bK with bk b2 kV
 injection bk with bk
 subst bk;subst kV;refine⟨(cs.drop o).take (m*sz),⟨by rw [List.length_take,List.length_drop];omega,.inr ⟨g,o,c,cs,rfl,eh,bj,gC,r7,rfl⟩⟩,?_⟩;rw [← pW,List.take_take]
 congr 1
 omega
theorem sE {qY e sz fZ N c lo k c':Nat} {ad:Addr} {u:Value} {vs news:List Value} (cf:lC P t e sz fZ=true) (O:Own w e sz (.slice (some ad) N c) N vs) (ae:a6 l x=some (.slice (l1 (some ad) c lo sz) (N-lo) (c-lo))) (aY:a6 l y=some u)
  (cg:(Builtin.lenOf u).run P w = .ok c' w) (hk:Nat.min c' (N-lo)=k) (lE:(Builtin.firstCells sz k u).run P w = .ok news.toArray w) (ry:news.length=k*sz) (wF:∀ u∈news,u.oneCell'=true) (I0:lo≤N) (bY:Nat.blt d n=true)
  (h:∀ w',Own w' e sz (.slice (some ad) N c) N (vs.take (lo*sz)++news++vs.drop ((lo+k)*sz))→Mod [ad.block] w w'→w'.heap.size=w.heap.size→ga P ops Q rest n ds ((d,.int .i64 k)::l) w') :
  ga P ops Q (⟨some d,.call {callee:=.builtin .copy,args:=#[x,y],argTypes:=#[t,qY]},ty,pos,af,none⟩::rest) n ds l w:=by
 obtain⟨i,z,h1,aq,aU,bM,cL,eW⟩:=ir cf
 rcases O.2 with⟨b3,_⟩ | ⟨g,o,cap,cs,bK,eh,fH,gC,r7,pW⟩
 ·cases b3
 injection bK with bk b2 kV
 injection bk with bk
 subst bk;subst kV
 have aq7:k≤N-lo:=by rw [← hk];exact Nat.min_le_right _ _
 have hle:(lo+k)*sz≤N*sz:=Nat.mul_le_mul_right _ (by omega)
 have Cu:N*sz≤c*sz:=Nat.mul_le_mul_right _ fH
 have nr:=O.1
 have aaS:(lo+k)*sz=lo*sz+k*sz:=Nat.add_mul _ _ _
 obtain⟨aB,hJ,cp⟩:=hz (P:=P) eh (o:=o+lo*sz) (vs:=news) (by rw [ry];omega) wF
 have lJ:∃ aB,(match l1 (some ⟨g,o,none⟩) c lo sz with | some a=>storeCells a news | none=>pure ()).run P w = .ok () aB∧Own aB e sz (.slice (some ⟨g,o,none⟩) N c) N (vs.take (lo*sz)++news++vs.drop ((lo+k)*sz))∧Mod [g] w aB∧aB.heap.size=w.heap.size:=by
  by_cases ah4:c=lo
  ·have aR:k=0:=by omega
   subst aR
   have b1:news = []:=List.eq_nil_of_length_eq_zero (by simpa using ry)
   subst b1
   refine⟨w,?_,?_,Mod.refl _ w,rfl⟩
   ·simp [l1,ah4,storeCells]
   simpa using O
  refine⟨aB,?_,⟨?_,.inr ⟨g,o,c,_,rfl,cp.az,fH,gC,by simp [splice];omega,?_⟩⟩,cp.mod,cp.size⟩
  ·simpa [l1,ah4,Addr.add_lit] using hJ
  ·simp only [List.length_append,List.length_take,List.length_drop,ry,nr]
   omega
  subst pW
  apply List.ext_getElem?
  intro j
  simp only [splice,ry]
  simp only [List.getElem?_take,List.getElem?_drop,List.getElem?_append,List.length_append,List.length_take,List.length_drop,ry]
  repeat' split
  all_goals first
   | omega
   | rfl
   | (congr 1;omega)
   | skip
 obtain⟨aB,hJ,hO,eY,bf⟩:=lJ
 refine fP (v:=.int .i64 k) (w':=aB) (fun ρ fg=>?_) bY (h aB hO eY bf)
 subst aU
 cases dF:l1 (some (⟨g,o,none⟩:Addr)) c lo i.size with
 | none=>
  rw [dF] at hJ
  simp [execOp,resolve,invoke,builtin,fg _ _ ae,fg _ _ aY,Builtin.copy_,run_underlying h1,cM aq,cg,hk,lE,goInt,dF]
  simpa using hJ
 | some a=>
  rw [dF] at hJ
  simp [execOp,resolve,invoke,builtin,fg _ _ ae,fg _ _ aY,Builtin.copy_,run_underlying h1,cM aq,cg,hk,lE,goInt,dF]
  simp at hJ
  simp [hJ]
theorem Em {t qY e sz fZ c c':Nat} {v:Value} {vs gD:List Value} (cf:lC P t e sz fZ=true) (dk:hG P e gD) (jo:gD.length=sz) (Jz:P.underlying qY=some (.int .i64)) (O:Own w e sz v c vs) (im:0<sz) (wF:∀ u∈gD,u.oneCell'=true)
  (aS:(c+c')*fZ≤140737488355328) (cC:c+c'≤9223372036854775807) (ty:Nat) :
  ∃ v' w' news,(Builtin.append_ #[t,qY] ty #[v,.int .i64 c']).run P w = .ok v' w'∧App w w' e sz v v' (c+c') (vs++news)∧news.length=c'*sz∧(∀ u∈news,u.oneCell'=true)∧((∀ ad Vk,v = .slice ad c Vk→Vk<c+c')→(∀ x∈a1 v',w.heap.size≤x)∧Mod [] w w'):=by
 obtain⟨i,z,h1,aq,aU,bM,cL,eW⟩:=ir cf
 obtain⟨th,Eh,kz,kq,k0⟩:=om dk
 have ado:th=i:=Option.some.inj (kz.symm.trans aq)
 subst ado
 have RV:Eh=z:=Option.some.inj (kq.symm.trans cL)
 subst RV
 subst aU;subst bM
 have ry:(Builtin.zeroCells Eh.cells c').toList.length=c'*th.size:=by rw [Array.length_toList,size_zeroCells,eW]
 have yE:∀ u∈(Builtin.zeroCells Eh.cells c').toList,u.oneCell'=true:=by
  intro u hu
  rw [k0] at hu
  simp only [Builtin.zeroCells,Array.toList_map,List.mem_map] at hu
  obtain⟨j,_,rfl⟩:=hu
  have bJ:j % gD.toArray.size<gD.length:=by
   simp only [List.size_toArray]
   exact Nat.mod_lt _ (by omega)
  have:gD.toArray[j % gD.toArray.size]! = gD[j % gD.toArray.size]:=by
   simp only [List.size_toArray] at bJ ⊢
   simp [bJ]
  rw [this]
  exact wF _ (List.getElem_mem bJ)
 have hlen:(vs++(Builtin.zeroCells Eh.cells c').toList).length=(c+c')*th.size:=by rw [List.length_append,O.1,ry,Nat.add_mul]
 have hw:IntKind.i64.wrap (c':Int)=c':=wrap64_in _ (by omega)
 have Yc:¬ ((c':Int)<0):=by omega
 have qs:¬ ((c':Int)*(th.bytes:Int) > 281474976710656):=by
  have:c'*th.bytes≤(c+c')*th.bytes:=Nat.mul_le_mul_right _ (by omega)
  have aU:(c':Int)*(th.bytes:Int)=((c'*th.bytes:Nat):Int):=by simp
  rw [aU]
  omega
 have aaT:c'*th.size=0→Builtin.zeroCells Eh.cells c' = #[]:=fun b3=>Array.eq_empty_of_size_eq_zero (by rw [size_zeroCells,eW];exact b3)
 have grow:∀ (base:Option Addr) (cap:Nat),cap<c+c'→(Builtin.firstCells th.size c (.slice base c cap)).run P w.drew = .ok vs.toArray w.drew→
   ∃ v' w',(Builtin.append_ #[t,qY] ty #[.slice base c cap,.int .i64 c']).run P w = .ok v' w'∧App w w' e th.size (.slice base c cap) v' (c+c') (vs++(Builtin.zeroCells Eh.cells c').toList)∧(∀ x∈a1 v',w.heap.size≤x)∧Mod [] w w':=by
  intro base cap rP hold
  have lu:=growslice_fits rP aS
  have ck:¬ (c+c'≤cap):=by omega
  have aaU:¬ (9223372036854775807<((c:Int)+(c':Int))):=by omega
  have aaV:¬ (281474976710656<Builtin.nextslicecap (c+c') cap*th.bytes):=by omega
  have bq:(Builtin.append_ #[t,qY] ty #[.slice base c cap,.int .i64 c']).run P w =
   .ok (.slice (some ⟨w.heap.size,0,none⟩) (c+c') (grownCap w (c+c') cap e))
    (w.drew.alloc (.cells ((vs++(Builtin.zeroCells Eh.cells c').toList).toArray++Builtin.zeroCells Eh.cells (grownCap w (c+c') cap e-(c+c'))) e)):=by
   by_cases b3:c'*th.size=0
   ·have Sl:=aaT b3
    simp [Builtin.append_,run_underlying h1,run_underlying Jz,sizeOf,typeInfo,zeroValue,aq,cL,asInt,asIntOf,hw,Yc,qs,ck,aaU,aaV,Question.forced,hold,newRow,grownCap,b3,Sl]
   simp [Builtin.append_,run_underlying h1,run_underlying Jz,sizeOf,typeInfo,zeroValue,aq,cL,asInt,asIntOf,hw,Yc,qs,ck,aaU,aaV,Question.forced,hold,newRow,grownCap,b3]
   congr 2
   apply Array.toList_inj.1
   simp
  have eI:=grownCap_ge w (c+c') cap e
  generalize h7:(Builtin.zeroCells Eh.cells c').toList=news at *
  have eh:aF (w.drew.alloc (.cells ((vs++news).toArray++Builtin.zeroCells Eh.cells (grownCap w (c+c') cap e-(c+c'))) e)) w.heap.size e ((vs++news)++(Builtin.zeroCells Eh.cells (grownCap w (c+c') cap e-(c+c'))).toList):=by
   have:=heap_alloc_new w.drew (.cells ((vs++news).toArray++Builtin.zeroCells Eh.cells (grownCap w (c+c') cap e-(c+c'))) e)
   unfold aF
   refine this.trans ?_
   congr 2
   apply Array.toList_inj.1
   simp
  refine⟨_,_,bq,⟨⟨hlen,.inr ⟨w.heap.size,0,_,_,rfl,eh,eI,grownCap_le_maxLen w (c+c') cap e (by simp only [maxLen];omega),?_,?_⟩⟩,?_,?_⟩,?_,?_⟩
  ·have jo:(Builtin.zeroCells Eh.cells (grownCap w (c+c') cap e-(c+c'))).toList.length=(grownCap w (c+c') cap e-(c+c'))*th.size:=by
    rw [Array.length_toList,size_zeroCells,eW]
   rw [List.length_append,hlen,jo,← Nat.add_mul]
   have:c+c'+(grownCap w (c+c') cap e-(c+c'))=grownCap w (c+c') cap e:=by omega
   rw [this]
   omega
  ·rw [List.drop_zero,← hlen]
   exact List.take_left
  ·exact⟨rfl,rfl,rfl,by simp,fun j d' _=>RowKit.Below.heap_alloc w.drew _ j d'⟩
  ·intro x ae
   simp [a1] at ae
   exact .inr (by omega)
  ·intro x ae
   simp [a1] at ae
   omega
  exact⟨rfl,rfl,rfl,by simp,fun j d' _=>RowKit.Below.heap_alloc w.drew _ j d'⟩
 rcases O.2 with⟨rfl,b3⟩ | ⟨g,o,cap,cs,rfl,eh,fH,gC,r7,pW⟩
 ·subst b3
  have lX:vs = []:=List.eq_nil_of_length_eq_zero (by simpa using O.1)
  subst lX
  rcases Nat.eq_zero_or_pos c' with b3 | b3
  ·subst b3
   refine⟨.slice none 0 0,w,[],?_,⟨by simpa using Own.nil w e th.size,Mod.refl _ w,fun x ae=>.inl ae⟩,by simp,by simp,fun iq=>absurd (iq _ _ rfl) (by omega)⟩
   have amf:IntKind.i64.wrap 0=0:=by decide
   simp [Builtin.append_,run_underlying h1,run_underlying Jz,sizeOf,typeInfo,aq,asInt,asIntOf,amf]
  obtain⟨v',w',bq,dF,amg⟩:=grow none 0 (by omega) (run_firstCells_none w.drew th.size 0 0 0)
  exact⟨v',w',_,bq,dF,ry,yE,fun _=>amg⟩
 by_cases ns:c+c'≤cap
 rotate_left
 ·obtain⟨v',w',bq,dF,amg⟩:=grow (some ⟨g,o,none⟩) cap (by omega) (run_firstCells_some w.drew th.size c _ c cap vs O.1 (fun j x ae=>by have:=O.cs j x ae;simpa using this))
  exact⟨v',w',_,bq,dF,ry,yE,fun _=>amg⟩
 have hle:(c+c')*th.size≤cap*th.size:=Nat.mul_le_mul_right _ ns
 generalize h7:(Builtin.zeroCells Eh.cells c')=apl at *
 have lu:o+c*th.size+apl.toList.length≤cs.length:=by rw [ry];rw [Nat.add_mul] at hle;omega
 obtain⟨aB,hJ,cp⟩:=hz (P:=P) eh lu yE
 refine⟨.slice (some ⟨g,o,none⟩) (c+c') cap,aB,apl.toList,?_,⟨⟨hlen,.inr ⟨g,o,cap,_,rfl,cp.az,ns,gC,?_,?_⟩⟩,?_,fun x ae=>.inl ae⟩,ry,yE,fun iq=>absurd (iq _ _ rfl) (by omega)⟩
 ·by_cases b3:c'*th.size=0
  ·have Sl:=aaT b3
   rw [Sl] at hJ
   simp at hJ
   simp [Builtin.append_,run_underlying h1,run_underlying Jz,sizeOf,typeInfo,zeroValue,aq,cL,asInt,asIntOf,hw,Yc,qs,ns,Addr.add_lit,b3,hJ]
  simp [Builtin.append_,run_underlying h1,run_underlying Jz,sizeOf,typeInfo,zeroValue,aq,cL,asInt,asIntOf,hw,Yc,qs,ns,Addr.add_lit,b3,h7,hJ]
 ·simp only [splice,List.length_append,List.length_take,List.length_drop]
  omega
 ·have bk:List.take (o+c*th.size) cs=List.take o cs++vs:=by rw [← pW,List.take_add]
  have Xq:(List.take o cs).length=o:=by rw [List.length_take];omega
  rw [splice,bk,List.append_assoc,List.append_assoc,List.drop_left' Xq,← List.append_assoc,← hlen,List.take_left]
 exact cp.mod
theorem Ir {t qY e sz fZ c c':Nat} {v:Value} {vs gD:List Value} (cf:lC P t e sz fZ=true) (dk:hG P e gD) (jo:gD.length=sz) (Jz:P.underlying qY=some (.int .i64)) (ae:a6 l x=some v) (aY:a6 l y=some (.int .i64 c')) (O:Own w e sz v c vs) (im:0<sz) (wF:∀ u∈gD,u.oneCell'=true)
  (aS:(c+c')*fZ≤140737488355328) (cC:c+c'≤9223372036854775807) (bY:Nat.blt d n=true)
  (h:∀ v' w' news,App w w' e sz v v' (c+c') (vs++news)→news.length=c'*sz→(∀ u∈news,u.oneCell'=true)→((∀ ad Vk,v = .slice ad c Vk→Vk<c+c')→(∀ x∈a1 v',w.heap.size≤x)∧Mod [] w w')→ga P ops Q rest n ds ((d,v')::l) w') :
  ga P ops Q (⟨some d,.call {callee:=.builtin .append,args:=#[x,y],argTypes:=#[t,qY]},ty,pos,af,none⟩::rest) n ds l w:=by
 obtain⟨v',w',news,bq,dF,aq,aU,bM⟩:=Em (P:=P) cf dk jo Jz O im wF aS cC ty
 refine fP (v:=v') (w':=w') (fun ρ fg=>?_) bY (h v' w' news dF aq aU bM)
 simp [execOp,resolve,invoke,builtin,fg _ _ ae,fg _ _ aY,bq]
/-! ### slices.overlaps -/
def afX (P:Program) (f:FuncId) (afB aj1:TypeId):Prop:=∀ args w,(callFunc f args).run P w=((Extern.SlicesOverlaps.overlaps #[afB,afB] #[aj1] args).run P w).andThen fun v w'=>.ok (.value v) w'
theorem Fo {afB aj1 e sz fZ f i j c1 c2:Nat} {pb a2:Addr} (dI:afX P f afB aj1) (cf:lC P afB e sz fZ=true) (ae:a6 l x=some (.slice (some pb) i c1)) (aY:a6 l y=some (.slice (some a2) j c2))
  {g1 g2:Nat} {aj2 abA:Nat} (JC:pb=⟨g1,aj2,none⟩) (GV:a2=⟨g2,abA,none⟩) {apm apn:Nat} {eE Wc:List Value} (gP:aF w g1 apm eE) (dz:aF w g2 apn Wc) (b1:g1≠g2) (aq:Wc≠[]) {gV:Array TypeId} :
  bG P l ⟨dd,.call {callee:=.value (.func f),args:=#[x,y],argTypes:=gV},ty,pos,af,gg⟩ w (.bool false) w:=fun ρ fg=>by
 subst JC;subst GV
 obtain⟨th,z,h1,DJ,aU,bM,cL,eW⟩:=ir cf
 have b2:ρ (.func f) = .func (.func f) #[] #[]:=fg _ _ rfl
 have amh:=Lib.run_overlaps_apart (P:=P) w afB aj1 e h1 th.size (fun w'=>cM DJ) ⟨g1,aj2,none⟩ ⟨g2,abA,none⟩ i c1 j c2 b1 apm apn eE.length Wc.length (by have:=gP;unfold aF at this;simp [World.shape?,this]) (by have:=dz;unfold aF at this;simp [World.shape?,this]) (by simpa using aq) (gP.frozen aj2) (gP.frozen _)
 have:=dI #[.slice (some ⟨g1,aj2,none⟩) i c1,.slice (some ⟨g2,abA,none⟩) j c2] w
 rw [amh] at this
 simp [execOp,resolve,b2,fg _ _ ae,fg _ _ aY,Deferred.ofValue,invoke] at this ⊢
 simpa using this
theorem u4 {e sz N c i:Nat} {ad:Addr} {vs us:List Value} {T:TypeId} (cf:rO P T sz=true) (O:Own w e sz (.slice (some ad) N c) N vs) (ae:a6 l x=some (.pointer (some (ad.add (i*sz))))) (aY:a6 l y=some (.agg us.toArray)) (cg:us.length=sz) (wF:∀ u∈us,u.oneCell'=true) (hi:i<N)
  (h:∀ w',Own w' e sz (.slice (some ad) N c) N (vs.take (i*sz)++us++vs.drop ((i+1)*sz))→Mod [ad.block] w w'→w'.heap.size=w.heap.size→ga P ops Q rest n ds l w') :
  ga P ops Q (⟨none,.store T x y,ty,pos,af,none⟩::rest) n ds l w:=by
 rcases O.2 with⟨b3,_⟩ | ⟨g,o,cap,cs,bK,eh,fH,gC,r7,pW⟩
 ·cases b3
 injection bK with bk b2 kV
 injection bk with bk
 subst bk;subst kV
 have hle:(i+1)*sz≤N*sz:=Nat.mul_le_mul_right _ (by omega)
 have Cu:N*sz≤c*sz:=Nat.mul_le_mul_right _ fH
 have nr:=O.1
 have aaS:(i+1)*sz=i*sz+sz:=by rw [Nat.add_mul];omega
 rw [Addr.add_lit] at ae
 refine bo (vs:=us) cf eh ae aY cg wF (by omega) fun w' cp=>?_
 refine h w' ⟨?_,.inr ⟨g,o,c,_,rfl,cp.az,fH,gC,by simp [splice];omega,?_⟩⟩ cp.mod cp.size
 ·simp only [List.length_append,List.length_take,List.length_drop,cg,nr]
  omega
 subst pW
 apply List.ext_getElem?
 intro j
 simp only [splice,cg]
 simp only [List.getElem?_take,List.getElem?_drop,List.getElem?_append,List.length_append,List.length_take,List.length_drop,cg]
 repeat' split
 all_goals first
  | omega
  | rfl
  | (congr 1;omega)
  | skip
theorem Gy {α:Type} {sz:Nat} {cells:α→List Value} {xs:List α} (cg:∀ x,(cells x).length=sz) (i:Nat):((xs.map cells).flatten).take (i*sz)=((xs.take i).map cells).flatten:=by
 induction xs generalizing i with
 | nil=>simp
 | cons x xs dK=>
  cases i with
  | zero=>simp
  | succ i=>
   simp only [List.map_cons,List.flatten_cons,List.take_succ_cons];rw [List.take_append,cg,Nat.add_mul,Nat.one_mul,List.take_of_length_le (by rw [cg];omega),Nat.add_sub_cancel,dK]
theorem Gx {α:Type} {sz:Nat} {cells:α→List Value} {xs:List α} (cg:∀ x,(cells x).length=sz) (i:Nat):((xs.map cells).flatten).drop (i*sz)=((xs.drop i).map cells).flatten:=by
 induction xs generalizing i with
 | nil=>simp
 | cons x xs dK=>
  cases i with
  | zero=>simp
  | succ i=>
   simp only [List.map_cons,List.flatten_cons,List.drop_succ_cons];rw [List.drop_append,cg,Nat.add_mul,Nat.one_mul,List.drop_eq_nil_of_le (by rw [cg];omega),Nat.add_sub_cancel,dK,List.nil_append]
theorem JD {α:Type} {A:List Nat} {sz n c:Nat} {cells:α→List Value} {xs:List α} (h:ba A w (flat sz cells xs) (.slice none n c)):xs = []:=by
 cases xs with
 | nil=>rfl
 | cons x xs=>
  obtain⟨a,ay,_⟩:=dW (i:=0) h rfl;cases ay
theorem wz (ad:Option Addr) (c sz:Nat):l1 ad c 0 sz=ad:=by
 unfold l1
 split
 ·rfl
 cases ad with
 | none=>rfl
 | some a=>simp [Addr.add_zero']
theorem Mw (g o c lo sz:Nat):∃ vd,l1 (some (⟨g,o,none⟩:Addr)) c lo sz=some ⟨g,vd,none⟩:=by
 unfold l1
 split
 ·exact⟨o,rfl⟩
 exact⟨o+lo*sz,by simp [Addr.add_lit]⟩
theorem xE (sz k:Nat) (b:Option Addr) (i c th c':Nat):Builtin.firstCells sz k (.slice b i c)=Builtin.firstCells sz k (.slice b th c'):=by cases b <;> rfl
theorem C' {ad:Option Addr} {c c' e sz fZ hi:Nat} {h:Operand} (cf:lC P t e sz fZ=true) (ae:a6 l x=some (.slice ad c c')) (iq:a6 l h=some (.int .i64 (hi:Int))) (aS:hi≤c') (bj:c≤c') :
  bG P l ⟨dd,.slice t x none (some h) none,ty,pos,af,gg⟩ w (.slice ad hi c') w:=by
 have:=Gl (P:=P) (w:=w) (dd:=dd) (ty:=ty) (pos:=pos) (af:=af) (gg:=gg) cf ae (lo:=none) (pl:=none) (hi:=some h) (ph:=some (.i64,(hi:Int))) rfl (by simp [tK,iq]) (by simp only [hU,iB];omega) bj
 refine this.to ?_
 simp [hU,iB,wz]
theorem j' {ad:Option Addr} {c c' e sz fZ lo:Nat} {h:Operand} (cf:lC P t e sz fZ=true) (ae:a6 l x=some (.slice ad c c')) (iq:a6 l h=some (.int .i64 (lo:Int))) (aS:lo≤c) (bj:c≤c') :
  bG P l ⟨dd,.slice t x (some h) none none,ty,pos,af,gg⟩ w (.slice (l1 ad c' lo sz) (c-lo) (c'-lo)) w:=by
 have:=Gl (P:=P) (w:=w) (dd:=dd) (ty:=ty) (pos:=pos) (af:=af) (gg:=gg) cf ae (hi:=none) (ph:=none) (lo:=some h) (pl:=some (.i64,(lo:Int))) (by simp [tK,iq]) rfl (by simp only [hU,iB];omega) bj
 refine this.to ?_
 simp [hU,iB]
end
section
variable {P:Program} {ops:Array Oper} {Q:Exit→Act→World→Prop} {n:Nat} {ds:List Deferred} {l:List (Nat×Value)} {M:List (Nat×(Value→World→Prop))} {w w':World} {a:Act}
variable {rest:List Oper} {d:Nat} {op:Op} {ty:TypeId} {pos:String} {af:Array Edge} {Fin:kf→Prop} {j:Nat} {want b:Bool}
variable {dd:Option Nat} {gg:Option (Nat×Bool)} {x y z:Operand} {t t':TypeId}
theorem En {b e8:Bool} (he:P.underlying t=some .bool) (ae:a6 l x=some (.bool b)) (aY:a6 l y=some (.bool e8)):bG P l ⟨dd,.binOp .eql t x y t',ty,pos,af,gg⟩ w (.bool (b == e8)) w:=fun ρ h=>by
 simp [execOp,eqGuard,h _ _ ae,h _ _ aY,binOp,run_equal_bool w t b e8 he]
theorem Df {b e8:Bool} (he:P.underlying t=some .bool) (ae:a6 l x=some (.bool b)) (aY:a6 l y=some (.bool e8)):bG P l ⟨dd,.binOp .neq t x y t',ty,pos,af,gg⟩ w (.bool (b != e8)) w:=fun ρ h=>by
 simp [execOp,eqGuard,h _ _ ae,h _ _ aY,binOp,run_equal_bool w t b e8 he];cases b <;> cases e8 <;> rfl
theorem adw {V:Value→World→Prop} {t s:Nat} {asq N2:Value→World→Prop} (cf:i' t l=none) (eY:n1 t M=some asq) (ae:∃ x∈op.operands.toList,x = .tmp t) (jX:i' s l=none) (JE:n1 s M=some N2) (JF:∃ x∈op.operands.toList,x = .tmp s) (pk:∀ v aB cN,Mod [] aB cN→V v aB→V v cN) (bY:Nat.blt d n=true) (bf:fu op=true)
  (bq:∀ (ρ:Operand→Value) aB u mU,Mod [] w aB→asq u aB→N2 mU aB→(∀ x v,a6 ((t,u)::(s,mU)::l) x=some v→ρ x=v)→oo P (Mod []) aB V ((execOp ρ ⟨some d,op,ty,pos,af,none⟩).run P aB)) :
  ass P ops (Mod []) (Mod [] w) n (rH l M) ⟨some d,op,ty,pos,af,none⟩ V:=by
 refine tj pk bY bf fun ρ aB h4 h1 aq=>bq ρ aB (ρ (.tmp t)) (ρ (.tmp s)) h4 (aq t asq cf eY ae) (aq s N2 jX JE JF) fun x v bK=>?_
 cases x with
 | tmp r=>
  simp only [a6,i'] at bK
  cases aS:Nat.beq t r with
  | true=>
   rw [aS] at bK
   have:=Nat.eq_of_beq_eq_true aS
   subst this
   injection bK
  | false=>
   rw [aS] at bK
   cases tO:Nat.beq s r with
   | true=>
    rw [tO] at bK
    have:=Nat.eq_of_beq_eq_true tO
    subst this
    injection bK
   | false=>rw [tO] at bK;exact h1 _ _ bK
 | const c=>exact h1 _ _ bK
 | global g=>exact h1 _ _ bK
 | func f=>exact h1 _ _ bK
theorem ah5 {f:FuncId} {args:Value→Array Value} {v:Value} (t:Nat) {asq:Value→World→Prop} (dA:zW ops l j=some b) (aS:b=want) (cf:i' t l=none) (eY:n1 t M=some asq) (ae:∃ x∈op.operands.toList,x = .tmp t)
  (bq:∀ aB u,Mod [] w aB→asq u aB→mh P ((t,u)::l) ⟨some d,op,ty,pos,af,none⟩ aB f (args u)) (bj:∀ aB u,Mod [] w aB→asq u aB→Calls P f (args u) aB (bL fun r cN=>r=v∧Mod [] aB cN)) (bY:Nat.blt d n=true) (bf:fu op=true) (h:gw P ops w n Fin rest ((d,v)::l) M) :
  gw P ops w n Fin (⟨some d,op,ty,pos,af,some (j,want)⟩::rest) l M:=by
 refine⟨fun u _=>u=v,X' dA aS (Jv cf eY ae (fun _ _ _ _ h=>h) bY bf fun ρ aB u h4 je h1=>?_),?_⟩
 ·rw [bq aB u h4 je ρ h1]
  exact⟨rfl,(bj aB u h4 je).mono fun e cN he=>by cases e <;> first | exact⟨he.2,he.1⟩ | exact he⟩
 rw [mj rfl];exact h
theorem Calls.imp {f:FuncId} {args:Array Value} {xU apo:Value→World→Prop} (h:Calls P f args w (bL xU)) (hi:∀ u w',xU u w'→apo u w'):Calls P f args w (bL apo):=
 h.mono fun e cN he=>by cases e <;> first | exact hi _ _ he | exact he
theorem Dq {u:List UInt8} {k:IntKind} {m:Int} (cf:P.underlying t=some .string) (ae:a6 l x=some (S u)) (aY:a6 l y=some (.int k m)) (b3:0≤m) (aS:m.toNat<u.length) (bY:Nat.blt d n=true)
  (h:∀ c:UInt8,u[m.toNat]? = some c→ga P ops Q rest n ds ((d,.int .u8 c.toNat)::l) w):ga P ops Q (⟨some d,.index t x y,ty,pos,af,none⟩::rest) n ds l w:=
 fP (b' cf ae aY b3 (List.getElem?_eq_getElem aS)) bY (h _ (List.getElem?_eq_getElem aS))
theorem ri.first {ad:Addr} {v:Value} {vs:List Value} (h:ri w ad (v::vs)):w.cell? ad=some v:=by
 have:=h 0 v rfl
 rwa [Addr.add_zero'] at this
end
section
variable {H:Type} {enc:TypeId×Value→H} {P:Program} {w:World} {n:Nat} {t:TypeId}
def hb (enc:TypeId×Value→H) (P:Program) (w:World) (n:Nat) (t:TypeId) {α:Type} (f:α→List D) (Q:α→Prop):Prop:=
 ∀ cs x,DataW.trod enc P w 0 (fun _=>true) true n t cs=some x→(∀ m∈x.1.weights P t,m≤reachBytes)→∃ a,ao [] w (f a) cs∧Q a
theorem hb.zero {α:Type} {f:α→List D} {Q:α→Prop}:hb enc P w 0 t f Q:=fun cs x h=>by simp [DataW.trod] at h
theorem hb.to {α β:Type} {f:α→List D} {Q:α→Prop} {Gu:β→List D} {Q':β→Prop} (h:hb enc P w n t f Q) (g:α→β) (dI:∀ a,Gu (g a)=f a) (CE:∀ a,Q a→Q' (g a)):hb enc P w n t Gu Q':=fun cs x ae hm=>by
 obtain⟨a,h1,aq⟩:=h cs x ae hm;exact⟨g a,by rw [dI];exact h1,CE a aq⟩
theorem j4 (cf:P.underlying t=some .string):hb enc P w n t (fun s=>[.v (S s)]) (fun s:List UInt8=>s.length≤140737488351232):=fun cs x ae hm=>by
 obtain⟨s,rfl,rfl,_⟩:=DataW.trod_string cf ae;refine⟨s.data.toList,ao.gL (ba.cO rfl) ao.mO,?_⟩;have:=hm s.data.toList.length (by simp [DataW.weights]);simpa [reachBytes] using this
theorem vi {k:IntKind} (cf:P.underlying t=some (.int k)):hb enc P w n t (fun m=>[.v (.int k m)]) (fun m:Int=>(Lit.int k m).wf=true):=fun cs x ae hm=>by
 obtain⟨m,rfl,rfl,h⟩:=DataW.trod_int cf ae;exact⟨m,ao.gL (ba.cO rfl) ao.mO,h⟩
theorem CF (cf:P.underlying t=some .bool):hb enc P w n t (fun b=>[.v (.bool b)]) (fun _:Bool=>True):=fun cs x ae hm=>by
 obtain⟨b,rfl,rfl⟩:=DataW.trod_bool cf ae;exact⟨b,ao.gL (ba.cO rfl) ao.mO,trivial⟩
def Eo (enc:TypeId×Value→H) (P:Program) (w:World) (n tot:Nat) (p4:List Field) (off:Nat) {α:Type} (f:α→List D) (Q:α→Prop):Prop:=
 ∀ (cs:List Value) (xs:List (DataW H×List MemPlace)),cs.length=tot→xs.length=p4.length→(∀ (i:Nat) g,p4[i]? = some g→DataW.trod enc P w 0 (fun _=>true) true n g.type ((cs.drop g.offset).take (P.cellsOf g.type))=xs[i]?)→
  (∀ m∈DataW.weightsEach P (p4.map (·.type)) (xs.map (·.1)),m≤reachBytes)→∃ a,ao [] w (f a) (cs.drop off)∧Q a
theorem vj {tot:Nat}:Eo enc P w n tot [] tot (fun _:Unit=>[]) (fun _=>True):=fun cs xs h _ _ _=>⟨(),by rw [List.drop_eq_nil_of_le (by omega)];exact ao.mO,trivial⟩
theorem dX {tot off k:Nat} {fd:Field} {p4:List Field} {α β:Type} {f:α→List D} {Q:α→Prop} {Gu:β→List D} {Q':β→Prop} (eo:fd.offset=off) (hk:P.cellsOf fd.type=k) (h:hb enc P w n fd.type f Q) (fh:Eo enc P w n tot p4 (off+k) Gu Q') :
  Eo enc P w n tot (fd::p4) off (fun p:α×β=>f p.1++Gu p.2) (fun p=>Q p.1∧Q' p.2):=fun cs xs cg ae bq hm=>by
 cases xs with
 | nil=>simp at ae
 | cons x xs=>
  have b3:=bq 0 fd rfl
  simp only [List.getElem?_cons_zero] at b3
  simp only [List.map_cons,DataW.weightsEach,List.mem_append] at hm
  obtain⟨a,ay,CE⟩:=h _ x b3 (fun m y9=>hm m (.inl y9))
  obtain⟨b,aS,ami⟩:=fh cs xs cg (by simpa using ae) (fun i g dA=>by simpa using bq (i+1) g (by simpa using dA)) (fun m y9=>hm m (.inr y9))
  refine⟨(a,b),?_,CE,ami⟩
  have:=ay.append aS
  rw [eo,hk] at this
  rwa [← List.drop_drop,List.take_append_drop] at this
theorem pI {tot:Nat} {p4:Array Field} {α:Type} {f:α→List D} {Q:α→Prop} (cf:P.underlying t=some (.struct p4)) (bj:P.cellsOf t=tot) (h:Eo enc P w n tot p4.toList 0 f Q):hb enc P w (n+1) t f Q:=fun cs x ae hm=>by
 obtain⟨xs,m,ck,rfl,cg,hlen,dI⟩:=DataW.trod_struct cf ae;obtain rfl:n=m:=by omega
 simp only [DataW.weights,cf] at hm;have:=h cs xs (cg.trans bj) (by simpa using hlen) (fun i g dA=>dI i g (by simpa using dA)) hm;simpa using this
theorem vk {α:Type} {asp:Nat→α→Prop}:∀ (k:Nat),(∀ i,i<k→∃ a,asp i a)→∃ l:List α,l.length=k∧∀ i a,l[i]? = some a→asp i a
 | 0,_=>⟨[],rfl,fun i a h=>by simp at h⟩
 | k+1,h=>by
  obtain⟨l,cg,bq⟩:=vk k fun i hi=>h i (by omega)
  obtain⟨a,ay⟩:=h k (by omega)
  refine⟨l ++ [a],by simp [cg],fun i b aS=>?_⟩
  rcases Nat.lt_trichotomy i l.length with h1 | h1 | h1
  ·rw [List.getElem?_append_left h1] at aS
   exact bq i b aS
  ·subst h1
   simp at aS
   subst aS
   rw [cg]
   exact ay
  rw [List.getElem?_eq_none (by simp;omega)] at aS
  cases aS
theorem rr {e:TypeId}:∀ {ds:List (DataW H)} {d:DataW H},d∈ds→∀ m∈d.weights P e,m∈DataW.weightsAll P e ds
 | s4::ds,d,h,m,hm=>by
  simp only [DataW.weightsAll,List.mem_append]
  rcases List.mem_cons.1 h with rfl | h
  ·exact .inl hm
  exact .inr (rr h m hm)
theorem q2 {e sz fZ:Nat} {α:Type} {f:α→List D} {Q:α→Prop} (cf:P.underlying t=some (.slice e)) (bj:P.cellsOf e=sz) (aS:P.bytesOf e=fZ) (im:0<sz) (h:hb enc P w n e f Q) :
  hb enc P w (n+1) t (fun xs:List α=>[.ie sz (xs.map f)]) (fun xs=>(∀ x∈xs,Q x)∧xs.length*fZ≤140737488351232):=fun cs x ae hm=>by
 rcases DataW.trod_slice cf ae with⟨rfl,rfl⟩ | ⟨a,len,cap,elems,rest,m,ck,rfl,rfl,_,cg,rP,hlen,Rj,zi,_⟩
 ·refine⟨[],ao.gL ?_ ao.mO,by simp,by simp⟩
  simp only [ba,List.map_nil]
  exact⟨none,0,rfl,by simp,by simp,by simp⟩
 obtain rfl:n=m:=by omega
 simp only [DataW.weights,cf,List.mem_cons,List.mem_append] at hm
 have hw:=hm _ (.inl rfl)
 rw [aS] at hw
 simp only [List.length_map,reachBytes] at hw
 have Nk:len*fZ≤(elems.length+rest.length)*fZ:=Nat.mul_le_mul_right _ (by omega)
 have key:∀ i,i<len→∃ b,Q b∧a.block<w.heap.size∧∃ us,us.length=sz∧ao [] w (f b) us∧ri w (a.add (i*sz)) us:=fun i hi=>by
  have h1:=Rj i hi
  obtain⟨y,aY⟩:∃ y,elems[i]? = some y:=⟨_,List.getElem?_eq_getElem (by omega)⟩
  rw [aY] at h1
  obtain⟨us,aq,aU⟩:=Option.bind_eq_some_iff.1 h1
  rw [bj] at aq
  have bM:=World.cells?_some aq
  obtain⟨b,cC,gS⟩:=h us y aU (fun m y9=>hm m (.inr (.inl (rr (List.mem_map.2 ⟨y,List.mem_of_getElem? aY,rfl⟩) m y9))))
  have hblk:=World.cells?_block aq im
  rw [mi] at hblk
  have adx:us.length=sz:=bM.2.1
  exact⟨b,gS,hblk,us,adx,cC,fun j v bK=>by
   have d':=(List.getElem?_eq_some_iff.1 bK).1
   have:=bM.2.2 j (by omega)
   rw [this,bK]⟩
 obtain⟨xs,Fj,ah6⟩:=vk len key
 refine⟨xs,ao.gL ?_ ao.mO,fun y aY=>?_,by rw [Fj];omega⟩
 ·rcases Nat.eq_zero_or_pos len with b3 | b3
  ·subst b3
   obtain rfl:xs = []:=List.eq_nil_of_length_eq_zero Fj
   simp only [ba,List.map_nil]
   exact⟨some a,cap,rfl,cg,rP,by simp⟩
  obtain⟨_,_,hblk,_⟩:=key 0 b3
  refine ba.Sa (by simp [Fj]) cg rP (by simp) hblk fun i r hi=>?_
  rw [List.getElem?_map] at hi
  obtain⟨y,aY,rfl⟩:=Option.map_eq_some_iff.1 hi
  obtain⟨_,_,us,h1,aq,aU⟩:=ah6 i y aY
  exact⟨by rw [← aq.length,h1],us,aq,aU⟩
 obtain⟨i,hi⟩:=List.getElem?_of_mem aY
 exact(ah6 i y hi).1
end
end Go.Proofs.YtnihidkbkhcfoaaGreatDoor.V
namespace Go.Proofs.YtnihidkbkhcfoaaGreatDoor.V
open Go Go.ChangeShapes Go.WideShapes Go.RowKit
section
variable {H:Type} {enc:TypeId×Value→H} {P:Program} {W aaw:World}
theorem si (cg:laidOutB P=true) (k:Mod [] W aaw):∀ {gV:List TypeId} {vs:List Value} {ds:List (DataW H)} {ia:List MemPlace},(gV.all fun t=>P.readableRec t&&decide (t<P.types.size))=true→
  DataW.TrodAll enc P W 0 (fun _=>true) true gV vs ds ia→(∀ p∈ia,p.block<W.heap.size)→DataW.TrodAll enc P aaw 0 (fun b=>decide (b<W.heap.size)) true gV vs ds ia
 | [],vs,ds,ia,_,h,_=>by
  obtain⟨rfl,rfl,rfl⟩:=trodAll_nil h
  exact trodAll_mk0
 | t::gV,vs,ds,ia,bq,h,cp=>by
  obtain⟨v,akR,d,akS,a,b,rfl,rfl,rfl,h1,aq⟩:=trodAll_cons h
  simp only [List.all_cons,Bool.and_eq_true,decide_eq_true_eq] at bq
  have ay:∀ p∈a,p.block<W.heap.size:=fun p ua=>cp p (List.mem_append_left _ ua)
  exact trodAll_cons_mk (Below.trod cg bq.1.1 bq.1.2 h1 k.below ay) (si cg k bq.2 aq fun p ua=>cp p (List.mem_append_right _ ua))
theorem Mod.keptBut (k:Mod [] W aaw) (S:MemPlace→Prop):W.keptBut aaw S:=by
 refine⟨k.os,k.output,fun i hi=>?_⟩;rw [k.block i hi (by simp)];cases h:W.heap[i]? with
 | none=>rfl
 | some o=>cases o <;> simp
theorem IM (cg:laidOutB P=true) {f:Func} {s:ChangeSpec} {t:TypeId} {args:Array Value} {ds:List (DataW H)} {before:List MemPlace} (bf:s.vars = []) (bq:f.resultTypes = #[t]) (cf:P.underlying t=some .bool)
  (xq:(f.params.toList.all fun t=>P.readableRec t&&decide (t<P.types.size))=true) (JG:s.fn H ds = {results:=[.lit (.bool true)],args:=ds})
  (hh:DataW.Whole enc P f.params.toList s.vars false W args.toList ds [] before) (k:Mod [] W aaw):s.post enc P f false true false false W args (.bool true) aaw:=by
 have bJ:=hh.lt
 have amj:=hh
 obtain⟨p,q,dF,pk,rfl,akQ,IL⟩:=hh
 rw [bf] at pk
 obtain⟨_,rfl⟩:=trodVars_none pk
 have hlen:f.resultTypes.size=1:=by rw [bq];rfl
 refine⟨ds,[],_,[],p,[],amj,?_,?_,?_,k.keptBut _,fun h=>by cases h⟩
 ·rw [List.append_nil,JG,hlen,bq]
  exact trodAll_cons_mk (shut_bool cf true) trodAll_mk0
 ·rw [List.append_nil,JG]
  exact si cg k xq dF fun p cp=>by simpa using bJ p (List.mem_append_left _ cp)
 rw [List.append_nil,JG,bf]
 exact rfl
end
end Go.Proofs.YtnihidkbkhcfoaaGreatDoor.V
namespace Go.Proofs.YtnihidkbkhcfoaaGreatDoor.V
open Go
abbrev aa:=List UInt8
structure Slot where
 ty:aa
 key:aa
 id:aa
 deriving DecidableEq
structure fG where
 ty:aa
 key:aa
 deriving DecidableEq
abbrev Slot.cells (s:Slot):List Value:=[S s.ty,S s.key,S s.id]
abbrev fG.cells (p:fG):List Value:=[S p.ty,S p.key]
abbrev Slot.agg (s:Slot):Value:=.agg s.cells.toArray
abbrev fG.agg (p:fG):Value:=.agg p.cells.toArray
abbrev Slot.pair (s:Slot):fG:=⟨s.ty,s.key⟩
abbrev XP (xs:List Slot):D:=flat 3 Slot.cells xs
abbrev Le (xs:List fG):D:=flat 2 fG.cells xs
abbrev lG (xs:List aa):D:=flat 1 (fun s=>[S s]) xs
section
variable {w:World}
theorem ri.c0 {a:Addr} {v:Value} {vs:List Value} (h:ri w a (v::vs)):w.cell? a=some v:=by
 have:=h 0 v rfl
 rwa [Addr.add_zero'] at this
end
/-! ### comparing -/
def p9 (a b:aa):Int:=if eR a b then -1 else if a=b then 0 else 1
theorem df:∀ a:aa,eR a a=false
 | []=>rfl
 | c::a=>by simp [eR,Op.bytesLess,df a]
theorem gh:∀ {a b c:aa},eR a b=true→eR b c=true→eR a c=true
 | [],[],_,h,_=>by simp [eR,Op.bytesLess] at h
 | _::_,[],_,h,_=>by simp [eR,Op.bytesLess] at h
 | _,_::_,[],_,h=>by simp [eR,Op.bytesLess] at h
 | [],_::_,_::_,_,_=>by simp [eR,Op.bytesLess]
 | x::a,y::b,z::c,h,fh=>by
  simp only [eR,Op.bytesLess,Bool.or_eq_true,decide_eq_true_eq,Bool.and_eq_true,beq_iff_eq,UInt8.lt_iff_toNat_lt,← UInt8.toNat_inj] at h fh ⊢
  rcases h with h | ⟨h1,aq⟩
  ·rcases fh with fh | ⟨aU,bM⟩
   ·exact .inl (by omega)
   exact .inl (by omega)
  rcases fh with fh | ⟨aU,bM⟩
  ·exact .inl (by omega)
  exact .inr ⟨by omega,gh aq bM⟩
theorem jk {a b:aa} (h:eR a b=true):eR b a=false:=by
 cases fh:eR b a with
 | false=>rfl
 | true=>have:=gh h fh;rw [df] at this;cases this
theorem ma:∀ (a b:aa),eR a b=true∨a=b∨eR b a=true
 | [],[]=>.inr (.inl rfl)
 | [],_::_=>.inl (by simp [eR,Op.bytesLess])
 | _::_,[]=>.inr (.inr (by simp [eR,Op.bytesLess]))
 | x::a,y::b=>by
  simp only [eR,Op.bytesLess,Bool.or_eq_true,decide_eq_true_eq,Bool.and_eq_true,beq_iff_eq,UInt8.lt_iff_toNat_lt,← UInt8.toNat_inj,List.cons.injEq]
  rcases Nat.lt_trichotomy x.toNat y.toNat with h | h | h
  ·exact .inl (.inl h)
  ·rcases ma a b with h1 | h1 | h1
   ·exact .inl (.inr ⟨h,h1⟩)
   ·exact .inr (.inl ⟨h,h1⟩)
   exact .inr (.inr (.inr ⟨h.symm,h1⟩))
  exact .inr (.inr (.inl h))
theorem rS {a b:aa}:p9 a b<0↔eR a b=true:=by
 unfold p9
 by_cases h:eR a b=true
 ·simp [h]
 by_cases fh:a=b <;> simp [h,fh,df]
theorem zK {a b:aa}:p9 a b=0↔a=b:=by
 unfold p9
 by_cases h:eR a b=true
 ·rw [if_pos h];exact⟨fun fh=>by omega,fun fh=>by subst fh;rw [df] at h;cases h⟩
 by_cases fh:a=b <;> simp [h,fh,df]
/-! ### pairs -/
def Qu (p q:fG):Bool:=if p.ty=q.ty then eR p.key q.key else eR p.ty q.ty
def NM:List Slot→Bool
 | a::b::r=>Qu a.pair b.pair&&NM (b::r)
 | _=>true
theorem hI {α:Type} (p:α→Bool) {xs:List α} {k:Nat} {x:α} (h:xs[k]? = some x):(xs.take (k+1)).filter p=(xs.take k).filter p++if p x then [x] else []:=by
 have bJ:=(List.getElem?_eq_some_iff.1 h).1;rw [List.take_succ_eq_append_getElem bJ,(List.getElem?_eq_some_iff.1 h).2,List.filter_append]
 congr 1
 by_cases cp:p x <;> simp [cp]
section
variable {P:Program} {l:List (Nat×Value)} {w:World} {ty:TypeId} {pos:String} {af:Array Edge}
variable {dd:Option Nat} {gg:Option (Nat×Bool)} {x y:Operand} {t t':TypeId}
def aap (P:Program) (f:FuncId):Prop:=∀ args w,(callFunc f args).run P w=((Extern.BytealgCompare.compare args).run P w).andThen fun v w'=>.ok (.value v) w'
theorem Ms {f:FuncId} {a b:List UInt8} (dI:aap P f) (ae:a6 l x=some (S a)) (aY:a6 l y=some (S b)) {gV:Array TypeId} :
  bG P l ⟨dd,.call {callee:=.value (.func f),args:=#[x,y],argTypes:=gV},ty,pos,af,gg⟩ w (.int .i64 (Lib.compareBytes a b)) w:=fun ρ fg=>by
 have b2:ρ (.func f) = .func (.func f) #[] #[]:=fg _ _ rfl
 have bj:=Lib.run_compareString (P:=P) ⟨⟨a⟩⟩ ⟨⟨b⟩⟩ w
 have:=dI #[S a,S b] w
 rw [show(#[S a,S b]:Array Value) = #[.string ⟨⟨a⟩⟩,.string ⟨⟨b⟩⟩] from rfl,bj] at this
 simp [execOp,resolve,b2,fg _ _ ae,fg _ _ aY,Deferred.ofValue,invoke] at this ⊢
 simpa using this
end
section
variable {P:Program} {ops:Array Oper} {n:Nat} {l:List (Nat×Value)} {M:List (Nat×(Value→World→Prop))} {w:World} {Fin:kf→Prop} {rest:List Oper} {d:Nat} {ty:TypeId} {pos:String} {af:Array Edge}
theorem CG {t:TypeId} {ia:List (Nat×Operand)} {us:List (Nat×Value)} {e c sz fZ:Nat} {gD cs:List Value} (V:Value→World→Prop) (pk:∀ v aB cN,Mod [] aB cN→V v aB→V v cN) (cf:lC P t e sz fZ=true) (dk:hG P e gD) (ae:zS l ia=some us)
  (dI:oT (fun i=>some (i*sz,sz)) ((List.replicate c gD).flatten) us=some cs) (jo:gD.length=sz) (bj:c*sz≤16777216) (bK:∀ aB g cN,Mod [] w aB→kt aB cN g e cs→V (.slice (some ⟨g,0,none⟩) c c) cN) (bY:Nat.blt d n=true) (cg:i' d l=none)
  (h:gw P ops w n Fin rest l ((d,V)::M)):gw P ops w n Fin (⟨some d,.buildSlice t c ia.toArray,ty,pos,af,none⟩::rest) l M:=
 ajX V pk (fun aB k=>⟨_,_,og cf dk ae dI jo bj,(kt.mk' aB e cs).mod,bK _ _ _ k (kt.mk' aB e cs)⟩) bY rfl cg h
end
section
variable {P:Program} {ops:Array Oper} {Q:Exit→Act→World→Prop} {n:Nat} {ds:List Deferred} {l:List (Nat×Value)} {M:List (Nat×(Value→World→Prop))} {w:World} {Fin:kf→Prop} {rest:List Oper} {d j t:Nat} {want:Bool} {op:Op} {ty:TypeId} {pos:String} {af:Array Edge}
theorem amk (cf:(ops[j]?).bind (·.dst)=some t) (cg:i' t l=some undef) (bY:Nat.blt d n=true) (h:ga P ops Q rest n ds ((d,undef)::l) w) :
  ga P ops Q (⟨some d,op,ty,pos,af,some (j,want)⟩::rest) n ds l w:=by
 intro a ay
 refine wpList_step fun K p5=>?_
 have aY:yielded ops a.tmps j=none:=by
  unfold yielded
  rw [cf]
  show(match a.tmps[t]? with | some (.bool b)=>some b | _=>none)=none
  rw [ay.get t _ cg]
  rfl
 have hw:¬ (Region.wanted ⟨some d,op,ty,pos,af,some (j,want)⟩ (yielded ops a.tmps)=true):=by
  simp [Region.wanted,aY]
 rw [if_neg hw]
 exact p5 _ _ (h _ (ay.put bY undef))
theorem aml (cf:(ops[j]?).bind (·.dst)=some t) (cg:i' t l=some undef) (bY:Nat.blt d n=true) (h:gw P ops w n Fin rest ((d,undef)::l) M) :
  gw P ops w n Fin (⟨some d,op,ty,pos,af,some (j,want)⟩::rest) l M:=by
 refine⟨fun u _=>u=undef,⟨fun _ _ _ _ h=>h,fun s4 r4=>by injection r4 with r4;subst r4;simpa [Nat.blt_eq] using bY,fun a aB h4 h7=>?_⟩,by rw [mj rfl];exact h⟩
 have wK:t∈Oper.looksAt ops ⟨some d,op,ty,pos,af,some (j,want)⟩:=by
  unfold Oper.looksAt
  refine List.mem_append_right _ ?_
  simp only
  rw [cf]
  simp
 have h1:=h7 t (fun mU _=>mU=undef) wK (by simp [rH,cg])
 have aY:yielded ops a.tmps j=none:=by
  unfold yielded
  rw [cf]
  show(match a.tmps[t]? with | some (.bool b)=>some b | _=>none)=none
  rw [Array.getD_eq_getD_getElem?] at h1
  cases dA:a.tmps[t]? with
  | none=>rfl
  | some u=>
   rw [dA] at h1
   simp only [Option.getD_some] at h1
   subst h1
   rfl
 have hw:¬ (Region.wanted ⟨some d,op,ty,pos,af,some (j,want)⟩ (yielded ops a.tmps)=true):=by
  simp [Region.wanted,aY]
 rw [if_neg hw]
end
theorem Own.same {w:World} {e sz m n:Nat} {v:Value} {us vs:List Value} (h:Own w e sz v n vs) (hm:n=m) (bK:vs=us):Own w e sz v m us:=by
 subst hm;subst bK;exact h
section
variable {α:Type}
theorem lK {q:α→Bool}:∀ {xs:List α} {i:Nat},(∀ j y,j<i→xs[j]? = some y→q y=true)→(∀ j y,i≤j→xs[j]? = some y→q y=false)→xs.filter q=xs.take i
 | [],i,_,_=>by simp
 | x::xs,0,h,fh=>by
  have:=lK (xs:=xs) (i:=0) (fun j y d'=>by omega) (fun j y _ aY=>fh (j+1) y (by omega) (by simpa using aY))
  have ae:=fh 0 x (by omega) rfl
  rw [List.filter_cons,ae,this]
  simp
 | x::xs,i+1,h,fh=>by
  have:=lK (xs:=xs) (i:=i) (fun j y d' aY=>h (j+1) y (by omega) (by simpa using aY)) (fun j y d' aY=>fh (j+1) y (by omega) (by simpa using aY))
  have ae:=h 0 x (by omega) rfl
  rw [List.filter_cons,ae,this]
  simp
theorem nZ {q:α→Bool}:∀ {xs:List α} {i:Nat},(∀ j y,j<i→xs[j]? = some y→q y=false)→(∀ j y,i≤j→xs[j]? = some y→q y=true)→xs.filter q=xs.drop i
 | [],i,_,_=>by simp
 | x::xs,0,h,fh=>by
  have:=nZ (xs:=xs) (i:=0) (fun j y d'=>by omega) (fun j y _ aY=>fh (j+1) y (by omega) (by simpa using aY))
  have ae:=fh 0 x (by omega) rfl
  rw [List.filter_cons,ae,this]
  simp
 | x::xs,i+1,h,fh=>by
  have:=nZ (xs:=xs) (i:=i) (fun j y d' aY=>h (j+1) y (by omega) (by simpa using aY)) (fun j y d' aY=>fh (j+1) y (by omega) (by simpa using aY))
  have ae:=h 0 x (by omega) rfl
  rw [List.filter_cons,ae,this]
  simp
end
theorem Jj {xs:List Slot}:∀ x∈xs,∀ c∈Slot.cells x,c.oneCell'=true:=by
 intro x _ c bj;simp at bj;rcases bj with rfl | rfl | rfl <;> rfl
theorem Own.slots {w:World} {e:Nat} {v:Value} {xs:List Slot} (A:List Nat) (h:Own w e 3 v xs.length ((xs.map Slot.cells).flatten)) (dF:∀ x∈a1 v,x∉A):ba A w (XP xs) v:=Own.flat h (fun _ _=>rfl) Jj rfl dF
inductive JV where
 | mk (k:Int) (b:Bool) (n:Int) (s:List UInt8) (l:List JV) (m:List (List UInt8×JV))
namespace JV
def kind:JV→Int | .mk k _ _ _ _ _=>k
def is:JV→Bool | .mk _ b _ _ _ _=>b
def num:JV→Int | .mk _ _ n _ _ _=>n
def str:JV→List UInt8 | .mk _ _ _ s _ _=>s
def list:JV→List JV | .mk _ _ _ _ l _=>l
def map:JV→List (List UInt8×JV) | .mk _ _ _ _ _ m=>m
theorem eta (v:JV):v = .mk v.kind v.is v.num v.str v.list v.map:=by cases v;rfl
mutual
def D:JV→List Go.Proofs.YtnihidkbkhcfoaaGreatDoor.V.D
 | .mk k b n s l m=>[.v (.int .i64 k),.v (.bool b),.v (.int .i64 n),.v (S s),.ie 6 (ajZ l),.ie 7 (aj0 m)]
def ajZ:List JV→List (List Go.Proofs.YtnihidkbkhcfoaaGreatDoor.V.D)
 | []=>[]
 | v::r=>v.D::ajZ r
def aj0:List (List UInt8×JV)→List (List Go.Proofs.YtnihidkbkhcfoaaGreatDoor.V.D)
 | []=>[]
 | p::r=>(.v (S p.1)::p.2.D)::aj0 r
end
abbrev hP (p:List UInt8×JV):List Go.Proofs.YtnihidkbkhcfoaaGreatDoor.V.D:=.v (S p.1)::p.2.D
theorem R0:∀ l:List JV,ajZ l=l.map D
 | []=>rfl
 | v::r=>by simp [ajZ,R0 r]
theorem R1:∀ m:List (List UInt8×JV),aj0 m=m.map hP
 | []=>rfl
 | v::r=>by simp [aj0,R1 r]
theorem Gz (v:JV):v.D = [.v (.int .i64 v.kind),.v (.bool v.is),.v (.int .i64 v.num),.v (S v.str),.ie 6 (v.list.map D),.ie 7 (v.map.map hP)]:=by
 cases v;simp [D,kind,is,num,str,list,map,R0,R1]
theorem r0 (v:JV):v.D.length=6:=by rw [Gz];rfl
theorem x4 (p:List UInt8×JV):(hP p).length=7:=by simp [r0]
mutual
def sz:JV→Nat
 | .mk _ _ _ _ l m=>1+R2 l+R3 m
def R2:List JV→Nat
 | []=>0
 | v::r=>v.sz+R2 r
def R3:List (List UInt8×JV)→Nat
 | []=>0
 | p::r=>p.2.sz+R3 r
end
theorem R4 {l:List JV} {v:JV} (h:v∈l):v.sz≤R2 l:=by
 induction l with
 | nil=>cases h
 | cons a r dK=>
  simp only [R2];rcases List.mem_cons.1 h with rfl | h
  ·omega
  have:=dK h;omega
theorem XR {l:List (List UInt8×JV)} {p:List UInt8×JV} (h:p∈l):p.2.sz≤R3 l:=by
 induction l with
 | nil=>cases h
 | cons a r dK=>
  simp only [R3];rcases List.mem_cons.1 h with rfl | h
  ·omega
  have:=dK h;omega
theorem oz (v:JV):v.sz=1+R2 v.list+R3 v.map:=by cases v;simp [sz,list,map]
theorem gN {v x:JV} (h:x∈v.list):x.sz<v.sz:=by have:=R4 h;rw [oz v];omega
theorem gp {v:JV} {p:List UInt8×JV} (h:p∈v.map):p.2.sz<v.sz:=by have:=XR h;rw [oz v];omega
mutual
def ok:JV→Prop
 | .mk k b n s l m=>s.length≤140737488351232∧l.length≤1599289640400∧m.length≤1353245080300∧R5 l∧R6 m
def R5:List JV→Prop
 | []=>True
 | v::r=>v.ok∧R5 r
def R6:List (List UInt8×JV)→Prop
 | []=>True
 | p::r=>(p.1.length≤140737488351232∧p.2.ok)∧R6 r
end
theorem GA:∀ {l:List JV},R5 l↔∀ v∈l,v.ok
 | []=>by simp [R5]
 | v::r=>by simp [R5,GA (l:=r)]
theorem GB:∀ {l:List (List UInt8×JV)},R6 l↔∀ p∈l,p.1.length≤140737488351232∧p.2.ok
 | []=>by simp [R6]
 | v::r=>by simp [R6,GB (l:=r)]
theorem ok_eq (v:JV):v.ok↔v.str.length≤140737488351232∧v.list.length≤1599289640400∧v.map.length≤1353245080300∧(∀ x∈v.list,x.ok)∧∀ p∈v.map,p.1.length≤140737488351232∧p.2.ok:=by
 cases v;simp [ok,str,list,map,GA,GB]
end JV
end Go.Proofs.YtnihidkbkhcfoaaGreatDoor.V
