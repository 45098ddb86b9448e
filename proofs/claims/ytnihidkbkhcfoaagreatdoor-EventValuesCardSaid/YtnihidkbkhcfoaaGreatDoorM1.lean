/-
  A part of the proof: parts of own slices; copy into a part; append of zeros; the entry for slices.overlaps; truths held against one another; drawn operations that look at two slots of which something is known; an argument's reading opened: what its cells stand for, and how great it is; behind the call: true, and each argument reads as it did, where nothing that was there has turned; strings compared by the library's stand-in; values of several cells in a slot; rows of cells; a slice that is built in a region whose order is drawn; a guard on a truth that was not asked; JSON values: what they stand for in memory, and what Same, rises, Get and Find say of them, in plain Lean. No condition of its own.
-/
import Derived.Test.YtnihidkbkhcfoaaGreatDoorM0
import Derived.Laws.StructEq
import Derived.Lib.Overlaps
import Derived.OpenShut
import Derived.DataReads
import Derived.ProofKit
import Derived.Carry
import Derived.WalkKit
import Derived.Lib.Bytealg
set_option linter.unusedVariables false
set_option linter.unusedSimpArgs false
namespace Go.Proofs.YtnihidkbkhcfoaaGreatDoor.V
open Go
def nb (t:Nat):List (Nat×(Value→World→Prop))→Option (Value→World→Prop)
 | []=>none
 | (s,v)::r=>match Nat.beq s t with
  | true=>some v
  | false=>nb t r
def rA (l:List (Nat×Value)) (M:List (Nat×(Value→World→Prop))):j':=fun t=>match iM t l with
 | some v=>some fun u _=>u=v
 | none=>nb t M
section
variable {P:Program} {ops:Array Oper} {Q:Exit→Act→World→Prop} {n:Nat} {ds:List Deferred} {l:List (Nat×Value)} {M:List (Nat×(Value→World→Prop))} {w w':World} {a:Act}
variable {rest:List Oper} {d:Nat} {op:Op} {ty:TypeId} {pos:String} {af:Array Edge} {Fin:j'→Prop}
theorem later (w:World):zK (Mod []) (Mod [] w):=⟨Mod.refl [],fun _ _ _ h k=>h.trans k,fun _ _ h k=>k.trans h⟩
abbrev gh (P:Program) (ops:Array Oper) (w:World) (n:Nat) (Fin:j'→Prop) (rest:List Oper) (l:List (Nat×Value)) (M:List (Nat×(Value→World→Prop))):Prop:=TW P ops (Mod []) (Mod [] w) n Fin rest (rA l M)
def Ld (Q:Exit→Act→World→Prop) (n:Nat) (ds:List Deferred) (w:World) (N:j'):Prop:=∀ a w',a.defers=ds→Mod [] w w'→N.all n a w'→Q .normal a w'
theorem sI (l:List (Nat×Value)):(rA l []).lasts (Mod []):=by
 intro t ar0 iJ;unfold rA at iJ
 split at iJ
 ·injection iJ with iJ;subst iJ;exact fun _ _ _ _ h=>h
 simp [nb] at iJ
theorem x9 {l:List (Nat×Value)} (ay:Has n ds l a):(rA l []).all n a w:=by
 refine⟨ay.size,fun t ar0 iJ=>?_⟩;unfold rA at iJ
 split at iJ
 ·rename_i v bK
  injection iJ with iJ
  subst iJ;simp [ay.get t v bK]
 simp [nb] at iJ
theorem bQ {id:Nat} {lo:List Oper} (hm:P.follows .mixedOrders=true) (ef:Region.lexB .any lo.toArray=true) (h:gh P lo.toArray w n (Ld Q n ds w) lo l []):pW P (.region id lo.toArray true) Q n ds l w:=by
 intro a ay;simp only [Region.lexB,Bool.and_eq_true] at ef;refine wp_region_any hm (xn (n:=n) (ds:=ds) (w0:=w) (Fin:=Ld Q n ds w) (later w) (fun N a w' _ bV hF _ h5 i'=>i' a w' bV hF h5) _ _ (rA l []) a _ (sI l) ay.defers (Mod.drew [] w) (Mod.drew [] w) (x9 ay) ?_);have:=Cg (md:=.any) lo 0 (Array.replicate lo.toArray.size false) (rA l []) (by simp) (by simpa using ef.2) h;simpa using this
theorem zq {id:Nat} {lo:List Oper} (m:Nat) (hm:P.follows .mixedOrders=true) (ef:Region.lexTailB .any lo.toArray m=true)
  (h:gh P lo.toArray w n (fun N=>∀ a w',a.defers=ds→Mod [] w w'→N.all n a w'→wpList P lo.toArray Q (lo.drop m) a w') (lo.take m) l []):pW P (.region id lo.toArray true) Q n ds l w:=by
 intro a ay
 simp only [Region.lexTailB,Bool.and_eq_true,decide_eq_true_eq] at ef
 obtain⟨⟨⟨⟨te,cj⟩,bb⟩,bh⟩,aho⟩:=ef
 have aqD:m<lo.length:=by simpa using cj
 have AT:(lo.take m).length=m:=by simp;omega
 have Xq:(lo.drop m).length=lo.toArray.size-m:=by simp
 have Gp:HeadInv .any lo.toArray m (Array.replicate lo.toArray.size false):=
  ⟨by simp,fun j sH _ cg=>(by rw [getD_replicate_false] at cg;cases cg),fun t _ cc=>getD_in (by simpa using cc) (getD_replicate_false _ _)⟩
 have H:=zM (md:=.any) (g:=lo.toArray.size-m) bb bh cj (lo.take m) 0 _ (rA l []) (fun j dY=>by
  have uW:j<m:=by rw [AT] at dY;exact dY
  simp [uW]) (by simpa using AT) Gp (by rw [AT];exact aho) h
 refine wp_region_any hm ?_
 have:=u5 (n:=n) (ds:=ds) (w0:=w) (Q:=Q) (g:=lo.toArray.size-m) (later w) (fun listed N a w' _ bV hF _ h5 o'=>by
  have:=wpAny_of_seq (md:=.any) (Q':=Q) (lo.drop m) m listed a w' (fun j=>by simp [List.getElem?_drop]) (by rw [Xq];exact o'.1) (o'.2 a w' bV hF h5)
  rwa [Xq] at this) _ _ (rA l []) a _ (sI l) ay.defers (Mod.drew [] w) (Mod.drew [] w) (x9 ay) H
 rw [AT,show m+(lo.toArray.size-m)=lo.toArray.size by omega] at this
 exact this
theorem u6 {l:List (Nat×Value)} {M:List (Nat×(Value→World→Prop))} (bV:a.defers=ds) (h:(rA l M).all n a w):Has n ds (l.filter fun p=>decide (p.1<n)) a:=by
 refine⟨h.1,bV,fun t v bK=>?_⟩;have bH:t<n:=by
  clear h
  induction l with
  | nil=>simp [iM] at bK
  | cons p r dF=>
   obtain⟨s,u⟩:=p
   by_cases bb:s<n
   ·simp only [List.filter_cons,bb,decide_true,if_true,iM] at bK;cases aQ:Nat.beq s t with
    | true=>have:=Nat.eq_of_beq_eq_true aQ;omega
    | false=>rw [aQ] at bK;exact dF bK
   simp only [List.filter_cons,bb,decide_false] at bK;exact dF bK
 have qc:iM t l=some v:=by
  clear h
  induction l with
  | nil=>simp [iM] at bK
  | cons p r dF=>
   obtain⟨s,u⟩:=p
   by_cases bb:s<n
   ·simp only [List.filter_cons,bb,decide_true,if_true,iM] at bK ⊢;cases aQ:Nat.beq s t with
    | true=>rw [aQ] at bK;exact bK
    | false=>rw [aQ] at bK;exact dF bK
   simp only [List.filter_cons,bb,decide_false] at bK;simp only [iM];cases aQ:Nat.beq s t with
   | true=>have:=Nat.eq_of_beq_eq_true aQ;omega
   | false=>exact dF bK
 have:=h.2 t (fun u _=>u=v) (by simp [rA,qc]);rw [← h.1] at bH;simp [bH] at this;simp [bH,this]
def xp (n:Nat):List (Nat×Value)→Bool
 | []=>true
 | (t,_)::r=>Nat.blt t n&&xp n r
theorem ka {n:Nat}:∀ {l:List (Nat×Value)},xp n l=true→(l.filter fun p=>decide (p.1<n))=l
 | [],_=>rfl
 | (t,v)::r,h=>by
  simp only [xp,Bool.and_eq_true,Nat.blt_eq] at h
  simp [List.filter_cons,h.1,ka h.2]
theorem bS (dK:xp n l=true) (h:∀ w',Mod [] w w'→fB Q .normal n ds l w'):gh P ops w n (Ld Q n ds w) [] l M:=by
 intro a w' bV hF h5;have:=u6 bV h5;rw [ka dK] at this;exact h w' hF a this
theorem Rs {t:Nat} {V:Value→World→Prop} (dK:xp n l=true) (cc:iM t l=none) (eW:nb t M=some V) (Rt:Nat.blt t n=true) (h:∀ w' v,Mod [] w w'→V v w'→fB Q .normal n ds ((t,v)::l) w'):gh P ops w n (Ld Q n ds w) [] l M:=by
 intro a w' bV hF h5;have h1:=u6 bV h5;rw [ka dK] at h1;have xq:t<a.tmps.size:=by rw [h5.1];simpa [Nat.blt_eq] using Rt
 have aq:=h5.2 t V (by simp [rA,cc,eW]);have aT:a.tmps.getD t undef=a.tmps[t]:=by simp [xq]
 rw [aT] at aq;refine h w' _ hF aq a ⟨h1.size,h1.defers,fun s v bK=>?_⟩;simp only [iM] at bK;cases aQ:Nat.beq t s with
 | true=>
  rw [aQ] at bK;have:=Nat.eq_of_beq_eq_true aQ;subst this;injection bK with bK
  subst bK;simp [xq]
 | false=>rw [aQ] at bK;exact h1.get s v bK
theorem mG {r8:List Oper} (dK:xp n l=true) (h:∀ w',Mod [] w w'→ga P ops Q r8 n ds l w'):gh P ops w n (fun N=>∀ a w',a.defers=ds→Mod [] w w'→N.all n a w'→wpList P ops Q r8 a w') [] l M:=by
 intro a w' bV hF h5;have:=u6 bV h5;rw [ka dK] at this;exact h w' hF a this
theorem mh {r8:List Oper} {t:Nat} {V:Value→World→Prop} (dK:xp n l=true) (cc:iM t l=none) (eW:nb t M=some V) (Rt:Nat.blt t n=true) (h:∀ w' v,Mod [] w w'→V v w'→ga P ops Q r8 n ds ((t,v)::l) w') :
  gh P ops w n (fun N=>∀ a w',a.defers=ds→Mod [] w w'→N.all n a w'→wpList P ops Q r8 a w') [] l M:=by
 intro a w' bV hF h5
 have h1:=u6 bV h5
 rw [ka dK] at h1
 have xq:t<a.tmps.size:=by rw [h5.1];simpa [Nat.blt_eq] using Rt
 have aq:=h5.2 t V (by simp [rA,cc,eW])
 have aT:a.tmps.getD t undef=a.tmps[t]:=by simp [xq]
 rw [aT] at aq
 refine h w' _ hF aq a ⟨h1.size,h1.defers,fun s v bK=>?_⟩
 simp only [iM] at bK
 cases aQ:Nat.beq t s with
 | true=>
  rw [aQ] at bK
  have:=Nat.eq_of_beq_eq_true aQ
  subst this
  injection bK with bK
  subst bK
  simp [xq]
 | false=>rw [aQ] at bK;exact h1.get s v bK
def e':Op→Bool
 | .select ..=>false
 | _=>true
theorem tf {V:Value→World→Prop} (pa:∀ v aB cO,Mod [] aB cO→V v aB→V v cO) (bV:Nat.blt d n=true) (bb:e' op=true)
  (bl:∀ (ρ:Operand→Value) aB,Mod [] w aB→(∀ x u,a6 l x=some u→ρ x=u)→(∀ t ar0,iM t l=none→nb t M=some ar0→(∃ x∈op.operands.toList,x = .tmp t)→ar0 (ρ (.tmp t)) aB)→
   od P (Mod []) aB V ((execOp ρ ⟨some d,op,ty,pos,af,none⟩).run P aB)) :
  ar2 P ops (Mod []) (Mod [] w) n (rA l M) ⟨some d,op,ty,pos,af,none⟩ V:=by
 refine⟨pa,fun sX rV=>by injection rV with rV;subst rV;simpa [Nat.blt_eq] using bV,fun a aB hF h5=>?_⟩
 rw [if_pos (by simp [Region.wanted])]
 let ρ:Operand→Value:=fun x=>match a6 l x with
  | some u=>u
  | none=>a.eval x
 have wE:∀ t,(∃ x∈op.operands.toList,x = .tmp t)→t∈Oper.looksAt ops ⟨some d,op,ty,pos,af,none⟩:=by
  rintro t ⟨x,ae,rfl⟩
  unfold Oper.looksAt
  exact List.mem_append_left _ (List.mem_filterMap.2 ⟨.tmp t,ae,rfl⟩)
 have fc:∀ x∈op.operands,a.eval x=ρ x:=by
  intro x ae
  show a.eval x=match a6 l x with | some u=>u | none=>a.eval x
  cases bK:a6 l x with
  | none=>rfl
  | some u=>
   cases x with
   | tmp t=>
    have:=h5 t (fun kV _=>kV=u) (wE t ⟨_,by simpa using ae,rfl⟩) (by simp only [a6] at bK;simp [rA,bK])
    simpa [Act.eval] using this
   | const c=>simp only [a6] at bK;injection bK
   | global g=>simp only [a6] at bK;injection bK
   | func f=>simp only [a6] at bK;injection bK
 have he:=execOp_congr ⟨some d,op,ty,pos,af,none⟩ (fun cs b h=>by dsimp only at h;rw [h] at bb;simp [e'] at bb) fc
 rw [he]
 refine bl ρ aB hF (fun x u ae=>?_) (fun t ar0 cc iJ ae=>?_)
 ·show(match a6 l x with | some u=>u | none=>a.eval x)=u
  rw [ae]
 have h1:=h5 t ar0 (wE t ae) (by simp [rA,cc,iJ])
 show ar0 (match a6 l (.tmp t)with | some u=>u | none=>a.eval (.tmp t)) aB
 simp only [a6,cc]
 simpa [Act.eval] using h1
theorem ln {o:Oper} (bV:o.dst=some d) (v:Value):(rA l M).put o (fun u _=>u=v)=rA ((d,v)::l) M:=by
 funext t
 unfold j'.put rA;simp only [bV,iM]
 by_cases h:t=d
 ·subst h;simp
 have:Nat.beq d t=false:=by
  cases aQ:Nat.beq d t
  ·rfl
  exact absurd (Nat.eq_of_beq_eq_true aQ).symm h
 simp [h,this]
theorem mj {o:Oper} (bV:o.dst=some d) (cg:iM d l=none) (V:Value→World→Prop):(rA l M).put o V=rA l ((d,V)::M):=by
 funext t
 unfold j'.put rA;simp only [bV,nb]
 by_cases h:t=d
 ·subst h;simp [cg]
 have:Nat.beq d t=false:=by
  cases aQ:Nat.beq d t
  ·rfl
  exact absurd (Nat.eq_of_beq_eq_true aQ).symm h
 simp [h,this]
theorem ak4 {v:Value} (bl:∀ aB,Mod [] w aB→bF P l ⟨some d,op,ty,pos,af,none⟩ aB v aB) (bV:Nat.blt d n=true) (bb:e' op=true) (h:gh P ops w n Fin rest ((d,v)::l) M) :
  gh P ops w n Fin (⟨some d,op,ty,pos,af,none⟩::rest) l M:=by
 refine⟨fun u _=>u=v,tf (fun _ _ _ _ h=>h) bV bb fun ρ aB hF h1 aq=>?_,?_⟩
 ·rw [bl aB hF ρ h1];exact⟨Mod.refl [] aB,rfl⟩
 rw [ln rfl];exact h
theorem aju (V:Value→World→Prop) (pa:∀ v aB cO,Mod [] aB cO→V v aB→V v cO) (bl:∀ aB,Mod [] w aB→∃ v cO,bF P l ⟨some d,op,ty,pos,af,none⟩ aB v cO∧Mod [] aB cO∧V v cO) (bV:Nat.blt d n=true) (bb:e' op=true) (cg:iM d l=none)
  (h:gh P ops w n Fin rest l ((d,V)::M)):gh P ops w n Fin (⟨some d,op,ty,pos,af,none⟩::rest) l M:=by
 refine⟨V,tf pa bV bb fun ρ aB hF h1 aq=>?_,?_⟩
 ·obtain⟨v,cO,e,hm,bK⟩:=bl aB hF
  rw [e ρ h1]
  exact⟨hm,bK⟩
 rw [mj rfl cg];exact h
theorem AI {f:FuncId} {args:Array Value} {v:Value} (bl:∀ aB,Mod [] w aB→lK P l ⟨some d,op,ty,pos,af,none⟩ aB f args) (bh:∀ aB,Mod [] w aB→Calls P f args aB (bM fun u cO=>u=v∧Mod [] aB cO)) (bV:Nat.blt d n=true) (bb:e' op=true) (h:gh P ops w n Fin rest ((d,v)::l) M) :
  gh P ops w n Fin (⟨some d,op,ty,pos,af,none⟩::rest) l M:=by
 refine⟨fun u _=>u=v,tf (fun _ _ _ _ h=>h) bV bb fun ρ aB hF h1 aq=>?_,?_⟩
 ·rw [bl aB hF ρ h1]
  exact⟨rfl,(bh aB hF).mono fun e cO he=>by cases e <;> first | exact⟨he.2,he.1⟩ | exact he⟩
 rw [ln rfl];exact h
theorem Gq {f:FuncId} {args:Array Value} (V:Value→World→Prop) (pa:∀ v aB cO,Mod [] aB cO→V v aB→V v cO) (bl:∀ aB,Mod [] w aB→lK P l ⟨some d,op,ty,pos,af,none⟩ aB f args) (bh:∀ aB,Mod [] w aB→Calls P f args aB (bM fun u cO=>V u cO∧Mod [] aB cO)) (bV:Nat.blt d n=true) (bb:e' op=true) (cg:iM d l=none)
  (h:gh P ops w n Fin rest l ((d,V)::M)):gh P ops w n Fin (⟨some d,op,ty,pos,af,none⟩::rest) l M:=by
 refine⟨V,tf pa bV bb fun ρ aB hF h1 aq=>?_,?_⟩
 ·rw [bl aB hF ρ h1]
  exact⟨rfl,(bh aB hF).mono fun e cO he=>by cases e <;> first | exact⟨he.2,he.1⟩ | exact he⟩
 rw [mj rfl cg];exact h
theorem I' {V:Value→World→Prop} {t:Nat} {ar0:Value→World→Prop} (cc:iM t l=none) (eW:nb t M=some ar0) (ae:∃ x∈op.operands.toList,x = .tmp t) (pa:∀ v aB cO,Mod [] aB cO→V v aB→V v cO) (bV:Nat.blt d n=true) (bb:e' op=true)
  (bl:∀ (ρ:Operand→Value) aB u,Mod [] w aB→ar0 u aB→(∀ x v,a6 ((t,u)::l) x=some v→ρ x=v)→od P (Mod []) aB V ((execOp ρ ⟨some d,op,ty,pos,af,none⟩).run P aB)) :
  ar2 P ops (Mod []) (Mod [] w) n (rA l M) ⟨some d,op,ty,pos,af,none⟩ V:=by
 refine tf pa bV bb fun ρ aB hF h1 aq=>bl ρ aB (ρ (.tmp t)) hF (aq t ar0 cc eW ae) fun x v bK=>?_
 cases x with
 | tmp s=>
  simp only [a6,iM] at bK
  cases aQ:Nat.beq t s with
  | true=>
   rw [aQ] at bK
   have:=Nat.eq_of_beq_eq_true aQ
   subst this
   injection bK
  | false=>rw [aQ] at bK;exact h1 _ _ bK
 | const c=>exact h1 _ _ bK
 | global g=>exact h1 _ _ bK
 | func f=>exact h1 _ _ bK
theorem Gr (V:Value→World→Prop) (pa:∀ v aB cO,Mod [] aB cO→V v aB→V v cO) (t:Nat) {ar0:Value→World→Prop} (cc:iM t l=none) (eW:nb t M=some ar0) (ae:∃ x∈op.operands.toList,x = .tmp t) (bl:∀ aB u,Mod [] w aB→ar0 u aB→∃ v cO,bF P ((t,u)::l) ⟨some d,op,ty,pos,af,none⟩ aB v cO∧Mod [] aB cO∧V v cO)
  (bV:Nat.blt d n=true) (bb:e' op=true) (cg:iM d l=none) (h:gh P ops w n Fin rest l ((d,V)::M)) :
  gh P ops w n Fin (⟨some d,op,ty,pos,af,none⟩::rest) l M:=by
 refine⟨V,I' cc eW ae pa bV bb fun ρ aB u hF iJ h1=>?_,?_⟩
 ·obtain⟨v,cO,e,hm,bK⟩:=bl aB u hF iJ
  rw [e ρ h1]
  exact⟨hm,bK⟩
 rw [mj rfl cg];exact h
theorem aar {f:FuncId} {args:Value→Array Value} (V:Value→World→Prop) (pa:∀ v aB cO,Mod [] aB cO→V v aB→V v cO) (t:Nat) {ar0:Value→World→Prop} (cc:iM t l=none) (eW:nb t M=some ar0) (ae:∃ x∈op.operands.toList,x = .tmp t) (bl:∀ aB u,Mod [] w aB→ar0 u aB→lK P ((t,u)::l) ⟨some d,op,ty,pos,af,none⟩ aB f (args u)) (bh:∀ aB u,Mod [] w aB→ar0 u aB→Calls P f (args u) aB (bM fun u cO=>V u cO∧Mod [] aB cO)) (bV:Nat.blt d n=true) (bb:e' op=true) (cg:iM d l=none)
  (h:gh P ops w n Fin rest l ((d,V)::M)):gh P ops w n Fin (⟨some d,op,ty,pos,af,none⟩::rest) l M:=by
 refine⟨V,I' cc eW ae pa bV bb fun ρ aB u hF iJ h1=>?_,?_⟩
 ·rw [bl aB u hF iJ ρ h1]
  exact⟨rfl,(bh aB u hF iJ).mono fun e cO he=>by cases e <;> first | exact⟨he.2,he.1⟩ | exact he⟩
 rw [mj rfl cg];exact h
end
section
variable {P:Program} {ops:Array Oper} {Q:Exit→Act→World→Prop} {n:Nat} {ds:List Deferred} {l:List (Nat×Value)} {M:List (Nat×(Value→World→Prop))} {w w':World} {a:Act}
variable {rest:List Oper} {d:Nat} {op:Op} {ty:TypeId} {pos:String} {af:Array Edge} {Fin:j'→Prop} {j:Nat} {want b:Bool}
/-! ## Guarded operations -/
def x' (ops:Array Oper) (l:List (Nat×Value)) (j:Nat):Option Bool:=match (ops[j]?).bind (·.dst)with
 | some t=>match iM t l with
  | some (.bool b)=>some b
  | _=>none
 | none=>none
theorem Gs (h:x' ops l j=some b):∃ t,(ops[j]?).bind (·.dst)=some t∧iM t l=some (.bool b):=by
 unfold x' at h
 split at h
 ·rename_i t cc
  split at h
  ·rename_i fb aQ
   injection h with h
   subst h;exact⟨t,cc,aQ⟩
  cases h
 cases h
theorem r9 (ay:Has n ds l a) (h:x' ops l j=some b):yielded ops a.tmps j=some b:=by
 obtain⟨t,h1,aq⟩:=Gs h;unfold yielded;rw [h1];simp [ay.get t _ aq]
theorem lx {v:Value} (dv:x' ops l j=some b) (aQ:b=want) (bl:bF P l ⟨some d,op,ty,pos,af,some (j,want)⟩ w v w') (bV:Nat.blt d n=true) (h:ga P ops Q rest n ds ((d,v)::l) w') :
  ga P ops Q (⟨some d,op,ty,pos,af,some (j,want)⟩::rest) n ds l w:=by
 intro a ay
 refine wpList_step fun K pY=>?_
 have hw:Region.wanted ⟨some d,op,ty,pos,af,some (j,want)⟩ (yielded ops a.tmps)=true:=by
  simp [Region.wanted,r9 ay dv,aQ]
 rw [if_pos hw]
 have:=bl a.eval (fun x u ae=>ay.ru ae)
 simp only [Oper.wp,this,Oper.upon]
 exact pY _ _ (h _ (ay.put bV v))
theorem alF {f:FuncId} {args:Array Value} {xN:Value→World→Prop} (dv:x' ops l j=some b) (aQ:b=want) (bl:lK P l ⟨some d,op,ty,pos,af,some (j,want)⟩ w f args) (bh:Calls P f args w (bM xN)) (bV:Nat.blt d n=true) (h:∀ v w',xN v w'→ga P ops Q rest n ds ((d,v)::l) w') :
  ga P ops Q (⟨some d,op,ty,pos,af,some (j,want)⟩::rest) n ds l w:=by
 intro a ay
 refine wpList_step fun K pY=>?_
 have hw:Region.wanted ⟨some d,op,ty,pos,af,some (j,want)⟩ (yielded ops a.tmps)=true:=by
  simp [Region.wanted,r9 ay dv,aQ]
 rw [if_pos hw]
 have:=bl a.eval (fun x u ae=>ay.ru ae)
 simp only [Oper.wp,this,Oper.upon]
 refine bh.mono fun e w' he=>?_
 cases e with
 | returned v=>exact pY _ _ (h v w' he _ (ay.put bV v))
 | panicked c=>exact he.elim
 | outgrown=>exact he.elim
theorem alG (dv:x' ops l j=some b) (aQ:b≠want) (bV:Nat.blt d n=true) (h:ga P ops Q rest n ds ((d,undef)::l) w) :
  ga P ops Q (⟨some d,op,ty,pos,af,some (j,want)⟩::rest) n ds l w:=by
 intro a ay
 refine wpList_step fun K pY=>?_
 have hw:¬ (Region.wanted ⟨some d,op,ty,pos,af,some (j,want)⟩ (yielded ops a.tmps)=true):=by
  simp [Region.wanted,r9 ay dv,aQ]
 rw [if_neg hw]
 exact pY _ _ (h _ (ay.put bV undef))
/-! .. in regions that draw -/
theorem zN {a:Act} {aB:World} {o:Oper} (et:o.guard=some (j,want)) (dv:x' ops l j=some b) (h5:j'.on ops (rA l M) o a aB):Region.wanted o (yielded ops a.tmps)=(b == want):=by
 obtain⟨t,h1,aq⟩:=Gs dv;have wE:t∈Oper.looksAt ops o:=by
  unfold Oper.looksAt;rw [et];exact List.mem_append_right _ (by simp [h1])
 have:=h5 t (fun u _=>u = .bool b) wE (by simp [rA,aq]);have bH:t<a.tmps.size:=by
  rcases Nat.lt_or_ge t a.tmps.size with h | h
  ·exact h
  simp [Array.getElem?_eq_none h] at this;cases this
 simp [bH] at this;have aZ:yielded ops a.tmps j=some b:=by
  unfold yielded;rw [h1];simp [bH,this]
 simp [Region.wanted,et,aZ]
theorem Ru {V:Value→World→Prop} (dv:x' ops l j=some b) (aQ:b=want) (h:ar2 P ops (Mod []) (Mod [] w) n (rA l M) ⟨some d,op,ty,pos,af,none⟩ V):ar2 P ops (Mod []) (Mod [] w) n (rA l M) ⟨some d,op,ty,pos,af,some (j,want)⟩ V:=by
 refine⟨h.lasts,h.fits,fun a aB hF h5=>?_⟩;have hw:=zN (o:=⟨some d,op,ty,pos,af,some (j,want)⟩) rfl dv h5;rw [hw,aQ];simp only [beq_self_eq_true,if_true];have:=h.run a aB hF (fun t ar0 cc iJ=>h5 t ar0 (by
  unfold Oper.looksAt at cc ⊢;simp only [List.append_nil] at cc;exact List.mem_append_left _ cc) iJ)
 rw [if_pos (by simp [Region.wanted])] at this;exact this
theorem alH (dv:x' ops l j=some b) (aQ:b≠want) (bV:Nat.blt d n=true):ar2 P ops (Mod []) (Mod [] w) n (rA l M) ⟨some d,op,ty,pos,af,some (j,want)⟩ (fun u _=>u=undef):=by
 refine⟨fun _ _ _ _ h=>h,fun sX rV=>by injection rV with rV;subst rV;simpa [Nat.blt_eq] using bV,fun a aB hF h5=>?_⟩;have hw:=zN (o:=⟨some d,op,ty,pos,af,some (j,want)⟩) rfl dv h5;have:(b == want)=false:=by simp [aQ]
 rw [hw,this];simp
theorem Nn {v:Value} (dv:x' ops l j=some b) (aQ:b=want) (bl:∀ aB,Mod [] w aB→bF P l ⟨some d,op,ty,pos,af,none⟩ aB v aB) (bV:Nat.blt d n=true) (bb:e' op=true) (h:gh P ops w n Fin rest ((d,v)::l) M) :
  gh P ops w n Fin (⟨some d,op,ty,pos,af,some (j,want)⟩::rest) l M:=by
 refine⟨fun u _=>u=v,Ru dv aQ (tf (fun _ _ _ _ h=>h) bV bb fun ρ aB hF h1 aq=>?_),?_⟩
 ·rw [bl aB hF ρ h1];exact⟨Mod.refl [] aB,rfl⟩
 rw [ln rfl];exact h
theorem EI {f:FuncId} {args:Array Value} {v:Value} (dv:x' ops l j=some b) (aQ:b=want) (bl:∀ aB,Mod [] w aB→lK P l ⟨some d,op,ty,pos,af,none⟩ aB f args) (bh:∀ aB,Mod [] w aB→Calls P f args aB (bM fun u cO=>u=v∧Mod [] aB cO)) (bV:Nat.blt d n=true) (bb:e' op=true) (h:gh P ops w n Fin rest ((d,v)::l) M) :
  gh P ops w n Fin (⟨some d,op,ty,pos,af,some (j,want)⟩::rest) l M:=by
 refine⟨fun u _=>u=v,Ru dv aQ (tf (fun _ _ _ _ h=>h) bV bb fun ρ aB hF h1 aq=>?_),?_⟩
 ·rw [bl aB hF ρ h1]
  exact⟨rfl,(bh aB hF).mono fun e cO he=>by cases e <;> first | exact⟨he.2,he.1⟩ | exact he⟩
 rw [ln rfl];exact h
theorem Rv {f:FuncId} {args:Array Value} (V:Value→World→Prop) (pa:∀ v aB cO,Mod [] aB cO→V v aB→V v cO) (dv:x' ops l j=some b) (aQ:b=want) (bl:∀ aB,Mod [] w aB→lK P l ⟨some d,op,ty,pos,af,none⟩ aB f args) (bh:∀ aB,Mod [] w aB→Calls P f args aB (bM fun u cO=>V u cO∧Mod [] aB cO)) (bV:Nat.blt d n=true) (bb:e' op=true) (cg:iM d l=none)
  (h:gh P ops w n Fin rest l ((d,V)::M)):gh P ops w n Fin (⟨some d,op,ty,pos,af,some (j,want)⟩::rest) l M:=by
 refine⟨V,Ru dv aQ (tf pa bV bb fun ρ aB hF h1 aq=>?_),?_⟩
 ·rw [bl aB hF ρ h1]
  exact⟨rfl,(bh aB hF).mono fun e cO he=>by cases e <;> first | exact⟨he.2,he.1⟩ | exact he⟩
 rw [mj rfl cg];exact h
theorem alI (dv:x' ops l j=some b) (aQ:b≠want) (bV:Nat.blt d n=true) (h:gh P ops w n Fin rest ((d,undef)::l) M) :
  gh P ops w n Fin (⟨some d,op,ty,pos,af,some (j,want)⟩::rest) l M:=
 ⟨fun u _=>u=undef,alH dv aQ bV,by rw [ln rfl];exact h⟩
/-! ## A call's begin and end -/
def tg (i:Nat):List Value→List (Nat×Value)
 | []=>[]
 | v::r=>(i,v)::tg (i+1) r
theorem sJ:∀ (vs:List Value) (i t:Nat) (v:Value),iM t (tg i vs)=some v→i≤t∧vs[t-i]? = some v
 | [],_,_,_,h=>by simp [tg,iM] at h
 | u::r,i,t,v,h=>by
  simp only [tg,iM] at h
  cases aQ:Nat.beq i t with
  | true=>
   rw [aQ] at h
   have:=Nat.eq_of_beq_eq_true aQ
   subst this
   exact⟨Nat.le_refl _,by simpa using h⟩
  | false=>
   rw [aQ] at h
   obtain⟨h1,aq⟩:=sJ r (i+1) t v h
   refine⟨by omega,?_⟩
   rw [show t-i=(t-(i+1))+1 by omega]
   simpa using aq
theorem enter {f:FuncId} {fn:Func} {c:Code} {vs:List Value} {arZ:Ending→World→Prop} (dK:P.funcs[f]? = some fn) (aQ:fn.body=some c) (cj:fn.ntmps=n) (hle:Nat.ble vs.length n=true) (bb:Sub (tg 0 vs) l)
  (h:pW P c (bodyPost P fn arZ) n [] l w):Calls P f vs.toArray w arZ:=by
 have aas:vs.length≤n:=by simpa using hle
 have ay:Has n [] (tg 0 vs) {tmps:=vs.toArray++Array.replicate (fn.ntmps-vs.toArray.size) undef,defers:=[]}:=by
  refine⟨by rw [Array.size_append,Array.size_replicate,List.size_toArray,cj];omega,rfl,fun t v bK=>?_⟩
  obtain⟨_,aq⟩:=sJ vs 0 t v bK
  rw [Nat.sub_zero] at aq
  have bH:=(List.getElem?_eq_some_iff.1 aq).1
  dsimp only
  rw [Array.getElem?_append_left (by simpa using bH)]
  simpa using aq
 exact calls_of_wp dK aQ (h _ (ay.sub bb))
variable {fn:Func} {xN:Value→World→Prop} {t t' acZ:Nat} {v v' ac0:Value}
theorem u7 (ay:Has n ds l a) (h:iM t l=some v):a.tmps.getD t undef=v:=by simp [ay.get t v h]
theorem ahp (bl:fn.results = #[]) (h:xN (.tuple #[]) w):fB (bodyPost P fn (bM xN)) .ret n [] l w:=fun a ay=>⟨ay.defers,_,results_none bl _ _ _,h⟩
theorem QA (bl:fn.results = #[]) (h:xN (.tuple #[]) w):fB (bodyPost P fn (bM xN)) .normal n [] l w:=fun a ay=>⟨ay.defers,_,results_none bl _ _ _,h⟩
theorem ar (bl:fn.results = #[.tmp t]) (bK:iM t l=some v) (h:xN v w):fB (bodyPost P fn (bM xN)) .ret n [] l w:=fun a ay=>⟨ay.defers,_,results_tmp bl _ _ _,by rw [u7 ay bK];exact h⟩
theorem cr (bl:fn.results = #[.tmp t,.tmp t']) (bK:iM t l=some v) (qc:iM t' l=some v') (h:xN (.tuple #[v,v']) w):fB (bodyPost P fn (bM xN)) .ret n [] l w:=fun a ay=>⟨ay.defers,_,results_tmp2 bl _ _ _,by rw [u7 ay bK,u7 ay qc];exact h⟩
theorem rZ (bl:fn.results = #[.tmp t,.tmp t',.tmp acZ]) (bK:iM t l=some v) (qc:iM t' l=some v') (ahq:iM acZ l=some ac0) (h:xN (.tuple #[v,v',ac0]) w):fB (bodyPost P fn (bM xN)) .ret n [] l w:=fun a ay=>
 ⟨ay.defers,.tuple #[v,v',ac0],by simp [results,bl,ay.get _ _ bK,ay.get _ _ qc,ay.get _ _ ahq],h⟩
theorem kd {ad:Addr} {vs:List Value} {T c:Nat} (bl:fn.results = #[.cell t T]) (cc:rF P T c=true) (bK:iM t l=some (.pointer (some ad))) (bh:vs.length=c) (tC:q7 w ad vs) (h:xN (.agg vs.toArray) w):fB (bodyPost P fn (bM xN)) .ret n [] l w:=fun a ay=>
 ⟨ay.defers,.agg vs.toArray,by simp [results,bl,ay.get _ _ bK,asAddr,ht cc bh tC],h⟩
theorem jn {ad:Addr} {vs:List Value} {T c:Nat} (bl:fn.results = #[.cell t T,.tmp t']) (cc:rF P T c=true) (bK:iM t l=some (.pointer (some ad))) (bh:vs.length=c) (tC:q7 w ad vs) (qc:iM t' l=some v') (h:xN (.tuple #[.agg vs.toArray,v']) w):fB (bodyPost P fn (bM xN)) .ret n [] l w:=fun a ay=>
 ⟨ay.defers,.tuple #[.agg vs.toArray,v'],by simp [results,bl,ay.get _ _ bK,ay.get _ _ qc,asAddr,ht cc bh tC],h⟩
end
section
variable {P:Program} {ops:Array Oper} {Q:Exit→Act→World→Prop} {n:Nat} {ds:List Deferred} {l:List (Nat×Value)} {M:List (Nat×(Value→World→Prop))} {w w':World} {Fin:j'→Prop} {rest:List Oper} {d:Nat} {op:Op} {ty:TypeId} {pos:String} {af:Array Edge} {j:Nat} {b c want:Bool} {v:Value} {x:Operand}
theorem aah (dv:x' ops l j=some b) (aQ:b=c) (h:ga P ops Q rest n ds ((d,undef)::l) w) (bh:(c != want)=true:=by exact rfl) (bV:Nat.blt d n=true:=by exact rfl):ga P ops Q (⟨some d,op,ty,pos,af,some (j,want)⟩::rest) n ds l w:=
 alG dv (fun e=>by subst aQ;subst e;simp at bh) bV h
theorem eF (dv:x' ops l j=some b) (aQ:b=c) (h:gh P ops w n Fin rest ((d,undef)::l) M) (bh:(c != want)=true:=by exact rfl) (bV:Nat.blt d n=true:=by exact rfl):gh P ops w n Fin (⟨some d,op,ty,pos,af,some (j,want)⟩::rest) l M:=
 alI dv (fun e=>by subst aQ;subst e;simp at bh) bV h
theorem ag (bl:bF P l ⟨some d,op,ty,pos,af,none⟩ w v w') (h:ga P ops Q rest n ds ((d,v)::l) w') (bV:Nat.blt d n=true:=by exact rfl):ga P ops Q (⟨some d,op,ty,pos,af,none⟩::rest) n ds l w:=fN bl bV h
theorem B4 (dv:x' ops l j=some b) (aQ:b=want) (bl:bF P l ⟨some d,op,ty,pos,af,some (j,want)⟩ w v w') (h:ga P ops Q rest n ds ((d,v)::l) w') (bV:Nat.blt d n=true:=by exact rfl):ga P ops Q (⟨some d,op,ty,pos,af,some (j,want)⟩::rest) n ds l w:=lx dv aQ bl bV h
theorem aG (ae:a6 l x=some v) (h:ga P ops Q rest n ds ((d,v)::l) w) (bV:Nat.blt d n=true:=by exact rfl):ga P ops Q (⟨some d,.move x,ty,pos,af,none⟩::rest) n ds l w:=fN (d' ae) bV h
theorem aU (ae:a6 l x=some v) (h:ga P ops Q rest n ds ((d,v)::l) w) (bV:Nat.blt d n=true:=by exact rfl):ga P ops Q (⟨some d,.assign x,ty,pos,af,none⟩::rest) n ds l w:=fN (cq ae) bV h
theorem J {K:Act→World→Prop} {y:Code} {Q2:Exit→Act→World→Prop} (pY:∀ n ds l w,pW P y Q2 n ds l w→∀ a,Has n ds l a→K a w) (h:pW P y Q2 n ds l w):ga P ops (Exit.then K Q) [] n ds l w:=cF (dT (pY _ _ _ _ h))
theorem au {K:Act→World→Prop} {y:Code} {Q2:Exit→Act→World→Prop} (pY:∀ n ds l w,pW P y Q2 n ds l w→∀ a,Has n ds l a→K a w) (h:pW P y Q2 n ds l w):fB (Exit.then K Q) .normal n ds l w:=dT (pY _ _ _ _ h)
theorem ax {x y:Code} (h:∀ {K:Act→World→Prop},(∀ n ds l w,pW P y Q n ds l w→∀ a,Has n ds l a→K a w)→pW P x (Exit.then K Q) n ds l w):pW P (.seq x y) Q n ds l w:=nj fun _ aq=>h aq
theorem ab {lo:List Oper} {id:Nat} {y:Code} (h:∀ {K:Act→World→Prop},(∀ n ds l w,pW P y Q n ds l w→∀ a,Has n ds l a→K a w)→ga P lo.toArray (Exit.then K Q) lo n ds l w):pW P (.seq (.region id lo.toArray false) y) Q n ds l w:=nj fun _ aq=>bP (h aq)
theorem aj (bl:∀ {aB},Mod [] w aB→bF P l ⟨some d,op,ty,pos,af,none⟩ aB v aB) (h:gh P ops w n Fin rest ((d,v)::l) M) (bV:Nat.blt d n=true:=by exact rfl) (bb:e' op=true:=by exact rfl):gh P ops w n Fin (⟨some d,op,ty,pos,af,none⟩::rest) l M:=ak4 (fun _ e=>bl e) bV bb h
theorem aM (aQ:b=want) (bl:∀ {aB},Mod [] w aB→bF P l ⟨some d,op,ty,pos,af,none⟩ aB v aB) (h:gh P ops w n Fin rest ((d,v)::l) M) (dv:x' ops l j=some b:=by exact rfl) (bV:Nat.blt d n=true:=by exact rfl) (bb:e' op=true:=by exact rfl):gh P ops w n Fin (⟨some d,op,ty,pos,af,some (j,want)⟩::rest) l M:=Nn dv aQ (fun _ e=>bl e) bV bb h
theorem aw (bl:bF P l ⟨some d,op,ty,pos,af,some (j,want)⟩ w v w') (h:ga P ops Q rest n ds ((d,v)::l) w') (dv:x' ops l j=some want:=by exact rfl) (bV:Nat.blt d n=true:=by exact rfl):ga P ops Q (⟨some d,op,ty,pos,af,some (j,want)⟩::rest) n ds l w:=lx dv rfl bl bV h
theorem cQ {f:FuncId} {args:Array Value} (bl:lK P l ⟨some d,op,ty,pos,af,none⟩ w f args) (bh:Calls P f args w (bM fun u w'=>u=v∧Mod [] w w')) (h:∀ w',Mod [] w w'→ga P ops Q rest n ds ((d,v)::l) w') (bV:Nat.blt d n=true:=by exact rfl):ga P ops Q (⟨some d,op,ty,pos,af,none⟩::rest) n ds l w:=fv bl bh bV fun _ w' az=>az.1▸h w' az.2
theorem fC {f:FuncId} {args:Array Value} (bl:lK P l ⟨some d,op,ty,pos,af,some (j,want)⟩ w f args) (bh:Calls P f args w (bM fun u w'=>u=v∧Mod [] w w')) (h:∀ w',Mod [] w w'→ga P ops Q rest n ds ((d,v)::l) w') (dv:x' ops l j=some want:=by exact rfl) (bV:Nat.blt d n=true:=by exact rfl):ga P ops Q (⟨some d,op,ty,pos,af,some (j,want)⟩::rest) n ds l w:=alF dv rfl bl bh bV fun _ w' az=>az.1▸h w' az.2
theorem bd {p:Prop} [h:Decidable p] (cn:p):decide p=true:=decide_eq_true cn
theorem bJ {p:Prop} [h:Decidable p] (cn:¬ p):decide p=false:=decide_eq_false cn
theorem dM {a:Bool} (h:¬ a=true):a=false:=Bool.eq_false_iff.2 h
end
theorem bZ':(∀ b,(true&&b)=b)∧(∀ b,(b&&true)=b)∧(∀ b,(false&&b)=false)∧(∀ b,(b&&false)=false)∧(∀ b,(true||b)=true)∧(∀ b,(b||true)=true)∧(∀ b,(false||b)=b)∧(∀ b,(b||false)=b)∧(!true)=false∧(!false)=true:=by simp
section
variable {A A' M:List Nat} {w w':World}
theorem a8.bG {d:D} {u:Value} (h:a8 A w d u) (k:Mod [] w w'):a8 A w' d u:=a8.to k (by simp) (fun x ae=>.inl ae) d u h
theorem a8.toM {d:D} {u:Value} (h:a8 A w d u) (k:Mod M w w') (eW:∀ x∈M,x∈A):a8 A w' d u:=a8.to k eW (fun x ae=>.inl ae) d u h
theorem a8.e6 {d:D} {u:Value} (h:a8 A w d u) (dD:∀ x∈A',x∈A):a8 A' w d u:=a8.to (Mod.refl [] w) (by simp) (fun x ae=>.inl (dD x ae)) d u h
theorem a8.more {d:D} {u:Value} (h:a8 A w d u) (dD:∀ x∈A',x∈A∨w.heap.size≤x):a8 A' w d u:=a8.to (Mod.refl [] w) (by simp) dD d u h
theorem ao.bG {ds:List D} {us:List Value} (h:ao A w ds us) (k:Mod [] w w'):ao A w' ds us:=ao.to k (by simp) (fun x ae=>.inl ae) ds us h
theorem ao.toM {ds:List D} {us:List Value} (h:ao A w ds us) (k:Mod M w w') (eW:∀ x∈M,x∈A):ao A w' ds us:=ao.to k eW (fun x ae=>.inl ae) ds us h
theorem ao.e6 {ds:List D} {us:List Value} (h:ao A w ds us) (dD:∀ x∈A',x∈A):ao A' w ds us:=ao.to (Mod.refl [] w) (by simp) (fun x ae=>.inl (dD x ae)) ds us h
theorem ao.more {ds:List D} {us:List Value} (h:ao A w ds us) (dD:∀ x∈A',x∈A∨w.heap.size≤x):ao A' w ds us:=ao.to (Mod.refl [] w) (by simp) dD ds us h
/-! ### rows of values that are their own reading -/
variable {α:Type}
def flat (sz:Nat) (cells:α→List Value) (xs:List α):D:=.ia sz (xs.map fun x=>(cells x).map D.v)
theorem DX:∀ {cs us:List Value},ao A w (cs.map D.v) us→us=cs
 | [],us,h=>by simpa [ao] using h
 | c::cs,us,h=>by
  simp only [List.map_cons,ao] at h
  obtain⟨u,gd,rfl,h1,aq⟩:=h
  rw [h1.l3,DX aq]
theorem zO:∀ {cs:List Value},(∀ c∈cs,c.oneCell'=true)→ao A w (cs.map D.v) cs
 | [],_=>rfl
 | c::cs,h=>ao.gJ (a8.cK (h c (by simp))) (zO fun x ae=>h x (by simp [ae]))
theorem fO {sz:Nat} {cells:α→List Value} {xs:List α} {u:Value} (h:a8 A w (flat sz cells xs) u):∃ ad c,u = .slice ad xs.length c∧xs.length≤c∧c≤9223372036854775807:=by
 obtain⟨ad,c,h1,aq,aT⟩:=h.uj;simp only [List.length_map] at h1 aq;exact⟨ad,c,h1,aq,aT⟩
theorem eC {sz n c i:Nat} {cells:α→List Value} {xs:List α} {ad:Option Addr} {x:α} (h:a8 A w (flat sz cells xs) (.slice ad n c)) (hi:xs[i]? = some x):∃ a,ad=some a∧q7 w (a.add (i*sz)) (cells x)∧(cells x).length=sz:=by
 obtain⟨a,us,h1,aq,aT,bL,_⟩:=a8.at_ (i:=i) (r:=(cells x).map D.v) h (by simp [hi]);have:=DX aq;subst this;exact⟨a,h1,bL,aT⟩
theorem th (cells:α→List Value) (xs:List α):(xs.map fun x=>(cells x).map D.v).flatten=((xs.map cells).flatten).map D.v:=by
 induction xs with
 | nil=>rfl
 | cons x xs dF=>simp [dF]
theorem Own.flat {e sz n:Nat} {v:Value} {cells:α→List Value} {xs:List α} (h:Own w e sz v n ((xs.map cells).flatten)) (cg:∀ x∈xs,(cells x).length=sz) (h1:∀ x∈xs,∀ c∈cells x,c.oneCell'=true) (cj:xs.length=n) (dD:∀ x∈aY v,x∉A):a8 A w (flat sz cells xs) v:=by
 refine h.rep ?_ ?_ (by simpa using cj) dD
 ·rw [th];exact zO fun c bh=>by
   obtain⟨cs,aq,aT⟩:=List.mem_flatten.1 bh;obtain⟨x,bL,rfl⟩:=List.mem_map.1 aq;exact h1 x bL c aT
 intro r bl;obtain⟨x,bL,rfl⟩:=List.mem_map.1 bl;simp [cg x bL]
theorem Src.flat {P:Program} {qQ w6 sz:Nat} {cells:α→List Value} {xs:List α} {v:Value} (hk:P.underlying qQ=some (.slice w6)) (h:a8 A w (flat sz cells xs) v):Src P sz qQ v xs.length ((xs.map cells).flatten) w:=by
 obtain⟨vs,h1,aq,aT⟩:=Src.rep (P:=P) hk h;rw [th] at h1;have:=DX h1;subst this;simpa using aT
end
/-! ## Structs held against each other -/
section
variable {P:Program} {n:Nat} {l:List (Nat×Value)} {w w':World}
variable {d:Nat} {ty:TypeId} {pos:String} {af:Array Edge}
variable {dd:Option Nat} {gg:Option (Nat×Bool)} {x y z:Operand} {t t':TypeId}
def ahr:Value→Value→Option Bool
 | .int _ a,.int _ b=>some (decide (a=b))
 | .bool a,.bool b=>some (decide (a=b))
 | .string a,.string b=>some (decide (a.data.toList=b.data.toList))
 | _,_=>none
def Ch:List Value→List Value→Option Bool
 | [],[]=>some true
 | u::us,v::vs=>match ahr u v,Ch us vs with
  | some a,some b=>some (a&&b)
  | _,_=>none
 | _,_=>none
def okF (P:Program):List Field→Nat→List Value→List Value→Bool
 | [],_,[],[]=>true
 | f::pX,i,u::us,v::vs=>f.name != "_" && f.offset == i&&nL P f.type&&(match P.underlying f.type,u,v with
  | some (.int _),.int k _,.int iA _=>k == iA
  | some .bool,.bool _,.bool _=>true
  | some .string,.string _,.string _=>true
  | _,_,_=>false)&&okF P pX (i+1) us vs
 | _,_,_,_=>false
def Xr (P:Program) (t:Nat) (us vs:List Value):Bool:=match P.underlying t with
 | some (.struct pX)=>!P.stoodInHeld t && !P.eqGuardType P.depth t&&okF P pX.toList 0 us vs
 | _=>false
theorem ti {dp:Nat}:∀ (pX:List Field) (i:Nat) (us vs:List Value) (xs I4:Array Value) (b:Bool),okF P pX i us vs=true→(∀ j u,us[j]? = some u→xs[i+j]? = some u)→(∀ j u,vs[j]? = some u→I4[i+j]? = some u)→Ch us vs=some b→
  (Op.eqFields (dp+1) xs I4 pX).run P w = .ok b w
 | [],i,us,vs,xs,I4,b,h,ae,aZ,aQ=>by
  cases us <;> cases vs <;> simp [okF] at h
  simp [Ch] at aQ
  subst aQ
  simp [Op.eqFields]
 | f::pX,i,us,vs,xs,I4,b,h,ae,aZ,aQ=>by
  cases us with
  | nil=>simp [okF] at h
  | cons u us=>
   cases vs with
   | nil=>simp [okF] at h
   | cons v vs=>
    simp only [okF,Bool.and_eq_true,bne_iff_ne,ne_eq,beq_iff_eq] at h
    obtain⟨⟨⟨⟨h1,aq⟩,aT⟩,bL⟩,cN⟩:=h
    obtain⟨Xl,inf,eU,kB,kt,k9⟩:=sG aT
    simp only [Ch] at aQ
    split at aQ
    rotate_left
    ·cases aQ
    rename_i dm eI bk bZ
    injection aQ with aQ
    have dF:=ti (dp:=dp) pX (i+1) us vs xs I4 eI cN (fun j kV dY=>by have:=ae (j+1) kV (by simpa using dY);rwa [show i+(j+1)=i+1+j by omega] at this) (fun j kV dY=>by have:=aZ (j+1) kV (by simpa using dY);rwa [show i+(j+1)=i+1+j by omega] at this) bZ
    have ahs:=ae 0 u rfl
    have Np:=aZ 0 v rfl
    rw [Nat.add_zero] at ahs Np
    have Ou:(part f.type xs f.offset).run P w = .ok u w:=by simp [part,kF eU,kt,aq,ahs]
    have Ix:(part f.type I4 f.offset).run P w = .ok v w:=by simp [part,kF eU,kt,aq,Np]
    have e:(Op.equalIn (dp+1) f.type u v).run P w = .ok dm w:=by
     rw [eU] at bL
     cases Xl <;> cases u <;> (try (simp at bL;done)) <;> cases v <;> (try (simp at bL;done)) <;> simp only [ahr] at bk <;> injection bk with bk <;> subst bk
     ·rw [run_equalIn_bool' w dp f.type _ _ eU,r6]
     ·simp only [beq_iff_eq] at bL
      subst bL
      rw [run_equalIn_int w dp f.type _ _ _ _ eU,r6]
     rw [run_equalIn_string w dp f.type _ _ eU,ByteArray.toList_eq,ByteArray.toList_eq,r6]
    simp only [Op.eqFields,h1,ne_eq,not_false_eq_true,if_true,Sem.run_bind,Ou,Ix,e,Result.andThen_ok]
    cases dm
    ·simp at aQ ⊢
     exact aQ
    simp at aQ ⊢
    rw [dF,aQ]
theorem Nq {us vs:List Value} {b:Bool} (bb:Xr P t us vs=true) (aQ:Ch us vs=some b) (x y:Operand):((do eqGuard .neq t x y (.agg us.toArray) (.agg vs.toArray);binOp .neq t (.agg us.toArray) (.agg vs.toArray)):Sem Value).run P w = .ok (.bool (!b)) w:=by
 unfold Xr at bb
 split at bb
 ·rename_i pX h1
  simp only [Bool.and_eq_true,Bool.not_eq_true'] at bb;obtain⟨⟨aq,aT⟩,bL⟩:=bb;have cN:P.fieldsOf t=pX:=by simp [Program.fieldsOf,h1]
  have eU:=run_equalIn_agg (P:=P) w 9999 t us.toArray vs.toArray (by rw [cN];exact h1) aq;rw [cN] at eU;have kB:=ti (P:=P) (w:=w) (dp:=9998) pX.toList 0 us vs us.toArray vs.toArray b bL (fun j u dY=>by simpa using dY) (fun j u dY=>by simpa using dY) aQ;rw [Sem.run_bind,run_eqGuard_agg w .neq t x y _ _ aT];simp only [Result.andThen_ok];rw [run_neq_struct];rw [show(10000:Nat)=9999+1 from rfl,eU,show(9999:Nat)=9998+1 from rfl,kB];rfl
 cases bb
theorem Xs {us vs:List Value} {b:Bool} (bb:Xr P t us vs=true) (ae:a6 l x=some (.agg us.toArray)) (aZ:a6 l y=some (.agg vs.toArray)) (aQ:Ch us vs=some b):bF P l ⟨dd,.binOp .neq t x y t',ty,pos,af,gg⟩ w (.bool (!b)) w:=fun ρ h=>by
 have:=Nq (w:=w) bb aQ x y;simp only [execOp,h _ _ ae,h _ _ aZ,Sem.run_bind];rw [Sem.run_bind] at this;rw [this];rfl
end
/-! ## Regions that draw: some operations first, a head in whatever order, a tail one behind the other
'ps': operations that touch no memory (their value is the same in all worlds): they may be taken first. 'hs': the head. 'ts': the tail: each waits for the one ahead of it, the first for the head. -/
section
variable {P:Program} {ops:Array Oper} {md:Region.Mode} {arZ:World→World→Prop} {C:World→Prop} {n:Nat} {ds:List Deferred} {Q:Exit→Act→World→Prop} {w w':World} {l:List (Nat×Value)} {a:Act}
def lL (listed:Array Bool):List Nat→Array Bool
 | []=>listed
 | i::r=>lL (listed.setIfInBounds i true) r
def ql (md:Region.Mode) (ops:Array Oper):List Nat→Array Bool→Bool
 | [],listed=>(Region.ready md ops listed).isEmpty
 | t::gS,listed=>decide (Region.ready md ops listed = [t])&&ql md ops gS (listed.setIfInBounds t true)
def zP (md:Region.Mode) (ops:Array Oper) (gS:List Nat):List Nat→Array Bool→Bool
 | [],listed=>ql md ops gS listed
 | i::bb,listed=>(Region.ready md ops listed).contains i&&Region.free md ops listed i&&zP md ops gS bb (listed.setIfInBounds i true)
def wF (md:Region.Mode) (ops:Array Oper):List Nat→Array Bool→Bool
 | [],_=>true
 | i::h9,listed=>(Region.ready md ops listed).contains i&&Region.free md ops listed i&&wF md ops h9 (listed.setIfInBounds i true)
def zQ (md:Region.Mode) (ops:Array Oper) (t0:Nat):List Nat→Bool
 | []=>true
 | i::bb=>(bb ++ [t0]).any (fun j=>Region.waitsFor md ops j i)&&zQ md ops t0 bb
def ya (md:Region.Mode) (ops:Array Oper):Nat→List Nat→Bool
 | _,[]=>true
 | p,t::gS=>Region.waitsFor md ops t p&&ya md ops t gS
def Gt (md:Region.Mode) (ops:Array Oper) (listed:Array Bool):Bool:=
 (List.range ops.size).all fun j=>!listed.getD j false||match ops[j]? with
  | some sH=>sH.after.all fun e=>!Region.binds md e||listed.getD e.on false
  | none=>true
structure qm (md:Region.Mode) (ops:Array Oper) (bb:List Nat) (gS:List Nat) (listed:Array Bool):Prop where
 size:listed.size=ops.size
 closed:∀ j sH,ops[j]? = some sH→listed.getD j false=true→∀ e∈sH.after,Region.binds md e=true→listed.getD e.on false=true
 tail:∀ t∈gS,listed.getD t true=false
theorem qm.set {bb gS:List Nat} {i:Nat} {listed:Array Bool} (inv:qm md ops bb gS listed) (hi:i∈Region.ready md ops listed) (Rr:i∉gS):qm md ops bb gS (listed.setIfInBounds i true):=by
 obtain⟨_,AN,alJ,kk⟩:=mem_ready.1 hi;refine⟨by simp [inv.size],fun j sH dY cg e he aQ=>?_,fun t cc=>by rw [getD_set_ne true (fun e=>by subst e;exact Rr cc)];exact inv.tail t cc⟩
 by_cases xx:i=j
 ·subst xx;have:sH=AN:=Option.some.inj (dY.symm.trans alJ);subst this;exact getD_set_true (kk e he aQ)
 rw [getD_set_ne false xx] at cg;exact getD_set_true (inv.closed j sH dY cg e he aQ)
theorem u9 {ts0:List Nat} {listed:Array Bool}:∀ (gS:List Nat) (p:Nat),(∀ t∈p::gS,t∈ts0)→ya md ops p gS=true→(∀ t∈ts0,listed.getD t true=false)→∀ t∈gS,t∉Region.ready md ops listed
 | [],_,_,_,_,t,cc=>by cases cc
 | t1::gS,p,jV,bh,k3,t,cc=>by
  simp only [ya,Bool.and_eq_true] at bh
  rcases List.mem_cons.1 cc with rfl | DH
  ·intro bl
   obtain⟨_,aht,Rw,kk⟩:=mem_ready.1 bl
   obtain⟨u4,Rn,e,he,aQ,Nr⟩:=Region.waitsFor_spec bh.1
   have:u4=aht:=Option.some.inj (Rn.symm.trans Rw)
   subst this
   have aq:=kk e he aQ
   rw [Nr,getD_both (k3 p (jV p (by simp)))] at aq
   cases aq
  exact u9 gS t1 (fun t cc=>jV t (by simp at cc ⊢;exact .inr cc)) bh.2 k3 t DH
theorem pA {t0:Nat} {listed:Array Bool} (ij:listed.size=ops.size) (lA:∀ j sH,ops[j]? = some sH→listed.getD j false=true→∀ e∈sH.after,Region.binds md e=true→listed.getD e.on false=true) :
  ∀ (bb:List Nat),zQ md ops t0 bb=true→∀ i∈bb,listed.getD i true=false→t0∉Region.ready md ops listed
 | [],_,i,hi,_=>by cases hi
 | b3::bb,cg,i,hi,k3=>by
  simp only [zQ,Bool.and_eq_true] at cg
  rcases List.mem_cons.1 hi with rfl | alK
  rotate_left
  ·exact pA ij lA bb cg.2 i alK k3
  obtain⟨j,dY,hw⟩:=List.any_eq_true.1 cg.1
  obtain⟨sH,xO,e,he,aQ,Nr⟩:=Region.waitsFor_spec hw
  rcases List.mem_append.1 dY with uW | uW
  ·cases ahu:listed.getD j false with
   | true=>
    have aq:=lA j sH xO ahu e he aQ
    rw [Nr,getD_both k3] at aq
    cases aq
   | false=>
    have alL:j<listed.size:=by rw [ij];exact(Array.getElem?_eq_some_iff.1 xO).1
    exact pA ij lA bb cg.2 j uW (getD_in alL ahu)
  simp only [List.mem_singleton] at uW
  subst uW
  intro bl
  obtain⟨_,aht,Rw,kk⟩:=mem_ready.1 bl
  have:sH=aht:=Option.some.inj (xO.symm.trans Rw)
  subst this
  have aq:=kk e he aQ
  rw [Nr,getD_both k3] at aq
  cases aq
def Ci (P:Program) (md:Region.Mode) (ops:Array Oper) (arZ:World→World→Prop) (C:World→Prop) (n:Nat) (gS:List Nat) (L:Array Bool→j'→Prop):Nat→Array Bool→j'→Prop
 | 0,listed,N=>L listed N
 | f+1,listed,N=>Region.ready md ops listed≠[]∧
  ∀ i∈Region.ready md ops listed,i∉gS∧∀ o,ops[i]? = some o→∃ V,ar2 P ops arZ C n N o V∧Ci P md ops arZ C n gS L f (listed.setIfInBounds i true) (N.put o V)
theorem r' {L:Array Bool→j'→Prop} {w0:World} {ds:List Deferred} {gS:List Nat} {g:Nat} (o':zK arZ C)
  (u3:∀ listed N a w,N.lasts arZ→a.defers=ds→C w→arZ w0 w→N.all n a w→L listed N→wpAny P md ops Q g listed a w):∀ (f:Nat) (listed:Array Bool) (N:j') (a:Act) (w:World),N.lasts arZ→a.defers=ds→C w→arZ w0 w→N.all n a w→
  Ci P md ops arZ C n gS L f listed N→wpAny P md ops Q (f+g) listed a w
 | 0,listed,N,a,w,b3,h1,aq,aT,bL,h=>by rw [Nat.zero_add];exact u3 listed N a w b3 h1 aq aT bL h
 | f+1,listed,N,a,w,b3,h1,aq,aT,bL,h=>by
  rw [show f+1+g=(f+g)+1 by omega]
  refine⟨fun bl=>absurd bl h.1,fun i hi=>?_⟩
  obtain⟨_,o,et,_⟩:=mem_ready.1 hi
  obtain⟨V,rz,gY⟩:=(h.2 i hi).2 o et
  exact tX o' b3 et rz aq bL fun x8 w' bV hF iQ h5=>r' o' u3 f _ _ x8 w' (b3.put rz.lasts) (bV.trans h1) hF (o'.trans _ _ _ aT iQ) h5 gY
theorem xr {i:Nat} {AN:Oper} {V:Value→World→Prop} {L:Array Bool→j'→Prop} {sS gS:List Nat} (hi:ops[i]? = some AN) (Rr:i∉gS)
  (hw:∀ listed,qm md ops sS gS listed→listed.getD i true=false→∀ t∈gS,t∉Region.ready md ops listed)
  (I9:∀ listed N,L listed N→∀ j∈Region.ready md ops listed,j∈gS) :
  ∀ (f:Nat) (listed:Array Bool) (N:j'),qm md ops sS gS listed→
   (∀ j sH,ops[j]? = some sH→j≠i→listed.getD j true=false→(∀ e∈sH.after,Region.binds md e=true→e.on≠i)→AN.apart ops sH=true)→
   i∈Region.ready md ops listed→ar2 P ops arZ C n N AN V→
   Ci P md ops arZ C n gS L f (listed.setIfInBounds i true) (N.put AN V)→Ci P md ops arZ C n gS L (f+1) listed N:=by
 intro f
 induction f with
 | zero=>
  intro listed N inv _ bl rz H
  have k3:=(mem_ready.1 bl).1
  refine⟨fun h=>(by rw [h] at bl;cases bl),fun j dY=>?_⟩
  have Bh:j∉gS:=fun cc=>hw listed inv k3 j cc dY
  refine⟨Bh,fun o et=>?_⟩
  by_cases m':j=i
  ·subst m'
   have:o=AN:=Option.some.inj (et.symm.trans hi)
   subst this
   exact⟨V,rz,H⟩
  exact absurd (I9 _ _ H j (ready_mono dY m')) Bh
 | succ f dF=>
  intro listed N inv r7 bl rz H
  have k3:=(mem_ready.1 bl).1
  refine⟨fun h=>(by rw [h] at bl;cases bl),fun j dY=>?_⟩
  have Bh:j∉gS:=fun cc=>hw listed inv k3 j cc dY
  refine⟨Bh,fun o et=>?_⟩
  by_cases m':j=i
  ·subst m'
   have:o=AN:=Option.some.inj (et.symm.trans hi)
   subst this
   exact⟨V,rz,H⟩
  obtain⟨Ro,Rp,gY⟩:=(H.2 j (ready_mono dY m')).2 o et
  obtain⟨xo,sH,xO,kk⟩:=mem_ready.1 dY
  have:o=sH:=Option.some.inj (et.symm.trans xO)
  subst this
  have qe:∀ e∈o.after,Region.binds md e=true→e.on≠i:=fun e he aQ heq=>by
   have h1:=kk e he aQ
   rw [heq,getD_both k3] at h1
   cases h1
  obtain⟨p8,a2,a3⟩:=Oper.apart_spec (r7 j o xO m' xo qe)
  refine⟨Ro,Rp.past p8,dF (listed.setIfInBounds j true) (N.put o Ro) (inv.set dY Bh) (fun k ok hk Rq k3 ku=>?_) (ready_mono bl (Ne.symm m')) (rz.ahead a3) ?_⟩
  ·refine r7 k ok hk Rq ?_ ku
   by_cases Gn:j=k
   ·subst Gn;exact xo
   rw [getD_set_ne true Gn] at k3;exact k3
  rw [Array.setIfInBounds_comm _ _ m',← j'.put_comm N V Ro a2]
  exact gY
def pick (ops:Array Oper) (is:List Nat):List Oper:=is.filterMap (ops[·]?)
theorem Gu {gS:List Nat} {listed:Array Bool} (h:ql md ops gS listed=true):∀ j∈Region.ready md ops listed,j∈gS:=by
 cases gS with
 | nil=>intro j dY;simp only [ql,List.isEmpty_iff] at h;rw [h] at dY;cases dY
 | cons t gS=>
  intro j dY;simp only [ql,Bool.and_eq_true,decide_eq_true_eq] at h;rw [h.1] at dY;simp only [List.mem_singleton] at dY;exact dY▸List.mem_cons_self ..
theorem Cj {sS gS:List Nat} {Fin:j'→Prop} (hw:∀ listed,qm md ops sS gS listed→(∃ i∈sS,listed.getD i true=false)→∀ t∈gS,t∉Region.ready md ops listed) :
  ∀ (bb:List Nat) (listed:Array Bool) (N:j'),(∀ i∈bb,i∈sS)→(∀ i∈bb,i∉gS)→qm md ops sS gS listed→
  zP md ops gS bb listed=true→TW P ops arZ C n Fin (pick ops bb) N→
  Ci P md ops arZ C n gS (fun na aaq=>ql md ops gS na=true∧Fin aaq) bb.length listed N
 | [],listed,N,_,_,_,ef,h=>⟨by simpa [zP] using ef,h⟩
 | i::bb,listed,N,jV,Ja,inv,ef,h=>by
  simp only [zP,Bool.and_eq_true] at ef
  obtain⟨⟨bl,dK⟩,DV⟩:=ef
  have oE:i∈Region.ready md ops listed:=by simpa using bl
  obtain⟨k3,o,et,_⟩:=mem_ready.1 oE
  have cn:pick ops (i::bb)=o::pick ops bb:=by simp [pick,List.filterMap_cons,et]
  rw [cn] at h
  obtain⟨V,rz,gY⟩:=h
  exact xr et (Ja i (by simp)) (fun listed inv hu=>hw listed inv ⟨i,jV i (by simp),hu⟩) (fun na aaq o'=>Gu o'.1) bb.length listed N inv (Region.free_spec et dK) oE rz
   (Cj hw bb _ _ (fun i hi=>jV i (by simp [hi])) (fun i hi=>Ja i (by simp [hi])) (inv.set oE (Ja i (by simp))) DV gY)
theorem lM:∀ (gS:List Nat) (listed:Array Bool) (a:Act) (w:World),ql md ops gS listed=true→wpList P ops Q (pick ops gS) a w→wpAny P md ops Q gS.length listed a w
 | [],listed,a,w,ef,h=>⟨by simpa [ql] using ef,h⟩
 | t::gS,listed,a,w,ef,h=>by
  simp only [ql,Bool.and_eq_true,decide_eq_true_eq] at ef
  have bl:t∈Region.ready md ops listed:=by rw [ef.1];simp
  obtain⟨_,o,et,_⟩:=mem_ready.1 bl
  have cn:pick ops (t::gS)=o::pick ops gS:=by simp [pick,List.filterMap_cons,et]
  rw [cn] at h
  refine⟨fun h1=>(by rw [ef.1] at h1;cases h1),fun i hi=>?_⟩
  rw [ef.1] at hi
  have alM:i=t:=by simpa using hi
  subst alM
  have hw:wpOp P ops Q i (wpList P ops Q (pick ops gS)) a w:=by unfold wpOp;simp only [et];exact h
  exact wpOp_mono (fun x8 w' fh=>lM gS _ x8 w' ef.2 fh) hw
def Xt (P:Program) (n:Nat) (K:List (Nat×Value)→Prop):List Oper→List (Nat×Value)→Prop
 | [],l=>K l
 | o::rest,l=>∃ d v,o.dst=some d∧o.guard=none∧e' o.op=true∧Nat.blt d n=true∧(∀ w,bF P l o w v w)∧Xt P n K rest ((d,v)::l)
theorem iN {K:List (Nat×Value)→Prop} (h:K l):Xt P n K [] l:=h
theorem VO {K:List (Nat×Value)→Prop} {rest:List Oper} {d:Nat} {op:Op} {ty:TypeId} {pos:String} {af:Array Edge} {v:Value} (bl:∀ w,bF P l ⟨some d,op,ty,pos,af,none⟩ w v w) (bV:Nat.blt d n=true) (bb:e' op=true) (h:Xt P n K rest ((d,v)::l)) :
  Xt P n K (⟨some d,op,ty,pos,af,none⟩::rest) l:=⟨d,v,rfl,rfl,bb,bV,bl,h⟩
theorem pB (Ck:∀ c a w,¬ Q (.panic c) a w) (te:∀ (j:Nat) (o:Oper) cs b,ops[j]? = some o→o.op≠.select cs b) {K:List (Nat×Value)→Prop} {g:Nat}:∀ (h9:List Nat) (listed:Array Bool) (l:List (Nat×Value)) (a:Act),Has n ds l a→wF md ops h9 listed=true→Xt P n K (pick ops h9) l→
  (∀ l a,Has n ds l a→K l→wpAny P md ops Q g (lL listed h9) a w)→wpAny P md ops Q (h9.length+g) listed a w
 | [],listed,l,a,ay,_,h,pY=>by
  have:([]:List Nat).length+g=g:=by simp
  rw [this]
  exact pY l a ay h
 | i::h9,listed,l,a,ay,ef,h,pY=>by
  simp only [wF,Bool.and_eq_true] at ef
  obtain⟨⟨bl,dK⟩,DV⟩:=ef
  have oE:i∈Region.ready md ops listed:=by simpa using bl
  obtain⟨_,o,et,_⟩:=mem_ready.1 oE
  have cn:pick ops (i::h9)=o::pick ops h9:=by simp [pick,List.filterMap_cons,et]
  rw [cn] at h
  obtain⟨d,v,h1,aq,aT,bL,cN,eU⟩:=h
  have hlen:(i::h9).length+g=(h9.length+g)+1:=by simp;omega
  rw [hlen]
  have aZ:Yields P ops o v a:=.inl ⟨by simp [Region.wanted,aq],fun w=>cN w a.eval (fun x u ae=>ay.ru ae)⟩
  have wD:Has n ds ((d,v)::l) (a.put o.dst v):=by rw [h1];exact ay.put bL v
  exact wpAny_first et te (fun c a w e2=>absurd e2 (Ck c _ w)) (h9.length+g) listed a w (Region.free_spec et dK) oE aZ
   (pB Ck te h9 (listed.setIfInBounds i true) ((d,v)::l) (a.put o.dst v) wD DV eU pY)
def Rx (ops:Array Oper) (h9 bb:List Nat) (t0:Nat) (gS:List Nat):Bool:=
 Region.noSelect ops&&decide (h9.length+(bb.length+(gS.length+1))=ops.size)&&wF .any ops h9 (Array.replicate ops.size false) &&
 Gt .any ops (lL (Array.replicate ops.size false) h9)&&(t0::gS).all (fun t=>!(lL (Array.replicate ops.size false) h9).getD t true) &&
 bb.all (fun i=>!(t0::gS).contains i)&&zQ .any ops t0 bb&&ya .any ops t0 gS&&zP .any ops (t0::gS) bb (lL (Array.replicate ops.size false) h9)
theorem tY:∀ (h9:List Nat) (listed:Array Bool),(lL listed h9).size=listed.size
 | [],_=>rfl
 | i::h9,listed=>by simp [lL,tY h9]
theorem jE {id:Nat} {lo:List Oper} (h9 bb:List Nat) (t0:Nat) (gS:List Nat) (hm:P.follows .mixedOrders=true) (ef:Rx lo.toArray h9 bb t0 gS=true) (Ck:∀ c a w,¬ Q (.panic c) a w)
  (h:Xt P n (fun l=>gh P lo.toArray w n (fun N=>∀ a w',a.defers=ds→Mod [] w w'→N.all n a w'→wpList P lo.toArray Q (pick lo.toArray (t0::gS)) a w') (pick lo.toArray bb) l []) (pick lo.toArray h9) l):pW P (.region id lo.toArray true) Q n ds l w:=by
 intro a ay
 unfold Rx at ef
 simp only [Bool.and_eq_true,decide_eq_true_eq] at ef
 obtain⟨⟨⟨⟨⟨⟨⟨⟨te,hlen⟩,cn⟩,lA⟩,AT⟩,ac1⟩,Jb⟩,ac2⟩,Gv⟩:=ef
 refine wp_region_any hm ?_
 rw [← hlen]
 have ij:(lL (Array.replicate lo.toArray.size false) h9).size=lo.toArray.size:=by rw [tY];simp
 have Ry:∀ t∈t0::gS,(lL (Array.replicate lo.toArray.size false) h9).getD t true=false:=fun t cc=>by
  have:=List.all_eq_true.1 AT t cc
  simpa using this
 have Gp:qm .any lo.toArray bb (t0::gS) (lL (Array.replicate lo.toArray.size false) h9):=by
  refine⟨ij,fun j sH dY cg e he aQ=>?_,Ry⟩
  have h1:=List.all_eq_true.1 lA j (List.mem_range.2 (Array.getElem?_eq_some_iff.1 dY).1)
  rw [cg,dY] at h1
  simp only [Bool.not_true,Bool.false_or,Array.all_eq_true_iff_forall_mem] at h1
  have aq:=h1 e he
  rw [aQ] at aq
  simpa using aq
 have hw:∀ listed,qm .any lo.toArray bb (t0::gS) listed→(∃ i∈bb,listed.getD i true=false)→∀ t∈t0::gS,t∉Region.ready .any lo.toArray listed:=by
  rintro listed inv ⟨i,hi,k3⟩ t cc
  rcases List.mem_cons.1 cc with rfl | DH
  ·exact pA inv.size inv.closed bb Jb i hi k3
  exact u9 (ts0:=t0::gS) gS t0 (fun t h=>h) ac2 inv.tail t DH
 have Jc:(Array.replicate (h9.length+(bb.length+(gS.length+1))) false)=Array.replicate lo.toArray.size false:=by rw [hlen]
 rw [Jc]
 refine pB (n:=n) (ds:=ds) Ck (Region.noSelect_spec te) h9 _ l a ay cn h fun l a ay jR=>?_
 have H:=Cj (md:=.any) hw bb _ (rA l []) (fun i hi=>hi) (fun i hi=>by
  have:=List.all_eq_true.1 ac1 i hi
  simpa using this) Gp Gv jR
 exact r' (n:=n) (ds:=ds) (w0:=w) (Q:=Q) (g:=gS.length+1) (later w) (fun listed N a w' _ bV hF _ h5 o'=>lM (md:=.any) (t0::gS) listed a w' o'.1 (o'.2 a w' bV hF h5)) _ _ (rA l []) a _ (sI l) ay.defers (Mod.drew [] w) (Mod.drew [] w) (x9 ay) H
end
section
variable {P:Program} {ops:Array Oper} {Q:Exit→Act→World→Prop} {n:Nat} {ds:List Deferred} {l:List (Nat×Value)} {w w':World} {a:Act}
variable {rest:List Oper} {d:Nat} {op:Op} {ty:TypeId} {pos:String} {af:Array Edge}
variable {dd:Option Nat} {gg:Option (Nat×Bool)} {x y z:Operand} {t t':TypeId} {k iA:IntKind} {m gr r:Int}
/-! ## Operations whose value is told in other words -/
theorem Own.put {e sz c g:Nat} {v:Value} {vs:List Value} (h:Own w e sz v c vs) (k:Mod [g] w w') (D:∀ x∈aY v,x≠g):Own w' e sz v c vs:=h.mod k fun x ae dv=>D x ae (by simpa using dv)
theorem ko.b4 {e sz c g T:Nat} {cs:List Value} {v:Value} {vs:List Value} (N:ko w w' g T cs) (h:Own w e sz v c vs):∀ x∈aY v,x≠g:=fun x ae=>Nat.ne_of_lt (N.at_▸h.lt x ae)
theorem App.ne {e sz c g T:Nat} {cs:List Value} {v v':Value} {vs:List Value} (h:App w w' e sz v v' c vs) (D:∀ x∈aY v,x≠g) (B:aE w g T cs):∀ x∈aY v',x≠g:=fun x ae=>by
 rcases h.lX x ae with h1 | h1
 ·exact D x h1
 have:=B.lt;omega
theorem App.ge {e sz c:Nat} {w0:World} {M:List Nat} {v v':Value} {vs:List Value} (h:App w w' e sz v v' c vs) (L:∀ x∈aY v,w0.heap.size≤x) (E:Mod M w0 w):∀ x∈aY v',w0.heap.size≤x:=fun x ae=>by
 rcases h.lX x ae with h1 | h1
 ·exact L x h1
 exact Nat.le_trans E.size h1
theorem q7.I {ad:Addr} {vs:List Value} (h:q7 w ad vs) (k:Mod [] w w'):q7 w' ad vs:=h.mod k (by simp)
theorem lT {b:Bool} {u:Value} (aQ:b=true) (ae:a6 l x=some (.bool b)) (aZ:a6 l y=some u):bF P l ⟨dd,.pick x y z,ty,pos,af,gg⟩ w u w:=fun ρ h=>by
 subst aQ;simp [execOp,h _ _ ae,h _ _ aZ,asBool]
theorem jA {b:Bool} {v:Value} (aQ:b=false) (ae:a6 l x=some (.bool b)) (di:a6 l z=some v):bF P l ⟨dd,.pick x y z,ty,pos,af,gg⟩ w v w:=fun ρ h=>by
 subst aQ;simp [execOp,h _ _ ae,h _ _ di,asBool]
theorem bF.to {o:Oper} {v v':Value} (h:bF P l o w v w') (e:v=v'):bF P l o w v' w':=e▸h
theorem cS (ae:a6 l x=some (.int k m)) (aZ:a6 l y=some (.int k gr)) (bl:k.wrap (m+gr)=r):bF P l ⟨dd,.binOp .add t x y t',ty,pos,af,gg⟩ w (.int k r) w:=bl▸oJ ae aZ
theorem ew (ae:a6 l x=some (.int k m)) (aZ:a6 l y=some (.int k gr)) (bl:k.wrap (m-gr)=r):bF P l ⟨dd,.binOp .sub t x y t',ty,pos,af,gg⟩ w (.int k r) w:=bl▸hN ae aZ
theorem xS (ae:a6 l x=some (.int k m)) (aZ:a6 l y=some (.int k gr)) (bl:k.wrap (m*gr)=r):bF P l ⟨dd,.binOp .mul t x y t',ty,pos,af,gg⟩ w (.int k r) w:=bl▸acO ae aZ
theorem UZ (ae:a6 l x=some (.int k m)) (aZ:a6 l y=some (.int iA gr)) (b3:0≤gr) (bl:m.fdiv (2 ^ (min gr.toNat k.bits))=r):bF P l ⟨dd,.binOp .shr t x y t',ty,pos,af,gg⟩ w (.int k r) w:=bl▸tW ae aZ b3
theorem p2 {d0:TypeDesc} (bb:P.underlying t=some d0) (cc:P.underlying t'=some (.int iA)) (ae:a6 l x=some (.int k m)) (bl:iA.wrap m=r):bF P l ⟨dd,.convert t t' x,ty,pos,af,gg⟩ w (.int iA r) w:=bl▸sB bb cc ae
theorem fy (z:Int) (h:0≤z∧z≤18446744073709551615):IntKind.u64.wrap z=z:=by
 simp only [IntKind.wrap,IntKind.bits,IntKind.signed,Bool.false_and];exact Int.emod_eq_of_lt h.1 (by omega)
theorem iR (z:Int) (h:0≤z∧z≤255):IntKind.u8.wrap z=z:=by
 simp only [IntKind.wrap,IntKind.bits,IntKind.signed,Bool.false_and];exact Int.emod_eq_of_lt h.1 (by omega)
theorem LW (m:Int):m.fdiv (2 ^ (min (1:Int).toNat 64))=m / 2:=by
 rw [show(2:Int) ^ (min (1:Int).toNat 64)=2 from rfl];exact Int.fdiv_eq_ediv_of_nonneg _ (by omega)
theorem HW (i j:Nat):((i:Int)+j) / 2=((i+j) / 2:Nat):=by omega
end
section
variable {P:Program} {ops:Array Oper} {Q:Exit→Act→World→Prop} {n:Nat} {ds:List Deferred} {l:List (Nat×Value)} {w w':World} {a:Act}
variable {rest:List Oper} {d:Nat} {op:Op} {ty:TypeId} {pos:String} {af:Array Edge}
variable {dd:Option Nat} {gg:Option (Nat×Bool)} {x y z:Operand} {t t':TypeId} {k iA:IntKind} {m gr:Int} {b fb:Bool}
theorem Own.take {e sz n c m:Nat} {ad:Option Addr} {vs:List Value} (O:Own w e sz (.slice ad n c) n vs) (hm:m≤n):Own w e sz (.slice ad m c) m (vs.take (m*sz)):=by
 have hle:m*sz≤n*sz:=Nat.mul_le_mul_right _ hm;have cg:=O.1;rcases O.2 with⟨b3,acU⟩ | ⟨g,o,UE,cs,bK,ef,fA,gB,rY,pQ⟩
 ·injection b3 with bk bZ kO
  subst bk;subst kO;subst bZ;have:m=0:=by omega
  subst this;simpa using Own.nil w e sz
 injection bK with bk bZ kO
 subst bk;subst kO;refine⟨by rw [List.length_take];omega,.inr ⟨g,o,c,cs,rfl,ef,by omega,gB,rY,?_⟩⟩;rw [← pQ,List.take_take]
 congr 1
 omega
theorem Own.extend {e sz n c m:Nat} {ad:Addr} {vs:List Value} (O:Own w e sz (.slice (some ad) n c) n vs) (hm:n≤m) (bh:m≤c):∃ jB,Own w e sz (.slice (some ad) m c) m jB∧jB.take (n*sz)=vs:=by
 have hle:n*sz≤m*sz:=Nat.mul_le_mul_right _ hm;have Ca:m*sz≤c*sz:=Nat.mul_le_mul_right _ bh;have cg:=O.1;rcases O.2 with⟨b3,acU⟩ | ⟨g,o,UE,cs,bK,ef,fA,gB,rY,pQ⟩
 ·cases b3
 injection bK with bk bZ kO
 injection bk with bk
 subst bk;subst kO;refine⟨(cs.drop o).take (m*sz),⟨by rw [List.length_take,List.length_drop];omega,.inr ⟨g,o,c,cs,rfl,ef,bh,gB,rY,rfl⟩⟩,?_⟩;rw [← pQ,List.take_take]
 congr 1
 omega
theorem sv {qQ e sz fZ N c lo k c':Nat} {ad:Addr} {u:Value} {vs news:List Value} (cc:ly P t e sz fZ=true) (O:Own w e sz (.slice (some ad) N c) N vs) (ae:a6 l x=some (.slice (lY (some ad) c lo sz) (N-lo) (c-lo))) (aZ:a6 l y=some u)
  (cg:(Builtin.lenOf u).run P w = .ok c' w) (hk:Nat.min c' (N-lo)=k) (lA:(Builtin.firstCells sz k u).run P w = .ok news.toArray w) (rm:news.length=k*sz) (wz:∀ u∈news,u.oneCell'=true) (IA:lo≤N) (bV:Nat.blt d n=true)
  (h:∀ w',Own w' e sz (.slice (some ad) N c) N (vs.take (lo*sz)++news++vs.drop ((lo+k)*sz))→Mod [ad.block] w w'→w'.heap.size=w.heap.size→ga P ops Q rest n ds ((d,.int .i64 k)::l) w') :
  ga P ops Q (⟨some d,.call {callee:=.builtin .copy,args:=#[x,y],argTypes:=#[t,qQ]},ty,pos,af,none⟩::rest) n ds l w:=by
 obtain⟨i,z,h1,aq,aT,bL,cN,eU⟩:=il cc
 rcases O.2 with⟨b3,_⟩ | ⟨g,o,cap,cs,bK,ef,fA,gB,rY,pQ⟩
 ·cases b3
 injection bK with bk bZ kO
 injection bk with bk
 subst bk;subst kO
 have aqE:k≤N-lo:=by rw [← hk];exact Nat.min_le_right _ _
 have hle:(lo+k)*sz≤N*sz:=Nat.mul_le_mul_right _ (by omega)
 have Ca:N*sz≤c*sz:=Nat.mul_le_mul_right _ fA
 have nq:=O.1
 have aat:(lo+k)*sz=lo*sz+k*sz:=Nat.add_mul _ _ _
 obtain⟨aB,hG,cn⟩:=hv (P:=P) ef (o:=o+lo*sz) (vs:=news) (by rw [rm];omega) wz
 have lH:∃ aB,(match lY (some ⟨g,o,none⟩) c lo sz with | some a=>storeCells a news | none=>pure ()).run P w = .ok () aB∧Own aB e sz (.slice (some ⟨g,o,none⟩) N c) N (vs.take (lo*sz)++news++vs.drop ((lo+k)*sz))∧Mod [g] w aB∧aB.heap.size=w.heap.size:=by
  by_cases ahv:c=lo
  ·have aS:k=0:=by omega
   subst aS
   have bY:news = []:=List.eq_nil_of_length_eq_zero (by simpa using rm)
   subst bY
   refine⟨w,?_,?_,Mod.refl _ w,rfl⟩
   ·simp [lY,ahv,storeCells]
   simpa using O
  refine⟨aB,?_,⟨?_,.inr ⟨g,o,c,_,rfl,cn.aA,fA,gB,by simp [splice];omega,?_⟩⟩,cn.mod,cn.size⟩
  ·simpa [lY,ahv,Addr.add_lit] using hG
  ·simp only [List.length_append,List.length_take,List.length_drop,rm,nq]
   omega
  subst pQ
  apply List.ext_getElem?
  intro j
  simp only [splice,rm]
  simp only [List.getElem?_take,List.getElem?_drop,List.getElem?_append,List.length_append,List.length_take,List.length_drop,rm]
  repeat' split
  all_goals first
   | omega
   | rfl
   | (congr 1;omega)
   | skip
 obtain⟨aB,hG,hO,eW,bb⟩:=lH
 refine fN (v:=.int .i64 k) (w':=aB) (fun ρ fc=>?_) bV (h aB hO eW bb)
 subst aT
 cases dD:lY (some (⟨g,o,none⟩:Addr)) c lo i.size with
 | none=>
  rw [dD] at hG
  simp [execOp,resolve,invoke,builtin,fc _ _ ae,fc _ _ aZ,Builtin.copy_,run_underlying h1,cM aq,cg,hk,lA,goInt,dD]
  simpa using hG
 | some a=>
  rw [dD] at hG
  simp [execOp,resolve,invoke,builtin,fc _ _ ae,fc _ _ aZ,Builtin.copy_,run_underlying h1,cM aq,cg,hk,lA,goInt,dD]
  simp at hG
  simp [hG]
theorem DY {t qQ e sz fZ c c':Nat} {v:Value} {vs gC:List Value} (cc:ly P t e sz fZ=true) (di:hD P e gC) (jl:gC.length=sz) (Jd:P.underlying qQ=some (.int .i64)) (O:Own w e sz v c vs) (ij:0<sz) (wz:∀ u∈gC,u.oneCell'=true)
  (aQ:(c+c')*fZ≤140737488355328) (cI:c+c'≤9223372036854775807) (ty:Nat) :
  ∃ v' w' news,(Builtin.append_ #[t,qQ] ty #[v,.int .i64 c']).run P w = .ok v' w'∧App w w' e sz v v' (c+c') (vs++news)∧news.length=c'*sz∧(∀ u∈news,u.oneCell'=true)∧((∀ ad UE,v = .slice ad c UE→UE<c+c')→(∀ x∈aY v',w.heap.size≤x)∧Mod [] w w'):=by
 obtain⟨i,z,h1,aq,aT,bL,cN,eU⟩:=il cc
 obtain⟨td,DT,kB,kt,k9⟩:=oc di
 have acV:td=i:=Option.some.inj (kB.symm.trans aq)
 subst acV
 have Q5:DT=z:=Option.some.inj (kt.symm.trans cN)
 subst Q5
 subst aT;subst bL
 have rm:(Builtin.zeroCells DT.cells c').toList.length=c'*td.size:=by rw [Array.length_toList,size_zeroCells,eU]
 have yy:∀ u∈(Builtin.zeroCells DT.cells c').toList,u.oneCell'=true:=by
  intro u hu
  rw [k9] at hu
  simp only [Builtin.zeroCells,Array.toList_map,List.mem_map] at hu
  obtain⟨j,_,rfl⟩:=hu
  have bH:j % gC.toArray.size<gC.length:=by
   simp only [List.size_toArray]
   exact Nat.mod_lt _ (by omega)
  have:gC.toArray[j % gC.toArray.size]! = gC[j % gC.toArray.size]:=by
   simp only [List.size_toArray] at bH ⊢
   simp [bH]
  rw [this]
  exact wz _ (List.getElem_mem bH)
 have hlen:(vs++(Builtin.zeroCells DT.cells c').toList).length=(c+c')*td.size:=by rw [List.length_append,O.1,rm,Nat.add_mul]
 have hw:IntKind.i64.wrap (c':Int)=c':=wrap64_in _ (by omega)
 have Xu:¬ ((c':Int)<0):=by omega
 have qk:¬ ((c':Int)*(td.bytes:Int) > 281474976710656):=by
  have:c'*td.bytes≤(c+c')*td.bytes:=Nat.mul_le_mul_right _ (by omega)
  have aT:(c':Int)*(td.bytes:Int)=((c'*td.bytes:Nat):Int):=by simp
  rw [aT]
  omega
 have aau:c'*td.size=0→Builtin.zeroCells DT.cells c' = #[]:=fun b3=>Array.eq_empty_of_size_eq_zero (by rw [size_zeroCells,eU];exact b3)
 have grow:∀ (base:Option Addr) (cap:Nat),cap<c+c'→(Builtin.firstCells td.size c (.slice base c cap)).run P w.drew = .ok vs.toArray w.drew→
   ∃ v' w',(Builtin.append_ #[t,qQ] ty #[.slice base c cap,.int .i64 c']).run P w = .ok v' w'∧App w w' e td.size (.slice base c cap) v' (c+c') (vs++(Builtin.zeroCells DT.cells c').toList)∧(∀ x∈aY v',w.heap.size≤x)∧Mod [] w w':=by
  intro base cap rG hold
  have ll:=growslice_fits rG aQ
  have cj:¬ (c+c'≤cap):=by omega
  have aav:¬ (9223372036854775807<((c:Int)+(c':Int))):=by omega
  have aaw:¬ (281474976710656<Builtin.nextslicecap (c+c') cap*td.bytes):=by omega
  have bl:(Builtin.append_ #[t,qQ] ty #[.slice base c cap,.int .i64 c']).run P w =
   .ok (.slice (some ⟨w.heap.size,0,none⟩) (c+c') (grownCap w (c+c') cap e))
    (w.drew.alloc (.cells ((vs++(Builtin.zeroCells DT.cells c').toList).toArray++Builtin.zeroCells DT.cells (grownCap w (c+c') cap e-(c+c'))) e)):=by
   by_cases b3:c'*td.size=0
   ·have Rz:=aau b3
    simp [Builtin.append_,run_underlying h1,run_underlying Jd,sizeOf,typeInfo,zeroValue,aq,cN,asInt,asIntOf,hw,Xu,qk,cj,aav,aaw,Question.forced,hold,newRow,grownCap,b3,Rz]
   simp [Builtin.append_,run_underlying h1,run_underlying Jd,sizeOf,typeInfo,zeroValue,aq,cN,asInt,asIntOf,hw,Xu,qk,cj,aav,aaw,Question.forced,hold,newRow,grownCap,b3]
   congr 2
   apply Array.toList_inj.1
   simp
  have eG:=grownCap_ge w (c+c') cap e
  generalize h5:(Builtin.zeroCells DT.cells c').toList=news at *
  have ef:aE (w.drew.alloc (.cells ((vs++news).toArray++Builtin.zeroCells DT.cells (grownCap w (c+c') cap e-(c+c'))) e)) w.heap.size e ((vs++news)++(Builtin.zeroCells DT.cells (grownCap w (c+c') cap e-(c+c'))).toList):=by
   have:=heap_alloc_new w.drew (.cells ((vs++news).toArray++Builtin.zeroCells DT.cells (grownCap w (c+c') cap e-(c+c'))) e)
   unfold aE
   refine this.trans ?_
   congr 2
   apply Array.toList_inj.1
   simp
  refine⟨_,_,bl,⟨⟨hlen,.inr ⟨w.heap.size,0,_,_,rfl,ef,eG,grownCap_le_maxLen w (c+c') cap e (by simp only [maxLen];omega),?_,?_⟩⟩,?_,?_⟩,?_,?_⟩
  ·have jl:(Builtin.zeroCells DT.cells (grownCap w (c+c') cap e-(c+c'))).toList.length=(grownCap w (c+c') cap e-(c+c'))*td.size:=by
    rw [Array.length_toList,size_zeroCells,eU]
   rw [List.length_append,hlen,jl,← Nat.add_mul]
   have:c+c'+(grownCap w (c+c') cap e-(c+c'))=grownCap w (c+c') cap e:=by omega
   rw [this]
   omega
  ·rw [List.drop_zero,← hlen]
   exact List.take_left
  ·exact⟨rfl,rfl,rfl,by simp,fun j dY _=>RowKit.Below.heap_alloc w.drew _ j dY⟩
  ·intro x ae
   simp [aY] at ae
   exact .inr (by omega)
  ·intro x ae
   simp [aY] at ae
   omega
  exact⟨rfl,rfl,rfl,by simp,fun j dY _=>RowKit.Below.heap_alloc w.drew _ j dY⟩
 rcases O.2 with⟨rfl,b3⟩ | ⟨g,o,cap,cs,rfl,ef,fA,gB,rY,pQ⟩
 ·subst b3
  have lW:vs = []:=List.eq_nil_of_length_eq_zero (by simpa using O.1)
  subst lW
  rcases Nat.eq_zero_or_pos c' with b3 | b3
  ·subst b3
   refine⟨.slice none 0 0,w,[],?_,⟨by simpa using Own.nil w e td.size,Mod.refl _ w,fun x ae=>.inl ae⟩,by simp,by simp,fun ik=>absurd (ik _ _ rfl) (by omega)⟩
   have alN:IntKind.i64.wrap 0=0:=by decide
   simp [Builtin.append_,run_underlying h1,run_underlying Jd,sizeOf,typeInfo,aq,asInt,asIntOf,alN]
  obtain⟨v',w',bl,dD,alO⟩:=grow none 0 (by omega) (run_firstCells_none w.drew td.size 0 0 0)
  exact⟨v',w',_,bl,dD,rm,yy,fun _=>alO⟩
 by_cases nr:c+c'≤cap
 rotate_left
 ·obtain⟨v',w',bl,dD,alO⟩:=grow (some ⟨g,o,none⟩) cap (by omega) (run_firstCells_some w.drew td.size c _ c cap vs O.1 (fun j x ae=>by have:=O.cs j x ae;simpa using this))
  exact⟨v',w',_,bl,dD,rm,yy,fun _=>alO⟩
 have hle:(c+c')*td.size≤cap*td.size:=Nat.mul_le_mul_right _ nr
 generalize h5:(Builtin.zeroCells DT.cells c')=aoU at *
 have ll:o+c*td.size+aoU.toList.length≤cs.length:=by rw [rm];rw [Nat.add_mul] at hle;omega
 obtain⟨aB,hG,cn⟩:=hv (P:=P) ef ll yy
 refine⟨.slice (some ⟨g,o,none⟩) (c+c') cap,aB,aoU.toList,?_,⟨⟨hlen,.inr ⟨g,o,cap,_,rfl,cn.aA,nr,gB,?_,?_⟩⟩,?_,fun x ae=>.inl ae⟩,rm,yy,fun ik=>absurd (ik _ _ rfl) (by omega)⟩
 ·by_cases b3:c'*td.size=0
  ·have Rz:=aau b3
   rw [Rz] at hG
   simp at hG
   simp [Builtin.append_,run_underlying h1,run_underlying Jd,sizeOf,typeInfo,zeroValue,aq,cN,asInt,asIntOf,hw,Xu,qk,nr,Addr.add_lit,b3,hG]
  simp [Builtin.append_,run_underlying h1,run_underlying Jd,sizeOf,typeInfo,zeroValue,aq,cN,asInt,asIntOf,hw,Xu,qk,nr,Addr.add_lit,b3,h5,hG]
 ·simp only [splice,List.length_append,List.length_take,List.length_drop]
  omega
 ·have bk:List.take (o+c*td.size) cs=List.take o cs++vs:=by rw [← pQ,List.take_add]
  have WS:(List.take o cs).length=o:=by rw [List.length_take];omega
  rw [splice,bk,List.append_assoc,List.append_assoc,List.drop_left' WS,← List.append_assoc,← hlen,List.take_left]
 exact cn.mod
theorem HY {t qQ e sz fZ c c':Nat} {v:Value} {vs gC:List Value} (cc:ly P t e sz fZ=true) (di:hD P e gC) (jl:gC.length=sz) (Jd:P.underlying qQ=some (.int .i64)) (ae:a6 l x=some v) (aZ:a6 l y=some (.int .i64 c')) (O:Own w e sz v c vs) (ij:0<sz) (wz:∀ u∈gC,u.oneCell'=true)
  (aQ:(c+c')*fZ≤140737488355328) (cI:c+c'≤9223372036854775807) (bV:Nat.blt d n=true)
  (h:∀ v' w' news,App w w' e sz v v' (c+c') (vs++news)→news.length=c'*sz→(∀ u∈news,u.oneCell'=true)→((∀ ad UE,v = .slice ad c UE→UE<c+c')→(∀ x∈aY v',w.heap.size≤x)∧Mod [] w w')→ga P ops Q rest n ds ((d,v')::l) w') :
  ga P ops Q (⟨some d,.call {callee:=.builtin .append,args:=#[x,y],argTypes:=#[t,qQ]},ty,pos,af,none⟩::rest) n ds l w:=by
 obtain⟨v',w',news,bl,dD,aq,aT,bL⟩:=DY (P:=P) cc di jl Jd O ij wz aQ cI ty
 refine fN (v:=v') (w':=w') (fun ρ fc=>?_) bV (h v' w' news dD aq aT bL)
 simp [execOp,resolve,invoke,builtin,fc _ _ ae,fc _ _ aZ,bl]
/-! ### slices.overlaps -/
def afr (P:Program) (f:FuncId) (ae6 ajy:TypeId):Prop:=∀ args w,(callFunc f args).run P w=((Extern.SlicesOverlaps.overlaps #[ae6,ae6] #[ajy] args).run P w).andThen fun v w'=>.ok (.value v) w'
theorem ET {ae6 ajy e sz fZ f i j c1 c2:Nat} {p8 a2:Addr} (dK:afr P f ae6 ajy) (cc:ly P ae6 e sz fZ=true) (ae:a6 l x=some (.slice (some p8) i c1)) (aZ:a6 l y=some (.slice (some a2) j c2))
  {g1 g2:Nat} {ajz aa9:Nat} (Je:p8=⟨g1,ajz,none⟩) (Gw:a2=⟨g2,aa9,none⟩) {aoV aoW:Nat} {eM Vb:List Value} (gM:aE w g1 aoV eM) (dy:aE w g2 aoW Vb) (bY:g1≠g2) (aq:Vb≠[]) {gS:Array TypeId} :
  bF P l ⟨dd,.call {callee:=.value (.func f),args:=#[x,y],argTypes:=gS},ty,pos,af,gg⟩ w (.bool false) w:=fun ρ fc=>by
 subst Je;subst Gw
 obtain⟨td,z,h1,Ds,aT,bL,cN,eU⟩:=il cc
 have bZ:ρ (.func f) = .func (.func f) #[] #[]:=fc _ _ rfl
 have alP:=Lib.run_overlaps_apart (P:=P) w ae6 ajy e h1 td.size (fun w'=>cM Ds) ⟨g1,ajz,none⟩ ⟨g2,aa9,none⟩ i c1 j c2 bY aoV aoW eM.length Vb.length (by have:=gM;unfold aE at this;simp [World.shape?,this]) (by have:=dy;unfold aE at this;simp [World.shape?,this]) (by simpa using aq) (gM.frozen ajz) (gM.frozen _)
 have:=dK #[.slice (some ⟨g1,ajz,none⟩) i c1,.slice (some ⟨g2,aa9,none⟩) j c2] w
 rw [alP] at this
 simp [execOp,resolve,bZ,fc _ _ ae,fc _ _ aZ,Deferred.ofValue,invoke] at this ⊢
 simpa using this
theorem uV {e sz N c i:Nat} {ad:Addr} {vs us:List Value} {T:TypeId} (cc:rF P T sz=true) (O:Own w e sz (.slice (some ad) N c) N vs) (ae:a6 l x=some (.pointer (some (ad.add (i*sz))))) (aZ:a6 l y=some (.agg us.toArray)) (cg:us.length=sz) (wz:∀ u∈us,u.oneCell'=true) (hi:i<N)
  (h:∀ w',Own w' e sz (.slice (some ad) N c) N (vs.take (i*sz)++us++vs.drop ((i+1)*sz))→Mod [ad.block] w w'→w'.heap.size=w.heap.size→ga P ops Q rest n ds l w') :
  ga P ops Q (⟨none,.store T x y,ty,pos,af,none⟩::rest) n ds l w:=by
 rcases O.2 with⟨b3,_⟩ | ⟨g,o,cap,cs,bK,ef,fA,gB,rY,pQ⟩
 ·cases b3
 injection bK with bk bZ kO
 injection bk with bk
 subst bk;subst kO
 have hle:(i+1)*sz≤N*sz:=Nat.mul_le_mul_right _ (by omega)
 have Ca:N*sz≤c*sz:=Nat.mul_le_mul_right _ fA
 have nq:=O.1
 have aat:(i+1)*sz=i*sz+sz:=by rw [Nat.add_mul];omega
 rw [Addr.add_lit] at ae
 refine bm (vs:=us) cc ef ae aZ cg wz (by omega) fun w' cn=>?_
 refine h w' ⟨?_,.inr ⟨g,o,c,_,rfl,cn.aA,fA,gB,by simp [splice];omega,?_⟩⟩ cn.mod cn.size
 ·simp only [List.length_append,List.length_take,List.length_drop,cg,nq]
  omega
 subst pQ
 apply List.ext_getElem?
 intro j
 simp only [splice,cg]
 simp only [List.getElem?_take,List.getElem?_drop,List.getElem?_append,List.length_append,List.length_take,List.length_drop,cg]
 repeat' split
 all_goals first
  | omega
  | rfl
  | (congr 1;omega)
  | skip
theorem Ga {α:Type} {sz:Nat} {cells:α→List Value} {xs:List α} (cg:∀ x,(cells x).length=sz) (i:Nat):((xs.map cells).flatten).take (i*sz)=((xs.take i).map cells).flatten:=by
 induction xs generalizing i with
 | nil=>simp
 | cons x xs dF=>
  cases i with
  | zero=>simp
  | succ i=>
   simp only [List.map_cons,List.flatten_cons,List.take_succ_cons];rw [List.take_append,cg,Nat.add_mul,Nat.one_mul,List.take_of_length_le (by rw [cg];omega),Nat.add_sub_cancel,dF]
theorem F' {α:Type} {sz:Nat} {cells:α→List Value} {xs:List α} (cg:∀ x,(cells x).length=sz) (i:Nat):((xs.map cells).flatten).drop (i*sz)=((xs.drop i).map cells).flatten:=by
 induction xs generalizing i with
 | nil=>simp
 | cons x xs dF=>
  cases i with
  | zero=>simp
  | succ i=>
   simp only [List.map_cons,List.flatten_cons,List.drop_succ_cons];rw [List.drop_append,cg,Nat.add_mul,Nat.one_mul,List.drop_eq_nil_of_le (by rw [cg];omega),Nat.add_sub_cancel,dF,List.nil_append]
theorem Jf {α:Type} {A:List Nat} {sz n c:Nat} {cells:α→List Value} {xs:List α} (h:a8 A w (flat sz cells xs) (.slice none n c)):xs = []:=by
 cases xs with
 | nil=>rfl
 | cons x xs=>
  obtain⟨a,ay,_⟩:=eC (i:=0) h rfl;cases ay
theorem wo (ad:Option Addr) (c sz:Nat):lY ad c 0 sz=ad:=by
 unfold lY
 split
 ·rfl
 cases ad with
 | none=>rfl
 | some a=>simp [Addr.add_zero']
theorem LZ (g o c lo sz:Nat):∃ u4,lY (some (⟨g,o,none⟩:Addr)) c lo sz=some ⟨g,u4,none⟩:=by
 unfold lY
 split
 ·exact⟨o,rfl⟩
 exact⟨o+lo*sz,by simp [Addr.add_lit]⟩
theorem xz (sz k:Nat) (b:Option Addr) (i c td c':Nat):Builtin.firstCells sz k (.slice b i c)=Builtin.firstCells sz k (.slice b td c'):=by cases b <;> rfl
theorem CR {ad:Option Addr} {c c' e sz fZ hi:Nat} {h:Operand} (cc:ly P t e sz fZ=true) (ae:a6 l x=some (.slice ad c c')) (ik:a6 l h=some (.int .i64 (hi:Int))) (aQ:hi≤c') (bh:c≤c') :
  bF P l ⟨dd,.slice t x none (some h) none,ty,pos,af,gg⟩ w (.slice ad hi c') w:=by
 have:=FZ (P:=P) (w:=w) (dd:=dd) (ty:=ty) (pos:=pos) (af:=af) (gg:=gg) cc ae (lo:=none) (pl:=none) (hi:=some h) (ph:=some (.i64,(hi:Int))) rfl (by simp [tE,ik]) (by simp only [hU,iz];omega) bh
 refine this.to ?_
 simp [hU,iz,wo]
theorem j4 {ad:Option Addr} {c c' e sz fZ lo:Nat} {h:Operand} (cc:ly P t e sz fZ=true) (ae:a6 l x=some (.slice ad c c')) (ik:a6 l h=some (.int .i64 (lo:Int))) (aQ:lo≤c) (bh:c≤c') :
  bF P l ⟨dd,.slice t x (some h) none none,ty,pos,af,gg⟩ w (.slice (lY ad c' lo sz) (c-lo) (c'-lo)) w:=by
 have:=FZ (P:=P) (w:=w) (dd:=dd) (ty:=ty) (pos:=pos) (af:=af) (gg:=gg) cc ae (hi:=none) (ph:=none) (lo:=some h) (pl:=some (.i64,(lo:Int))) (by simp [tE,ik]) rfl (by simp only [hU,iz];omega) bh
 refine this.to ?_
 simp [hU,iz]
end
section
variable {P:Program} {ops:Array Oper} {Q:Exit→Act→World→Prop} {n:Nat} {ds:List Deferred} {l:List (Nat×Value)} {M:List (Nat×(Value→World→Prop))} {w w':World} {a:Act}
variable {rest:List Oper} {d:Nat} {op:Op} {ty:TypeId} {pos:String} {af:Array Edge} {Fin:j'→Prop} {j:Nat} {want b:Bool}
variable {dd:Option Nat} {gg:Option (Nat×Bool)} {x y z:Operand} {t t':TypeId}
theorem Ke {b fb:Bool} (he:P.underlying t=some .bool) (ae:a6 l x=some (.bool b)) (aZ:a6 l y=some (.bool fb)):bF P l ⟨dd,.binOp .neq t x y t',ty,pos,af,gg⟩ w (.bool (b != fb)) w:=fun ρ h=>by
 simp [execOp,eqGuard,h _ _ ae,h _ _ aZ,binOp,run_equal_bool w t b fb he];cases b <;> cases fb <;> rfl
theorem RO {V:Value→World→Prop} {t s:Nat} {ar0 Gx:Value→World→Prop} (cc:iM t l=none) (eW:nb t M=some ar0) (ae:∃ x∈op.operands.toList,x = .tmp t) (jr:iM s l=none) (DZ:nb s M=some Gx) (D0:∃ x∈op.operands.toList,x = .tmp s) (pa:∀ v aB cO,Mod [] aB cO→V v aB→V v cO) (bV:Nat.blt d n=true) (bb:e' op=true)
  (bl:∀ (ρ:Operand→Value) aB u kV,Mod [] w aB→ar0 u aB→Gx kV aB→(∀ x v,a6 ((t,u)::(s,kV)::l) x=some v→ρ x=v)→od P (Mod []) aB V ((execOp ρ ⟨some d,op,ty,pos,af,none⟩).run P aB)) :
  ar2 P ops (Mod []) (Mod [] w) n (rA l M) ⟨some d,op,ty,pos,af,none⟩ V:=by
 refine tf pa bV bb fun ρ aB hF h1 aq=>bl ρ aB (ρ (.tmp t)) (ρ (.tmp s)) hF (aq t ar0 cc eW ae) (aq s Gx jr DZ D0) fun x v bK=>?_
 cases x with
 | tmp r=>
  simp only [a6,iM] at bK
  cases aQ:Nat.beq t r with
  | true=>
   rw [aQ] at bK
   have:=Nat.eq_of_beq_eq_true aQ
   subst this
   injection bK
  | false=>
   rw [aQ] at bK
   cases tI:Nat.beq s r with
   | true=>
    rw [tI] at bK
    have:=Nat.eq_of_beq_eq_true tI
    subst this
    injection bK
   | false=>rw [tI] at bK;exact h1 _ _ bK
 | const c=>exact h1 _ _ bK
 | global g=>exact h1 _ _ bK
 | func f=>exact h1 _ _ bK
theorem ahw {f:FuncId} {args:Value→Value→Array Value} {v:Value} (t s:Nat) {ar0 Gx:Value→World→Prop} (dv:x' ops l j=some b) (aQ:b=want) (cc:iM t l=none) (eW:nb t M=some ar0) (ae:∃ x∈op.operands.toList,x = .tmp t) (jr:iM s l=none) (DZ:nb s M=some Gx) (D0:∃ x∈op.operands.toList,x = .tmp s)
  (bl:∀ aB u kV,Mod [] w aB→ar0 u aB→Gx kV aB→lK P ((t,u)::(s,kV)::l) ⟨some d,op,ty,pos,af,none⟩ aB f (args u kV)) (bh:∀ aB u kV,Mod [] w aB→ar0 u aB→Gx kV aB→Calls P f (args u kV) aB (bM fun r cO=>r=v∧Mod [] aB cO)) (bV:Nat.blt d n=true) (bb:e' op=true) (h:gh P ops w n Fin rest ((d,v)::l) M) :
  gh P ops w n Fin (⟨some d,op,ty,pos,af,some (j,want)⟩::rest) l M:=by
 refine⟨fun u _=>u=v,Ru dv aQ (RO cc eW ae jr DZ D0 (fun _ _ _ _ h=>h) bV bb fun ρ aB u kV hF iJ Ns h1=>?_),?_⟩
 ·rw [bl aB u kV hF iJ Ns ρ h1]
  exact⟨rfl,(bh aB u kV hF iJ Ns).mono fun e cO he=>by cases e <;> first | exact⟨he.2,he.1⟩ | exact he⟩
 rw [ln rfl];exact h
theorem ahx {f:FuncId} {args:Value→Array Value} {v:Value} (t:Nat) {ar0:Value→World→Prop} (dv:x' ops l j=some b) (aQ:b=want) (cc:iM t l=none) (eW:nb t M=some ar0) (ae:∃ x∈op.operands.toList,x = .tmp t)
  (bl:∀ aB u,Mod [] w aB→ar0 u aB→lK P ((t,u)::l) ⟨some d,op,ty,pos,af,none⟩ aB f (args u)) (bh:∀ aB u,Mod [] w aB→ar0 u aB→Calls P f (args u) aB (bM fun r cO=>r=v∧Mod [] aB cO)) (bV:Nat.blt d n=true) (bb:e' op=true) (h:gh P ops w n Fin rest ((d,v)::l) M) :
  gh P ops w n Fin (⟨some d,op,ty,pos,af,some (j,want)⟩::rest) l M:=by
 refine⟨fun u _=>u=v,Ru dv aQ (I' cc eW ae (fun _ _ _ _ h=>h) bV bb fun ρ aB u hF iJ h1=>?_),?_⟩
 ·rw [bl aB u hF iJ ρ h1]
  exact⟨rfl,(bh aB u hF iJ).mono fun e cO he=>by cases e <;> first | exact⟨he.2,he.1⟩ | exact he⟩
 rw [ln rfl];exact h
theorem Calls.imp {f:FuncId} {args:Array Value} {xN aoX:Value→World→Prop} (h:Calls P f args w (bM xN)) (hi:∀ u w',xN u w'→aoX u w'):Calls P f args w (bM aoX):=
 h.mono fun e cO he=>by cases e <;> first | exact hi _ _ he | exact he
theorem C6 {u:List UInt8} {k:IntKind} {m:Int} (cc:P.underlying t=some .string) (ae:a6 l x=some (S u)) (aZ:a6 l y=some (.int k m)) (b3:0≤m) (aQ:m.toNat<u.length) (bV:Nat.blt d n=true)
  (h:∀ c:UInt8,u[m.toNat]? = some c→ga P ops Q rest n ds ((d,.int .u8 c.toNat)::l) w):ga P ops Q (⟨some d,.index t x y,ty,pos,af,none⟩::rest) n ds l w:=
 fN (b6 cc ae aZ b3 (List.getElem?_eq_getElem aQ)) bV (h _ (List.getElem?_eq_getElem aQ))
theorem q7.first {ad:Addr} {v:Value} {vs:List Value} (h:q7 w ad (v::vs)):w.cell? ad=some v:=by
 have:=h 0 v rfl
 rwa [Addr.add_zero'] at this
end
section
variable {H:Type} {enc:TypeId×Value→H} {P:Program} {w:World} {n:Nat} {t:TypeId}
def gZ (enc:TypeId×Value→H) (P:Program) (w:World) (n:Nat) (t:TypeId) {α:Type} (f:α→List D) (Q:α→Prop):Prop:=
 ∀ cs x,DataW.trod enc P w 0 (fun _=>true) true n t cs=some x→(∀ m∈x.1.weights P t,m≤reachBytes)→∃ a,ao [] w (f a) cs∧Q a
theorem gZ.zero {α:Type} {f:α→List D} {Q:α→Prop}:gZ enc P w 0 t f Q:=fun cs x h=>by simp [DataW.trod] at h
theorem gZ.to {α β:Type} {f:α→List D} {Q:α→Prop} {F7:β→List D} {Q':β→Prop} (h:gZ enc P w n t f Q) (g:α→β) (dK:∀ a,F7 (g a)=f a) (Ck:∀ a,Q a→Q' (g a)):gZ enc P w n t F7 Q':=fun cs x ae hm=>by
 obtain⟨a,h1,aq⟩:=h cs x ae hm;exact⟨g a,by rw [dK];exact h1,Ck a aq⟩
theorem jY (cc:P.underlying t=some .string):gZ enc P w n t (fun s=>[.v (S s)]) (fun s:List UInt8=>s.length≤140737488351232):=fun cs x ae hm=>by
 obtain⟨s,rfl,rfl,_⟩:=DataW.trod_string cc ae;refine⟨s.data.toList,ao.gJ (a8.cK rfl) ao.mL,?_⟩;have:=hm s.data.toList.length (by simp [DataW.weights]);simpa [reachBytes] using this
theorem u' {k:IntKind} (cc:P.underlying t=some (.int k)):gZ enc P w n t (fun m=>[.v (.int k m)]) (fun m:Int=>(Lit.int k m).wf=true):=fun cs x ae hm=>by
 obtain⟨m,rfl,rfl,h⟩:=DataW.trod_int cc ae;exact⟨m,ao.gJ (a8.cK rfl) ao.mL,h⟩
theorem Cl (cc:P.underlying t=some .bool):gZ enc P w n t (fun b=>[.v (.bool b)]) (fun _:Bool=>True):=fun cs x ae hm=>by
 obtain⟨b,rfl,rfl⟩:=DataW.trod_bool cc ae;exact⟨b,ao.gJ (a8.cK rfl) ao.mL,trivial⟩
def D9 (enc:TypeId×Value→H) (P:Program) (w:World) (n tot:Nat) (pX:List Field) (off:Nat) {α:Type} (f:α→List D) (Q:α→Prop):Prop:=
 ∀ (cs:List Value) (xs:List (DataW H×List MemPlace)),cs.length=tot→xs.length=pX.length→(∀ (i:Nat) g,pX[i]? = some g→DataW.trod enc P w 0 (fun _=>true) true n g.type ((cs.drop g.offset).take (P.cellsOf g.type))=xs[i]?)→
  (∀ m∈DataW.weightsEach P (pX.map (·.type)) (xs.map (·.1)),m≤reachBytes)→∃ a,ao [] w (f a) (cs.drop off)∧Q a
theorem va {tot:Nat}:D9 enc P w n tot [] tot (fun _:Unit=>[]) (fun _=>True):=fun cs xs h _ _ _=>⟨(),by rw [List.drop_eq_nil_of_le (by omega)];exact ao.mL,trivial⟩
theorem dV {tot off k:Nat} {fd:Field} {pX:List Field} {α β:Type} {f:α→List D} {Q:α→Prop} {F7:β→List D} {Q':β→Prop} (et:fd.offset=off) (hk:P.cellsOf fd.type=k) (h:gZ enc P w n fd.type f Q) (fh:D9 enc P w n tot pX (off+k) F7 Q') :
  D9 enc P w n tot (fd::pX) off (fun p:α×β=>f p.1++F7 p.2) (fun p=>Q p.1∧Q' p.2):=fun cs xs cg ae bl hm=>by
 cases xs with
 | nil=>simp at ae
 | cons x xs=>
  have b3:=bl 0 fd rfl
  simp only [List.getElem?_cons_zero] at b3
  simp only [List.map_cons,DataW.weightsEach,List.mem_append] at hm
  obtain⟨a,ay,Ck⟩:=h _ x b3 (fun m Dp=>hm m (.inl Dp))
  obtain⟨b,aQ,alQ⟩:=fh cs xs cg (by simpa using ae) (fun i g dv=>by simpa using bl (i+1) g (by simpa using dv)) (fun m Dp=>hm m (.inr Dp))
  refine⟨(a,b),?_,Ck,alQ⟩
  have:=ay.append aQ
  rw [et,hk] at this
  rwa [← List.drop_drop,List.take_append_drop] at this
theorem pC {tot:Nat} {pX:Array Field} {α:Type} {f:α→List D} {Q:α→Prop} (cc:P.underlying t=some (.struct pX)) (bh:P.cellsOf t=tot) (h:D9 enc P w n tot pX.toList 0 f Q):gZ enc P w (n+1) t f Q:=fun cs x ae hm=>by
 obtain⟨xs,m,cj,rfl,cg,hlen,dK⟩:=DataW.trod_struct cc ae;obtain rfl:n=m:=by omega
 simp only [DataW.weights,cc] at hm;have:=h cs xs (cg.trans bh) (by simpa using hlen) (fun i g dv=>dK i g (by simpa using dv)) hm;simpa using this
theorem vb {α:Type} {arZ:Nat→α→Prop}:∀ (k:Nat),(∀ i,i<k→∃ a,arZ i a)→∃ l:List α,l.length=k∧∀ i a,l[i]? = some a→arZ i a
 | 0,_=>⟨[],rfl,fun i a h=>by simp at h⟩
 | k+1,h=>by
  obtain⟨l,cg,bl⟩:=vb k fun i hi=>h i (by omega)
  obtain⟨a,ay⟩:=h k (by omega)
  refine⟨l ++ [a],by simp [cg],fun i b aQ=>?_⟩
  rcases Nat.lt_trichotomy i l.length with h1 | h1 | h1
  ·rw [List.getElem?_append_left h1] at aQ
   exact bl i b aQ
  ·subst h1
   simp at aQ
   subst aQ
   rw [cg]
   exact ay
  rw [List.getElem?_eq_none (by simp;omega)] at aQ
  cases aQ
theorem ri {e:TypeId}:∀ {ds:List (DataW H)} {d:DataW H},d∈ds→∀ m∈d.weights P e,m∈DataW.weightsAll P e ds
 | sX::ds,d,h,m,hm=>by
  simp only [DataW.weightsAll,List.mem_append]
  rcases List.mem_cons.1 h with rfl | h
  ·exact .inl hm
  exact .inr (ri h m hm)
theorem qU {e sz fZ:Nat} {α:Type} {f:α→List D} {Q:α→Prop} (cc:P.underlying t=some (.slice e)) (bh:P.cellsOf e=sz) (aQ:P.bytesOf e=fZ) (ij:0<sz) (h:gZ enc P w n e f Q) :
  gZ enc P w (n+1) t (fun xs:List α=>[.ia sz (xs.map f)]) (fun xs=>(∀ x∈xs,Q x)∧xs.length*fZ≤140737488351232):=fun cs x ae hm=>by
 rcases DataW.trod_slice cc ae with⟨rfl,rfl⟩ | ⟨a,len,cap,elems,rest,m,cj,rfl,rfl,_,cg,rG,hlen,QC,za,_⟩
 ·refine⟨[],ao.gJ ?_ ao.mL,by simp,by simp⟩
  simp only [a8,List.map_nil]
  exact⟨none,0,rfl,by simp,by simp,by simp⟩
 obtain rfl:n=m:=by omega
 simp only [DataW.weights,cc,List.mem_cons,List.mem_append] at hm
 have hw:=hm _ (.inl rfl)
 rw [aQ] at hw
 simp only [List.length_map,reachBytes] at hw
 have ML:len*fZ≤(elems.length+rest.length)*fZ:=Nat.mul_le_mul_right _ (by omega)
 have key:∀ i,i<len→∃ b,Q b∧a.block<w.heap.size∧∃ us,us.length=sz∧ao [] w (f b) us∧q7 w (a.add (i*sz)) us:=fun i hi=>by
  have h1:=QC i hi
  obtain⟨y,aZ⟩:∃ y,elems[i]? = some y:=⟨_,List.getElem?_eq_getElem (by omega)⟩
  rw [aZ] at h1
  obtain⟨us,aq,aT⟩:=Option.bind_eq_some_iff.1 h1
  rw [bh] at aq
  have bL:=World.cells?_some aq
  obtain⟨b,cI,gP⟩:=h us y aT (fun m Dp=>hm m (.inr (.inl (ri (List.mem_map.2 ⟨y,List.mem_of_getElem? aZ,rfl⟩) m Dp))))
  have hblk:=World.cells?_block aq ij
  rw [mi] at hblk
  have ac3:us.length=sz:=bL.2.1
  exact⟨b,gP,hblk,us,ac3,cI,fun j v bK=>by
   have dY:=(List.getElem?_eq_some_iff.1 bK).1
   have:=bL.2.2 j (by omega)
   rw [this,bK]⟩
 obtain⟨xs,EO,ahy⟩:=vb len key
 refine⟨xs,ao.gJ ?_ ao.mL,fun y aZ=>?_,by rw [EO];omega⟩
 ·rcases Nat.eq_zero_or_pos len with b3 | b3
  ·subst b3
   obtain rfl:xs = []:=List.eq_nil_of_length_eq_zero EO
   simp only [a8,List.map_nil]
   exact⟨some a,cap,rfl,cg,rG,by simp⟩
  obtain⟨_,_,hblk,_⟩:=key 0 b3
  refine a8.Rm (by simp [EO]) cg rG (by simp) hblk fun i r hi=>?_
  rw [List.getElem?_map] at hi
  obtain⟨y,aZ,rfl⟩:=Option.map_eq_some_iff.1 hi
  obtain⟨_,_,us,h1,aq,aT⟩:=ahy i y aZ
  exact⟨by rw [← aq.length,h1],us,aq,aT⟩
 obtain⟨i,hi⟩:=List.getElem?_of_mem aZ
 exact(ahy i y hi).1
end
end Go.Proofs.YtnihidkbkhcfoaaGreatDoor.V
namespace Go.Proofs.YtnihidkbkhcfoaaGreatDoor.V
open Go Go.ChangeShapes Go.WideShapes Go.RowKit
section
variable {H:Type} {enc:TypeId×Value→H} {P:Program} {W ZZ:World}
theorem sa (cg:laidOutB P=true) (k:Mod [] W ZZ):∀ {gS:List TypeId} {vs:List Value} {ds:List (DataW H)} {h9:List MemPlace},(gS.all fun t=>P.readableRec t&&decide (t<P.types.size))=true→
  DataW.TrodAll enc P W 0 (fun _=>true) true gS vs ds h9→(∀ p∈h9,p.block<W.heap.size)→DataW.TrodAll enc P ZZ 0 (fun b=>decide (b<W.heap.size)) true gS vs ds h9
 | [],vs,ds,h9,_,h,_=>by
  obtain⟨rfl,rfl,rfl⟩:=trodAll_nil h
  exact trodAll_mk0
 | t::gS,vs,ds,h9,bl,h,cn=>by
  obtain⟨v,aqF,d,aqG,a,b,rfl,rfl,rfl,h1,aq⟩:=trodAll_cons h
  simp only [List.all_cons,Bool.and_eq_true,decide_eq_true_eq] at bl
  have ay:∀ p∈a,p.block<W.heap.size:=fun p tU=>cn p (List.mem_append_left _ tU)
  exact trodAll_cons_mk (Below.trod cg bl.1.1 bl.1.2 h1 k.below ay) (sa cg k bl.2 aq fun p tU=>cn p (List.mem_append_right _ tU))
theorem Mod.keptBut (k:Mod [] W ZZ) (S:MemPlace→Prop):W.keptBut ZZ S:=by
 refine⟨k.os,k.output,fun i hi=>?_⟩;rw [k.block i hi (by simp)];cases h:W.heap[i]? with
 | none=>rfl
 | some o=>cases o <;> simp
theorem Io (cg:laidOutB P=true) {f:Func} {s:ChangeSpec} {t:TypeId} {args:Array Value} {ds:List (DataW H)} {before:List MemPlace} (bb:s.vars = []) (bl:f.resultTypes = #[t]) (cc:P.underlying t=some .bool)
  (xk:(f.params.toList.all fun t=>P.readableRec t&&decide (t<P.types.size))=true) (Jg:s.fn H ds = {results:=[.lit (.bool true)],args:=ds})
  (hd:DataW.Whole enc P f.params.toList s.vars false W args.toList ds [] before) (k:Mod [] W ZZ):s.post enc P f false true false false W args (.bool true) ZZ:=by
 have bH:=hd.lt
 have alR:=hd
 obtain⟨p,q,dD,pa,rfl,akn,Im⟩:=hd
 rw [bb] at pa
 obtain⟨_,rfl⟩:=trodVars_none pa
 have hlen:f.resultTypes.size=1:=by rw [bl];rfl
 refine⟨ds,[],_,[],p,[],alR,?_,?_,?_,k.keptBut _,fun h=>by cases h⟩
 ·rw [List.append_nil,Jg,hlen,bl]
  exact trodAll_cons_mk (shut_bool cc true) trodAll_mk0
 ·rw [List.append_nil,Jg]
  exact sa cg k xk dD fun p cn=>by simpa using bH p (List.mem_append_left _ cn)
 rw [List.append_nil,Jg,bb]
 exact rfl
end
end Go.Proofs.YtnihidkbkhcfoaaGreatDoor.V
namespace Go.Proofs.YtnihidkbkhcfoaaGreatDoor.V
open Go
abbrev aa:=List UInt8
structure Slot where
 ty:aa
 key:aa
 id:aa
 deriving DecidableEq
structure fz where
 ty:aa
 key:aa
 deriving DecidableEq
abbrev Slot.cells (s:Slot):List Value:=[S s.ty,S s.key,S s.id]
abbrev fz.cells (p:fz):List Value:=[S p.ty,S p.key]
abbrev Slot.agg (s:Slot):Value:=.agg s.cells.toArray
abbrev fz.agg (p:fz):Value:=.agg p.cells.toArray
abbrev Slot.pair (s:Slot):fz:=⟨s.ty,s.key⟩
abbrev Xg (xs:List Slot):D:=flat 3 Slot.cells xs
abbrev Kw (xs:List fz):D:=flat 2 fz.cells xs
abbrev mQ (xs:List aa):D:=flat 1 (fun s=>[S s]) xs
section
variable {w:World}
theorem q7.c0 {a:Addr} {v:Value} {vs:List Value} (h:q7 w a (v::vs)):w.cell? a=some v:=by
 have:=h 0 v rfl
 rwa [Addr.add_zero'] at this
end
/-! ### comparing -/
def p1 (a b:aa):Int:=if eQ a b then -1 else if a=b then 0 else 1
theorem dc:∀ a:aa,eQ a a=false
 | []=>rfl
 | c::a=>by simp [eQ,Op.bytesLess,dc a]
theorem gi:∀ {a b c:aa},eQ a b=true→eQ b c=true→eQ a c=true
 | [],[],_,h,_=>by simp [eQ,Op.bytesLess] at h
 | _::_,[],_,h,_=>by simp [eQ,Op.bytesLess] at h
 | _,_::_,[],_,h=>by simp [eQ,Op.bytesLess] at h
 | [],_::_,_::_,_,_=>by simp [eQ,Op.bytesLess]
 | x::a,y::b,z::c,h,fh=>by
  simp only [eQ,Op.bytesLess,Bool.or_eq_true,decide_eq_true_eq,Bool.and_eq_true,beq_iff_eq,UInt8.lt_iff_toNat_lt,← UInt8.toNat_inj] at h fh ⊢
  rcases h with h | ⟨h1,aq⟩
  ·rcases fh with fh | ⟨aT,bL⟩
   ·exact .inl (by omega)
   exact .inl (by omega)
  rcases fh with fh | ⟨aT,bL⟩
  ·exact .inl (by omega)
  exact .inr ⟨by omega,gi aq bL⟩
theorem ji {a b:aa} (h:eQ a b=true):eQ b a=false:=by
 cases fh:eQ b a with
 | false=>rfl
 | true=>have:=gi h fh;rw [dc] at this;cases this
theorem mb:∀ (a b:aa),eQ a b=true∨a=b∨eQ b a=true
 | [],[]=>.inr (.inl rfl)
 | [],_::_=>.inl (by simp [eQ,Op.bytesLess])
 | _::_,[]=>.inr (.inr (by simp [eQ,Op.bytesLess]))
 | x::a,y::b=>by
  simp only [eQ,Op.bytesLess,Bool.or_eq_true,decide_eq_true_eq,Bool.and_eq_true,beq_iff_eq,UInt8.lt_iff_toNat_lt,← UInt8.toNat_inj,List.cons.injEq]
  rcases Nat.lt_trichotomy x.toNat y.toNat with h | h | h
  ·exact .inl (.inl h)
  ·rcases mb a b with h1 | h1 | h1
   ·exact .inl (.inr ⟨h,h1⟩)
   ·exact .inr (.inl ⟨h,h1⟩)
   exact .inr (.inr (.inr ⟨h.symm,h1⟩))
  exact .inr (.inr (.inl h))
theorem rJ {a b:aa}:p1 a b<0↔eQ a b=true:=by
 unfold p1
 by_cases h:eQ a b=true
 ·simp [h]
 by_cases fh:a=b <;> simp [h,fh,dc]
theorem zB {a b:aa}:p1 a b=0↔a=b:=by
 unfold p1
 by_cases h:eQ a b=true
 ·rw [if_pos h];exact⟨fun fh=>by omega,fun fh=>by subst fh;rw [dc] at h;cases h⟩
 by_cases fh:a=b <;> simp [h,fh,dc]
/-! ### pairs -/
def PU (p q:fz):Bool:=if p.ty=q.ty then eQ p.key q.key else eQ p.ty q.ty
def Na:List Slot→Bool
 | a::b::r=>PU a.pair b.pair&&Na (b::r)
 | _=>true
theorem hE {α:Type} (p:α→Bool) {xs:List α} {k:Nat} {x:α} (h:xs[k]? = some x):(xs.take (k+1)).filter p=(xs.take k).filter p++if p x then [x] else []:=by
 have bH:=(List.getElem?_eq_some_iff.1 h).1;rw [List.take_succ_eq_append_getElem bH,(List.getElem?_eq_some_iff.1 h).2,List.filter_append]
 congr 1
 by_cases cn:p x <;> simp [cn]
section
variable {P:Program} {l:List (Nat×Value)} {w:World} {ty:TypeId} {pos:String} {af:Array Edge}
variable {dd:Option Nat} {gg:Option (Nat×Bool)} {x y:Operand} {t t':TypeId}
def ZS (P:Program) (f:FuncId):Prop:=∀ args w,(callFunc f args).run P w=((Extern.BytealgCompare.compare args).run P w).andThen fun v w'=>.ok (.value v) w'
theorem LV {f:FuncId} {a b:List UInt8} (dK:ZS P f) (ae:a6 l x=some (S a)) (aZ:a6 l y=some (S b)) {gS:Array TypeId} :
  bF P l ⟨dd,.call {callee:=.value (.func f),args:=#[x,y],argTypes:=gS},ty,pos,af,gg⟩ w (.int .i64 (Lib.compareBytes a b)) w:=fun ρ fc=>by
 have bZ:ρ (.func f) = .func (.func f) #[] #[]:=fc _ _ rfl
 have bh:=Lib.run_compareString (P:=P) ⟨⟨a⟩⟩ ⟨⟨b⟩⟩ w
 have:=dK #[S a,S b] w
 rw [show(#[S a,S b]:Array Value) = #[.string ⟨⟨a⟩⟩,.string ⟨⟨b⟩⟩] from rfl,bh] at this
 simp [execOp,resolve,bZ,fc _ _ ae,fc _ _ aZ,Deferred.ofValue,invoke] at this ⊢
 simpa using this
end
section
variable {P:Program} {ops:Array Oper} {n:Nat} {l:List (Nat×Value)} {M:List (Nat×(Value→World→Prop))} {w:World} {Fin:j'→Prop} {rest:List Oper} {d:Nat} {ty:TypeId} {pos:String} {af:Array Edge}
theorem Cm {t:TypeId} {h9:List (Nat×Operand)} {us:List (Nat×Value)} {e c sz fZ:Nat} {gC cs:List Value} (V:Value→World→Prop) (pa:∀ v aB cO,Mod [] aB cO→V v aB→V v cO) (cc:ly P t e sz fZ=true) (di:hD P e gC) (ae:zJ l h9=some us)
  (dK:oO (fun i=>some (i*sz,sz)) ((List.replicate c gC).flatten) us=some cs) (jl:gC.length=sz) (bh:c*sz≤16777216) (bK:∀ aB g cO,Mod [] w aB→ko aB cO g e cs→V (.slice (some ⟨g,0,none⟩) c c) cO) (bV:Nat.blt d n=true) (cg:iM d l=none)
  (h:gh P ops w n Fin rest l ((d,V)::M)):gh P ops w n Fin (⟨some d,.buildSlice t c h9.toArray,ty,pos,af,none⟩::rest) l M:=
 aju V pa (fun aB k=>⟨_,_,n9 cc di ae dK jl bh,(ko.mk' aB e cs).mod,bK _ _ _ k (ko.mk' aB e cs)⟩) bV rfl cg h
end
section
variable {P:Program} {ops:Array Oper} {Q:Exit→Act→World→Prop} {n:Nat} {ds:List Deferred} {l:List (Nat×Value)} {M:List (Nat×(Value→World→Prop))} {w:World} {Fin:j'→Prop} {rest:List Oper} {d j t:Nat} {want:Bool} {op:Op} {ty:TypeId} {pos:String} {af:Array Edge}
theorem alS (cc:(ops[j]?).bind (·.dst)=some t) (cg:iM t l=some undef) (bV:Nat.blt d n=true) (h:ga P ops Q rest n ds ((d,undef)::l) w) :
  ga P ops Q (⟨some d,op,ty,pos,af,some (j,want)⟩::rest) n ds l w:=by
 intro a ay
 refine wpList_step fun K pY=>?_
 have aZ:yielded ops a.tmps j=none:=by
  unfold yielded
  rw [cc]
  show(match a.tmps[t]? with | some (.bool b)=>some b | _=>none)=none
  rw [ay.get t _ cg]
  rfl
 have hw:¬ (Region.wanted ⟨some d,op,ty,pos,af,some (j,want)⟩ (yielded ops a.tmps)=true):=by
  simp [Region.wanted,aZ]
 rw [if_neg hw]
 exact pY _ _ (h _ (ay.put bV undef))
theorem alT (cc:(ops[j]?).bind (·.dst)=some t) (cg:iM t l=some undef) (bV:Nat.blt d n=true) (h:gh P ops w n Fin rest ((d,undef)::l) M) :
  gh P ops w n Fin (⟨some d,op,ty,pos,af,some (j,want)⟩::rest) l M:=by
 refine⟨fun u _=>u=undef,⟨fun _ _ _ _ h=>h,fun sX rV=>by injection rV with rV;subst rV;simpa [Nat.blt_eq] using bV,fun a aB hF h5=>?_⟩,by rw [ln rfl];exact h⟩
 have wE:t∈Oper.looksAt ops ⟨some d,op,ty,pos,af,some (j,want)⟩:=by
  unfold Oper.looksAt
  refine List.mem_append_right _ ?_
  simp only
  rw [cc]
  simp
 have h1:=h5 t (fun kV _=>kV=undef) wE (by simp [rA,cg])
 have aZ:yielded ops a.tmps j=none:=by
  unfold yielded
  rw [cc]
  show(match a.tmps[t]? with | some (.bool b)=>some b | _=>none)=none
  rw [Array.getD_eq_getD_getElem?] at h1
  cases dv:a.tmps[t]? with
  | none=>rfl
  | some u=>
   rw [dv] at h1
   simp only [Option.getD_some] at h1
   subst h1
   rfl
 have hw:¬ (Region.wanted ⟨some d,op,ty,pos,af,some (j,want)⟩ (yielded ops a.tmps)=true):=by
  simp [Region.wanted,aZ]
 rw [if_neg hw]
end
theorem Own.same {w:World} {e sz m n:Nat} {v:Value} {us vs:List Value} (h:Own w e sz v n vs) (hm:n=m) (bK:vs=us):Own w e sz v m us:=by
 subst hm;subst bK;exact h
section
variable {α:Type}
theorem lI {q:α→Bool}:∀ {xs:List α} {i:Nat},(∀ j y,j<i→xs[j]? = some y→q y=true)→(∀ j y,i≤j→xs[j]? = some y→q y=false)→xs.filter q=xs.take i
 | [],i,_,_=>by simp
 | x::xs,0,h,fh=>by
  have:=lI (xs:=xs) (i:=0) (fun j y dY=>by omega) (fun j y _ aZ=>fh (j+1) y (by omega) (by simpa using aZ))
  have ae:=fh 0 x (by omega) rfl
  rw [List.filter_cons,ae,this]
  simp
 | x::xs,i+1,h,fh=>by
  have:=lI (xs:=xs) (i:=i) (fun j y dY aZ=>h (j+1) y (by omega) (by simpa using aZ)) (fun j y dY aZ=>fh (j+1) y (by omega) (by simpa using aZ))
  have ae:=h 0 x (by omega) rfl
  rw [List.filter_cons,ae,this]
  simp
theorem nW {q:α→Bool}:∀ {xs:List α} {i:Nat},(∀ j y,j<i→xs[j]? = some y→q y=false)→(∀ j y,i≤j→xs[j]? = some y→q y=true)→xs.filter q=xs.drop i
 | [],i,_,_=>by simp
 | x::xs,0,h,fh=>by
  have:=nW (xs:=xs) (i:=0) (fun j y dY=>by omega) (fun j y _ aZ=>fh (j+1) y (by omega) (by simpa using aZ))
  have ae:=fh 0 x (by omega) rfl
  rw [List.filter_cons,ae,this]
  simp
 | x::xs,i+1,h,fh=>by
  have:=nW (xs:=xs) (i:=i) (fun j y dY aZ=>h (j+1) y (by omega) (by simpa using aZ)) (fun j y dY aZ=>fh (j+1) y (by omega) (by simpa using aZ))
  have ae:=h 0 x (by omega) rfl
  rw [List.filter_cons,ae,this]
  simp
end
theorem IX {xs:List Slot}:∀ x∈xs,∀ c∈Slot.cells x,c.oneCell'=true:=by
 intro x _ c bh;simp at bh;rcases bh with rfl | rfl | rfl <;> rfl
theorem Own.slots {w:World} {e:Nat} {v:Value} {xs:List Slot} (A:List Nat) (h:Own w e 3 v xs.length ((xs.map Slot.cells).flatten)) (dD:∀ x∈aY v,x∉A):a8 A w (Xg xs) v:=Own.flat h (fun _ _=>rfl) IX rfl dD
inductive JV where
 | mk (k:Int) (b:Bool) (n:Int) (s:List UInt8) (l:List JV) (m:List (List UInt8×JV))
namespace JV
def kind:JV→Int | .mk k _ _ _ _ _=>k
def is:JV→Bool | .mk _ b _ _ _ _=>b
def num:JV→Int | .mk _ _ n _ _ _=>n
def str:JV→List UInt8 | .mk _ _ _ s _ _=>s
def list:JV→List JV | .mk _ _ _ _ l _=>l
def map:JV→List (List UInt8×JV) | .mk _ _ _ _ _ m=>m
theorem eta (v:JV):v = .mk v.kind v.is v.num v.str v.list v.map:=by cases v;rfl
mutual
def D:JV→List Go.Proofs.YtnihidkbkhcfoaaGreatDoor.V.D
 | .mk k b n s l m=>[.v (.int .i64 k),.v (.bool b),.v (.int .i64 n),.v (S s),.ia 6 (ajw l),.ia 7 (ajx m)]
def ajw:List JV→List (List Go.Proofs.YtnihidkbkhcfoaaGreatDoor.V.D)
 | []=>[]
 | v::r=>v.D::ajw r
def ajx:List (List UInt8×JV)→List (List Go.Proofs.YtnihidkbkhcfoaaGreatDoor.V.D)
 | []=>[]
 | p::r=>(.v (S p.1)::p.2.D)::ajx r
end
abbrev hP (p:List UInt8×JV):List Go.Proofs.YtnihidkbkhcfoaaGreatDoor.V.D:=.v (S p.1)::p.2.D
theorem Ra:∀ l:List JV,ajw l=l.map D
 | []=>rfl
 | v::r=>by simp [ajw,Ra r]
theorem Rb:∀ m:List (List UInt8×JV),ajx m=m.map hP
 | []=>rfl
 | v::r=>by simp [ajx,Rb r]
theorem Gb (v:JV):v.D = [.v (.int .i64 v.kind),.v (.bool v.is),.v (.int .i64 v.num),.v (S v.str),.ia 6 (v.list.map D),.ia 7 (v.map.map hP)]:=by
 cases v;simp [D,kind,is,num,str,list,map,Ra,Rb]
theorem rS (v:JV):v.D.length=6:=by rw [Gb];rfl
theorem xY (p:List UInt8×JV):(hP p).length=7:=by simp [rS]
mutual
def sz:JV→Nat
 | .mk _ _ _ _ l m=>1+Rc l+Re m
def Rc:List JV→Nat
 | []=>0
 | v::r=>v.sz+Rc r
def Re:List (List UInt8×JV)→Nat
 | []=>0
 | p::r=>p.2.sz+Re r
end
theorem Rf {l:List JV} {v:JV} (h:v∈l):v.sz≤Rc l:=by
 induction l with
 | nil=>cases h
 | cons a r dF=>
  simp only [Rc];rcases List.mem_cons.1 h with rfl | h
  ·omega
  have:=dF h;omega
theorem Xi {l:List (List UInt8×JV)} {p:List UInt8×JV} (h:p∈l):p.2.sz≤Re l:=by
 induction l with
 | nil=>cases h
 | cons a r dF=>
  simp only [Re];rcases List.mem_cons.1 h with rfl | h
  ·omega
  have:=dF h;omega
theorem oq (v:JV):v.sz=1+Rc v.list+Re v.map:=by cases v;simp [sz,list,map]
theorem gL {v x:JV} (h:x∈v.list):x.sz<v.sz:=by have:=Rf h;rw [oq v];omega
theorem gp {v:JV} {p:List UInt8×JV} (h:p∈v.map):p.2.sz<v.sz:=by have:=Xi h;rw [oq v];omega
mutual
def ok:JV→Prop
 | .mk k b n s l m=>s.length≤140737488351232∧l.length≤1599289640400∧m.length≤1353245080300∧Rg l∧Rh m
def Rg:List JV→Prop
 | []=>True
 | v::r=>v.ok∧Rg r
def Rh:List (List UInt8×JV)→Prop
 | []=>True
 | p::r=>(p.1.length≤140737488351232∧p.2.ok)∧Rh r
end
theorem Gc:∀ {l:List JV},Rg l↔∀ v∈l,v.ok
 | []=>by simp [Rg]
 | v::r=>by simp [Rg,Gc (l:=r)]
theorem Gd:∀ {l:List (List UInt8×JV)},Rh l↔∀ p∈l,p.1.length≤140737488351232∧p.2.ok
 | []=>by simp [Rh]
 | v::r=>by simp [Rh,Gd (l:=r)]
theorem ok_eq (v:JV):v.ok↔v.str.length≤140737488351232∧v.list.length≤1599289640400∧v.map.length≤1353245080300∧(∀ x∈v.list,x.ok)∧∀ p∈v.map,p.1.length≤140737488351232∧p.2.ok:=by
 cases v;simp [ok,str,list,map,Gc,Gd]
end JV
end Go.Proofs.YtnihidkbkhcfoaaGreatDoor.V
