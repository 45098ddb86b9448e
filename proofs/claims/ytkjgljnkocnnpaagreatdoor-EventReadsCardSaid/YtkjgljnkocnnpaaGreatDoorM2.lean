/-
  A part of the proof: an argument's reading opened: what its cells stand for, and how great it is; behind the call: true, and each argument reads as it did, where nothing that was there has turned; strings compared by the library's stand-in; values of several cells in a slot; rows of cells; a slice that is built in a region whose order is drawn; a guard on a truth that was not asked; JSON values: what they stand for in memory, and what Same, rises, Get and Find say of them, in plain Lean; members by rising keys: found, put, in plain Lean; JSON values in memory: their cells, the rows of their lists and maps; how much a JSON value weighs, whether its keys rise, whether two are the same, in plain Lean; members put into a map: rows of seven cells; runes, texts between quotes, canonical texts of JSON values, as the document tells them, in plain Lean; runes, step by step; the model's reading of a rune, and the document's: the same; the rest of a slice of the call's own is cleared; a drawn region's end with two slots of which something is known; a text between quotes, byte by byte; errors' numbers; bytes that grow behind one another while a JSON value is read: what is kept from step to step; panics that go through a call; a range over a string; bits of bytes; the letter behind a backslash; a text between quotes, rune by rune; the operations that make the bytes of a rune; a text between quotes, rune by rune: what each round adds. No condition of its own.
-/
import Derived.Test.YtkjgljnkocnnpaaGreatDoorM1
import Derived.OpenShut
import Derived.DataReads
import Derived.ProofKit
import Derived.Carry
import Derived.WalkKit
import Derived.Lib.Bytealg
import Derived.Lib.ItoaLen
import Derived.Laws.RangeString
import Derived.WalkSmall
set_option linter.all false
namespace Go.Proofs.YtkjgljnkocnnpaaGreatDoor.V
open Go
section
variable {H:Type} {enc:TypeId×Value→H} {P:Program} {w:World} {n:Nat} {t:TypeId}
def me (enc:TypeId×Value→H) (P:Program) (w:World) (n:Nat) (t:TypeId) {α:Type} (f:α→List D) (Q:α→Prop):Prop:=
 ∀ cs x,DataW.trod enc P w 0 (fun _=>true) true n t cs=some x→(∀ m∈x.1.weights P t,m≤reachBytes)→∃ a,ao [] w (f a) cs∧Q a
theorem me.zero {α:Type} {f:α→List D} {Q:α→Prop}:me enc P w 0 t f Q:=fun cs x h=>by simp [DataW.trod] at h
theorem me.to {α β:Type} {f:α→List D} {Q:α→Prop} {Jw:β→List D} {Q':β→Prop} (h:me enc P w n t f Q) (g:α→β) (dn:∀ a,Jw (g a)=f a) (Fm:∀ a,Q a→Q' (g a)):me enc P w n t Jw Q':=fun cs x ae hm=>by
 obtain⟨a,h1,aq⟩:=h cs x ae hm;exact⟨g a,by rw [dn];exact h1,Fm a aq⟩
theorem BJ (bW:P.underlying t=some .string):me enc P w n t (fun s=>[.v (S s)]) (fun s:List UInt8=>s.length≤140737488351232):=fun cs x ae hm=>by
 obtain⟨s,rfl,rfl,_⟩:=DataW.trod_string bW ae;refine⟨s.data.toList,ao.ig (bq.cN rfl) ao.oJ,?_⟩;have:=hm s.data.toList.length (by simp [DataW.weights]);simpa [reachBytes] using this
theorem Kc {k:IntKind} (bW:P.underlying t=some (.int k)):me enc P w n t (fun m=>[.v (.int k m)]) (fun m:Int=>(Lit.int k m).wf=true):=fun cs x ae hm=>by
 obtain⟨m,rfl,rfl,h⟩:=DataW.trod_int bW ae;exact⟨m,ao.ig (bq.cN rfl) ao.oJ,h⟩
theorem RW (bW:P.underlying t=some .bool):me enc P w n t (fun b=>[.v (.bool b)]) (fun _:Bool=>True):=fun cs x ae hm=>by
 obtain⟨b,rfl,rfl⟩:=DataW.trod_bool bW ae;exact⟨b,ao.ig (bq.cN rfl) ao.oJ,trivial⟩
def Hg (enc:TypeId×Value→H) (P:Program) (w:World) (n tot:Nat) (rY:List Field) (off:Nat) {α:Type} (f:α→List D) (Q:α→Prop):Prop:=
 ∀ (cs:List Value) (xs:List (DataW H×List MemPlace)),cs.length=tot→xs.length=rY.length→(∀ (i:Nat) g,rY[i]? = some g→DataW.trod enc P w 0 (fun _=>true) true n g.type ((cs.drop g.offset).take (P.cellsOf g.type))=xs[i]?)→
  (∀ m∈DataW.weightsEach P (rY.map (·.type)) (xs.map (·.1)),m≤reachBytes)→∃ a,ao [] w (f a) (cs.drop off)∧Q a
theorem Kd {tot:Nat}:Hg enc P w n tot [] tot (fun _:Unit=>[]) (fun _=>True):=fun cs xs h _ _ _=>⟨(),by rw [List.drop_eq_nil_of_le (by omega)];exact ao.oJ,trivial⟩
theorem mR {tot off k:Nat} {fd:Field} {rY:List Field} {α β:Type} {f:α→List D} {Q:α→Prop} {Jw:β→List D} {Q':β→Prop} (fv:fd.offset=off) (hk:P.cellsOf fd.type=k) (h:me enc P w n fd.type f Q) (fW:Hg enc P w n tot rY (off+k) Jw Q') :
  Hg enc P w n tot (fd::rY) off (fun p:α×β=>f p.1++Jw p.2) (fun p=>Q p.1∧Q' p.2):=fun cs xs cb ae bo hm=>by
 cases xs with
 | nil=>simp at ae
 | cons x xs=>
  have cg:=bo 0 fd rfl
  simp only [List.getElem?_cons_zero] at cg
  simp only [List.map_cons,DataW.weightsEach,List.mem_append] at hm
  obtain⟨a,aE,Fm⟩:=h _ x cg (fun m BI=>hm m (.inl BI))
  obtain⟨b,aW,atc⟩:=fW cs xs cb (by simpa using ae) (fun i g dY=>by simpa using bo (i+1) g (by simpa using dY)) (fun m BI=>hm m (.inr BI))
  refine⟨(a,b),?_,Fm,atc⟩
  have:=aE.append aW
  rw [fv,hk] at this
  rwa [← List.drop_drop,List.take_append_drop] at this
theorem zS {tot:Nat} {rY:Array Field} {α:Type} {f:α→List D} {Q:α→Prop} (bW:P.underlying t=some (.struct rY)) (aZ:P.cellsOf t=tot) (h:Hg enc P w n tot rY.toList 0 f Q):me enc P w (n+1) t f Q:=fun cs x ae hm=>by
 obtain⟨xs,m,cu,rfl,cb,hlen,dn⟩:=DataW.trod_struct bW ae;obtain rfl:n=m:=by omega
 simp only [DataW.weights,bW] at hm;have:=h cs xs (cb.trans aZ) (by simpa using hlen) (fun i g dY=>dn i g (by simpa using dY)) hm;simpa using this
theorem xG {α:Type} {aBn:Nat→α→Prop}:∀ (k:Nat),(∀ i,i<k→∃ a,aBn i a)→∃ l:List α,l.length=k∧∀ i a,l[i]? = some a→aBn i a
 | 0,_=>⟨[],rfl,fun i a h=>by simp at h⟩
 | k+1,h=>by
  obtain⟨l,cb,bo⟩:=xG k fun i hi=>h i (by omega)
  obtain⟨a,aE⟩:=h k (by omega)
  refine⟨l ++ [a],by simp [cb],fun i b aW=>?_⟩
  rcases Nat.lt_trichotomy i l.length with h1 | h1 | h1
  ·rw [List.getElem?_append_left h1] at aW
   exact bo i b aW
  ·subst h1
   simp at aW
   subst aW
   rw [cb]
   exact aE
  rw [List.getElem?_eq_none (by simp;omega)] at aW
  cases aW
theorem tl {e:TypeId}:∀ {ds:List (DataW H)} {d:DataW H},d∈ds→∀ m∈d.weights P e,m∈DataW.weightsAll P e ds
 | vi::ds,d,h,m,hm=>by
  simp only [DataW.weightsAll,List.mem_append]
  rcases cB h with rfl | h
  ·exact .inl hm
  exact .inr (tl h m hm)
theorem CE {e sz fM:Nat} {α:Type} {f:α→List D} {Q:α→Prop} (bW:P.underlying t=some (.slice e)) (aZ:P.cellsOf e=sz) (aW:P.bytesOf e=fM) (jV:0<sz) (h:me enc P w n e f Q) :
  me enc P w (n+1) t (fun xs:List α=>[.jH sz (xs.map f)]) (fun xs=>(∀ x∈xs,Q x)∧xs.length*fM≤140737488351232):=fun cs x ae hm=>by
 rcases DataW.trod_slice bW ae with⟨rfl,rfl⟩ | ⟨a,len,cap,elems,rest,m,cu,rfl,rfl,_,cb,ti,hlen,GI,kx,_⟩
 ·refine⟨[],ao.ig ?_ ao.oJ,by simp,by simp⟩
  simp only [bq,List.map_nil]
  exact⟨none,0,rfl,by simp,by simp,by simp⟩
 obtain rfl:n=m:=by omega
 simp only [DataW.weights,bW,List.mem_cons,List.mem_append] at hm
 have hw:=hm _ (.inl rfl)
 rw [aW] at hw
 simp only [List.length_map,reachBytes] at hw
 have Ai:len*fM≤(elems.length+rest.length)*fM:=Nat.mul_le_mul_right _ (by omega)
 have key:∀ i,i<len→∃ b,Q b∧a.block<w.heap.size∧∃ us,us.length=sz∧ao [] w (f b) us∧pF w (a.add (i*sz)) us:=fun i hi=>by
  have h1:=GI i hi
  obtain⟨y,ba⟩:∃ y,elems[i]? = some y:=⟨_,List.getElem?_eq_getElem (by omega)⟩
  rw [ba] at h1
  obtain⟨us,aq,bb⟩:=Option.bind_eq_some_iff.1 h1
  rw [aZ] at aq
  have bP:=World.cells?_some aq
  obtain⟨b,fu,hC⟩:=h us y bb (fun m BI=>hm m (.inr (.inl (tl (List.mem_map.2 ⟨y,List.mem_of_getElem? ba,rfl⟩) m BI))))
  have hblk:=World.cells?_block aq jV
  rw [oc] at hblk
  have ahV:us.length=sz:=bP.2.1
  exact⟨b,hC,hblk,us,ahV,fu,fun j v bI=>by
   have eD:=(List.getElem?_eq_some_iff.1 bI).1
   have:=bP.2.2 j (by omega)
   rw [this,bI]⟩
 obtain⟨xs,F6,anr⟩:=xG len key
 refine⟨xs,ao.ig ?_ ao.oJ,fun y ba=>?_,by rw [F6];omega⟩
 ·rcases Nat.eq_zero_or_pos len with cg | cg
  ·subst cg
   obtain rfl:xs = []:=List.eq_nil_of_length_eq_zero F6
   simp only [bq,List.map_nil]
   exact⟨some a,cap,rfl,cb,ti,by simp⟩
  obtain⟨_,_,hblk,_⟩:=key 0 cg
  refine bq.Xk (by simp [F6]) cb ti (by simp) hblk fun i r hi=>?_
  rw [List.getElem?_map] at hi
  obtain⟨y,ba,rfl⟩:=Option.map_eq_some_iff.1 hi
  obtain⟨_,_,us,h1,aq,bb⟩:=anr i y ba
  exact⟨by rw [← aq.length,h1],us,aq,bb⟩
 obtain⟨i,hi⟩:=List.getElem?_of_mem ba
 exact(anr i y hi).1
end
end Go.Proofs.YtkjgljnkocnnpaaGreatDoor.V
namespace Go.Proofs.YtkjgljnkocnnpaaGreatDoor.V
open Go Go.ChangeShapes Go.WideShapes Go.RowKit
section
variable {H:Type} {enc:TypeId×Value→H} {P:Program} {W aeT:World}
theorem uy (cb:laidOutB P=true) (k:Mod [] W aeT):∀ {iz:List TypeId} {vs:List Value} {ds:List (DataW H)} {gC:List MemPlace},(iz.all fun t=>P.readableRec t&&decide (t<P.types.size))=true→
  DataW.TrodAll enc P W 0 (fun _=>true) true iz vs ds gC→(∀ p∈gC,p.block<W.heap.size)→DataW.TrodAll enc P aeT 0 (fun b=>decide (b<W.heap.size)) true iz vs ds gC
 | [],vs,ds,gC,_,h,_=>by
  obtain⟨rfl,rfl,rfl⟩:=trodAll_nil h
  exact trodAll_mk0
 | t::iz,vs,ds,gC,bo,h,cc=>by
  obtain⟨v,arD,d,arE,a,b,rfl,rfl,rfl,h1,aq⟩:=trodAll_cons h
  simp only [List.all_cons,Bool.and_eq_true,decide_eq_true_eq] at bo
  have aE:∀ p∈a,p.block<W.heap.size:=fun p wq=>cc p (List.mem_append_left _ wq)
  exact trodAll_cons_mk (Below.trod cb bo.1.1 bo.1.2 h1 k.below aE) (uy cb k bo.2 aq fun p wq=>cc p (List.mem_append_right _ wq))
theorem Mod.keptBut (k:Mod [] W aeT) (S:MemPlace→Prop):W.keptBut aeT S:=by
 refine⟨k.os,k.output,fun i hi=>?_⟩;rw [k.block i hi (by simp)];cases h:W.heap[i]? with
 | none=>rfl
 | some o=>cases o <;> simp
theorem Mg (cb:laidOutB P=true) {f:Func} {s:ChangeSpec} {t:TypeId} {args:Array Value} {ds:List (DataW H)} {before:List MemPlace} (bh:s.vars = []) (bo:f.resultTypes = #[t]) (bW:P.underlying t=some .bool)
  (zL:(f.params.toList.all fun t=>P.readableRec t&&decide (t<P.types.size))=true) (Nc:s.fn H ds = {results:=[.lit (.bool true)],args:=ds})
  (hI:DataW.Whole enc P f.params.toList s.vars false W args.toList ds [] before) (k:Mod [] W aeT):s.post enc P f false true false false W args (.bool true) aeT:=by
 have bM:=hI.lt
 have atd:=hI
 obtain⟨p,q,dy,qW,rfl,arC,Mf⟩:=hI
 rw [bh] at qW
 obtain⟨_,rfl⟩:=trodVars_none qW
 have hlen:f.resultTypes.size=1:=by rw [bo];rfl
 refine⟨ds,[],_,[],p,[],atd,?_,?_,?_,k.keptBut _,fun h=>by cases h⟩
 ·rw [List.append_nil,Nc,hlen,bo]
  exact trodAll_cons_mk (shut_bool bW true) trodAll_mk0
 ·rw [List.append_nil,Nc]
  exact uy cb k zL dy fun p cc=>by simpa using bM p (List.mem_append_left _ cc)
 rw [List.append_nil,Nc,bh]
 exact rfl
end
end Go.Proofs.YtkjgljnkocnnpaaGreatDoor.V
namespace Go.Proofs.YtkjgljnkocnnpaaGreatDoor.V
open Go
abbrev ab:=List UInt8
structure Slot where
 ty:ab
 key:ab
 id:ab
 deriving DecidableEq
structure gO where
 ty:ab
 key:ab
 deriving DecidableEq
abbrev Slot.cells (s:Slot):List Value:=[S s.ty,S s.key,S s.id]
abbrev gO.cells (p:gO):List Value:=[S p.ty,S p.key]
abbrev Slot.agg (s:Slot):Value:=.agg s.cells.toArray
abbrev gO.agg (p:gO):Value:=.agg p.cells.toArray
abbrev Slot.pair (s:Slot):gO:=⟨s.ty,s.key⟩
abbrev ac4 (xs:List Slot):D:=flat 3 Slot.cells xs
abbrev Oy (xs:List gO):D:=flat 2 gO.cells xs
abbrev pz (xs:List ab):D:=flat 1 (fun s=>[S s]) xs
section
variable {w:World}
theorem pF.c0 {a:Addr} {v:Value} {vs:List Value} (h:pF w a (v::vs)):w.cell? a=some v:=by
 have:=h 0 v rfl
 rwa [Addr.add_zero'] at this
end
/-! ### comparing -/
def r3 (a b:ab):Int:=if fx a b then -1 else if a=b then 0 else 1
theorem dJ:∀ a:ab,fx a a=false
 | []=>rfl
 | c::a=>by simp [fx,Op.bytesLess,dJ a]
theorem hL:∀ {a b c:ab},fx a b=true→fx b c=true→fx a c=true
 | [],[],_,h,_=>by simp [fx,Op.bytesLess] at h
 | _::_,[],_,h,_=>by simp [fx,Op.bytesLess] at h
 | _,_::_,[],_,h=>by simp [fx,Op.bytesLess] at h
 | [],_::_,_::_,_,_=>by simp [fx,Op.bytesLess]
 | x::a,y::b,z::c,h,fW=>by
  simp only [fx,Op.bytesLess,Bool.or_eq_true,decide_eq_true_eq,Bool.and_eq_true,beq_iff_eq,UInt8.lt_iff_toNat_lt,← UInt8.toNat_inj] at h fW ⊢
  rcases h with h | ⟨h1,aq⟩
  ·rcases fW with fW | ⟨bb,bP⟩
   ·exact .inl (by omega)
   exact .inl (by omega)
  rcases fW with fW | ⟨bb,bP⟩
  ·exact .inl (by omega)
  exact .inr ⟨by omega,hL aq bP⟩
theorem kD {a b:ab} (h:fx a b=true):fx b a=false:=by
 cases fW:fx b a with
 | false=>rfl
 | true=>have:=hL h fW;rw [dJ] at this;cases this
theorem nY:∀ (a b:ab),fx a b=true∨a=b∨fx b a=true
 | [],[]=>.inr (.inl rfl)
 | [],_::_=>.inl (by simp [fx,Op.bytesLess])
 | _::_,[]=>.inr (.inr (by simp [fx,Op.bytesLess]))
 | x::a,y::b=>by
  simp only [fx,Op.bytesLess,Bool.or_eq_true,decide_eq_true_eq,Bool.and_eq_true,beq_iff_eq,UInt8.lt_iff_toNat_lt,← UInt8.toNat_inj,List.cons.injEq]
  rcases Nat.lt_trichotomy x.toNat y.toNat with h | h | h
  ·exact .inl (.inl h)
  ·rcases nY a b with h1 | h1 | h1
   ·exact .inl (.inr ⟨h,h1⟩)
   ·exact .inr (.inl ⟨h,h1⟩)
   exact .inr (.inr (.inr ⟨h.symm,h1⟩))
  exact .inr (.inr (.inl h))
theorem tJ {a b:ab}:r3 a b<0↔fx a b=true:=by
 unfold r3
 by_cases h:fx a b=true
 ·simp [h]
 by_cases fW:a=b <;> simp [h,fW,dJ]
theorem Cl {a b:ab}:r3 a b=0↔a=b:=by
 unfold r3
 by_cases h:fx a b=true
 ·rw [aL h];exact⟨fun fW=>by omega,fun fW=>by subst fW;rw [dJ] at h;cases h⟩
 by_cases fW:a=b <;> simp [h,fW,dJ]
/-! ### pairs -/
def UI (p q:gO):Bool:=if p.ty=q.ty then fx p.key q.key else fx p.ty q.ty
def Ro:List Slot→Bool
 | a::b::r=>UI a.pair b.pair&&Ro (b::r)
 | _=>true
theorem jh {α:Type} (p:α→Bool) {xs:List α} {k:Nat} {x:α} (h:xs[k]? = some x):(xs.take (k+1)).filter p=(xs.take k).filter p++if p x then [x] else []:=by
 have bM:=(List.getElem?_eq_some_iff.1 h).1;rw [List.take_succ_eq_append_getElem bM,(List.getElem?_eq_some_iff.1 h).2,List.filter_append]
 congr 1
 by_cases cc:p x <;> simp [cc]
section
variable {P:Program} {l:List (Nat×Value)} {w:World} {ty:TypeId} {pos:String} {af:Array Edge}
variable {dd:Option Nat} {gg:Option (Nat×Bool)} {x y:Operand} {t t':TypeId}
def aeN (P:Program) (f:FuncId):Prop:=∀ args w,(callFunc f args).run P w=((Extern.BytealgCompare.compare args).run P w).andThen fun v w'=>.ok (.value v) w'
theorem PZ {f:FuncId} {a b:List UInt8} (dn:aeN P f) (ae:bf l x=some (S a)) (ba:bf l y=some (S b)) {iz:Array TypeId} :
  bE P l ⟨dd,.call {callee:=.value (.func f),args:=#[x,y],argTypes:=iz},ty,pos,af,gg⟩ w (.int .i64 (Lib.compareBytes a b)) w:=fun ρ gw=>by
 have ee:ρ (.func f) = .func (.func f) #[] #[]:=gw _ _ rfl
 have aZ:=Lib.run_compareString (P:=P) ⟨⟨a⟩⟩ ⟨⟨b⟩⟩ w
 have:=dn #[S a,S b] w
 rw [show(#[S a,S b]:Array Value) = #[.string ⟨⟨a⟩⟩,.string ⟨⟨b⟩⟩] from rfl,aZ] at this
 simp [execOp,resolve,ee,gw _ _ ae,gw _ _ ba,Deferred.ofValue,invoke] at this ⊢
 simpa using this
end
section
variable {P:Program} {ops:Array Oper} {n:Nat} {l:List (Nat×Value)} {M:List (Nat×(Value→World→Prop))} {w:World} {Fin:lj→Prop} {rest:List Oper} {d:Nat} {ty:TypeId} {pos:String} {af:Array Edge}
theorem Fo {t:TypeId} {gC:List (Nat×Operand)} {us:List (Nat×Value)} {e c sz fM:Nat} {ft cs:List Value} (V:Value→World→Prop) (qW:∀ v aJ cX,Mod [] aJ cX→V v aJ→V v cX) (bW:kU P t e sz fM=true) (cP:gX P e ft) (ae:qB l gC=some us)
  (dn:iJ (fun i=>some (i*sz,sz)) ((List.replicate c ft).flatten) us=some cs) (hT:ft.length=sz) (aZ:c*sz≤16777216) (bI:∀ aJ g cX,Mod [] w aJ→j6 aJ cX g e cs→V (.slice (some ⟨g,0,none⟩) c c) cX) (bT:Nat.blt d n=true) (cb:iF d l=none)
  (h:hj P ops w n Fin rest l ((d,V)::M)):hj P ops w n Fin (⟨some d,.buildSlice t c gC.toArray,ty,pos,af,none⟩::rest) l M:=
 aqu V qW (fun aJ k=>⟨_,_,qa bW cP ae dn hT aZ,(j6.mk' aJ e cs).mod,bI _ _ _ k (j6.mk' aJ e cs)⟩) bT rfl cb h
end
section
variable {P:Program} {ops:Array Oper} {Q:Exit→Act→World→Prop} {n:Nat} {ds:List Deferred} {l:List (Nat×Value)} {M:List (Nat×(Value→World→Prop))} {w:World} {Fin:lj→Prop} {rest:List Oper} {d j t:Nat} {want:Bool} {op:Op} {ty:TypeId} {pos:String} {af:Array Edge}
theorem ate (bW:(ops[j]?).bind (·.dst)=some t) (cb:iF t l=some undef) (bT:Nat.blt d n=true) (h:fI P ops Q rest n ds ((d,undef)::l) w) :
  fI P ops Q (⟨some d,op,ty,pos,af,some (j,want)⟩::rest) n ds l w:=by
 intro a aE
 refine wpList_step fun K nI=>?_
 have ba:yielded ops a.tmps j=none:=by
  unfold yielded
  rw [bW]
  show(match a.tmps[t]? with | some (.bool b)=>some b | _=>none)=none
  rw [aE.get t _ cb]
  rfl
 have hw:¬ (Region.wanted ⟨some d,op,ty,pos,af,some (j,want)⟩ (yielded ops a.tmps)=true):=by
  simp [Region.wanted,ba]
 rw [ak hw]
 exact nI _ _ (h _ (aE.put bT undef))
theorem atf (bW:(ops[j]?).bind (·.dst)=some t) (cb:iF t l=some undef) (bT:Nat.blt d n=true) (h:hj P ops w n Fin rest ((d,undef)::l) M) :
  hj P ops w n Fin (⟨some d,op,ty,pos,af,some (j,want)⟩::rest) l M:=by
 refine⟨fun u _=>u=undef,⟨fun _ _ _ _ h=>h,fun vi tX=>by injection tX with tX;subst tX;simpa [Nat.blt_eq] using bT,fun a aJ h4 gy=>?_⟩,by rw [lu rfl];exact h⟩
 have y1:t∈Oper.looksAt ops ⟨some d,op,ty,pos,af,some (j,want)⟩:=by
  unfold Oper.looksAt
  refine List.mem_append_right _ ?_
  simp only
  rw [bW]
  simp
 have h1:=gy t (fun oO _=>oO=undef) y1 (by simp [tx,cb])
 have ba:yielded ops a.tmps j=none:=by
  unfold yielded
  rw [bW]
  show(match a.tmps[t]? with | some (.bool b)=>some b | _=>none)=none
  rw [Array.getD_eq_getD_getElem?] at h1
  cases dY:a.tmps[t]? with
  | none=>rfl
  | some u=>
   rw [dY] at h1
   simp only [Option.getD_some] at h1
   subst h1
   rfl
 have hw:¬ (Region.wanted ⟨some d,op,ty,pos,af,some (j,want)⟩ (yielded ops a.tmps)=true):=by
  simp [Region.wanted,ba]
 rw [ak hw]
end
theorem Own.same {w:World} {e sz m n:Nat} {v:Value} {us vs:List Value} (h:Own w e sz v n vs) (hm:n=m) (bI:vs=us):Own w e sz v m us:=by
 subst hm;subst bI;exact h
section
variable {α:Type}
theorem nv {q:α→Bool}:∀ {xs:List α} {i:Nat},(∀ j y,j<i→xs[j]? = some y→q y=true)→(∀ j y,i≤j→xs[j]? = some y→q y=false)→xs.filter q=xs.take i
 | [],i,_,_=>by simp
 | x::xs,0,h,fW=>by
  have:=nv (xs:=xs) (i:=0) (fun j y eD=>by omega) (fun j y _ ba=>fW (j+1) y (by omega) (by simpa using ba))
  have ae:=fW 0 x (by omega) rfl
  rw [List.filter_cons,ae,this]
  simp
 | x::xs,i+1,h,fW=>by
  have:=nv (xs:=xs) (i:=i) (fun j y eD ba=>h (j+1) y (by omega) (by simpa using ba)) (fun j y eD ba=>fW (j+1) y (by omega) (by simpa using ba))
  have ae:=h 0 x (by omega) rfl
  rw [List.filter_cons,ae,this]
  simp
theorem pX {q:α→Bool}:∀ {xs:List α} {i:Nat},(∀ j y,j<i→xs[j]? = some y→q y=false)→(∀ j y,i≤j→xs[j]? = some y→q y=true)→xs.filter q=xs.drop i
 | [],i,_,_=>by simp
 | x::xs,0,h,fW=>by
  have:=pX (xs:=xs) (i:=0) (fun j y eD=>by omega) (fun j y _ ba=>fW (j+1) y (by omega) (by simpa using ba))
  have ae:=fW 0 x (by omega) rfl
  rw [List.filter_cons,ae,this]
  simp
 | x::xs,i+1,h,fW=>by
  have:=pX (xs:=xs) (i:=i) (fun j y eD ba=>h (j+1) y (by omega) (by simpa using ba)) (fun j y eD ba=>fW (j+1) y (by omega) (by simpa using ba))
  have ae:=h 0 x (by omega) rfl
  rw [List.filter_cons,ae,this]
  simp
end
theorem MT {xs:List Slot}:∀ x∈xs,∀ c∈Slot.cells x,c.oneCell'=true:=by
 intro x _ c aZ;simp at aZ;rcases aZ with rfl | rfl | rfl <;> rfl
theorem Own.slots {w:World} {e:Nat} {v:Value} {xs:List Slot} (A:List Nat) (h:Own w e 3 v xs.length ((xs.map Slot.cells).flatten)) (dy:∀ x∈bk v,x∉A):bq A w (ac4 xs) v:=Own.flat h (fun _ _=>rfl) MT rfl dy
inductive JV where
 | mk (k:Int) (b:Bool) (n:Int) (s:List UInt8) (l:List JV) (m:List (List UInt8×JV))
namespace JV
def kind:JV→Int | .mk k _ _ _ _ _=>k
def is:JV→Bool | .mk _ b _ _ _ _=>b
def num:JV→Int | .mk _ _ n _ _ _=>n
def str:JV→List UInt8 | .mk _ _ _ s _ _=>s
def list:JV→List JV | .mk _ _ _ _ l _=>l
def map:JV→List (List UInt8×JV) | .mk _ _ _ _ _ m=>m
theorem eta (v:JV):v = .mk v.kind v.is v.num v.str v.list v.map:=by cases v;rfl
mutual
def D:JV→List Go.Proofs.YtkjgljnkocnnpaaGreatDoor.V.D
 | .mk k b n s l m=>[.v (.int .i64 k),.v (.bool b),.v (.int .i64 n),.v (S s),.jH 6 (aqw l),.jH 7 (aqx m)]
def aqw:List JV→List (List Go.Proofs.YtkjgljnkocnnpaaGreatDoor.V.D)
 | []=>[]
 | v::r=>v.D::aqw r
def aqx:List (List UInt8×JV)→List (List Go.Proofs.YtkjgljnkocnnpaaGreatDoor.V.D)
 | []=>[]
 | p::r=>(.v (S p.1)::p.2.D)::aqx r
end
abbrev jq (p:List UInt8×JV):List Go.Proofs.YtkjgljnkocnnpaaGreatDoor.V.D:=.v (S p.1)::p.2.D
theorem W7:∀ l:List JV,aqw l=l.map D
 | []=>rfl
 | v::r=>by simp [aqw,W7 r]
theorem W9:∀ m:List (List UInt8×JV),aqx m=m.map jq
 | []=>rfl
 | v::r=>by simp [aqx,W9 r]
theorem JI (v:JV):v.D = [.v (.int .i64 v.kind),.v (.bool v.is),.v (.int .i64 v.num),.v (S v.str),.jH 6 (v.list.map D),.jH 7 (v.map.map jq)]:=by
 cases v;simp [D,kind,is,num,str,list,map,W7,W9]
theorem sO (v:JV):v.D.length=6:=by rw [JI];rfl
theorem AJ (p:List UInt8×JV):(jq p).length=7:=by simp [sO]
mutual
def sz:JV→Nat
 | .mk _ _ _ _ l m=>1+W' l+Xa m
def W':List JV→Nat
 | []=>0
 | v::r=>v.sz+W' r
def Xa:List (List UInt8×JV)→Nat
 | []=>0
 | p::r=>p.2.sz+Xa r
end
theorem Xb {l:List JV} {v:JV} (h:v∈l):v.sz≤W' l:=by
 induction l with
 | nil=>cases h
 | cons a r ea=>
  simp only [W'];rcases List.mem_cons.1 h with rfl | h
  ·omega
  have:=ea h;omega
theorem ac6 {l:List (List UInt8×JV)} {p:List UInt8×JV} (h:p∈l):p.2.sz≤Xa l:=by
 induction l with
 | nil=>cases h
 | cons a r ea=>
  simp only [Xa];rcases List.mem_cons.1 h with rfl | h
  ·omega
  have:=ea h;omega
theorem ql (v:JV):v.sz=1+W' v.list+Xa v.map:=by cases v;simp [sz,list,map]
theorem il {v x:JV} (h:x∈v.list):x.sz<v.sz:=by have:=Xb h;rw [ql v];omega
theorem hU {v:JV} {p:List UInt8×JV} (h:p∈v.map):p.2.sz<v.sz:=by have:=ac6 h;rw [ql v];omega
mutual
def ok:JV→Prop
 | .mk k b n s l m=>s.length≤140737488351232∧l.length≤1599289640400∧m.length≤1353245080300∧Xc l∧Xd m
def Xc:List JV→Prop
 | []=>True
 | v::r=>v.ok∧Xc r
def Xd:List (List UInt8×JV)→Prop
 | []=>True
 | p::r=>(p.1.length≤140737488351232∧p.2.ok)∧Xd r
end
theorem JJ:∀ {l:List JV},Xc l↔∀ v∈l,v.ok
 | []=>by simp [Xc]
 | v::r=>by simp [Xc,JJ (l:=r)]
theorem JK:∀ {l:List (List UInt8×JV)},Xd l↔∀ p∈l,p.1.length≤140737488351232∧p.2.ok
 | []=>by simp [Xd]
 | v::r=>by simp [Xd,JK (l:=r)]
theorem ok_eq (v:JV):v.ok↔v.str.length≤140737488351232∧v.list.length≤1599289640400∧v.map.length≤1353245080300∧(∀ x∈v.list,x.ok)∧∀ p∈v.map,p.1.length≤140737488351232∧p.2.ok:=by
 cases v;simp [ok,str,list,map,JJ,JK]
end JV
theorem yh:∀ a b:ab,Lib.compareBytes a b=r3 a b
 | [],[]=>rfl
 | [],_::_=>by simp [Lib.compareBytes,r3,fx,Op.bytesLess]
 | _::_,[]=>by simp [Lib.compareBytes,r3,fx,Op.bytesLess]
 | x::a,y::b=>by
  have ea:=yh a b
  simp only [Lib.compareBytes]
  unfold r3 at ea ⊢
  by_cases h:x<y
  ·simp [h,fx,Op.bytesLess]
  by_cases fW:y<x
  ·have cH:x≠y:=fun e=>by subst e;exact h fW
   simp [h,fW,fx,Op.bytesLess,cH]
  have asX:x=y:=UInt8.le_antisymm (UInt8.not_lt.1 fW) (UInt8.not_lt.1 h)
  subst asX
  simp [fx,Op.bytesLess]
  rw [ea]
section
variable {β:Type}
def et (m:List (ab×β)):Prop:=m.Pairwise fun a b=>fx a.1 b.1=true
def look:List (ab×β)→ab→Option β
 | [],_=>none
 | p::r,k=>if p.1=k then some p.2 else look r k
def gD (m:List (ab×β)) (k:ab):Nat:=(m.filter fun p=>fx p.1 k).length
def dO (m:List (ab×β)) (k:ab) (x:β):List (ab×β):=m.filter (fun p=>fx p.1 k) ++ [(k,x)]++m.filter (fun p=>fx k p.1)
variable {m gZ:List (ab×β)} {k:ab} {x:β}
theorem Br:gD m k≤m.length:=List.length_filter_le _ _
theorem Bk {i:Nat} (hi:i≤m.length) (h:∀ (j:Nat) (y:ab×β),j<i→m[j]? = some y→fx y.1 k=true) (fW:∀ (j:Nat) (y:ab×β),i≤j→m[j]? = some y→fx y.1 k=false):gD m k=i:=by
 rw [gD,nv (i:=i) h fW,List.length_take];omega
theorem tI {i j:Nat} {a b:ab×β} (h:et m) (aE:m[i]? = some a) (aW:m[j]? = some b) (z6:i<j):fx a.1 b.1=true:=by
 obtain⟨h1,rfl⟩:=List.getElem?_eq_some_iff.1 aE;obtain⟨aq,rfl⟩:=List.getElem?_eq_some_iff.1 aW;exact List.pairwise_iff_getElem.1 h i j h1 aq z6
theorem iq (h:∀ (j:Nat) (y:ab×β),m[j]? = some y→y.1≠k):look m k=none:=by
 induction m with
 | nil=>rfl
 | cons p r ea=>
  rw [look,ak (h 0 p rfl)];exact ea fun j y ba=>h (j+1) y (by simpa using ba)
theorem Em {i:Nat} {y:ab×β} (h:∀ (j:Nat) (z:ab×β),j<i→m[j]? = some z→z.1≠k) (ba:m[i]? = some y) (hk:y.1=k):look m k=some y.2:=by
 induction m generalizing i with
 | nil=>simp at ba
 | cons p r ea=>
  cases i with
  | zero=>simp at ba;subst ba;rw [look,aL hk]
  | succ i=>
   rw [look,ak (h 0 p (by omega) rfl)];exact ea (i:=i) (fun j z eD cP=>h (j+1) z (by omega) (by simpa using cP)) (by simpa using ba)
theorem E' (h:et m):(∀ j y,j<gD m k→m[j]? = some y→fx y.1 k=true)∧(∀ j y,gD m k≤j→m[j]? = some y→fx y.1 k=false):=by
 induction m with
 | nil=>simp
 | cons p r ea=>
  obtain⟨h1,aq⟩:=ea (List.Pairwise.of_cons h)
  by_cases ae:fx p.1 k=true
  ·have cc:gD (p::r) k=gD r k+1:=by simp [gD,ae]
   rw [cc];refine⟨fun j y eD ba=>?_,fun j y eD ba=>?_⟩
   ·cases j with
    | zero=>simp at ba;subst ba;exact ae
    | succ j=>exact h1 j y (by omega) (by simpa using ba)
   cases j with
   | zero=>omega
   | succ j=>exact aq j y (by omega) (by simpa using ba)
  have lD:∀ (j:Nat) (y:ab×β),(p::r)[j]? = some y→fx y.1 k=false:=fun j y ba=>by
   cases H7:fx y.1 k with
   | false=>rfl
   | true=>
    cases j with
    | zero=>simp at ba;subst ba;exact absurd H7 ae
    | succ j=>exact absurd (hL (tI h (i:=0) rfl ba (by omega)) H7) ae
  have cc:gD (p::r) k=0:=Bk (by omega) (fun j y eD=>by omega) (fun j y _ ba=>lD j y ba);rw [cc];exact⟨fun j y eD=>by omega,fun j y _ ba=>lD j y ba⟩
theorem AW {y:ab×β} (h:et m) (ba:m[gD m k]? = some y) (cc:y.1=k):look m k=some y.2∧∀ x,dO m k x=m.set (gD m k) (k,x):=by
 obtain⟨h1,aq⟩:=E' (k:=k) h;have bM:=(List.getElem?_eq_some_iff.1 ba).1;refine⟨Em (fun j z eD cP e=>?_) ba cc,fun x=>?_⟩
 ·have:=h1 j z eD cP;rw [e,dJ] at this;cases this
 rw [dO,nv h1 aq,pX (i:=gD m k+1),List.set_eq_take_append_cons_drop,aL bM]
 ·simp
 ·intro j z eD cP;rcases Nat.lt_succ_iff_lt_or_eq.1 eD with eD | eD
  ·exact kD (h1 j z eD cP)
  subst eD;rw [ba] at cP;injection cP with cP
  subst cP;rw [cc,dJ]
 intro j z eD cP;rw [← cc];exact tI h ba cP (by omega)
theorem MX (h:et m) (cu:∀ y:ab×β,m[gD m k]? = some y→y.1≠k):look m k=none∧∀ x,dO m k x=m.take (gD m k) ++ [(k,x)]++m.drop (gD m k):=by
 obtain⟨h1,aq⟩:=E' (k:=k) h;have bb:∀ j z,gD m k≤j→m[j]? = some z→fx k z.1=true:=fun j z eD cP=>by
  have bM:=(List.getElem?_eq_some_iff.1 cP).1;obtain⟨y,ba⟩:∃ y,m[gD m k]? = some y:=⟨_,List.getElem?_eq_getElem (by omega)⟩;have H7:fx k y.1=true:=by
   rcases nY k y.1 with fW | fW | fW
   ·exact fW
   ·exact absurd fW.symm (cu y ba)
   rw [aq _ y (Nat.le_refl _) ba] at fW;cases fW
  rcases Nat.lt_or_ge (gD m k) j with xt | xt
  ·exact hL H7 (tI h ba cP xt)
  have:j=gD m k:=by omega
  subst this;rw [ba] at cP;injection cP with cP
  subst cP;exact H7
 refine⟨iq fun j z cP e=>?_,fun x=>?_⟩
 ·rcases Nat.lt_or_ge j (gD m k)with eD | eD
  ·have:=h1 j z eD cP;rw [e,dJ] at this;cases this
  have:=bb j z eD cP;rw [e,dJ] at this;cases this
 rw [dO,nv h1 aq,pX (fun j z eD cP=>kD (h1 j z eD cP)) bb]
theorem akT {i:Nat} (h:et m) (hi:gD m k=i) {y:ab×β} (ba:m[i]? = some y):(look m k).isSome=decide (r3 y.1 k=0):=by
 subst hi
 by_cases cc:y.1=k
 ·rw [(AW h ba cc).1,decide_eq_true (Cl.2 cc)];rfl
 rw [(MX h fun z cP=>by rw [ba] at cP;injection cP with cP;subst cP;exact cc).1,decide_eq_false (fun e=>cc (Cl.1 e))];rfl
theorem H9 (h:et m) (hi:m.length≤gD m k):(look m k).isSome=false:=by
 rw [(MX h fun z cP=>by rw [List.getElem?_eq_none hi] at cP;cases cP).1];rfl
theorem uM (h:et m) (bh:(look m k).isSome=true):∃ y:ab×β,m[gD m k]? = some y∧y.1=k∧look m k=some y.2:=by
 rcases Nat.lt_or_ge (gD m k) m.length with bM | e5
 ·obtain⟨y,ba⟩:∃ y,m[gD m k]? = some y:=⟨_,List.getElem?_eq_getElem bM⟩;rw [akT h rfl ba] at bh;have cc:=Cl.1 (of_decide_eq_true bh);exact⟨y,ba,cc,(AW h ba cc).1⟩
 rw [H9 h e5] at bh;cases bh
theorem Rq (h:et m) (bh:(look m k).isSome=false):∀ y:ab×β,m[gD m k]? = some y→y.1≠k:=fun y ba cc=>by
 rw [(AW h ba cc).1] at bh;cases bh
theorem eG:∀ {m:List (ab×β)} {x:β},look m k=some x→(k,x)∈m
 | p::r,x,h=>by
  rw [look] at h
  by_cases cc:p.1=k
  ·rw [aL cc] at h
   injection h with h
   subst cc;subst h
   exact List.mem_cons_self ..
  rw [ak cc] at h
  exact List.mem_cons_of_mem _ (eG h)
theorem qc:∀ {m:List (ab×β)} {p:ab×β},et m→p∈m→look m p.1=some p.2
 | q::r,p,h,cc=>by
  rcases cB cc with rfl | cc
  ·rw [look,aL rfl]
  have:=List.rel_of_pairwise_cons h cc
  rw [look,ak (fun e=>by rw [e,dJ] at this;cases this)]
  exact qc (List.Pairwise.of_cons h) cc
theorem s6:∀ {m:List (ab×β)},look m k=none→∀ p∈m,p.1≠k
 | q::r,h,p,cc=>by
  rw [look] at h
  by_cases e8:q.1=k
  ·rw [aL e8] at h;cases h
  rw [ak e8] at h
  rcases cB cc with rfl | cc
  ·exact e8
  exact s6 h p cc
theorem uZ:∀ {m gZ:List (ab×β)},et m→et gZ→(∀ k,look m k=look gZ k)→m=gZ
 | [],[],_,_,_=>rfl
 | [],p::r,_,fW,e=>by have:=e p.1;rw [qc fW (List.mem_cons_self ..)] at this;cases this
 | p::r,[],h,_,e=>by have:=e p.1;rw [qc h (List.mem_cons_self ..)] at this;cases this
 | p::r,Rr::Qn,h,fW,e=>by
  have h1:=eG ((e p.1).symm.trans (qc h (List.mem_cons_self ..)))
  have aq:=eG ((e Rr.1).trans (qc fW (List.mem_cons_self ..)))
  have hk:p.1=Rr.1:=by
   rcases cB h1 with bb | bb
   ·rw [← bb]
   rcases cB aq with bP | bP
   ·rw [← bP]
   have a:=List.rel_of_pairwise_cons fW bb
   have b:=List.rel_of_pairwise_cons h bP
   have:=hL a b
   rw [dJ] at this
   cases this
  have k0:p=Rr:=by
   have ED:=e p.1
   rw [look,aL rfl,look,aL hk.symm] at ED
   injection ED with ED
   exact Prod.ext hk ED
  subst k0
  congr 1
  refine uZ (List.Pairwise.of_cons h) (List.Pairwise.of_cons fW) fun k=>?_
  by_cases UN:p.1=k
  ·subst UN
   have wG:∀ {r:List (ab×β)},et (p::r)→look r p.1=none:=fun bo=>iq fun j y ba e=>by
    have:=List.rel_of_pairwise_cons bo (List.mem_of_getElem? ba)
    rw [e,dJ] at this
    cases this
   rw [wG h,wG fW]
  have ED:=e k
  rwa [look,ak UN,look,ak UN] at ED
theorem xu {q:ab×β→Bool} (h:et m):et (m.filter q):=List.Pairwise.filter q h
theorem p9 (h:et m):et (dO m k x):=by
 unfold dO et;rw [List.append_assoc,List.pairwise_append];refine⟨xu h,?_,?_⟩
 ·rw [List.pairwise_append];refine⟨by simp,xu h,?_⟩;intro a aE b aW;simp at aE;subst aE;simpa using (List.mem_filter.1 aW).2
 intro a aE b aW;have h1:fx a.1 k=true:=by simpa using (List.mem_filter.1 aE).2
 rcases List.mem_append.1 aW with aW | aW
 ·simp at aW;subst aW;exact h1
 exact hL h1 (by simpa using (List.mem_filter.1 aW).2)
theorem pY:∀ {a b:List (ab×β)},look (a++b) k=(look a k).or (look b k)
 | [],b=>by simp [look]
 | p::r,b=>by
  simp only [List.cons_append,look]
  by_cases cc:p.1=k
  ·simp [cc]
  simp [cc,pY (a:=r) (b:=b)]
theorem kn {q:ab×β→Bool} {b:Bool} (e8:∀ p∈m,p.1=k→q p=b):look (m.filter q) k=if b then look m k else none:=by
 induction m with
 | nil=>simp [look]
 | cons p r ea=>
  have ea:=ea fun Rr wq=>e8 Rr (List.mem_cons_of_mem _ wq);have cc:=e8 p (List.mem_cons_self ..)
  by_cases hk:p.1=k
  ·have:=cc hk;cases b
   ·rw [List.filter_cons_of_neg (by simp [this]),ea];rfl
   rw [List.filter_cons_of_pos this,look,aL hk,aL rfl,look,aL hk]
  by_cases ab3:q p=true
  ·rw [List.filter_cons_of_pos ab3,look,ak hk,ea,look,ak hk]
  rw [List.filter_cons_of_neg ab3,ea,look,ak hk]
theorem EM {kS:ab}:look (dO m k x) kS=if kS=k then some x else look m kS:=by
 unfold dO;rw [pY,pY]
 by_cases h:kS=k
 ·subst h;rw [kn (b:=false) (fun p _ e=>by rw [e,dJ])];simp [look]
 rw [ak h];have h1:look [(k,x)] kS=none:=by simp [look,Ne.symm h]
 rw [h1,Option.or_none];rcases nY kS k with aq | aq | aq
 ·rw [kn (b:=true) (fun p _ e=>by rw [e];exact aq),kn (b:=false) (fun p _ e=>by rw [e];exact kD aq)];simp
 ·exact absurd aq h
 rw [kn (b:=false) (fun p _ e=>by rw [e];exact kD aq),kn (b:=true) (fun p _ e=>by rw [e];exact aq)];simp
end
section
variable {A:List Nat} {w w':World}
theorem Addr.En (a:Addr) (i j:Nat):(a.add i).add j=a.add (i+j):=by
 unfold Addr.add
 by_cases h:i=0 <;> by_cases fW:j=0 <;> simp [h,fW,Nat.add_assoc]
theorem pF.vK {a:Addr} {v:Value} {vs:List Value} (h:pF w a (v::vs)):pF w (a.add 1) vs:=fun j u hu=>by
 have:=h (j+1) u (by simpa using hu)
 rwa [Addr.En,Nat.add_comm 1 j]
theorem JV.aU {v:JV} {us:List Value} (aBn:ao A w v.D us):∃ al cl am cm,us = [.int .i64 v.kind,.bool v.is,.int .i64 v.num,S v.str,.slice al v.list.length cl,.slice am v.map.length cm]∧
  bq A w (.jH 6 (v.list.map JV.D)) (.slice al v.list.length cl)∧bq A w (.jH 7 (v.map.map JV.jq)) (.slice am v.map.length cm):=by
 rw [JV.JI] at aBn
 obtain⟨_,_,rfl,h1,aBn⟩:=aBn
 obtain⟨_,_,rfl,aq,aBn⟩:=aBn
 obtain⟨_,_,rfl,bb,aBn⟩:=aBn
 obtain⟨_,_,rfl,bP,aBn⟩:=aBn
 obtain⟨_,_,rfl,cZ,aBn⟩:=aBn
 obtain⟨_,_,rfl,fy,aBn⟩:=aBn
 obtain rfl:=aBn
 obtain rfl:=h1.np
 obtain rfl:=aq.np
 obtain rfl:=bb.np
 obtain rfl:=bP.np
 obtain⟨al,cl,rfl,_⟩:=cZ.vL
 obtain⟨am,cm,rfl,_⟩:=fy.vL
 rw [List.length_map] at cZ fy ⊢
 rw [List.length_map]
 exact⟨al,cl,am,cm,rfl,cZ,fy⟩
theorem JV.bX {v:JV} {al am:Option Addr} {cl cm:Nat} (k3:bq A w (.jH 6 (v.list.map JV.D)) (.slice al v.list.length cl)) (j3:bq A w (.jH 7 (v.map.map JV.jq)) (.slice am v.map.length cm)) :
  ao A w v.D [.int .i64 v.kind,.bool v.is,.int .i64 v.num,S v.str,.slice al v.list.length cl,.slice am v.map.length cm]:=by
 rw [JV.JI]
 exact ao.ig (bq.cN rfl) (ao.ig (bq.cN rfl) (ao.ig (bq.cN rfl) (ao.ig (bq.cN rfl) (ao.ig k3 (ao.ig j3 ao.oJ)))))
theorem JV.qk {l:List JV} {ad:Option Addr} {n c:Nat} (aBn:bq A w (.jH 6 (l.map JV.D)) (.slice ad n c)):l.length=n∧n≤c∧c≤9223372036854775807:=by
 obtain⟨tK,c',h1,aq,bb⟩:=aBn.vL;injection h1 with bP cZ fy
 rw [List.length_map] at cZ aq;omega
theorem JV.iA {m:List (ab×JV)} {ad:Option Addr} {n c:Nat} (aBn:bq A w (.jH 7 (m.map JV.jq)) (.slice ad n c)):m.length=n∧n≤c∧c≤9223372036854775807:=by
 obtain⟨tK,c',h1,aq,bb⟩:=aBn.vL;injection h1 with bP cZ fy
 rw [List.length_map] at cZ aq;omega
theorem JV.zp {l:List JV} {x:JV} {ad:Option Addr} {n c i:Nat} (aBn:bq A w (.jH 6 (l.map JV.D)) (.slice ad n c)) (h:l[i]? = some x):∃ a us,ad=some a∧ao A w x.D us∧pF w (a.add (i*6)) us:=by
 obtain⟨a,us,h1,aq,_,bb,_⟩:=bq.at_ (i:=i) (r:=x.D) aBn (by simp [h]);exact⟨a,us,h1,aq,bb⟩
theorem JV.kQ {m:List (ab×JV)} {p:ab×JV} {ad:Option Addr} {n c i:Nat} (aBn:bq A w (.jH 7 (m.map JV.jq)) (.slice ad n c)) (h:m[i]? = some p):∃ a us,ad=some a∧ao A w p.2.D us∧pF w (a.add (i*7)) (S p.1::us):=by
 obtain⟨a,us,h1,aq,_,bb,_⟩:=bq.at_ (i:=i) (r:=JV.jq p) aBn (by simp [h]);obtain⟨u,ga,rfl,bP,cZ⟩:=aq;obtain rfl:=bP.np;exact⟨a,ga,h1,cZ,bb⟩
def JV.fg:JV:=.mk 0 false 0 [] [] []
theorem JV.b3:ao A w JV.fg.D [.int .i64 0,.bool false,.int .i64 0,S [],.slice none 0 0,.slice none 0 0]:=by
 have:=JV.bX (A:=A) (w:=w) (v:=JV.fg) (al:=none) (am:=none) (cl:=0) (cm:=0) bq.eh bq.eh;exact this
theorem JV.cells_one {v:JV} {us:List Value} (aBn:ao A w v.D us):us.length=6∧∀ u∈us,u.oneCell'=true:=⟨by rw [aBn.length,JV.sO],aBn.one⟩
theorem JV.s7 (m:List (ab×JV)):∀ r∈m.map JV.jq,r.length=7:=by
 intro r bo;obtain⟨p,_,rfl⟩:=List.mem_map.1 bo;exact JV.AJ p
theorem JV.dX {p:ab×JV} {us:List Value} (aBn:ao A w p.2.D us):ao A w (JV.jq p) (S p.1::us):=ao.ig (bq.cN rfl) aBn
theorem um {sz:Nat}:∀ {rows:List (List D)},(∀ r∈rows,r.length=sz)→rows.flatten.length=rows.length*sz
 | [],_=>by simp
 | r::rs,h=>by
  rw [List.flatten_cons,List.length_append,h r (by simp),um fun Qn qt=>h Qn (by simp [qt]),List.length_cons,Nat.add_mul]
  omega
theorem ao.uo {sz i:Nat} {rows:List (List D)} {vs:List Value} (cb:∀ r∈rows,r.length=sz) (hi:i≤rows.length) (h:ao A w rows.flatten vs) :
  ao A w (rows.take i).flatten (vs.take (i*sz))∧ao A w (rows.drop i).flatten (vs.drop (i*sz)):=by
 have e:rows.flatten=(rows.take i).flatten++(rows.drop i).flatten:=by rw [← List.flatten_append,List.take_append_drop]
 rw [e] at h
 have:=h.cut
 rwa [um fun r bo=>cb r (List.mem_of_mem_take bo),List.length_take,Nat.min_eq_left hi] at this
theorem JV.P8 {m:List (ab×JV)} {p:ab×JV} {vs us:List Value} {i:Nat} (h:ao A w (m.map JV.jq).flatten vs) (hi:i≤m.length) (cc:ao A w (JV.jq p) us) :
  ao A w ((m.take i ++ [p]++m.drop i).map JV.jq).flatten (vs.take (i*7)++us++vs.drop (i*7)):=by
 obtain⟨h1,aq⟩:=ao.uo (i:=i) (JV.s7 m) (by simpa using hi) h
 rw [List.map_append,List.map_append,List.flatten_append,List.flatten_append,List.map_take,List.map_drop]
 refine(h1.append ?_).append aq
 simpa using cc
theorem JV.Rs {m:List (ab×JV)} {p:ab×JV} {vs us:List Value} {i:Nat} (h:ao A w (m.map JV.jq).flatten vs) (hi:i<m.length) (cc:ao A w (JV.jq p) us) :
  ao A w ((m.set i p).map JV.jq).flatten (vs.take (i*7)++us++vs.drop ((i+1)*7)):=by
 obtain⟨h1,_⟩:=ao.uo (i:=i) (JV.s7 m) (by simpa using Nat.le_of_lt hi) h
 obtain⟨_,aq⟩:=ao.uo (i:=i+1) (JV.s7 m) (by rw [List.length_map];omega) h
 rw [List.set_eq_take_append_cons_drop,aL hi,List.map_append,List.map_cons,List.flatten_append,List.flatten_cons,List.map_take,List.map_drop,List.append_assoc]
 exact h1.append (cc.append aq)
theorem JV.qn {m:List (ab×JV)} {p:ab×JV} {vs us:List Value} (h:ao A w (m.map JV.jq).flatten vs) (cc:ao A w (JV.jq p) us):ao A w ((m ++ [p]).map JV.jq).flatten (vs++us):=by
 rw [List.map_append,List.flatten_append];refine h.append ?_;simpa using cc
theorem Own.vr {e:Nat} {v:Value} {m:List (ab×JV)} {n:Nat} {vs:List Value} (O:Own w e 7 v n vs) (h:ao A w (m.map JV.jq).flatten vs) (cu:m.length=n) (dy:∀ x∈bk v,x∉A):bq A w (.jH 7 (m.map JV.jq)) v:=
 O.rep h (JV.s7 m) (by simpa using cu) dy
variable {P:Program} {ops:Array Oper} {Q:Exit→Act→World→Prop} {n:Nat} {ds:List Deferred} {l:List (Nat×Value)}
variable {rest:List Oper} {ty:TypeId} {pos:String} {af:Array Edge} {x y:Operand}
theorem P6 {e sz N c p k:Nat} {ad:Addr} {vs us:List Value} {T:TypeId} (bW:lG P T k=true) (O:Own w e sz (.slice (some ad) N c) N vs) (ae:bf l x=some (.pointer (some (ad.add p)))) (ba:bf l y=some (.agg us.toArray)) (cb:us.length=k) (yX:∀ u∈us,u.oneCell'=true) (hi:p+k≤N*sz)
  (h:∀ w',Own w' e sz (.slice (some ad) N c) N (vs.take p++us++vs.drop (p+k))→Mod [ad.block] w w'→w'.heap.size=w.heap.size→fI P ops Q rest n ds l w') :
  fI P ops Q (⟨none,.store T x y,ty,pos,af,none⟩::rest) n ds l w:=by
 rcases O.2 with⟨cg,_⟩ | ⟨g,o,cap,cs,bI,ev,eQ,h3,uc,rG⟩
 ·cases cg
 injection bI with bu ee kH
 injection bu with bu
 subst bu;subst kH
 have Fa:N*sz≤c*sz:=Nat.mul_le_mul_right _ eQ
 have pb:=O.1
 rw [Addr.add_lit] at ae
 refine oa (vs:=us) bW ev ae ba cb yX (by omega) fun w' cc=>?_
 refine h w' ⟨?_,.inr ⟨g,o,c,_,rfl,cc.ar,eQ,h3,by simp [splice];omega,?_⟩⟩ cc.mod cc.size
 ·simp only [List.length_append,List.length_take,List.length_drop,cb,pb]
  omega
 subst rG
 apply List.ext_getElem?
 intro j
 simp only [splice,cb]
 simp only [List.getElem?_take,List.getElem?_drop,List.getElem?_append,List.length_append,List.length_take,List.length_drop,cb]
 repeat' split
 all_goals first
  | omega
  | rfl
  | (congr 1;omega)
  | skip
end
abbrev ll (z:Int):Int:=IntKind.i64.wrap z
namespace JV
mutual
def kj:JV→Int→Int→Int
 | .mk _ _ _ s l m,left,deep=>if deep=0 then -1 else kP m (kO l (ll (ll (left-1)-s.length)) (ll (deep-1))) (ll (deep-1))
def kO:List JV→Int→Int→Int
 | [],left,_=>left
 | v::r,left,d=>if left<0 then left else kO r (v.kj left d) d
def kP:List (List UInt8×JV)→Int→Int→Int
 | [],left,_=>left
 | p::r,left,d=>if left<0 then left else kP r (p.2.kj (ll (left-p.1.length)) d) d
end
theorem Ek (v:JV) (left deep:Int):v.kj left deep=if deep=0 then -1 else kP v.map (kO v.list (ll (ll (left-1)-v.str.length)) (ll (deep-1))) (ll (deep-1)):=by
 cases v;simp only [kj,map,list,str]
theorem H2 {l:List JV} {z d:Int} (h:z<0):kO l z d=z:=by
 cases l <;> simp [kO,h]
theorem zq {l:List (List UInt8×JV)} {z d:Int} (h:z<0):kP l z d=z:=by
 cases l <;> simp [kP,h]
theorem LM {l:List JV} {k:Nat} {x:JV} {z d:Int} (ae:l[k]? = some x) (h:¬ z<0):kO (l.drop k) z d=kO (l.drop (k+1)) (x.kj z d) d:=by
 obtain⟨hk,rfl⟩:=List.getElem?_eq_some_iff.1 ae;rw [List.drop_eq_getElem_cons hk,kO,if_neg h]
theorem Bf {l:List (List UInt8×JV)} {k:Nat} {x:List UInt8×JV} {z d:Int} (ae:l[k]? = some x) (h:¬ z<0):kP (l.drop k) z d=kP (l.drop (k+1)) (x.2.kj (ll (z-x.1.length)) d) d:=by
 obtain⟨hk,rfl⟩:=List.getElem?_eq_some_iff.1 ae;rw [List.drop_eq_getElem_cons hk,kP,if_neg h]
theorem H3 {l:List JV} {k:Nat} {z d:Int} (h:l.length≤k):kO (l.drop k) z d=z:=by
 rw [List.drop_eq_nil_of_le h,kO]
theorem zr {l:List (List UInt8×JV)} {k:Nat} {z d:Int} (h:l.length≤k):kP (l.drop k) z d=z:=by
 rw [List.drop_eq_nil_of_le h,kP]
mutual
def iH:JV→Prop
 | .mk _ _ _ _ l m=>et m∧Cm l∧Cn m
def Cm:List JV→Prop
 | []=>True
 | v::r=>v.iH∧Cm r
def Cn:List (List UInt8×JV)→Prop
 | []=>True
 | p::r=>p.2.iH∧Cn r
end
theorem Co:∀ {l:List JV},Cm l↔∀ v∈l,v.iH
 | []=>by simp [Cm]
 | v::r=>by simp [Cm,Co (l:=r)]
theorem Cp:∀ {l:List (List UInt8×JV)},Cn l↔∀ p∈l,p.2.iH
 | []=>by simp [Cn]
 | v::r=>by simp [Cn,Cp (l:=r)]
theorem oX (v:JV):v.iH↔et v.map∧(∀ x∈v.list,x.iH)∧∀ p∈v.map,p.2.iH:=by
 cases v;simp only [iH,map,list,Co,Cp]
open Classical in
noncomputable def rises (v:JV):Bool:=decide v.iH
open Classical in
noncomputable def pG (a b:JV):Bool:=decide (a=b)
theorem wJ {a b:JV}:pG a b=true↔a=b:=by simp [pG]
theorem r2 (a:JV):pG a a=true:=by simp [pG]
theorem ov {a b:JV} (h:a≠b):pG a b=false:=by simp [pG,h]
theorem Ty {a b:JV} (h1:a.kind=b.kind) (aq:a.is=b.is) (bb:a.num=b.num) (bP:a.str=b.str) (cZ:a.list=b.list) (fy:a.map=b.map):a=b:=by
 rw [eta a,eta b,h1,aq,bb,bP,cZ,fy]
theorem Bi {α:Type} {a b:List α} (cb:a.length=b.length) (h:∀ (i:Nat) (x y:α),i<a.length→a[i]? = some x→b[i]? = some y→x=y):a=b:=by
 apply List.ext_getElem cb;intro i h1 aq;exact h i _ _ h1 (List.getElem?_eq_getElem h1) (List.getElem?_eq_getElem aq)
end JV
theorem LU {n i:Nat} {vs news Bn:List Value} (bI:vs.length=n*7) (cu:news.length=(n+1-i)*7) (bh:Bn.length=7) (hi:i≤n) :
  ((vs.take (i*7)++news).take (i*7)++Bn++(vs.take (i*7)++news).drop ((i+1)*7)).take ((i+1)*7)++(vs.drop (i*7)).take ((n-i)*7)++((vs.take (i*7)++news).take (i*7)++Bn++(vs.take (i*7)++news).drop ((i+1)*7)).drop ((i+1+(n-i))*7)=vs.take (i*7)++Bn++vs.drop (i*7):=by
 have h1:(vs.take (i*7)).length=i*7:=by rw [List.length_take];omega
 have aq:(vs.take (i*7)++news).take (i*7)=vs.take (i*7):=List.take_left' h1
 have bb:(vs.take (i*7)++Bn).length=(i+1)*7:=by rw [List.length_append,h1,bh];omega
 rw [aq]
 have bP:((vs.take (i*7)++Bn)++(vs.take (i*7)++news).drop ((i+1)*7)).take ((i+1)*7)=vs.take (i*7)++Bn:=by rw [← bb];exact List.take_left
 have cZ:((vs.take (i*7)++Bn)++(vs.take (i*7)++news).drop ((i+1)*7)).drop ((i+1+(n-i))*7) = []:=List.drop_eq_nil_of_le (by rw [List.length_append,bb,List.length_drop,List.length_append,h1,cu];omega)
 have fy:(vs.drop (i*7)).take ((n-i)*7)=vs.drop (i*7):=List.take_of_length_le (by rw [List.length_drop];omega)
 rw [bP,cZ,fy,List.append_nil]
theorem LV {n i:Nat} {vs kW Bn:List Value} (bI:vs.length=n*7) (mX:kW.length=(n+1)*7) (bW:kW.take (n*7)=vs) (bh:Bn.length=7) (hi:i≤n) :
  (kW.take ((i+1)*7)++(kW.drop (i*7)).take ((n-i)*7)++kW.drop ((i+1+(n-i))*7)).take (i*7)++Bn++(kW.take ((i+1)*7)++(kW.drop (i*7)).take ((n-i)*7)++kW.drop ((i+1+(n-i))*7)).drop ((i+1)*7)=vs.take (i*7)++Bn++vs.drop (i*7):=by
 have h1:(kW.take ((i+1)*7)).length=(i+1)*7:=by rw [List.length_take];omega
 have aq:kW.drop ((i+1+(n-i))*7) = []:=List.drop_eq_nil_of_le (by omega)
 rw [aq,List.append_nil]
 congr 1
 ·congr 1
  rw [List.take_append_of_le_length (by omega),List.take_take,← bW,List.take_take]
  congr 1
  omega
 rw [List.drop_left' h1,← bW,List.drop_take]
 congr 1
 omega
theorem JV.FZ {A:List Nat} {w:World} {m:List (ab×JV)} {n c:Nat} (aBn:bq A w (.jH 7 (m.map JV.jq)) (.slice none n c)):m = []:=by
 cases m with
 | nil=>rfl
 | cons p r=>
  obtain⟨a,us,h,_⟩:=JV.kQ (i:=0) (p:=p) aBn rfl;cases h
namespace JV
def get (v:JV) (k:ab):Option JV:=if v.kind=5 then look v.map k else none
def fN (v:JV):List (ab×JV):=if v.kind=5 then v.map else []
def obj (m:List (ab×JV)):JV:=.mk 5 false 0 [] [] m
theorem r4 {A:List Nat} {w:World} {m:List (ab×JV)} {am:Option Addr} {cm:Nat} (aBn:bq A w (.jH 7 (m.map jq)) (.slice am m.length cm)):ao A w (obj m).D [.int .i64 5,.bool false,.int .i64 0,S [],.slice none 0 0,.slice am m.length cm]:=
 bX (v:=obj m) (al:=none) (cl:=0) bq.eh aBn
end JV
theorem P5 {m:List (ab×JV)} {k:ab} {x:JV} (h:et m):(look m k).isSome=true→dO m k x=m.set (gD m k) (k,x):=fun bh=>by
 obtain⟨y,ba,hk,_⟩:=uM h bh;exact(AW h ba hk).2 x
theorem P7 {m:List (ab×JV)} {k:ab} {x:JV} (h:et m):(look m k).isSome=false→dO m k x=m.take (gD m k) ++ [(k,x)]++m.drop (gD m k):=fun bh=>(MX h (Rq h bh)).2 x
def iW:List UInt8→Nat→Option Nat
 | [],c=>some c
 | b::r,c=>if b.toNat<128∨192≤b.toNat then none else iW r (c*64+b.toNat % 64)
def gQ (c:Nat):Nat×Nat×Nat:=
 if 192≤c∧c<224 then (2,128,c % 32)else if 224≤c∧c<240 then (3,2048,c % 16)else if 240≤c∧c<248 then (4,65536,c % 8)else (0,0,c)
def aM (s:ab):Nat×Nat:=match s with
 | []=>(0,0)
 | b::r=>if b.toNat<128 then (b.toNat,1)else
  if (gQ b.toNat).1=0∨s.length<(gQ b.toNat).1 then (0,0)else
   match iW (r.take ((gQ b.toNat).1-1)) (gQ b.toNat).2.2 with
   | none=>(0,0)
   | some c=>if c<(gQ b.toNat).2.1∨1114111<c∨(55296≤c∧c≤57343)then (0,0)else (c,(gQ b.toNat).1)
theorem kC (s:ab):(aM s).2≤s.length:=by
 unfold aM
 split
 ·simp
 rename_i b r
 split
 ·simp
 split
 ·simp
 rename_i h
 split
 ·simp
 split
 ·simp
 simp only;omega
def cC (s:ab):Bool:=
 if h:s = [] then true else if cg:(aM s).2=0 then false else cC (s.drop (aM s).2)
termination_by s.length
decreasing_by
 have:=kC s;rw [List.length_drop];have:s.length≠0:=fun e=>h (List.eq_nil_of_length_eq_zero e);omega
theorem oL:cC []=true:=by rw [cC];simp
theorem vQ {s:ab} (h:s≠[]) (cg:(aM s).2=0):cC s=false:=by rw [cC];simp [h,cg]
theorem mq {s:ab} (h:s≠[]) (cg:(aM s).2≠0):cC s=cC (s.drop (aM s).2):=by
 rw [cC];simp [h,cg]
abbrev kd:ab:=[48,49,50,51,52,53,54,55,56,57,97,98,99,100,101,102]
def kg (c:UInt8):ab:=
 if c=34∨c=92 then [92,c] else if c=8 then [92,98] else if c=9 then [92,116] else if c=10 then [92,110] else if c=12 then [92,102] else if c=13 then [92,114]
 else if c.toNat<32 then [92,117,48,48,kd.getD (c.toNat / 16) 0,kd.getD (c.toNat % 16) 0] else [c]
def dI (s:ab):ab:=(s.map kg).flatten
def cM (s:ab):ab:=34::dI s ++ [34]
theorem Qm (c:UInt8):(kg c).length≤6:=by
 unfold kg
 repeat' split
 all_goals simp
theorem nX:∀ s:ab,(dI s).length≤6*s.length
 | []=>by simp [dI]
 | c::s=>by
  have h1:=nX s
  have aq:=Qm c
  simp only [dI,List.map_cons,List.flatten_cons,List.length_append,List.length_cons] at h1 ⊢
  omega
theorem e7 {s:ab} {k:Nat} {c:UInt8} (h:s[k]? = some c):dI (s.take (k+1))=dI (s.take k)++kg c:=by
 have bM:=(List.getElem?_eq_some_iff.1 h).1;rw [List.take_succ_eq_append_getElem bM,(List.getElem?_eq_some_iff.1 h).2];simp [dI]
def cK (b:ab):Except Int ab:=if 65536<b.length then .error 3 else .ok b
def gm (b s:ab):Except Int ab:=if 65536<s.length then .error 3 else if cC s then cK (b++cM s)else .error 1
theorem gF {b gv:ab} (h:cK b = .ok gv):gv=b∧b.length≤65536:=by
 unfold cK at h
 split at h
 ·cases h
 injection h with h;exact⟨h.symm,by omega⟩
namespace JV
def bare (v:JV):Bool:=decide (0≤v.kind∧v.kind≤5)&&(decide (v.kind=1) || !v.is)&&(decide (v.kind=2)||decide (v.num=0))&&(decide (v.kind=3)||decide (v.str = []))&&(decide (v.kind=4)||decide (v.list.length=0))&&(decide (v.kind=5)||decide (v.map.length=0))&&(!decide (v.kind=2)||decide (-9007199254740991≤v.num∧v.num≤9007199254740991))
abbrev kM:ab:=[110,117,108,108]
abbrev jT:ab:=[116,114,117,101]
abbrev hP:ab:=[102,97,108,115,101]
mutual
def wr:JV→Nat→ab→Except Int ab
 | .mk k is n s l m,deep,b=>
  if bare (.mk k is n s l m)=false then .error 1 else
  if k=0 then cK (b++kM)else
  if k=1 then cK (b++if is then jT else hP)else
  if k=2 then cK (b++Lib.itoa n)else
  if k=3 then gm b s else
  if deep=32 then .error 5 else
  if k=4 then (cK (b ++ [91])).bind fun b=>(ji l deep true b).bind fun b=>cK (b ++ [93])
  else (cK (b ++ [123])).bind fun b=>(gA m deep none b).bind fun b=>cK (b ++ [125])
def ji:List JV→Nat→Bool→ab→Except Int ab
 | [],_,_,b=>.ok b
 | v::r,deep,fst,b=>(if fst then Except.ok b else cK (b ++ [44])).bind fun b=>(wr v (deep+1) b).bind fun b=>ji r deep false b
def gA:List (List UInt8×JV)→Nat→Option ab→ab→Except Int ab
 | [],_,_,b=>.ok b
 | p::r,deep,prev,b=>(match prev with
   | none=>Except.ok b
   | some q=>(cK (b ++ [44])).bind fun b=>if fx q p.1 then .ok b else .error 1).bind fun b=>
  (gm b p.1).bind fun b=>(cK (b ++ [58])).bind fun b=>(wr p.2 (deep+1) b).bind fun b=>gA r deep (some p.1) b
end
theorem en (v:JV) (deep:Nat) (b:ab):wr v deep b = 
  if bare v=false then .error 1 else
  if v.kind=0 then cK (b++kM)else
  if v.kind=1 then cK (b++if v.is then jT else hP)else
  if v.kind=2 then cK (b++Lib.itoa v.num)else
  if v.kind=3 then gm b v.str else
  if deep=32 then .error 5 else
  if v.kind=4 then (cK (b ++ [91])).bind fun b=>(ji v.list deep true b).bind fun b=>cK (b ++ [93])
  else (cK (b ++ [123])).bind fun b=>(gA v.map deep none b).bind fun b=>cK (b ++ [125]):=by
 cases v
 rw [wr]
 rfl
end JV
section
variable {P:Program} {l:List (Nat×Value)} {w:World} {ty:TypeId} {pos:String} {af:Array Edge} {dd:Option Nat} {gg:Option (Nat×Bool)} {x y lo:Operand} {t:TypeId}
theorem dV {u:List UInt8} {n:Nat} (bW:P.underlying t=some .string) (ae:bf l x=some (S u)) (cb:bf l lo=some (.int .i64 (n:Int))) (aW:n≤u.length):bE P l ⟨dd,.slice t x (some lo) none none,ty,pos,af,gg⟩ w (S (u.drop n)) w:=
 (tS (pl:=some (.i64,(n:Int))) (ph:=none) bW ae (by simp [vW,cb]) rfl (by simp only [ib,iR];omega)).to (by
  simp only [ib,iR,Int.toNat_natCast]
  rw [List.take_of_length_le (by simp)])
end
theorem Eo {l:List UInt8} {j d:Nat} {b:UInt8} (h:l[j]? = some b) (aW:b.toNat<128∨192≤b.toNat):iW (l.drop j) d=none:=by
 obtain⟨eD,rfl⟩:=List.getElem?_eq_some_iff.1 h;rw [List.drop_eq_getElem_cons eD,iW,aL aW]
theorem P' {l:List UInt8} {j d:Nat} {b:UInt8} (h:l[j]? = some b) (aW:¬ (b.toNat<128∨192≤b.toNat)):iW (l.drop j) d=iW (l.drop (j+1)) (d*64+b.toNat % 64):=by
 obtain⟨eD,rfl⟩:=List.getElem?_eq_some_iff.1 h;rw [List.drop_eq_getElem_cons eD,iW,ak aW]
theorem hs {b0:UInt8} {r:ab} (h:b0.toNat<128):aM (b0::r)=(b0.toNat,1):=by simp [aM,h]
theorem ht {b0:UInt8} {r:ab} {n l c:Nat} (e5:¬ b0.toNat<128) (hH:gQ b0.toNat=(n,l,c)) (h:n=0∨(b0::r).length<n):aM (b0::r)=(0,0):=by
 unfold aM;simp only [ak e5,hH];rw [aL h]
theorem p8 {b0:UInt8} {r:ab} {n l c:Nat} (e5:¬ b0.toNat<128) (hH:gQ b0.toNat=(n,l,c)) (h:¬ (n=0∨(b0::r).length<n)) :
  aM (b0::r)=match iW (r.take (n-1)) c with | none=>(0,0) | some c=>if c<l∨1114111<c∨(55296≤c∧c≤57343)then (0,0)else (c,n):=by
 show(if b0.toNat<128 then (b0.toNat,1)else if (gQ b0.toNat).1=0∨(b0::r).length<(gQ b0.toNat).1 then (0,0)else _)=_
 rw [ak e5,hH,ak h] <;> rfl
theorem ka {b0:UInt8} {r:ab} {n l c:Nat} (e5:¬ b0.toNat<128) (hH:gQ b0.toNat=(n,l,c)) (h:¬ (n=0∨(b0::r).length<n)) (aZ:iW (r.take (n-1)) c=none):aM (b0::r)=(0,0):=by rw [p8 e5 hH h,aZ]
theorem nW {b0:UInt8} {r:ab} {n l c d:Nat} (e5:¬ b0.toNat<128) (hH:gQ b0.toNat=(n,l,c)) (h:¬ (n=0∨(b0::r).length<n)) (aZ:iW (r.take (n-1)) c=some d) (aW:d<l∨1114111<d∨(55296≤d∧d≤57343)):aM (b0::r)=(0,0):=by
 rw [p8 e5 hH h,aZ];exact aL aW
theorem mF {b0:UInt8} {r:ab} {n l c d:Nat} (e5:¬ b0.toNat<128) (hH:gQ b0.toNat=(n,l,c)) (h:¬ (n=0∨(b0::r).length<n)) (aZ:iW (r.take (n-1)) c=some d) (aW:¬ (d<l∨1114111<d∨(55296≤d∧d≤57343))):aM (b0::r)=(d,n):=by
 rw [p8 e5 hH h,aZ];exact ak aW
def iy (l:ab) (k:Nat):Nat:=(l.getD k 0).toNat
def hZ (l:ab) (k:Nat):Bool:=decide (k<l.length)&&iy l k / 64 == 2
def o4 (l:ab):Nat×Nat:=
 if iy l 0<0x80 then (iy l 0,1)
 else if iy l 0 / 32 == 6&&hZ l 1 then
  if (iy l 0 % 32)*64+iy l 1 % 64≥0x80 then ((iy l 0 % 32)*64+iy l 1 % 64,2)else (65533,1)
 else if iy l 0 / 16 == 14&&hZ l 1&&hZ l 2 then
  if (iy l 0 % 16)*4096+(iy l 1 % 64)*64+iy l 2 % 64≥0x800&&Utf8.valid ((iy l 0 % 16)*4096+(iy l 1 % 64)*64+iy l 2 % 64:Nat)then ((iy l 0 % 16)*4096+(iy l 1 % 64)*64+iy l 2 % 64,3)else (65533,1)
 else if iy l 0 / 8 == 30&&hZ l 1&&hZ l 2&&hZ l 3 then
  if (iy l 0 % 8)*262144+(iy l 1 % 64)*4096+(iy l 2 % 64)*64+iy l 3 % 64≥0x10000&&Utf8.valid ((iy l 0 % 8)*262144+(iy l 1 % 64)*4096+(iy l 2 % 64)*64+iy l 3 % 64:Nat)then ((iy l 0 % 8)*262144+(iy l 1 % 64)*4096+(iy l 2 % 64)*64+iy l 3 % 64,4)else (65533,1)
 else (65533,1)
theorem get_at (s:ab) (i k:Nat):((⟨⟨s⟩⟩:ByteArray).get! (i+k)).toNat=iy (s.drop i) k:=by
 show((⟨s⟩:Array UInt8)[i+k]!).toNat=_;unfold iy
 congr 1
 rw [List.getD_eq_getElem?_getD,List.getElem?_drop]
 by_cases h:i+k<s.length
 ·rw [getElem!_pos (⟨s⟩:Array UInt8) (i+k) h];simp [h]
 rw [getElem!_neg (⟨s⟩:Array UInt8) (i+k) h,List.getElem?_eq_none (by omega)];rfl
theorem ZG (s:ab) (i k:Nat):(decide (i+k<(⟨⟨s⟩⟩:ByteArray).size)&&iy (s.drop i) k / 64 == 2)=hZ (s.drop i) k:=by
 unfold hZ;have bh:(⟨⟨s⟩⟩:ByteArray).size=s.length:=rfl;rw [bh,List.length_drop]
 congr 1
 by_cases h:i+k<s.length
 ·rw [decide_eq_true h,decide_eq_true (by omega)]
 rw [decide_eq_false h,decide_eq_false (by omega)]
theorem qK (s:ab) (i:Nat):Utf8.decode ⟨⟨s⟩⟩ i=o4 (s.drop i):=by
 unfold Utf8.decode;simp only [get_at,ZG,Utf8.runeError];rfl
theorem wz (c:Nat):Utf8.valid (c:Int)=decide (c<55296∨(57344≤c∧c≤1114111)):=by
 unfold Utf8.valid;rw [Bool.eq_iff_iff];simp only [Bool.or_eq_true,Bool.and_eq_true,decide_eq_true_eq];omega
def fe (c:Nat):List Nat:=
 if c<128 then [c] else if c<2048 then [192+c / 64,128+c % 64] else if c<65536 then [224+c / 4096,128+c / 64 % 64,128+c % 64] else [240+c / 262144,128+c / 4096 % 64,128+c / 64 % 64,128+c % 64]
def Ss (l:ab):Prop:=((aM l).2=0∧o4 l=(65533,1))∨((aM l).2≠0∧o4 l=aM l∧(l.take (aM l).2).map UInt8.toNat=fe (aM l).1∧(aM l).1≤1114111∧¬ (55296≤(aM l).1∧(aM l).1≤57343)∧(aM l).2≤4)
theorem u' {l:ab} (cg:¬ iy l 0<128) (h1:(iy l 0 / 32 == 6&&hZ l 1)=false) (aq:(iy l 0 / 16 == 14&&hZ l 1&&hZ l 2)=false) (bb:(iy l 0 / 8 == 30&&hZ l 1&&hZ l 2&&hZ l 3)=false):o4 l=(65533,1):=by
 unfold o4;rw [ak cg,h1,aq,bb];rfl
theorem p4 {a b:Nat} (h:a≠b):(a == b)=false:=by simp [h]
theorem ok_one {b0:UInt8} {r:ab} (h:b0.toNat<128):Ss (b0::r):=by
 refine .inr ?_;have bT:o4 (b0::r)=(b0.toNat,1):=by unfold o4;rw [aL (by simpa [iy] using h)];rfl
 rw [hs h,bT];refine⟨by simp,rfl,by simp [fe,h],by dsimp only;omega,by dsimp only;omega,by simp⟩
theorem ok_none {b0:UInt8} {r:ab} (h:128≤b0.toNat) (fW:b0.toNat<192∨248≤b0.toNat):Ss (b0::r):=by
 have aW:=b0.toNat_lt;have aE:iy (b0::r) 0=b0.toNat:=rfl;have hH:gQ b0.toNat=(0,0,b0.toNat):=by unfold gQ;rw [ak (by omega),ak (by omega),ak (by omega)]
 refine .inl ⟨by rw [ht (by omega) hH (.inl rfl)],u' (by omega) ?_ ?_ ?_⟩
 ·rw [aE,p4 (by omega)];rfl
 ·rw [aE,p4 (by omega)];rfl
 rw [aE,p4 (by omega)];rfl
theorem qj {l:ab} {k:Nat} {b:UInt8} (h:l[k]? = some b):hZ l k=decide (128≤b.toNat∧b.toNat<192)∧iy l k=b.toNat:=by
 obtain⟨hk,rfl⟩:=List.getElem?_eq_some_iff.1 h;have aE:iy l k=(l[k]).toNat:=by simp [iy,hk]
 refine⟨?_,aE⟩;unfold hZ;rw [aE,decide_eq_true hk,Bool.eq_iff_iff];simp only [Bool.true_and,beq_iff_eq,decide_eq_true_eq];omega
theorem sE {l:ab} {k:Nat} (h:l.length≤k):hZ l k=false:=by
 unfold hZ;rw [decide_eq_false (by omega)];rfl
theorem oo {b:UInt8} {r:ab} {c:Nat} (h:¬ (128≤b.toNat∧b.toNat<192)):iW (b::r) c=none:=by rw [iW,aL (by omega)]
theorem kF {b:UInt8} {r:ab} {c:Nat} (h:128≤b.toNat∧b.toNat<192):iW (b::r) c=iW r (c*64+b.toNat % 64):=by rw [iW,ak (by omega)]
theorem ok_two {b0:UInt8} {r:ab} (h:192≤b0.toNat) (fW:b0.toNat<224):Ss (b0::r):=by
 have aE:iy (b0::r) 0=b0.toNat:=rfl;have hH:gQ b0.toNat=(2,128,b0.toNat % 32):=by unfold gQ;rw [aL (by omega)]
 have bu:(b0.toNat / 32 == 6)=true:=by simp;omega
 have ee:(b0.toNat / 16 == 14)=false:=p4 (by omega);have kH:(b0.toNat / 8 == 30)=false:=p4 (by omega);have dn:hZ (b0::r) 1=false→o4 (b0::r)=(65533,1):=fun aZ=>u' (by omega) (by rw [aZ,Bool.and_false]) (by rw [aE,ee];rfl) (by rw [aE,kH];rfl);cases r with
 | nil=>exact .inl ⟨by rw [ht (by omega) hH (.inr (by simp))],dn (sE (by simp))⟩
 | cons dN r=>
  obtain⟨eQ,GS⟩:=qj (l:=b0::dN::r) (k:=1) (b:=dN) rfl;have qo:¬ (2=0∨(b0::dN::r).length<2):=by simp
  have nK:(dN::r).take (2-1) = [dN]:=rfl
  by_cases aW:128≤dN.toNat∧dN.toNat<192
  ·have K0:iW ((dN::r).take (2-1)) (b0.toNat % 32)=some (b0.toNat % 32*64+dN.toNat % 64):=by rw [nK,kF aW];rfl
   have bT:o4 (b0::dN::r)=if b0.toNat % 32*64+dN.toNat % 64≥128 then (b0.toNat % 32*64+dN.toNat % 64,2)else (65533,1):=by
    unfold o4;rw [ak (by omega),aE,GS,bu,eQ,decide_eq_true aW];rfl
   by_cases bI:b0.toNat % 32*64+dN.toNat % 64≥128
   ·have dR:=mF (by omega) hH qo K0 (by omega);refine .inr ?_;rw [dR,bT,aL bI];refine⟨by simp,rfl,?_,by dsimp only;omega,by dsimp only;omega,by simp⟩;unfold fe;rw [ak (by dsimp only;omega),aL (by dsimp only;omega)];simp only [List.take_succ_cons,List.take_zero,List.map_cons,List.map_nil,List.cons.injEq,and_true];omega
   exact .inl ⟨by rw [nW (by omega) hH qo K0 (by omega)],by rw [bT,ak bI]⟩
  exact .inl ⟨by rw [ka (by omega) hH qo (by rw [nK,oo aW])],dn (by rw [eQ,decide_eq_false aW])⟩
theorem ok_three {b0:UInt8} {r:ab} (h:224≤b0.toNat) (fW:b0.toNat<240):Ss (b0::r):=by
 have aE:iy (b0::r) 0=b0.toNat:=rfl;have hH:gQ b0.toNat=(3,2048,b0.toNat % 16):=by unfold gQ;rw [ak (by omega),aL (by omega)]
 have bu:(b0.toNat / 32 == 6)=false:=p4 (by omega);have ee:(b0.toNat / 16 == 14)=true:=by simp;omega
 have kH:(b0.toNat / 8 == 30)=false:=p4 (by omega);have dn:(hZ (b0::r) 1&&hZ (b0::r) 2)=false→o4 (b0::r)=(65533,1):=fun aZ=>u' (by omega) (by rw [aE,bu];rfl) (by rw [Bool.and_assoc,aZ,Bool.and_false]) (by rw [aE,kH];rfl)
 match r with
 | []=>exact .inl ⟨by rw [ht (by omega) hH (.inr (by simp))],dn (by rw [sE (by simp)];rfl)⟩
 | [dN]=>exact .inl ⟨by rw [ht (by omega) hH (.inr (by simp))],dn (by rw [sE (k:=2) (by simp),Bool.and_false])⟩
 | dN::fz::r=>
  obtain⟨eQ,GS⟩:=qj (l:=b0::dN::fz::r) (k:=1) (b:=dN) rfl;obtain⟨h3,DP⟩:=qj (l:=b0::dN::fz::r) (k:=2) (b:=fz) rfl;have qo:¬ (3=0∨(b0::dN::fz::r).length<3):=by simp
  have nK:(dN::fz::r).take (3-1) = [dN,fz]:=rfl
  by_cases aW:128≤dN.toNat∧dN.toNat<192
  rotate_left
  ·exact .inl ⟨by rw [ka (by omega) hH qo (by rw [nK,oo aW])],dn (by rw [eQ,decide_eq_false aW];rfl)⟩
  by_cases hC:128≤fz.toNat∧fz.toNat<192
  rotate_left
  ·exact .inl ⟨by rw [ka (by omega) hH qo (by rw [nK,kF aW,oo hC])],dn (by rw [h3,decide_eq_false hC,Bool.and_false])⟩
  have K0:iW ((dN::fz::r).take (3-1)) (b0.toNat % 16)=some ((b0.toNat % 16*64+dN.toNat % 64)*64+fz.toNat % 64):=by rw [nK,kF aW,kF hC];rfl
  have bT:o4 (b0::dN::fz::r)=if (b0.toNat % 16*4096+dN.toNat % 64*64+fz.toNat % 64≥2048&&Utf8.valid (b0.toNat % 16*4096+dN.toNat % 64*64+fz.toNat % 64:Nat))=true then (b0.toNat % 16*4096+dN.toNat % 64*64+fz.toNat % 64,3)else (65533,1):=by
   unfold o4;rw [ak (by omega),aE,GS,DP,bu,ee,eQ,h3,decide_eq_true aW,decide_eq_true hC];rfl
  rw [wz] at bT
  by_cases bI:(b0.toNat % 16*64+dN.toNat % 64)*64+fz.toNat % 64<2048∨1114111<(b0.toNat % 16*64+dN.toNat % 64)*64+fz.toNat % 64∨(55296≤(b0.toNat % 16*64+dN.toNat % 64)*64+fz.toNat % 64∧(b0.toNat % 16*64+dN.toNat % 64)*64+fz.toNat % 64≤57343)
  ·refine .inl ⟨by rw [nW (by omega) hH qo K0 bI],?_⟩;rw [bT,ak];simp only [Bool.and_eq_true,decide_eq_true_eq];omega
  have dR:=mF (by omega) hH qo K0 bI;refine .inr ?_;rw [dR,bT,aL (by simp only [Bool.and_eq_true,decide_eq_true_eq];omega)];refine⟨by simp,by simp only [Prod.mk.injEq,and_true];omega,?_,by dsimp only;omega,by dsimp only;omega,by simp⟩;unfold fe;rw [ak (by dsimp only;omega),ak (by dsimp only;omega),aL (by dsimp only;omega)];simp only [List.take_succ_cons,List.take_zero,List.map_cons,List.map_nil,List.cons.injEq,and_true];omega
theorem ZH {b0:UInt8} {r:ab} (h:240≤b0.toNat) (fW:b0.toNat<248):Ss (b0::r):=by
 have aE:iy (b0::r) 0=b0.toNat:=rfl;have hH:gQ b0.toNat=(4,65536,b0.toNat % 8):=by unfold gQ;rw [ak (by omega),ak (by omega),aL (by omega)]
 have bu:(b0.toNat / 32 == 6)=false:=p4 (by omega);have ee:(b0.toNat / 16 == 14)=false:=p4 (by omega);have kH:(b0.toNat / 8 == 30)=true:=by simp;omega
 have dn:(hZ (b0::r) 1&&hZ (b0::r) 2&&hZ (b0::r) 3)=false→o4 (b0::r)=(65533,1):=fun aZ=>u' (by omega) (by rw [aE,bu];rfl) (by rw [aE,ee];rfl) (by rw [Bool.and_assoc,Bool.and_assoc,← Bool.and_assoc (hZ (b0::r) 1),aZ,Bool.and_false])
 match r with
 | []=>exact .inl ⟨by rw [ht (by omega) hH (.inr (by simp))],dn (by rw [sE (by simp)];rfl)⟩
 | [dN]=>exact .inl ⟨by rw [ht (by omega) hH (.inr (by simp))],dn (by rw [sE (k:=2) (by simp),Bool.and_false];rfl)⟩
 | [dN,fz]=>exact .inl ⟨by rw [ht (by omega) hH (.inr (by simp))],dn (by rw [sE (k:=3) (by simp),Bool.and_false])⟩
 | dN::fz::mW::r=>
  obtain⟨eQ,GS⟩:=qj (l:=b0::dN::fz::mW::r) (k:=1) (b:=dN) rfl;obtain⟨h3,DP⟩:=qj (l:=b0::dN::fz::mW::r) (k:=2) (b:=fz) rfl;obtain⟨uc,ava⟩:=qj (l:=b0::dN::fz::mW::r) (k:=3) (b:=mW) rfl;have qo:¬ (4=0∨(b0::dN::fz::mW::r).length<4):=by simp
  have nK:(dN::fz::mW::r).take (4-1) = [dN,fz,mW]:=rfl
  by_cases aW:128≤dN.toNat∧dN.toNat<192
  rotate_left
  ·exact .inl ⟨by rw [ka (by omega) hH qo (by rw [nK,oo aW])],dn (by rw [eQ,decide_eq_false aW];rfl)⟩
  by_cases hC:128≤fz.toNat∧fz.toNat<192
  rotate_left
  ·exact .inl ⟨by rw [ka (by omega) hH qo (by rw [nK,kF aW,oo hC])],dn (by rw [h3,decide_eq_false hC,Bool.and_false];rfl)⟩
  by_cases wU:128≤mW.toNat∧mW.toNat<192
  rotate_left
  ·exact .inl ⟨by rw [ka (by omega) hH qo (by rw [nK,kF aW,kF hC,oo wU])],dn (by rw [uc,decide_eq_false wU,Bool.and_false])⟩
  have K0:iW ((dN::fz::mW::r).take (4-1)) (b0.toNat % 8)=some (((b0.toNat % 8*64+dN.toNat % 64)*64+fz.toNat % 64)*64+mW.toNat % 64):=by rw [nK,kF aW,kF hC,kF wU];rfl
  have bT:o4 (b0::dN::fz::mW::r)=if (b0.toNat % 8*262144+dN.toNat % 64*4096+fz.toNat % 64*64+mW.toNat % 64≥65536&&Utf8.valid (b0.toNat % 8*262144+dN.toNat % 64*4096+fz.toNat % 64*64+mW.toNat % 64:Nat))=true then (b0.toNat % 8*262144+dN.toNat % 64*4096+fz.toNat % 64*64+mW.toNat % 64,4)else (65533,1):=by
   unfold o4;rw [ak (by omega),aE,GS,DP,ava,bu,ee,kH,eQ,h3,uc,decide_eq_true aW,decide_eq_true hC,decide_eq_true wU];rfl
  rw [wz] at bT
  by_cases bI:((b0.toNat % 8*64+dN.toNat % 64)*64+fz.toNat % 64)*64+mW.toNat % 64<65536∨1114111<((b0.toNat % 8*64+dN.toNat % 64)*64+fz.toNat % 64)*64+mW.toNat % 64∨(55296≤((b0.toNat % 8*64+dN.toNat % 64)*64+fz.toNat % 64)*64+mW.toNat % 64∧((b0.toNat % 8*64+dN.toNat % 64)*64+fz.toNat % 64)*64+mW.toNat % 64≤57343)
  ·refine .inl ⟨by rw [nW (by omega) hH qo K0 bI],?_⟩;rw [bT,ak];simp only [Bool.and_eq_true,decide_eq_true_eq];omega
  have dR:=mF (by omega) hH qo K0 bI;refine .inr ?_;rw [dR,bT,aL (by simp only [Bool.and_eq_true,decide_eq_true_eq];omega)];refine⟨by simp,by simp only [Prod.mk.injEq,and_true];omega,?_,by dsimp only;omega,by dsimp only;omega,by simp⟩;unfold fe;rw [ak (by dsimp only;omega),ak (by dsimp only;omega),ak (by dsimp only;omega)];simp only [List.take_succ_cons,List.take_zero,List.map_cons,List.map_nil,List.cons.injEq,and_true];omega
theorem pU {l:ab} (h:l≠[]):Ss l:=by
 cases l with
 | nil=>exact absurd rfl h
 | cons b0 r=>
  have aW:=b0.toNat_lt;rcases Nat.lt_or_ge b0.toNat 128 with h1 | h1
  ·exact ok_one h1
  rcases Nat.lt_or_ge b0.toNat 192 with aq | aq
  ·exact ok_none h1 (.inl aq)
  rcases Nat.lt_or_ge b0.toNat 224 with bb | bb
  ·exact ok_two aq bb
  rcases Nat.lt_or_ge b0.toNat 240 with bP | bP
  ·exact ok_three bb bP
  rcases Nat.lt_or_ge b0.toNat 248 with cZ | cZ
  ·exact ZH bP cZ
  exact ok_none h1 (.inr cZ)
section
variable {P:Program} {ops:Array Oper} {Q:Exit→Act→World→Prop} {aqA:Nat} {ds:List Deferred} {l:List (Nat×Value)} {w w':World}
variable {rest:List Oper} {ty:TypeId} {pos:String} {af:Array Edge} {x y:Operand} {t:TypeId}
theorem RX {ft:Array Value} {n:Nat} (h:∀ u∈ft,u.oneCell'=true) (bh:0<ft.size):∀ u∈(Builtin.zeroCells ft n).toList,u.oneCell'=true:=by
 intro u hu;unfold Builtin.zeroCells at hu;rw [Array.toList_map] at hu;obtain⟨i,_,rfl⟩:=List.mem_map.1 hu;have:i % ft.size<ft.size:=Nat.mod_lt _ bh;rw [getElem!_pos ft _ this];exact h _ (Array.getElem_mem this)
theorem ans {op:Op} {v:Value} (bo:bE P l ⟨none,op,ty,pos,af,none⟩ w v w') (h:fI P ops Q rest aqA ds l w') :
  fI P ops Q (⟨none,op,ty,pos,af,none⟩::rest) aqA ds l w:=by
 intro a aE
 refine wpList_plain rfl fun K nI=>?_
 have:=bo a.eval (fun x u ae=>aE.rX ae)
 simp only [Oper.wp,this,Oper.upon]
 exact nI _ _ (h _ (by simpa [Act.put] using aE))
theorem Tn {e sz fM n c k:Nat} {ad:Addr} {vs ft:List Value} (bW:kU P t e sz fM=true) (cP:gX P e ft) (hT:ft.length=sz) (jV:0<sz) (yX:∀ u∈ft,u.oneCell'=true) (O:Own w e sz (.slice (some ad) n c) n vs) (hk:k≤n)
  (ae:bf l x=some (.slice (nO (some ad) c k sz) (n-k) (c-k)))
  (h:∀ w',Own w' e sz (.slice (some ad) k c) k (vs.take (k*sz))→Mod [ad.block] w w'→w'.heap.size=w.heap.size→fI P ops Q rest aqA ds l w') :
  fI P ops Q (⟨none,.call {callee:=.builtin .clear,args:=#[x],argTypes:=#[t]},ty,pos,af,none⟩::rest) aqA ds l w:=by
 obtain⟨i,z,h1,aq,bb,bP,cZ,fy⟩:=jZ bW
 obtain⟨vy,Ha,lL,lZ,l2⟩:=qe cP
 rcases Nat.eq_or_lt_of_le hk with rfl | bM
 ·have bo:bE P l ⟨none,.call {callee:=.builtin .clear,args:=#[x],argTypes:=#[t]},ty,pos,af,none⟩ w (.tuple #[]) w:=fun ρ gw=>by
   have bI:=gw _ _ ae
   rw [Nat.sub_self] at bI
   simp only [execOp,resolve,invoke,builtin,Builtin.clear_]
   cases aZ:nO (some ad) c k sz <;> rw [aZ] at bI <;> simp [bI,run_underlying h1]
  exact ans bo (h w (O.take (Nat.le_refl _)) (Mod.refl _ w) rfl)
 rcases O.2 with⟨cg,_⟩ | ⟨g,o,cap,cs,bI,ev,eQ,h3,uc,rG⟩
 ·cases cg
 injection bI with bu ee kH
 injection bu with bu
 subst bu;subst kH
 have ahW:(Builtin.zeroCells Ha.cells (n-k)).size=(n-k)*sz:=by
  simp [Builtin.zeroCells,l2,hT]
 have pb:=O.1
 have hle:k*sz+(n-k)*sz=n*sz:=by rw [← Nat.add_mul];congr 1;omega
 have Fa:n*sz≤c*sz:=Nat.mul_le_mul_right _ eQ
 obtain⟨aJ,hf,cc⟩:=jc (P:=P) ev (o:=o+k*sz) (vs:=(Builtin.zeroCells Ha.cells (n-k)).toList) (by rw [Array.length_toList,ahW];omega)
  (RX (by rw [l2];simpa using yX) (by rw [l2];simp [hT];omega))
 have atg:nO (some ⟨g,o,none⟩) c k sz=some ⟨g,o+k*sz,none⟩:=by
  unfold nO
  rw [ak (by omega)]
  simp [Addr.add_lit]
 rw [atg] at ae
 have bo:bE P l ⟨none,.call {callee:=.builtin .clear,args:=#[x],argTypes:=#[t]},ty,pos,af,none⟩ w (.tuple #[]) aJ:=fun ρ gw=>by
  have yN:¬ n-k=0:=by omega
  obtain⟨m,hm⟩:∃ m,n-k=m+1:=⟨n-k-1,by omega⟩
  have bI:=gw _ _ ae
  rw [hm] at bI hf
  simp [execOp,resolve,invoke,builtin,Builtin.clear_,bI,run_underlying h1,zeroValue,typeInfo,lL,lZ,hf]
 refine ans bo (h aJ ⟨by rw [List.length_take,pb];omega,.inr ⟨g,o,c,_,rfl,cc.ar,by omega,h3,by simp [splice,ahW];omega,?_⟩⟩ cc.mod cc.size)
 subst rG
 apply List.ext_getElem?
 intro j
 simp only [splice]
 simp only [List.getElem?_take,List.getElem?_drop,List.getElem?_append,List.length_append,List.length_take,List.length_drop,Array.length_toList,ahW]
 repeat' split
 all_goals first
  | omega
  | rfl
  | (congr 1;omega)
  | skip
end
section
variable {P:Program} {ops:Array Oper} {Q:Exit→Act→World→Prop} {n:Nat} {ds:List Deferred} {l:List (Nat×Value)} {M:List (Nat×(Value→World→Prop))} {w:World}
end
abbrev ym (c:UInt8):List Value:=[ku c]
theorem dt (b:List UInt8):(b.map ym).flatten=b.map ku:=by
 induction b with
 | nil=>rfl
 | cons c b ea=>simp [ea]
theorem dT {c d:UInt8} (h:(c.toNat:Int)=d.toNat):c=d:=UInt8.toNat_inj.1 (by omega)
theorem Gf {c:UInt8} (h:(c.toNat:Int)=34∨(c.toNat:Int)=92):kg c = [92,c]:=by
 unfold kg;rw [aL (h.imp (fun h=>dT h) (fun h=>dT h))]
theorem TO {c:UInt8} (h:(c.toNat:Int)=8):kg c = [92,98]:=by obtain rfl:c=8:=dT h;rfl
theorem TP {c:UInt8} (h:(c.toNat:Int)=9):kg c = [92,116]:=by obtain rfl:c=9:=dT h;rfl
theorem TQ {c:UInt8} (h:(c.toNat:Int)=10):kg c = [92,110]:=by obtain rfl:c=10:=dT h;rfl
theorem TR {c:UInt8} (h:(c.toNat:Int)=12):kg c = [92,102]:=by obtain rfl:c=12:=dT h;rfl
theorem T1 {c:UInt8} (h:(c.toNat:Int)=13):kg c = [92,114]:=by obtain rfl:c=13:=dT h;rfl
theorem vX {c d:UInt8} (h:¬ (c.toNat:Int)=d.toNat):c≠d:=fun e=>h (by rw [e])
theorem L1 {c:UInt8} (h1:¬ (c.toNat:Int)=34) (aq:¬ (c.toNat:Int)=92) (bb:¬ (c.toNat:Int)=8) (bP:¬ (c.toNat:Int)=9) (cZ:¬ (c.toNat:Int)=10) (fy:¬ (c.toNat:Int)=12) (lL:¬ (c.toNat:Int)=13) :
  kg c=if c.toNat<32 then [92,117,48,48,kd.getD (c.toNat / 16) 0,kd.getD (c.toNat % 16) 0] else [c]:=by
 unfold kg
 rw [ak (fun h=>h.elim (vX (d:=34) h1) (vX (d:=92) aq)),ak (vX (d:=8) bb),ak (vX (d:=9) bP),ak (vX (d:=10) cZ),ak (vX (d:=12) fy),ak (vX (d:=13) lL)]
theorem AE {i:Nat} (h:i<16):kd[i]? = some (kd.getD i 0):=by
 have:∀ j:Fin 16,kd[j.val]? = some (kd.getD j.val 0):=by decide
 exact this ⟨i,h⟩
def j5:Except Int ab→ab
 | .ok b=>b
 | .error _=>[]
def gz:Except Int ab→Int
 | .ok _=>0
 | .error e=>if e=0 then 1 else e
theorem iP {r:Except Int ab} (h:gz r=0):∃ b,r = .ok b:=by
 cases r with
 | ok b=>exact⟨b,rfl⟩
 | error e=>
  exfalso
  by_cases cg:e=0 <;> simp [gz,cg] at h
theorem pN {r:Except Int ab} (h:¬ gz r=0):∃ e,r = .error e:=by
 cases r with
 | ok b=>exact absurd rfl h
 | error e=>exact⟨e,rfl⟩
theorem sa {r:Except Int ab} (h:¬ gz r=0) (f:ab→Except Int ab):r.bind f=r:=by
 obtain⟨e,rfl⟩:=pN h;rfl
theorem UK (b:ab):(cK b = .ok b∧b.length≤65536)∨(cK b = .error 3∧65536<b.length):=by
 unfold cK
 by_cases h:65536<b.length
 ·exact .inr ⟨aL h,h⟩
 exact .inl ⟨ak h,by omega⟩
theorem IP (b:ab):(j5 (cK b)).length≤65536:=by
 rcases UK b with⟨h,aq⟩ | ⟨h,_⟩
 ·rw [h];exact aq
 rw [h];simp [j5]
section
variable {w0 w Mh w':World} {ju u hN kR res:Value} {b t:ab} {r:Except Int ab}
abbrev iD (w:World) (u:Value) (b:ab):Prop:=Own w 5 1 u b.length ((b.map ym).flatten)
def Aa (w0 w:World) (ju:Value) (r:Except Int ab) (res:Value):Prop:=
 ∃ u,res = .tuple #[u,.int .i64 (gz r)]∧iD w u (j5 r)∧(∀ x∈bk u,x∈bk ju∨w0.heap.size≤x)∧Mod (bk ju) w0 w∧(j5 r).length≤65536
theorem EA (h:kR=hN∧j5 (cK b)=b∨kR = .slice none 0 0∧j5 (cK b) = []) (O:iD w hN b):iD w kR (j5 (cK b))∧∀ x∈bk kR,x∈bk hN:=by
 rcases h with⟨rfl,h⟩ | ⟨rfl,h⟩
 ·rw [h];exact⟨O,fun x ae=>ae⟩
 rw [h];exact⟨Own.nil w 5 1,by simp [bk]⟩
theorem Aa.jS {n:Nat} {vs:List Value} (E:Mod [] w0 w) (ek:App w Mh 5 1 ju hN n vs) (fs:iD Mh hN (b++t)) (h:kR=hN∧j5 (cK (b++t))=b++t∨kR = .slice none 0 0∧j5 (cK (b++t)) = []) (U:Mod [] Mh w') (bo:r=cK (b++t)) :
  Aa w0 w' ju r (.tuple #[kR,.int .i64 (gz (cK (b++t)))]):=by
 subst bo
 obtain⟨h1,aq⟩:=EA h (fs.I U)
 exact⟨kR,rfl,h1,fun x ae=>(ek.lH x (aq x ae)).imp id (fun h=>Nat.le_trans E.size h),((E.mono (by simp)).trans ek.mod).trans (U.mono (by simp)),IP _⟩
theorem Aa.err {e:Int} (E:Mod [] w0 w) (he:e≠0) (bo:r = .error e):Aa w0 w ju r (.tuple #[.slice none 0 0,.int .i64 e]):=by
 subst bo;exact⟨_,by simp [gz,he],Own.nil w 5 1,by simp [bk],E.mono (by simp),by simp [j5]⟩
structure Ac (w0 w:World) (ju:Value) (g V:Nat) (cells:List Value) (v:JV) (al am:Option Addr) (cl cm:Nat) (u:Value) (b:ab):Prop where
 own:iD w u b
 len:b.length≤65536
 km:∀ x∈bk u,x∈bk ju∨w0.heap.size≤x
 mod:Mod (bk ju) w0 w
 ar:aF w g V cells
 IQ:∀ x∈bk u,x≠g
 aa8:bq (bk u) w (.jH 6 (v.list.map JV.D)) (.slice al v.list.length cl)
 HO:bq (bk u) w (.jH 7 (v.map.map JV.jq)) (.slice am v.map.length cm)
variable {g V:Nat} {cells:List Value} {v:JV} {al am:Option Addr} {cl cm:Nat}
theorem Ac.step (H:Ac w0 w ju g V cells v al am cl cm u b) {gv:ab} {oO:Value} (k:Mod (bk u) w w') (O:iD w' oO gv) (fv:∀ x∈bk oO,x∈bk u∨w.heap.size≤x) (cb:gv.length≤65536):Ac w0 w' ju g V cells v al am cl cm oO gv where
 own:=O
 len:=cb
 km:=fun x ae=>(fv x ae).elim (H.km x) (fun h=>.inr (Nat.le_trans H.mod.size h))
 mod:=H.mod.trans' k H.km
 ar:=H.ar.mod k (fun ae=>H.IQ _ ae rfl)
 IQ:=fun x ae=>(fv x ae).elim (H.IQ x) (fun h e=>by have:=H.ar.lt;omega)
 aa8:=bq.to k (fun x ae=>ae) fv _ _ H.aa8
 HO:=bq.to k (fun x ae=>ae) fv _ _ H.HO
theorem Ac.I (H:Ac w0 w ju g V cells v al am cl cm u b) (k:Mod [] w w'):Ac w0 w' ju g V cells v al am cl cm u b:=
 H.step (k.mono (by simp)) (H.own.I k) (fun x ae=>.inl ae) H.len
theorem Ac.jS {n:Nat} {vs:List Value} (H:Ac w0 w ju g V cells v al am cl cm u b) (ek:App w Mh 5 1 u hN n vs) (fs:iD Mh hN (b++t)) (h:kR=hN∧j5 (cK (b++t))=b++t∨kR = .slice none 0 0∧j5 (cK (b++t)) = []) (U:Mod [] Mh w') :
  Ac w0 w' ju g V cells v al am cl cm kR (j5 (cK (b++t))):=by
 obtain⟨h1,aq⟩:=EA h (fs.I U)
 exact H.step (ek.mod.trans (U.mono (by simp))) h1 (fun x ae=>ek.lH x (aq x ae)) (IP _)
theorem Ac.wr (H:Ac w0 w ju g V cells v al am cl cm u b) (h:Aa w w' u r res):∃ oO,res = .tuple #[oO,.int .i64 (gz r)]∧Ac w0 w' ju g V cells v al am cl cm oO (j5 r):=by
 obtain⟨oO,h1,aq,bb,bP,cZ⟩:=h;exact⟨oO,h1,H.step bP aq bb cZ⟩
theorem Ac.err (H:Ac w0 w ju g V cells v al am cl cm u b) (bo:¬ gz r=0):Aa w0 w ju r (.tuple #[.slice none 0 0,.int .i64 (gz r)]):=by
 obtain⟨e,rfl⟩:=pN bo;exact⟨_,rfl,Own.nil w 5 1,by simp [bk],H.mod,by simp [j5]⟩
theorem Ac.fin {n:Nat} {vs:List Value} (H:Ac w0 w ju g V cells v al am cl cm u b) (ek:App w Mh 5 1 u hN n vs) (fs:iD Mh hN (b++t)) (h:kR=hN∧j5 (cK (b++t))=b++t∨kR = .slice none 0 0∧j5 (cK (b++t)) = []) (U:Mod [] Mh w') (bo:r=cK (b++t)) :
  Aa w0 w' ju r (.tuple #[kR,.int .i64 (gz (cK (b++t)))]):=by
 subst bo
 have aqq:=H.jS ek fs h U
 exact⟨kR,rfl,aqq.own,aqq.km,aqq.mod,aqq.len⟩
theorem Ac.ok (H:Ac w0 w ju g V cells v al am cl cm u (j5 (.ok b))):Ac w0 w ju g V cells v al am cl cm u b:=H
end
theorem Aa.from_ {w0 w w':World} {ju res:Value} {r Qn:Except Int ab} (E:Mod [] w0 w) (h:Aa w w' ju r res) (bo:Qn=r):Aa w0 w' ju Qn res:=by
 subst bo;obtain⟨u,h1,aq,bb,bP,cZ⟩:=h;exact⟨u,h1,aq,fun x ae=>(bb x ae).imp id (fun h=>Nat.le_trans E.size h),(E.mono (by simp)).trans bP,cZ⟩
theorem Ac.init {w0 w:World} {ju:Value} {b:ab} {g V:Nat} {cells:List Value} {v:JV} {al am:Option Addr} {cl cm:Nat} (E:Mod [] w0 w) (O:iD w0 ju b) (aW:b.length≤65536) (B:aF w g V cells) (dY:w0.heap.size≤g)
  (k3:bq (bk ju) w0 (.jH 6 (v.list.map JV.D)) (.slice al v.list.length cl)) (j3:bq (bk ju) w0 (.jH 7 (v.map.map JV.jq)) (.slice am v.map.length cm)):Ac w0 w ju g V cells v al am cl cm ju b where
 own:=O.I E
 len:=aW
 km:=fun x ae=>.inl ae
 mod:=E.mono (by simp)
 ar:=B
 IQ:=fun x ae e=>by have:=O.lt x ae;omega
 aa8:=k3.b1 E
 HO:=j3.b1 E
theorem yq {v:JV} (h:v.bare=true) (aq:v.kind=2) : -9007199254740991≤v.num∧v.num≤9007199254740991:=by
 simp only [JV.bare,aq] at h;simp at h;omega
theorem vU {f:ab→Except Int ab} {b:ab} {W:Except Int ab} (h:(Except.ok b:Except Int ab).bind f=W):f b=W:=h
theorem By (r:Except Int ab):(r.bind fun b=>Except.ok b)=r:=by cases r <;> rfl
theorem agm {a b:ab} (h:¬ (fx a b||a == b)=true):fx b a=true:=by
 rcases nY b a with h1 | h1 | h1
 ·exact h1
 ·subst h1;exact absurd (by simp) h
 exact absurd (by simp [h1]) h
theorem agl {a b:ab} (h:(fx a b||a == b)=true):fx b a=false:=by
 rcases Bool.or_eq_true_iff.1 h with h | h
 ·exact kD h
 have:=eq_of_beq h;subst this;exact dJ a
def jv (m:List (ab×JV)) (k:Nat):Option ab:=if k=0 then none else (m[k-1]?).map (·.1)
theorem Oz {l:List JV} {k:Nat} {x:JV} {deep:Nat} {fst:Bool} {b:ab} (h:l[k]? = some x):JV.ji (l.drop k) deep fst b=(if fst then Except.ok b else cK (b ++ [44])).bind fun b=>(JV.wr x (deep+1) b).bind fun b=>JV.ji (l.drop (k+1)) deep false b:=by
 obtain⟨hk,rfl⟩:=List.getElem?_eq_some_iff.1 h;rw [List.drop_eq_getElem_cons hk,JV.ji]
theorem Iu {l:List JV} {k deep:Nat} {fst:Bool} {b:ab} (h:l.length≤k):JV.ji (l.drop k) deep fst b = .ok b:=by
 rw [List.drop_eq_nil_of_le h,JV.ji]
theorem Qo (p:List UInt8×JV) (r:List (List UInt8×JV)) (deep:Nat) (b:ab):JV.gA (p::r) deep none b=(gm b p.1).bind fun b=>(cK (b ++ [58])).bind fun b=>(JV.wr p.2 (deep+1) b).bind fun b=>JV.gA r deep (some p.1) b:=by
 rw [JV.gA.eq_def];rfl
theorem Qp (p:List UInt8×JV) (q:ab) (r:List (List UInt8×JV)) (deep:Nat) (b:ab):JV.gA (p::r) deep (some q) b=((cK (b ++ [44])).bind fun b=>if fx q p.1 then .ok b else .error 1).bind fun b=>(gm b p.1).bind fun b=>(cK (b ++ [58])).bind fun b=>(JV.wr p.2 (deep+1) b).bind fun b=>JV.gA r deep (some p.1) b:=by
 rw [JV.gA.eq_def]
theorem IC {m:List (ab×JV)} {k deep:Nat} {p:Option ab} {b:ab} (h:m.length≤k):JV.gA (m.drop k) deep p b = .ok b:=by
 rw [List.drop_eq_nil_of_le h,JV.gA]
theorem zw {m:List (ab×JV)} {k:Nat} {p:ab×JV} (h:m[k]? = some p):jv m (k+1)=some p.1:=by
 simp [jv,h]
theorem UL {m:List (ab×JV)} {p:ab×JV} {deep:Nat} {b:ab} (h:m[0]? = some p):JV.gA (m.drop 0) deep (jv m 0) b=(gm b p.1).bind fun b=>(cK (b ++ [58])).bind fun b=>(JV.wr p.2 (deep+1) b).bind fun b=>JV.gA (m.drop (0+1)) deep (jv m (0+1)) b:=by
 rw [zw h];obtain⟨hk,rfl⟩:=List.getElem?_eq_some_iff.1 h;rw [List.drop_eq_getElem_cons hk];exact Qo _ _ _ _
theorem acj {m:List (ab×JV)} {k:Nat} {p q:ab×JV} {deep:Nat} {b:ab} (h:m[k]? = some p) (e8:m[k-1]? = some q) (cg:0<k):JV.gA (m.drop k) deep (jv m k) b=((cK (b ++ [44])).bind fun b=>if fx q.1 p.1 then .ok b else .error 1).bind fun b=>(gm b p.1).bind fun b=>(cK (b ++ [58])).bind fun b=>(JV.wr p.2 (deep+1) b).bind fun b=>JV.gA (m.drop (k+1)) deep (jv m (k+1)) b:=by
 rw [zw h];have cc:jv m k=some q.1:=by simp [jv,e8];omega
 obtain⟨hk,rfl⟩:=List.getElem?_eq_some_iff.1 h;rw [List.drop_eq_getElem_cons hk,cc];exact Qp _ _ _ _ _
theorem Eu {l:List JV} {k deep:Nat} {x:JV} {dN:ab} {W r1:Except Int ab} (ae:l[k]? = some x) (hinv:((Except.ok dN:Except Int ab).bind fun b=>JV.ji (l.drop k) deep (decide (k=0)) b)=W) (h1:(if decide (k=0)then Except.ok dN else cK (dN ++ [44]))=r1) :
  (r1.bind fun b=>(JV.wr x (deep+1) b).bind fun b=>JV.ji (l.drop (k+1)) deep (decide (k+1=0)) b)=W:=by
 have aq:JV.ji (l.drop k) deep (decide (k=0)) dN=W:=hinv
 rw [Oz ae,h1] at aq
 rw [show decide (k+1=0)=false by simp]
 exact aq
theorem BE {m:List (ab×JV)} {k deep:Nat} {x:ab×JV} {dN:ab} {W:Except Int ab} (ae:m[k]? = some x) (cg:k=0) (hinv:((Except.ok dN:Except Int ab).bind fun b=>JV.gA (m.drop k) deep (jv m k) b)=W) :
  ((gm dN x.1).bind fun b=>(cK (b ++ [58])).bind fun b=>(JV.wr x.2 (deep+1) b).bind fun b=>JV.gA (m.drop (k+1)) deep (jv m (k+1)) b)=W:=by
 subst cg
 have aq:JV.gA (m.drop 0) deep (jv m 0) dN=W:=hinv
 rwa [UL ae] at aq
theorem Ew {m:List (ab×JV)} {k deep:Nat} {x q:ab×JV} {dN:ab} {W:Except Int ab} (ae:m[k]? = some x) (e8:m[k-1]? = some q) (cg:0<k) (hinv:((Except.ok dN:Except Int ab).bind fun b=>JV.gA (m.drop k) deep (jv m k) b)=W) :
  (((cK (dN ++ [44])).bind fun b=>if fx q.1 x.1 then .ok b else .error 1).bind fun b=>(gm b x.1).bind fun b=>(cK (b ++ [58])).bind fun b=>(JV.wr x.2 (deep+1) b).bind fun b=>JV.gA (m.drop (k+1)) deep (jv m (k+1)) b)=W:=by
 have aq:JV.gA (m.drop k) deep (jv m k) dN=W:=hinv
 rwa [acj ae e8 cg] at aq
section
variable {P:Program} {ops:Array Oper} {Q:Exit→Act→World→Prop} {n:Nat} {ds:List Deferred} {l:List (Nat×Value)} {w w':World} {a:Act}
variable {rest:List Oper} {d:Nat} {op:Op} {ty:TypeId} {pos:String} {af:Array Edge} {x y:Operand} {t:TypeId}
theorem h6 {f:FuncId} {args:Array Value} {aBn:Ending→World→Prop} (bo:lQ P l ⟨some d,op,ty,pos,af,none⟩ w f args) (aZ:Calls P f args w aBn) (bT:Nat.blt d n=true) (fv:∀ w',¬ aBn .outgrown w')
  (cc:∀ c w',aBn (.panicked c) w'→fH Q (.panic c) n ds l w') (h:∀ v w',aBn (.returned v) w'→fI P ops Q rest n ds ((d,v)::l) w') :
  fI P ops Q (⟨some d,op,ty,pos,af,none⟩::rest) n ds l w:=by
 intro a aE
 refine wpList_plain rfl fun K nI=>?_
 have:=bo a.eval (fun x u ae=>aE.rX ae)
 simp only [Oper.wp,this,Oper.upon]
 refine aZ.mono fun e w' he=>?_
 cases e with
 | returned v=>exact nI _ _ (h v w' he _ (aE.put bT v))
 | panicked c=>exact cc c w' he a aE
 | outgrown=>exact absurd he (fv w')
theorem XH {T:TypeId} {v:Value} (ae:bf l x=some (.iface T v)) (h:fH Q (.panic [{v:=.iface T v,recovered:=false}]) n ds l w) :
  fI P ops Q (⟨none,.panic x,ty,pos,af,none⟩::rest) n ds l w:=by
 intro a aE
 refine wpList_plain rfl fun K nI=>?_
 simp only [Oper.wp,execOp,aE.rX ae,Sem.run_bind,run_panic_iface,Oper.upon]
 exact h a aE
variable {fn:Func} {aBn:Ending→World→Prop}
theorem ff {c:List PanicEntry} (h:aBn (.panicked c) w):fH (bodyPost P fn aBn) (.panic c) n [] l w:=fun a aE=>⟨aE.defers,h⟩
theorem lP (bo:fn.results = #[]) (h:aBn (.returned (.tuple #[])) w):fH (bodyPost P fn aBn) .normal n [] l w:=fun a aE=>⟨aE.defers,_,results_none bo _ _ _,h⟩
/-! ### a range over a string -/
def DK (w:World) (g:Nat) (s:ab) (p:Nat):Prop:=w.heap[g]? = some (.stringIter ⟨⟨s⟩⟩ p)
theorem DK.lt {g:Nat} {s:ab} {p:Nat} (h:DK w g s p):g<w.heap.size:=(Array.getElem?_eq_some_iff.1 h).1
theorem DK.mod {M:List Nat} {g:Nat} {s:ab} {p:Nat} (h:DK w g s p) (k:Mod M w w') (dY:g∉M):DK w' g s p:=(k.block g h.lt dY).trans h
theorem DK.I {g:Nat} {s:ab} {p:Nat} (h:DK w g s p) (k:Mod [] w w'):DK w' g s p:=h.mod k (by simp)
theorem sl {u:ab} (bW:P.underlying t=some .string) (ae:bf l x=some (S u)) (bT:Nat.blt d n=true)
  (h:∀ g w',DK w' g u 0→g=w.heap.size→Mod [] w w'→fI P ops Q rest n ds ((d,.pointer (some ⟨g,0,none⟩))::l) w') :
  fI P ops Q (⟨some d,.range t x,ty,pos,af,none⟩::rest) n ds l w:=by
 refine hg (v:=.pointer (some ⟨w.heap.size,0,none⟩)) (w':=w.iter ⟨⟨u⟩⟩ 0) (fun ρ gw=>?_) bT (h _ _ (World.iter_heap _ _ _) rfl ⟨rfl,rfl,rfl,?_,fun i hi _=>?_⟩)
 ·simp [execOp,gw _ _ ae,run_range_string _ _ _ bW]
 ·show w.heap.size≤(w.heap.push _).size
  simp
 show(w.heap.push _)[i]? = _
 rw [Array.getElem?_push_lt hi,Array.getElem?_eq_getElem hi]
theorem mK {g p:Nat} {u:ab} (ae:bf l x=some (.pointer (some ⟨g,0,none⟩))) (aBp:DK w g u p) (cc:¬ p<u.length) (bT:Nat.blt d n=true)
  (h:fI P ops Q rest n ds ((d,.tuple #[.bool false])::l) w):fI P ops Q (⟨some d,.next x true,ty,pos,af,none⟩::rest) n ds l w:=by
 refine hg (v:=.tuple #[.bool false]) (w':=w) (fun ρ gw=>?_) bT h
 have bh:(⟨⟨u⟩⟩:ByteArray).size=u.length:=rfl
 unfold DK at aBp
 simp [execOp,gw _ _ ae,Instr.next,getObj,Sem.run,aBp,Result.andThen,bh,cc]
theorem oB {g p c m:Nat} {u:ab} (ae:bf l x=some (.pointer (some ⟨g,0,none⟩))) (aBp:DK w g u p) (cc:p<u.length) (B0:Utf8.decode ⟨⟨u⟩⟩ p=(c,m)) (bT:Nat.blt d n=true)
  (h:∀ w',DK w' g u (p+m)→Mod [g] w w'→w'.heap.size=w.heap.size→fI P ops Q rest n ds ((d,.tuple #[.bool true,.int .i64 (p:Int),.int .i32 (c:Int)])::l) w') :
  fI P ops Q (⟨some d,.next x true,ty,pos,af,none⟩::rest) n ds l w:=by
 have bh:(⟨⟨u⟩⟩:ByteArray).size=u.length:=rfl
 have bM:=aBp.lt
 refine hg (v:=.tuple #[.bool true,.int .i64 (p:Int),.int .i32 (c:Int)]) (w':={w with heap:=w.heap.setIfInBounds g (.stringIter ⟨⟨u⟩⟩ (p+m))}) (fun ρ gw=>?_) bT (h _ ?_ ⟨rfl,rfl,rfl,by simp,fun i hi eX=>?_⟩ (by simp))
 ·unfold DK at aBp
  simp [execOp,gw _ _ ae,Instr.next,getObj,setObj,Sem.run,aBp,Result.andThen,bh,cc,B0,goInt]
 ·show(w.heap.setIfInBounds g _)[g]? = _
  simp [bM]
 show(w.heap.setIfInBounds g _)[i]? = _
 have:g≠i:=fun e=>eX (by simp [e])
 simp [Array.getElem?_setIfInBounds_ne this]
theorem App.ahX {e sz c g p:Nat} {s:ab} {v v':Value} {vs:List Value} (h:App w w' e sz v v' c vs) (D:∀ x∈bk v,x≠g) (B:DK w g s p):∀ x∈bk v',x≠g:=fun x ae=>by
 rcases h.lH x ae with h1 | h1
 ·exact D x h1
 have:=B.lt;omega
end
section
variable {P:Program} {l:List (Nat×Value)} {w:World} {ty:TypeId} {pos:String} {af:Array Edge} {dd:Option Nat} {gg:Option (Nat×Bool)} {x y hi:Operand} {t:TypeId}
theorem AQ {u:List UInt8} {n:Nat} (bW:P.underlying t=some .string) (ae:bf l x=some (S u)) (kf:bf l hi=some (.int .i64 (n:Int))) (aW:n≤u.length):bE P l ⟨dd,.slice t x none (some hi) none,ty,pos,af,gg⟩ w (S (u.take n)) w:=
 (tS (pl:=none) (ph:=some (.i64,(n:Int))) bW ae rfl (by simp [vW,kf]) (by simp only [ib,iR];omega)).to (by
  simp only [ib,iR,Int.toNat_natCast]
  simp)
end
theorem ajp {m:Nat} (h:m<32):IntKind.u8.wrap (BitVec.ofInt IntKind.u8.bits 192 ||| BitVec.ofInt IntKind.u8.bits (m:Int)).toNat=((192+m:Nat):Int):=by
 have:∀ m:Fin 32,IntKind.u8.wrap (BitVec.ofInt IntKind.u8.bits 192 ||| BitVec.ofInt IntKind.u8.bits (m.val:Int)).toNat=((192+m.val:Nat):Int):=by decide +kernel
 exact this ⟨m,h⟩
theorem ajq {m:Nat} (h:m<16):IntKind.u8.wrap (BitVec.ofInt IntKind.u8.bits 224 ||| BitVec.ofInt IntKind.u8.bits (m:Int)).toNat=((224+m:Nat):Int):=by
 have:∀ m:Fin 16,IntKind.u8.wrap (BitVec.ofInt IntKind.u8.bits 224 ||| BitVec.ofInt IntKind.u8.bits (m.val:Int)).toNat=((224+m.val:Nat):Int):=by decide +kernel
 exact this ⟨m,h⟩
theorem ajr {m:Nat} (h:m<8):IntKind.u8.wrap (BitVec.ofInt IntKind.u8.bits 240 ||| BitVec.ofInt IntKind.u8.bits (m:Int)).toNat=((240+m:Nat):Int):=by
 have:∀ m:Fin 8,IntKind.u8.wrap (BitVec.ofInt IntKind.u8.bits 240 ||| BitVec.ofInt IntKind.u8.bits (m.val:Int)).toNat=((240+m.val:Nat):Int):=by decide +kernel
 exact this ⟨m,h⟩
theorem ajs {m:Nat} (h:m<64):IntKind.u8.wrap (BitVec.ofInt IntKind.u8.bits 128 ||| BitVec.ofInt IntKind.u8.bits (m:Int)).toNat=((128+m:Nat):Int):=by
 have:∀ m:Fin 64,IntKind.u8.wrap (BitVec.ofInt IntKind.u8.bits 128 ||| BitVec.ofInt IntKind.u8.bits (m.val:Int)).toNat=((128+m.val:Nat):Int):=by decide +kernel
 exact this ⟨m,h⟩
theorem ajt {m:Nat} (h:m<256):IntKind.u8.wrap (BitVec.ofInt IntKind.u8.bits (m:Int) &&& BitVec.ofInt IntKind.u8.bits 63).toNat=((m % 64:Nat):Int):=by
 have:∀ m:Fin 256,IntKind.u8.wrap (BitVec.ofInt IntKind.u8.bits (m.val:Int) &&& BitVec.ofInt IntKind.u8.bits 63).toNat=((m.val % 64:Nat):Int):=by decide +kernel
 exact this ⟨m,h⟩
theorem aju {m:Nat} (h:m<32):IntKind.i32.wrap (BitVec.ofInt IntKind.i32.bits (m:Int) &&& BitVec.ofInt IntKind.i32.bits 15).toNat=((m % 16:Nat):Int):=by
 have:∀ m:Fin 32,IntKind.i32.wrap (BitVec.ofInt IntKind.i32.bits (m.val:Int) &&& BitVec.ofInt IntKind.i32.bits 15).toNat=((m.val % 16:Nat):Int):=by decide +kernel
 exact this ⟨m,h⟩
theorem ao9 {c e:Nat} (he:e≤31):(c:Int).fdiv (2 ^ (min (e:Int).toNat IntKind.i32.bits))=((c / 2 ^ e:Nat):Int):=by
 have h1:min (e:Int).toNat IntKind.i32.bits=e:=by
  show min e 32=e;omega
 rw [h1,Int.fdiv_eq_ediv_of_nonneg _ (by exact_mod_cast Nat.zero_le (2 ^ e)),Int.natCast_ediv]
 norm_cast
theorem aef (m:Nat):IntKind.u8.wrap (m:Int)=((m % 256:Nat):Int):=by
 have:((m % 256:Nat):Int)=(m:Int) % 256:=Int.natCast_emod ..;rw [this];rfl
theorem Zz {m:Nat} (h:m<4294967296):IntKind.u32.wrap (m:Int)=(m:Int):=by
 show(m:Int) % 4294967296=m;exact Int.emod_eq_of_lt (by omega) (by omega)
def nP (c:Nat):Nat:=if c=34 then 34 else if c=92 then 92 else if c=8 then 98 else if c=9 then 116 else if c=10 then 110 else if c=12 then 102 else if c=13 then 114 else 0
theorem KZ {c:Nat} (h:128≤c):nP c=0:=by
 unfold nP;rw [ak (by omega),ak (by omega),ak (by omega),ak (by omega),ak (by omega),ak (by omega),ak (by omega)]
theorem ZE {c:UInt8} (h:nP c.toNat≠0):(kg c).map ku = [.int .u8 92,.int .u8 (nP c.toNat:Int)]:=by
 unfold nP at h ⊢
 repeat' split at h
 ·rename_i e;rw [aL e,Gf (by omega)];simp [ku];omega
 ·rename_i ED e;rw [ak ED,aL e,Gf (by omega)];simp [ku];omega
 ·rename_i ED bu e;rw [ak ED,ak bu,aL e,TO (by omega)];simp [ku]
 ·rename_i ED bu ee e;rw [ak ED,ak bu,ak ee,aL e,TP (by omega)];simp [ku]
 ·rename_i ED bu ee kH e;rw [ak ED,ak bu,ak ee,ak kH,aL e,TQ (by omega)];simp [ku]
 ·rename_i ED bu ee kH EJ e;rw [ak ED,ak bu,ak ee,ak kH,ak EJ,aL e,TR (by omega)];simp [ku]
 ·rename_i ED bu ee kH EJ abc e;rw [ak ED,ak bu,ak ee,ak kH,ak EJ,ak abc,aL e,T1 (by omega)];simp [ku]
 exact absurd rfl h
theorem zf {c:UInt8} (h:¬ nP c.toNat≠0):kg c=if c.toNat<32 then [92,117,48,48,kd.getD (c.toNat / 16) 0,kd.getD (c.toNat % 16) 0] else [c]:=by
 have h:=Classical.not_not.1 h;unfold nP at h
 repeat' split at h
 all_goals first | (exact absurd h (by decide)) | skip
 exact L1 (by omega) (by omega) (by omega) (by omega) (by omega) (by omega) (by omega)
theorem EF {l:ab} (h:∀ b∈l,128≤b.toNat):dI l=l:=by
 induction l with
 | nil=>rfl
 | cons b r ea=>
  have aW:=h b (by simp);have h1:kg b = [b]:=by rw [zf (by rw [KZ aW];simp),ak (by omega)]
  have aq:=ea fun x ae=>h x (by simp [ae]);simp only [dI,List.map_cons,List.flatten_cons,h1] at aq ⊢;rw [aq];rfl
theorem zg {s:ab} {p m:Nat}:dI (s.take (p+m))=dI (s.take p)++dI ((s.drop p).take m):=by
 have:s.take (p+m)=s.take p++(s.drop p).take m:=by
  rw [List.take_add]
 rw [this];simp [dI]
theorem FE {c:Nat} (h:128≤c) (aq:c≤1114111):∀ m∈fe c,128≤m∧m<256:=by
 intro m hm;unfold fe at hm;rw [ak (by omega)] at hm
 split at hm
 ·simp at hm;omega
 split at hm
 ·simp at hm;omega
 simp at hm;omega
theorem Sr (c:Nat):(fe c).length≤4:=by
 unfold fe
 repeat' split
 all_goals simp
theorem yD {l:ab} (h:l≠[]) (cg:(aM l).2≠0):Utf8.decode ⟨⟨l⟩⟩ 0=aM l∧(l.take (aM l).2).map ku=(fe (aM l).1).map (fun m:Nat=>Value.int .u8 (m:Int))∧(aM l).1≤1114111∧¬ (55296≤(aM l).1∧(aM l).1≤57343):=by
 rcases pU h with⟨h1,_⟩ | ⟨_,aq,bb,bP,cZ,_⟩
 ·exact absurd h1 cg
 refine⟨by rw [qK];exact aq,?_,bP,cZ⟩;rw [← bb,List.map_map];rfl
theorem nZ {l:ab} (h:l≠[]) (cg:(aM l).2≠0) (aZ:(aM l).1<128):∃ b,l.take (aM l).2 = [b]∧b.toNat=(aM l).1:=by
 rcases pU h with⟨h1,_⟩ | ⟨_,aq,bb,bP,cZ,_⟩
 ·exact absurd h1 cg
 unfold fe at bb;rw [aL aZ] at bb
 match cb:l.take (aM l).2,bb with
 | [b],bb=>exact⟨b,rfl,by simpa using bb⟩
 | [],bb=>simp at bb
 | _::_::_,bb=>simp at bb
theorem zA {l:ab} (h:l≠[]) (cg:(aM l).2≠0) (aZ:128≤(aM l).1):∀ b∈l.take (aM l).2,128≤b.toNat:=by
 rcases pU h with⟨h1,_⟩ | ⟨_,aq,bb,bP,cZ,_⟩
 ·exact absurd h1 cg
 intro b aW;have:b.toNat∈fe (aM l).1:=by rw [← bb];exact List.mem_map_of_mem aW
 exact(FE aZ bP _ this).1
theorem ad2 {l:ab} (cg:(aM l).2=0):¬ (3≤l.length∧l.take 3 = [239,191,189]):=by
 rintro⟨h1,aq⟩
 match l,h1,aq with
 | b0::dN::fz::r,_,aq=>
  simp only [List.take_succ_cons,List.take_zero,List.cons.injEq,and_true] at aq;obtain⟨rfl,rfl,rfl⟩:=aq;have:aM (239::191::189::r)=(65533,3):=mF (n:=3) (l:=2048) (c:=15) (d:=65533) (by decide) (by decide) (by simp) rfl (by decide);rw [this] at cg;cases cg
theorem ad3 {l:ab} (h:l≠[]) (cg:(aM l).2≠0) (aZ:(aM l).1=65533):3≤l.length∧l.take 3 = [239,191,189]:=by
 rcases pU h with⟨h1,_⟩ | ⟨_,aq,bb,bP,cZ,_⟩
 ·exact absurd h1 cg
 rw [aZ] at bb;have e:fe 65533 = [239,191,189]:=by decide
 rw [e] at bb;have cb:=kZ List.length bb;simp only [List.length_map,List.length_take,List.length_cons,List.length_nil] at cb;have hle:=kC l;have hm:(aM l).2=3:=by omega
 rw [hm] at bb;refine⟨by omega,?_⟩
 match l,bb with
 | b0::dN::fz::r,bb=>
  simp only [List.take_succ_cons,List.take_zero,List.map_cons,List.map_nil,List.cons.injEq,and_true] at bb ⊢;obtain⟨h1,aq,bb⟩:=bb;exact⟨UInt8.toNat_inj.1 h1,UInt8.toNat_inj.1 aq,UInt8.toNat_inj.1 bb⟩
 | [],bb=>simp at bb
 | [_],bb=>simp at bb
 | [_,_],bb=>simp at bb
theorem jI {s:ab} {p:Nat} (h:p<s.length):s.drop p≠[]:=fun e=>by have:=kZ List.length e;simp at this;omega
theorem AM {s:ab} {p:Nat} (h:p<s.length) (cg:(aM (s.drop p)).2≠0):Utf8.decode ⟨⟨s⟩⟩ p=((aM (s.drop p)).1,(aM (s.drop p)).2):=by
 rcases pU (jI h)with⟨h1,_⟩ | ⟨_,aq,_⟩
 ·exact absurd h1 cg
 rw [qK,aq]
theorem BU {s:ab} {p:Nat} (h:p<s.length) (cg:(aM (s.drop p)).2=0):Utf8.decode ⟨⟨s⟩⟩ p=(65533,1):=by
 rcases pU (jI h)with⟨_,aq⟩ | ⟨h1,_⟩
 ·rw [qK,aq]
 exact absurd cg h1
theorem BR {l:ab} (h:l≠[]) (bI:cC l=true):(aM l).2≠0:=fun cg=>by rw [vQ h cg] at bI;cases bI
section
variable {P:Program} {l:List (Nat×Value)} {w w':World} {ty:TypeId} {pos:String} {af:Array Edge} {dd:Option Nat} {gg:Option (Nat×Bool)} {x y:Operand} {t t':TypeId}
theorem tb {c:Nat} (e d:Nat) (ae:bf l x=some (.int .i32 (c:Int))) (ba:bf l y=some (.int .u64 (e:Int))) (he:e≤31) (bT:2 ^ e=d):bE P l ⟨dd,.binOp .shr t x y t',ty,pos,af,gg⟩ w (.int .i32 ((c / d:Nat):Int)) w:=
 (Cq ae ba (by omega)).to (by rw [ao9 he,bT])
theorem om {m:Nat} {d0:TypeDesc} (bh:P.underlying t=some d0) (bW:P.underlying t'=some (.int .u8)) (ae:bf l x=some (.int .i32 (m:Int))):bE P l ⟨dd,.convert t t' x,ty,pos,af,gg⟩ w (.int .u8 ((m % 256:Nat):Int)) w:=
 (uT bh bW ae).to (by rw [aef])
theorem uC {m:Nat} (ae:bf l x=some (.int .u8 ((m % 256:Nat):Int))) (ba:bf l y=some (.int .u8 63)):bE P l ⟨dd,.binOp .and t x y t',ty,pos,af,gg⟩ w (.int .u8 ((m % 64:Nat):Int)) w:=
 (G7 ae ba).to (by rw [ajt (Nat.mod_lt _ (by decide)),show m % 256 % 64=m % 64 by omega])
theorem ry {m:Nat} (ae:bf l x=some (.int .u8 128)) (ba:bf l y=some (.int .u8 ((m % 64:Nat):Int))):bE P l ⟨dd,.binOp .or t x y t',ty,pos,af,gg⟩ w (.int .u8 ((128+m % 64:Nat):Int)) w:=
 (vt ae ba).to (by rw [ajs (Nat.mod_lt _ (by decide))])
theorem ad6 {m:Nat} (ae:bf l x=some (.int .u8 192)) (ba:bf l y=some (.int .u8 ((m % 256:Nat):Int))) (h:m<32):bE P l ⟨dd,.binOp .or t x y t',ty,pos,af,gg⟩ w (.int .u8 ((192+m:Nat):Int)) w:=
 (vt ae ba).to (by rw [show m % 256=m by omega,ajp h])
theorem Pv {m:Nat} (ae:bf l x=some (.int .u8 224)) (ba:bf l y=some (.int .u8 ((m % 256:Nat):Int))) (h:m<16):bE P l ⟨dd,.binOp .or t x y t',ty,pos,af,gg⟩ w (.int .u8 ((224+m:Nat):Int)) w:=
 (vt ae ba).to (by rw [show m % 256=m by omega,ajq h])
theorem ad7 {m:Nat} (ae:bf l x=some (.int .u8 240)) (ba:bf l y=some (.int .u8 ((m % 256:Nat):Int))) (h:m<8):bE P l ⟨dd,.binOp .or t x y t',ty,pos,af,gg⟩ w (.int .u8 ((240+m:Nat):Int)) w:=
 (vt ae ba).to (by rw [show m % 256=m by omega,ajr h])
theorem Pu {m:Nat} {d0:TypeDesc} (bh:P.underlying t=some d0) (bW:P.underlying t'=some (.int .u32)) (ae:bf l x=some (.int .i32 (m:Int))) (h:m≤1114111):bE P l ⟨dd,.convert t t' x,ty,pos,af,gg⟩ w (.int .u32 (m:Int)) w:=
 nw bh bW ae (Zz (by omega))
end
theorem ZF {c:Nat} (aq:c≤1114111):∀ m∈fe c,m<256:=by
 intro m hm
 by_cases h:128≤c
 ·exact(FE h aq m hm).2
 unfold fe at hm;rw [aL (by omega)] at hm;simp at hm;omega
def fl (c:Nat):ab:=(fe c).map UInt8.ofNat
theorem oT {c:Nat} (aq:c≤1114111):(fl c).map ku=(fe c).map (fun m:Nat=>Value.int .u8 (m:Int)):=by
 unfold fl;rw [List.map_map];refine List.map_congr_left fun m hm=>?_;have:=ZF aq m hm;simp only [Function.comp,ku];rw [UInt8.toNat_ofNat_of_lt' (by simpa using this)]
theorem uD {w:World} {v:Value} {b:ab} {n c:Nat} {vs:List Value} (aZ:c≤1114111) (h:Own w 5 1 v n vs) (cu:n=b.length+(fe c).length) (bI:vs=(b.map ym).flatten++(fe c).map (fun m:Nat=>Value.int .u8 (m:Int))):iD w v (b++fl c):=
 h.same (by rw [cu,List.length_append];simp [fl]) (by rw [bI,List.map_append,List.flatten_append,dt (fl c),oT aZ])
theorem QG (c:Nat):(fl c).length≤4:=by
 have:=Sr c;simpa [fl] using this
theorem sQ {l:ab} (h:l≠[]) (cg:(aM l).2≠0):fl (aM l).1=l.take (aM l).2:=by
 rcases pU h with⟨h1,_⟩ | ⟨_,aq,bb,bP,cZ,_⟩
 ·exact absurd h1 cg
 unfold fl;rw [← bb,List.map_map];refine(List.map_congr_left fun b aW=>?_).trans (List.map_id _);simp [Function.comp]
section
variable {P:Program} {l:List (Nat×Value)} {w w':World} {ty:TypeId} {pos:String} {af:Array Edge} {dd:Option Nat} {gg:Option (Nat×Bool)} {x y:Operand} {t t':TypeId}
theorem ajf {m:Nat} (ae:bf l x=some (.int .i32 (m:Int))) (ba:bf l y=some (.int .i32 15)) (h:m<32):bE P l ⟨dd,.binOp .and t x y t',ty,pos,af,gg⟩ w (.int .i32 ((m % 16:Nat):Int)) w:=
 (G7 ae ba).to (by rw [aju h])
end
section
variable {s:ab} {p:Nat}
theorem zb (h:p<s.length) (cg:(aM (s.drop p)).2≠0) (bI:cC (s.drop p)=true):cC (s.drop (p+(aM (s.drop p)).2))=true:=by
 rw [← List.drop_drop,← mq (jI h) cg];exact bI
theorem ad' (h:p<s.length) (cg:(aM (s.drop p)).2≠0) (e8:(nP (aM (s.drop p)).1:Int)≠0):∃ t,dI (s.take (p+(aM (s.drop p)).2))=dI (s.take p)++t∧t.map ku = [.int .u8 92,.int .u8 (nP (aM (s.drop p)).1:Int)]∧t.length=2:=by
 have aZ:(aM (s.drop p)).1<128:=by
  rcases Nat.lt_or_ge (aM (s.drop p)).1 128 with h1 | h1
  ·exact h1
  rw [KZ h1] at e8;exact absurd rfl e8
 obtain⟨b,aW,ND⟩:=nZ (jI h) cg aZ;have hm:=ZE (c:=b) (by rw [ND];omega);rw [ND] at hm;refine⟨kg b,by rw [zg,aW];simp [dI],hm,?_⟩;have:=kZ List.length hm;simpa using this
theorem aea (h:p<s.length) (cg:(aM (s.drop p)).2≠0) (e8:¬ (nP (aM (s.drop p)).1:Int)≠0) (aZ:((aM (s.drop p)).1:Int)<32):dI (s.take (p+(aM (s.drop p)).2))=dI (s.take p) ++ [92,117,48,48,kd.getD ((aM (s.drop p)).1 / 16) 0,kd.getD ((aM (s.drop p)).1 % 16) 0]:=by
 obtain⟨b,aW,ND⟩:=nZ (jI h) cg (by omega);have hm:=zf (c:=b) (by rw [ND];omega);rw [aL (by omega),ND] at hm;rw [zg,aW];simp only [dI,List.map_cons,List.map_nil,List.flatten_cons,List.flatten_nil,hm];rfl
theorem aeb (h:p<s.length) (cg:(aM (s.drop p)).2≠0) (e8:¬ (nP (aM (s.drop p)).1:Int)≠0) (aZ:¬ ((aM (s.drop p)).1:Int)<32):dI (s.take (p+(aM (s.drop p)).2))=dI (s.take p)++fl (aM (s.drop p)).1:=by
 rw [zg,sQ (jI h) cg]
 congr 1
 rcases Nat.lt_or_ge (aM (s.drop p)).1 128 with h1 | h1
 ·obtain⟨b,aW,ND⟩:=nZ (jI h) cg h1;have hm:=zf (c:=b) (by rw [ND];omega);rw [ak (by omega)] at hm;rw [aW];simp only [dI,List.map_cons,List.map_nil,List.flatten_cons,List.flatten_nil,hm];rfl
 exact EF (zA (jI h) cg h1)
theorem KR {w:World} {v:Value} {n q:Nat} {vs:List Value} {t:ab} (O:Own w 5 1 v n vs) (bW:dI (s.take q)=dI (s.take p)++t) (cu:n=(34::dI (s.take p)).length+t.length) (nG:vs=((34::dI (s.take p)).map ym).flatten++t.map ku):iD w v (34::dI (s.take q)):=by
 refine O.same (by rw [cu,bW];simp;omega) ?_;rw [nG,bW];simp [dt]
end
end Go.Proofs.YtkjgljnkocnnpaaGreatDoor.V
