/-
  A part of the proof: a writer in memory: what its functions leave, whether they return or panic; the writing of lists and maps, step by step; a deferred function that recovers; what a function with one leaves; names of servers, users, rooms and keys in plain Lean: the runes of a text of one kind, and its bytes; library functions that reading uses: the shelf's contracts, in the words of the own base; several plain operations taken in one computed step; truths made literal. No condition of its own.
-/
import Derived.Test.YtkjgljnkocnnpaaGreatDoorM2
import Derived.Recover
import Derived.WideLaws
import Derived.Lib.IndexMore
import Derived.Lib.Strings
import Derived.Laws.Runes
import Derived.Scope
import Derived.Test.YtkjgljnkocnnpaaGreatDoorM0
import Derived.Shelf.Small.Wraps
import Derived.Shelf.Strings.Search1
import Derived.Shelf.Strings.Search2
import Derived.Shelf.Strings.Cut
import Derived.Shelf.Strings.Shaped
import Derived.Shelf.Strings.Runes
import Derived.Test.YtkjgljnkocnnpaaGreatDoorProg
import Derived.Lib.AtoiAll
import Derived.Shelf.Strings.SlTrimAscii
import Derived.Shelf.Strings.Trim
import Derived.Shelf.Small.Utf8
import Derived.Shelf.Small.Bits
import Derived.Shelf.Small.Strs
import Derived.Shelf.Utf8.AppendRune
import Derived.Shelf.Strconv.Atoi
import Derived.Shelf.Strconv.Itoa0
import Derived.Shelf.Strconv.Itoa1
import Derived.Shelf.LaysM
import Derived.Shelf.Strconv.Itoa2
import Derived.Shelf.Strconv.Itoa3
import Derived.Shelf.Strconv.AtoiErrFast
import Derived.Shelf.Strconv.ParseIntEmpty
import Derived.Shelf.Strconv.AtoiFail
import Derived.Shelf.Strconv.Clone
import Derived.Shelf.Strconv.SyntaxError
import Derived.Shelf.LaysC
import Derived.Shelf.Strconv.ToError
import Derived.Shelf.Strconv.Lower
import Derived.Shelf.Strconv.ParseUint10
import Derived.Shelf.Strconv.ParseUint10Empty
import Derived.Shelf.Strconv.ParseUint10Any
import Derived.Shelf.Strconv.ParseInt10
import Derived.Shelf.Strconv.AtoiLong
import Derived.Shelf.Strconv.AtoiInnerAll
import Derived.Shelf.Strconv.RangeError
import Derived.Shelf.Strconv.ToErrorRange
import Derived.Shelf.Strconv.AtoiAll
import Derived.Shelf.Strconv.ErrVarAll
import Derived.Shelf.Strings.Prefix
import Derived.Shelf.Unicode.Decode
import Derived.Shelf.Strings.AsciiSet
import Derived.Shelf.Unicode.DecodeSlow
import Derived.Shelf.Unicode.DecodeAny
import Derived.Ground.Names2Prog
import Derived.Shelf.Slices.Clone
import Derived.Ground.SlgnProg
import Derived.Shelf.SlicesE.Clone
import Derived.Test.YtkjgljnkocnnpaaGreatDoorM1
set_option linter.all false
namespace Go.Proofs.YtkjgljnkocnnpaaGreatDoor.V
open Go
def EL (T:TypeId) (e:Int):List PanicEntry:=[{v:=.iface T (.agg #[.int .i64 e]),recovered:=false}]
def au1 (T:TypeId) (e:Int) (w:World):Ending→World→Prop
 | .panicked c,w'=>c=EL T e∧w'=w
 | _,_=>False
structure xT (w:World) (g V:Nat) (u:Value) (b:ab):Prop where
 ar:aF w g V [u]
 own:iD w u b
 ne:∀ x∈bk u,x≠g
 len:b.length≤65536
def C1 (w:World) (g V T:Nat) (u:Value) (r:Except Int ab):Ending→World→Prop
 | .returned _,w'=>∃ oO b,r = .ok b∧xT w' g V oO b∧Mod (g::bk u) w w'∧∀ x∈bk oO,x∈bk u∨w.heap.size≤x
 | .panicked c,w'=>∃ e,r = .error e∧e≠0∧c=EL T e∧Mod (g::bk u) w w'
 | .outgrown,_=>False
structure mh (w0 w:World) (ju:Value) (g V:Nat) (u:Value) (b:ab):Prop where
 vn:xT w g V u b
 km:∀ x∈bk u,x∈bk ju∨w0.heap.size≤x
 mod:Mod (g::bk ju) w0 w
section
variable {w0 w Mh w':World} {ju u hN x:Value} {g V T:Nat} {b t:ab} {r r1:Except Int ab} {c:List PanicEntry} {e:Int}
theorem xT.I (H:xT w g V u b) (k:Mod [] w w'):xT w' g V u b:=⟨H.ar.I k,H.own.I k,H.ne,H.len⟩
theorem mh.init (H:xT w g V u b):mh w w u g V u b:=⟨H,fun x ae=>.inl ae,Mod.refl _ _⟩
theorem mh.I (H:mh w0 w ju g V u b) (k:Mod [] w w'):mh w0 w' ju g V u b:=⟨H.vn.I k,H.km,H.mod.then k⟩
theorem mh.CH (H:mh w0 w ju g V u b):∀ x∈g::bk u,x∈g::bk ju∨w0.heap.size≤x:=fun x ae=>by
 rcases cB ae with rfl | h
 ·exact .inl (by simp)
 exact(H.km x h).imp (fun h=>by simp [h]) id
theorem mh.rep {d:D} {v:Value} (H:mh w0 w ju g V u b) (aBn:bq (g::bk ju) w0 d v):bq (g::bk u) w d v:=bq.to H.mod (fun x ae=>ae) H.CH d v aBn
theorem mh.I1 {d:List D} {v:List Value} (H:mh w0 w ju g V u b) (aBn:ao (g::bk ju) w0 d v):ao (g::bk u) w d v:=ao.to H.mod (fun x ae=>ae) H.CH d v aBn
theorem mh.ret (H:mh w0 w ju g V u b) (h:C1 w g V T u r1 (.returned x) w'):∃ oO gv,r1 = .ok gv∧mh w0 w' ju g V oO gv∧Mod (g::bk u) w w'∧∀ x∈bk oO,x∈bk u∨w.heap.size≤x:=by
 obtain⟨oO,gv,h1,aq,bb,bP⟩:=h;exact⟨oO,gv,h1,⟨aq,fun x ae=>(bP x ae).elim (H.km x) (fun h=>.inr (Nat.le_trans H.mod.size h)),H.mod.trans' bb H.CH⟩,bb,bP⟩
theorem mh.panic (H:mh w0 w ju g V u b) (h:C1 w g V T u r1 (.panicked c) w') (bo:∀ e,r1 = .error e→r = .error e):C1 w0 g V T ju r (.panicked c) w':=by
 obtain⟨e,h1,cg,aq,bb⟩:=h;exact⟨e,bo e h1,cg,aq,H.mod.trans' bb H.CH⟩
theorem mh.fail (H:mh w0 w ju g V u b) (bo:r = .error e) (cg:e≠0:=by decide):C1 w0 g V T ju r (.panicked (EL T e)) w:=⟨e,bo,cg,rfl,H.mod⟩
theorem mh.fin (H:mh w0 w ju g V u b) (bo:r = .ok b):C1 w0 g V T ju r (.returned x) w:=⟨u,b,bo,H.vn,H.mod,H.km⟩
theorem mh.app {n:Nat} {vs:List Value} (H:mh w0 w ju g V u b) (ek:App w Mh 5 1 u hN n vs) (k:Mod [g] Mh w'):Mod (g::bk ju) w0 w':=
 (H.mod.trans' ek.mod (fun x ae=>H.CH x (by simp [ae]))).trans' k (fun x ae=>.inl (by simp at ae;simp [ae]))
theorem mh.ao2 {n:Nat} {vs:List Value} (H:mh w0 w ju g V u b) (ek:App w Mh 5 1 u hN n vs) (fs:iD Mh hN (b++t)) (k:Mod [g] Mh w') (B:aF w' g V [hN]) (cb:(b++t).length≤65536):mh w0 w' ju g V hN (b++t):=by
 have cH:∀ x∈bk hN,x≠g:=fun x ae=>(ek.lH x ae).elim (H.vn.ne x) (fun h e=>by have:=H.vn.ar.lt;omega);refine⟨⟨B,fs.mod k (fun x ae hm=>cH x ae (by simpa using hm)),cH,cb⟩,fun x ae=>?_,H.app ek k⟩;exact(ek.lH x ae).elim (H.km x) (fun h=>.inr (Nat.le_trans H.mod.size h))
structure xU (w:World) (g:Nat) (u:Value) (h W:Nat) (cells:List Value):Prop where
 ar:aF w h W cells
 ne:h≠g
 IQ:∀ x∈bk u,x≠h
variable {h W:Nat} {cells:List Value}
theorem xU.I (K:xU w g u h W cells) (k:Mod [] w w'):xU w' g u h W cells:=⟨K.ar.I k,K.ne,K.IQ⟩
theorem xU.step (K:xU w g u h W cells) (k:Mod (g::bk u) w w') (fv:∀ x∈bk hN,x∈bk u∨w.heap.size≤x):xU w' g hN h W cells:=
 ⟨K.ar.mod k (fun ae=>by
  rcases cB ae with h1 | h1
  ·exact K.ne h1
  exact K.IQ _ h1 rfl),K.ne,fun x ae=>(fv x ae).elim (K.IQ x) (fun h e=>by have:=K.ar.lt;omega)⟩
theorem xU.Uo (H:xT w g V u b) (B:aF w' h W cells) (kf:w.heap.size≤h):xU w' g u h W cells:=
 ⟨B,fun e=>by have:=H.ar.lt;omega,fun x ae e=>by have:=H.own.lt x ae;omega⟩
end
def JV.plain (v:JV):Bool:=decide (0≤v.kind∧v.kind≤5)&&(decide (v.kind=1) || !v.is)&&(decide (v.kind=2)||decide (v.num=0))&&(decide (v.kind=3)||decide (v.str = []))&&(decide (v.kind=4)||decide (v.list.length=0))&&(decide (v.kind=5)||decide (v.map.length=0))
theorem JV.rz (v:JV):v.bare=(v.plain&&decide (-9007199254740991≤v.num∧v.num≤9007199254740991)):=by
 unfold JV.bare JV.plain;rw [Bool.eq_iff_iff];simp only [Bool.and_eq_true,Bool.or_eq_true,Bool.not_eq_true',decide_eq_true_eq,decide_eq_false_iff_not];constructor
 ·rintro⟨⟨⟨⟨⟨⟨h1,aq⟩,bb⟩,bP⟩,cZ⟩,fy⟩,lL⟩;refine⟨⟨⟨⟨⟨⟨h1,aq⟩,bb⟩,bP⟩,cZ⟩,fy⟩,?_⟩;rcases lL with lL | lL
  ·rcases bb with bb | bb
   ·exact absurd bb lL
   omega
  exact lL
 rintro⟨⟨⟨⟨⟨⟨h1,aq⟩,bb⟩,bP⟩,cZ⟩,fy⟩,lL⟩;exact⟨⟨⟨⟨⟨⟨h1,aq⟩,bb⟩,bP⟩,cZ⟩,fy⟩,.inr lL⟩
section
variable {w w':World} {g:Nat} {u hN:Value} {ds:List D} {us:List Value} {A:List Nat}
theorem ao.I (aBn:ao A w ds us) (k:Mod [] w w'):ao A w' ds us:=aBn.b1 k
theorem ao.zc (aBn:ao (g::bk u) w ds us) (k:Mod (g::bk u) w w') (fv:∀ x∈bk hN,x∈bk u∨w.heap.size≤x):ao (g::bk hN) w' ds us:=
 ao.to k (fun x ae=>ae) (fun x ae=>by
  rcases cB ae with rfl | h
  ·exact .inl (by simp)
  exact(fv x h).imp (fun h=>by simp [h]) id) ds us aBn
end
theorem afK {l:List JV} {k deep:Nat} {x:JV} {b:ab} {W:Except Int ab} (ae:l[k]? = some x) (hinv:JV.ji (l.drop k) deep (decide (k=0)) b=W) :
  ((if k=0 then Except.ok b else cK (b ++ [44])).bind fun b=>(JV.wr x (deep+1) b).bind fun b=>JV.ji (l.drop (k+1)) deep (decide (k+1=0)) b)=W:=by
 rw [Oz ae] at hinv
 rw [show decide (k+1=0)=false by simp,← hinv]
 by_cases h:k=0 <;> simp [h]
def zd (m:List (ab×JV)) (k:Nat) (x:ab×JV):Bool:=match jv m k with
 | none=>true
 | some q=>fx q x.1
theorem KY {m:List (ab×JV)} {k:Nat} {x:ab×JV} (h:k=0):zd m k x=true:=by subst h;rfl
theorem ze {m:List (ab×JV)} {k:Nat} {x q:ab×JV} (e8:m[k-1]? = some q) (cg:0<k):zd m k x=fx q.1 x.1:=by
 unfold zd jv;rw [ak (by omega),e8];rfl
theorem afL {m:List (ab×JV)} {k deep:Nat} {x:ab×JV} {b:ab} {W:Except Int ab} (ae:m[k]? = some x) (hinv:JV.gA (m.drop k) deep (jv m k) b=W) :
  ((if k=0 then Except.ok b else cK (b ++ [44])).bind fun b=>(if zd m k x then Except.ok b else Except.error 1).bind fun b=>(gm b x.1).bind fun b=>(cK (b ++ [58])).bind fun b=>(JV.wr x.2 (deep+1) b).bind fun b=>JV.gA (m.drop (k+1)) deep (jv m (k+1)) b)=W:=by
 by_cases h:k=0
 ·rw [KY h,aL h]
  exact BE ae h hinv
 obtain⟨q,e8⟩:∃ q,m[k-1]? = some q:=⟨_,List.getElem?_eq_getElem (by have:=(List.getElem?_eq_some_iff.1 ae).1;omega)⟩
 have:=Ew ae e8 (by omega) hinv
 rw [ze e8 (by omega),ak h,← this]
 cases cK (b ++ [44]) <;> rfl
theorem JV.sR {v:JV} (h:v.bare=true):0≤v.kind∧v.kind≤5:=by
 unfold JV.bare at h;simp only [Bool.and_eq_true,decide_eq_true_eq] at h;omega
section
variable {P:Program} {ops:Array Oper} {Q:Exit→Act→World→Prop} {n:Nat} {ds:List Deferred} {l:List (Nat×Value)} {w w':World}
variable {rest:List Oper} {d:Nat} {op:Op} {ty:TypeId} {pos:String} {af:Array Edge} {x y:Operand} {t t':TypeId} {dd:Option Nat} {gg:Option (Nat×Bool)}
theorem ajn (hi:P.underlying t=some (.interface (P.methodsAt t))) (ae:bf l x=some .nilIface):bE P l ⟨dd,.binOp .eql t x (.const .nilIface) t',ty,pos,af,gg⟩ w (.bool true) w:=fun ρ h=>by
 have h1:ρ (.const .nilIface) = .nilIface:=h _ _ rfl;have dY:eqGuard .eql t x (.const .nilIface) .nilIface .nilIface=pure ():=by cases x <;> rfl
 simp [execOp,h _ _ ae,h1,binOp,dY,run_equal_nil_nil w t hi]
theorem ajo {T:TypeId} {v:Value} (hi:P.underlying t=some (.interface (P.methodsAt t))) (ae:bf l x=some (.iface T v)):bE P l ⟨dd,.binOp .eql t x (.const .nilIface) t',ty,pos,af,gg⟩ w (.bool false) w:=fun ρ h=>by
 have h1:ρ (.const .nilIface) = .nilIface:=h _ _ rfl;have dY:eqGuard .eql t x (.const .nilIface) (.iface T v) .nilIface=pure ():=by rfl
 simp [execOp,h _ _ ae,h1,binOp,dY,run_equal_held_nil w t _ _ hi]
theorem O1 {T t0:TypeId} {v:Value} {d0:TypeDesc} (kp:P.underlying T=some d0) (cu:(match d0 with | .interface _=>false | _=>true)=true) (ae:bf l x=some (.iface T v)):bE P l ⟨dd,.typeAssert x t0 T true,ty,pos,af,gg⟩ w (.tuple #[v,.bool true]) w:=fun ρ h=>by
 cases d0 <;> first | (simp at cu;done) | simp [execOp,Instr.typeAssert,h _ _ ae,run_underlying kp]
theorem Jy {fn:Fn} {us vs:Array Value} {iz:Array TypeId} (ae:bf l x=some (.func fn us vs)) (h:fI P ops Q rest n ({target:=.fn fn vs,args:=us}::ds) l w) :
  fI P ops Q (⟨none,.defer {callee:=.value x,args:=#[],argTypes:=iz},ty,pos,af,none⟩::rest) n ds l w:=by
 intro a aE
 refine wpList_plain rfl fun K nI=>?_
 have bo:(execOp a.eval ⟨none,.defer {callee:=.value x,args:=#[],argTypes:=iz},ty,pos,af,none⟩).run P w = .ok (.defer {target:=.fn fn vs,args:=us}) w:=by
  simp [execOp,resolve,aE.rX ae,Deferred.ofValue]
 simp only [Oper.wp,bo,Oper.upon]
 exact nI _ _ (h _ ⟨aE.size,by simp [Act.put,aE.defers],aE.get⟩)
theorem O5 {f:FuncId} {fn:Func} {c:Code} {vs:List Value} {aBn:Ending→World→Prop} (dn:P.funcs[f]? = some fn) (aW:fn.body=some c) (cu:fn.ntmps=n) (hle:Nat.ble vs.length n=true) (bh:Sub (vB 0 vs) l)
  (h:k2 P c (bodyPostD P fn aBn) n [] l w):Calls P f vs.toArray w aBn:=by
 have afi:vs.length≤n:=by simpa using hle
 have aE:Has n [] (vB 0 vs) {tmps:=vs.toArray++Array.replicate (fn.ntmps-vs.toArray.size) undef,defers:=[]}:=by
  refine⟨by rw [Array.size_append,Array.size_replicate,List.size_toArray,cu];omega,rfl,fun t v bI=>?_⟩
  obtain⟨_,aq⟩:=u3 vs 0 t v bI
  rw [Nat.sub_zero] at aq
  have bM:=(List.getElem?_eq_some_iff.1 aq).1
  dsimp only
  rw [Array.getElem?_append_left (by simpa using bM)]
  simpa using aq
 exact calls_of_wp_defers dn aW (h _ (aE.sub bh))
theorem vF {ayD:Exit→Act→List Frame→World→Prop} {cs:List Frame} (jN:¬ LetsOut Q) (e8:∀ e a w,Q e a w→ayD e a cs w) :
  ∀ (m:List Oper) (k:Nat),(∀ j,m[j]? = ops[k+j]?)→∀ a w,wpList P ops Q m a w→wpOpsS P ops ayD (List.range' k m.length) a cs w
 | [],k,_,a,w,h=>e8 _ _ _ h
 | o::m,k,eD,a,w,h=>by
  have ea:=vF jN e8 m (k+1) (fun j=>by have:=eD (j+1);simpa [Nat.add_assoc,Nat.add_comm 1 j] using this)
  have cg:ops[k]? = some o:=by simpa using (eD 0).symm
  simp only [List.length_cons,List.range'_succ,wpOpsS,cg]
  simp only [wpList] at h
  by_cases hw:Region.wanted o (yielded ops a.tmps)=true
  rotate_left
  ·simp only [hw,if_false,Bool.false_eq_true] at h ⊢
   exact ea _ _ h
  simp only [hw,if_true] at h ⊢
  rcases h with h | h
  rotate_left
  ·exact absurd h.2 jN
  simp only [Oper.wp] at h
  generalize bo:(execOp a.eval o).run P w=r at h
  split
  ·rename_i aJ
   simp only [Oper.upon] at h
  rename_i Qn cH
  match r,h with
  | .ok (.value v) aJ,h=>exact ea _ _ h
  | .ok .skip aJ,h=>exact ea _ _ h
  | .ok (.defer dd) aJ,h=>exact ea _ _ h
  | .ok (.enter f args) aJ,h=>
   refine Calls.mono h fun e cX he=>?_
   cases e with
   | returned v=>exact ea _ _ he
   | panicked c=>exact e8 _ _ _ he
   | outgrown=>exact absurd he jN
  | .ok (.row rw args) aJ,h=>exact Rows.mono h fun v cX he=>ea _ _ he
  | .halt (.panic v) aJ,h=>exact e8 _ _ _ h
def ajv (u:FrameMode) (v:Value) (hN:FrameMode):Prop:=
 (u = .returning∧v = .nilIface∧hN = .returning)∨(u = .panicking [{v:=v,recovered:=false}]∧hN = .panicking [{v:=v,recovered:=true}])
theorem s0 {f:FuncId} {fn:Func} {id:Nat} {y:Code} {vs:List Value} {u hN:FrameMode} {v:Value} {aBn:Ending→FrameMode→World→Prop}
  (dn:P.funcs[f]? = some fn) (aW:fn.body=some (.seq (.region id ops false) y)) (cu:fn.ntmps=n) (hle:Nat.ble vs.length n=true) (bh:Sub (vB 0 vs) l)
  (fv:ops.toList=⟨some d,.call {callee:=.builtin .recover,args:=#[],argTypes:=#[]},ty,pos,af,none⟩::rest) (bT:Nat.blt d n=true) (hu:ajv u v hN) (afM:∀ u w,¬ aBn .outgrown u w)
  (h:∀ K:Act→World→Prop,(∀ n ds l w,k2 P y (bodyPost P fn fun e w=>aBn e hN w) n ds l w→∀ a,Has n ds l a→K a w)→fI P ops (Exit.then K (bodyPost P fn fun e w=>aBn e hN w)) rest n [] ((d,v)::l) w):CallsD P f vs.toArray u w aBn:=by
 have afi:vs.length≤n:=by simpa using hle
 have aE:Has n [] (vB 0 vs) {tmps:=vs.toArray++Array.replicate (fn.ntmps-vs.toArray.size) undef,defers:=[]}:=by
  refine⟨by rw [Array.size_append,Array.size_replicate,List.size_toArray,cu];omega,rfl,fun t v bI=>?_⟩
  obtain⟨_,aq⟩:=u3 vs 0 t v bI
  rw [Nat.sub_zero] at aq
  have bM:=(List.getElem?_eq_some_iff.1 aq).1
  dsimp only
  rw [Array.getElem?_append_left (by simpa using bM)]
  simpa using aq
 refine callsD_of_wpS dn aW fun C4 cs aZ=>wpS_seq (wpS_region ?_)
 have jV:ops.size=rest.length+1:=by rw [← Array.length_toList,fv];rfl
 have cg:ops[0]? = some ⟨some d,.call {callee:=.builtin .recover,args:=#[],argTypes:=#[]},ty,pos,af,none⟩:=by rw [← Array.getElem?_toList,fv];rfl
 have hm:∃ cs',cs' = {C4 with mode:=hN}::cs∧((recoverD (C4::cs)=some (v,cs'))∨(recoverD (C4::cs)=none∧v = .nilIface∧cs'=C4::cs)):=by
  refine⟨_,rfl,?_⟩
  rcases hu with⟨h1,aq,bb⟩ | ⟨h1,aq⟩
  ·refine .inr ⟨by simp [recoverD,aZ,h1],aq,?_⟩
   rw [bb,← h1,← aZ]
  exact .inl (by subst aq;simp [recoverD,aZ,h1])
 obtain⟨cs',mr,hm⟩:=hm
 have key:=h (fun a w=>y.wp P (bodyPost P fn fun e w=>aBn e hN w) a w) (fun n ds l w ba a aE=>ba a aE) _ ((aE.sub bh).put bT v)
 have jN:¬ LetsOut (Exit.then (fun a w=>y.wp P (bodyPost P fn fun e w=>aBn e hN w) a w) (bodyPost P fn fun e w=>aBn e hN w)):=by
  rintro⟨a,w,h⟩
  exact afM _ _ h
 have Fm:∀ e a w,bodyPost P fn (fun e w=>aBn e hN w) e a w→bodyPostS P fn C4 cs aBn e a cs' w:=by
  intro e a w e8
  cases e with
  | normal=>obtain⟨h1,v,aq,bb⟩:=e8;exact⟨h1,hN,mr,v,aq,bb⟩
  | ret=>obtain⟨h1,v,aq,bb⟩:=e8;exact⟨h1,hN,mr,v,aq,bb⟩
  | panic c=>obtain⟨h1,bb⟩:=e8;exact⟨h1,hN,mr,bb⟩
  | outgrown=>exact absurd e8 (afM _ _)
  | exit i=>exact e8.elim
  | goto i=>exact e8.elim
 have tr:∀ e a w,Exit.then (fun a w=>y.wp P (bodyPost P fn fun e w=>aBn e hN w) a w) (bodyPost P fn fun e w=>aBn e hN w) e a w→Exit.thenS (y.wpS P (bodyPostS P fn C4 cs aBn)) (bodyPostS P fn C4 cs aBn) e a cs' w:=by
  intro e a w e8
  cases e with
  | normal=>exact wpS_of_wp (Code.wp_mono Fm e8)
  | ret=>exact Fm .ret a w e8
  | panic c=>exact Fm (.panic c) a w e8
  | outgrown=>exact Fm .outgrown a w e8
  | exit i=>exact Fm (.exit i) a w e8
  | goto i=>exact Fm (.goto i) a w e8
 have rS:=vF (ops:=ops) jN tr rest 1 (fun j=>by rw [← Array.getElem?_toList,fv,Nat.add_comm];rfl) _ _ key
 rw [jV,List.range_eq_range',List.range'_succ]
 simp only [wpOpsS,cg,Region.wanted,if_true]
 have bo:(execOp (Act.eval {tmps:=vs.toArray++Array.replicate (fn.ntmps-vs.toArray.size) undef,defers:=[]}) ⟨some d,.call {callee:=.builtin .recover,args:=#[],argTypes:=#[]},ty,pos,af,none⟩).run P w = .ok .recover w:=by
  simp [execOp,resolve,invoke,builtin]
 simp only [bo]
 rcases hm with hm | ⟨hm,bI,Cc⟩
 ·rw [hm]
  exact rS
 rw [hm]
 subst bI
 rw [← Cc]
 exact rS
variable {fn:Func} {aBn:Ending→World→Prop} {u:FrameMode}
theorem GQ (h:∀ a,Has n ds l a→Leaves P fn a.tmps aBn ds .returning w):fH (bodyPostD P fn aBn) .ret n ds l w:=fun a aE=>by
 show Leaves P fn a.tmps aBn a.defers .returning w;rw [aE.defers];exact h a aE
theorem yP {c:List PanicEntry} (h:∀ a,Has n ds l a→Leaves P fn a.tmps aBn ds (.panicking c) w):fH (bodyPostD P fn aBn) (.panic c) n ds l w:=fun a aE=>by
 show Leaves P fn a.tmps aBn a.defers (.panicking c) w;rw [aE.defers];exact h a aE
theorem uh {k:FuncId} {cap tmps:Array Value} {B9:Ending→FrameMode→World→Prop} (hu:u≠.run) (gR:vh P k) (aZ:CallsD P k cap u w B9)
  (h:∀ e oO w',B9 e oO w'→∃ v,e = .returned v∧settle oO = .returning∧∃ r,(results fn tmps).run P w' = .ok r w'∧aBn (.returned r) w'):Leaves P fn tmps aBn [{target:=.fn (.func k) cap,args:=#[]}] u w:=by
 refine leaves_cons hu (f:=k) (args:=cap) ?_ (aZ.mono fun e oO w' he=>?_)
 ·have:=gR cap w
  simpa [invoke] using this
 obtain⟨v,rfl,aq,r,bb,bP⟩:=h e oO w' he
 dsimp only
 rw [aq]
 exact⟨r,bb,bP⟩
theorem zV {a:Act} {t t' T Rg:Nat} {ad tK:Addr} {v v':Value} (aE:Has n ds l a) (bo:fn.results = #[.cell t T,.cell t' Rg]) (bW:pa P T=true) (GO:pa P Rg=true) (bI:iF t l=some (.pointer (some ad))) (mX:iF t' l=some (.pointer (some tK)))
  (aZ:w.cell? ad=some v) (Cc:w.cell? tK=some v'):(results fn a.tmps).run P w = .ok (.tuple #[v,v']) w:=by
 simp [results,bo,aE.get _ _ bI,aE.get _ _ mX,asAddr,mm bW aZ,mm GO Cc]
end
theorem aeA {s:ab} {p:Nat} {b:UInt8} (h:s[p]? = some b):iy (s.drop p) 0=b.toNat:=by
 unfold iy;rw [List.getD_eq_getElem?_getD,List.getElem?_drop,Nat.add_zero,h];rfl
theorem dec_lt {s:ab} {p:Nat} {b:UInt8} (h:s[p]? = some b) (aW:b.toNat<128):Utf8.decode ⟨⟨s⟩⟩ p=(b.toNat,1):=by
 rw [qK];unfold o4;rw [aeA h,aL (by omega)]
theorem PC {s:ab} {p:Nat} {b:UInt8} (h:s[p]? = some b) (aW:128≤b.toNat):∃ c m,Utf8.decode ⟨⟨s⟩⟩ p=(c,m)∧128≤c∧c≤1114111∧¬ (55296≤c∧c≤57343):=by
 have bM:=(List.getElem?_eq_some_iff.1 h).1;rw [qK];rcases pU (jI bM)with⟨_,aq⟩ | ⟨h1,aq,bb,bP,cZ,fy⟩
 ·exact⟨65533,1,aq,by omega,by omega,by omega⟩
 refine⟨_,_,aq,?_,bP,cZ⟩;rcases Nat.lt_or_ge (aM (s.drop p)).1 128 with aZ | aZ
 ·exfalso;unfold fe at bb;rw [aL aZ] at bb;have cb:s.drop p=b::s.drop (p+1):=by
   rw [List.drop_eq_getElem_cons bM]
   congr 1
   exact(List.getElem?_eq_some_iff.1 h).2
  rw [cb] at bb h1;cases hm:(aM (b::s.drop (p+1))).2 with
  | zero=>exact h1 hm
  | succ m=>
   rw [hm,List.take_succ_cons] at bb;simp only [List.map_cons,List.cons.injEq] at bb;rw [cb] at aZ;omega
 exact aZ
def hS (q:Nat→Bool) (s:ab):Bool:=decide (s≠[])&&s.all (fun b=>q b.toNat)
theorem all_succ {q:Nat→Bool} {s:ab} {p:Nat} {b:UInt8} (h:s[p]? = some b) (aE:(s.take p).all (fun b=>q b.toNat)=true) (aW:q b.toNat=true):(s.take (p+1)).all (fun b=>q b.toNat)=true:=by
 have bM:=(List.getElem?_eq_some_iff.1 h).1;rw [List.take_succ_eq_append_getElem bM,(List.getElem?_eq_some_iff.1 h).2,List.all_append,aE];simp [aW]
theorem C7 {q:Nat→Bool} {s:ab} {p:Nat} {b:UInt8} (h:s[p]? = some b) (aW:q b.toNat=false):hS q s=false:=by
 unfold hS;have:s.all (fun b=>q b.toNat)=false:=by
  rw [List.all_eq_false];exact⟨b,List.mem_of_getElem? h,by simp [aW]⟩
 rw [this,Bool.and_false]
theorem FG {q:Nat→Bool} {s:ab} {p:Nat} (cc:s.length≤p) (aE:(s.take p).all (fun b=>q b.toNat)=true):hS q s=decide (s≠[]):=by
 unfold hS;rw [List.take_of_length_le cc] at aE;rw [aE,Bool.and_true]
theorem Lh {q r:Nat→Bool} (h:∀ b:UInt8,q b.toNat=r b.toNat) (s:ab):hS q s=hS r s:=by
 unfold hS
 congr 1
 induction s with
 | nil=>rfl
 | cons b s ea=>simp only [List.all_cons,ea,h b]
def xX (c:Nat):Bool:=decide (97≤(c:Int))&&decide ((c:Int)≤122)
def C5 (c:Nat):Bool:=decide (65≤(c:Int))&&decide ((c:Int)≤90)
def tD (c:Nat):Bool:=decide (48≤(c:Int))&&decide ((c:Int)≤57)
abbrev td:ab:=[46,95,61,45,47,43]
def iK (c:Nat):Bool:=xX c||tD c||decide ((c:Int)=46)||decide ((c:Int)=45)
def ko (c:Nat):Bool:=xX c||tD c||td.any (fun b=>decide (b.toNat=c))
def jC (c:Nat):Bool:=xX c||C5 c||tD c||decide ((c:Int)=95)||decide ((c:Int)=45)
def pC (c:Nat):Bool:=xX c||C5 c||tD c||decide ((c:Int)=95)
theorem Lc (c:Nat) (h:iK c=true):c<128:=by
 simp only [iK,xX,tD,Bool.or_eq_true,Bool.and_eq_true,decide_eq_true_eq] at h;omega
theorem ajx (c:Nat) (h:tD c=true):c<128:=by
 simp only [tD,Bool.and_eq_true,decide_eq_true_eq] at h;omega
theorem Sv (c:Nat) (h:ko c=true):c<128:=by
 simp [ko,xX,tD] at h;omega
theorem Sw (c:Nat) (h:jC c=true):c<128:=by
 simp only [jC,xX,C5,tD,Bool.or_eq_true,Bool.and_eq_true,decide_eq_true_eq] at h;omega
theorem ZM (c:Nat) (h:pC c=true):c<128:=by
 simp only [pC,xX,C5,tD,Bool.or_eq_true,Bool.and_eq_true,decide_eq_true_eq] at h;omega
/-! ### the first colon -/
def aV (s:ab):Nat:=s.findIdx (fun b=>b == 58)
theorem kG (s:ab):aV s≤s.length:=List.findIdx_le_length
theorem HI (s:ab):Lib.index s [58]=if aV s<s.length then (aV s:Int)else -1:=by
 induction s with
 | nil=>rfl
 | cons b s ea=>
  unfold Lib.index;rw [ea];have cc:([58]:ab).isPrefixOf (b::s)=(b == 58):=by
   simp only [List.isPrefixOf,Bool.and_true];rw [Bool.eq_iff_iff];simp only [beq_iff_eq];exact⟨Eq.symm,Eq.symm⟩
  rw [cc];have cb:=kG s;cases aW:b == 58 with
  | true=>simp [aV,List.findIdx_cons,aW]
  | false=>
   have:aV (b::s)=aV s+1:=by simp [aV,List.findIdx_cons,aW]
   rw [this]
   by_cases h:aV s<s.length
   ·have bu:((aV s:Int) == -1)=false:=by rw [beq_eq_false_iff_ne];omega
    have ee:aV s+1<(b::s).length:=by simp only [List.length_cons];omega
    simp only [aL h,bu,aL ee,Bool.false_eq_true,if_false];omega
   have ee:¬ aV s+1<(b::s).length:=by simp only [List.length_cons];omega
   simp only [ak h,ak ee,Bool.false_eq_true,if_false];rfl
theorem NV (s:ab):Lib.cut s [58]=if aV s<s.length then (s.take (aV s),s.drop (aV s+1),true)else (s,[],false):=by
 unfold Lib.cut;rw [HI]
 by_cases h:aV s<s.length
 ·rw [aL h,aL h,aL (by omega)];simp
 rw [ak h,ak h,ak (by omega)]
def d' (s:ab):Bool:=
 hS iK (s.take (aV s))&&decide (s.length≤255)&&(decide (aV s=s.length)||(decide (s.length-aV s≤6)&&hS tD (s.drop (aV s+1))))
def gH (sign:UInt8) (q:Nat→Bool) (s:ab):Bool:=
 decide (s.length≤255)&&decide (aV s<s.length)&&decide (s.head? = some sign)&&hS q ((s.take (aV s)).drop 1)&&d' (s.drop (aV s+1))
abbrev Ef:ab:=[101,100,50,53,53,49,57,58]
def pD (s:ab):Bool:=decide (s.length≤255)&&decide (s.take 8=Ef)&&hS pC (s.drop 8)
/-! ### control: a scope that is not jumped about in -/
section
variable {P:Program} {Q:Exit→Act→World→Prop} {n:Nat} {ds:List Deferred} {l:List (Nat×Value)} {w:World}
theorem K9 {c:Code} (h:k2 P c (Exit.noGoto Q) n ds l w):k2 P (.scope c) Q n ds l w:=fun a aE=>wp_scope_straight (h a aE)
theorem K' {e:Exit} (he:∀ j,e≠.goto j) (h:fH Q e n ds l w):fH (Exit.noGoto Q) e n ds l w:=fun a aE=>by
 have:=h a aE;cases e <;> first | exact this | exact absurd rfl (he _)
variable {t t':TypeId} {ty:TypeId} {pos:String} {af:Array Edge} {dd:Option Nat} {gg:Option (Nat×Bool)} {x y:Operand} {ops:Array Oper} {rest:List Oper} {d:Nat}
theorem ajw {d0:TypeDesc} {c:Nat} {k:IntKind} (bh:P.underlying t=some d0) (bW:P.underlying t'=some .string) (ae:bf l x=some (.int k (c:Int))):bE P l ⟨dd,.convert t t' x,ty,pos,af,gg⟩ w (.string (Utf8.encode c)) w:=fun ρ h=>by
 have h1:=run_convert_int_string (P:=P) w t t' k (c:Int) (by rw [bh];rfl) bW;simp only [execOp,h _ _ ae,Sem.run_bind,h1,Result.andThen,Sem.run_pure]
end
theorem Su {c:Nat} (h1:c≤1114111) (aq:¬ (55296≤c∧c≤57343)) (h:128≤c):∃ rs:ab,Utf8.encode (c:Int)=⟨⟨rs⟩⟩∧2≤rs.length∧rs.length≤4∧∃ b,rs[rs.length-1]? = some b∧128≤b.toNat:=by
 obtain⟨f1,f2,f3⟩:=encode_facts (c:Int) (by rw [wz];simp;omega) (by omega);generalize Utf8.encode (c:Int)=e at f1 f2 f3 ⊢;obtain⟨⟨rs⟩⟩:=e;have bh:(⟨⟨rs⟩⟩:ByteArray).size=rs.length:=rfl;rw [bh] at f1 f2;have cb:rs.length-1<rs.length:=by omega
 exact⟨rs,rfl,f1,f2,rs[rs.length-1],List.getElem?_eq_getElem cb,f3 cb⟩
theorem indexByte_none {s:ab} {b:UInt8} (h:∀ x∈s,x.toNat<128) (aW:128≤b.toNat):Lib.indexByte s b = -1:=by
 induction s with
 | nil=>rfl
 | cons c s ea=>
  have aZ:=h c (by simp);have cH:(c == b)=false:=by
   rw [beq_eq_false_iff_ne];intro e;subst e;omega
  unfold Lib.indexByte;rw [cH,ea fun x ae=>h x (by simp [ae])];rfl
theorem BF (s:ab) (c:Nat) (aZ:c<128):decide (0≤Lib.indexByte s c.toUInt8)=s.any (fun b=>decide (b.toNat=c)):=by
 induction s with
 | nil=>rfl
 | cons b s ea=>
  unfold Lib.indexByte;rw [List.any_cons,← ea];have he:(b == c.toUInt8)=decide (b.toNat=c):=by
   rw [Bool.eq_iff_iff];simp only [beq_iff_eq,decide_eq_true_eq];have cu:c.toUInt8.toNat=c:=by
    show(UInt8.ofNat c).toNat=c;exact UInt8.toNat_ofNat_of_lt' (by have:c<256:=(by omega);exact this)
   constructor
   ·intro e;rw [e,cu]
   intro e;exact UInt8.toNat_inj.1 (by rw [cu,e])
  rw [he];have bo:Lib.indexByte s c.toUInt8 = -1∨0≤Lib.indexByte s c.toUInt8:=by
   clear ea he
   induction s with
   | nil=>exact .inl rfl
   | cons x s ea=>
    unfold Lib.indexByte
    split
    ·exact .inr (by omega)
    split
    ·exact .inl rfl
    rename_i h
    rcases ea with h1 | h1
    ·rw [h1] at h;simp at h
    exact .inr (by omega)
  by_cases aW:b.toNat=c
  ·simp [aW]
  simp only [aW,decide_false,Bool.false_eq_true,if_false,Bool.false_or];rcases bo with h | h
  ·rw [h];rfl
  have bu:(Lib.indexByte s c.toUInt8 == -1)=false:=by rw [beq_eq_false_iff_ne];omega
  rw [bu,decide_eq_true h];simp only [Bool.false_eq_true,if_false];exact decide_eq_true (by omega)
end Go.Proofs.YtkjgljnkocnnpaaGreatDoor.V
namespace Go.Proofs
open Go.Shelf
def Tryz.Gl:Go.Shelf.Ren:=⟨fun | 137=>71 | 217=>107 | 266=>144 | n=>n,fun | 9=>9 | 5=>5 | 3=>3 | n=>n,fun | n=>n⟩
theorem Tryz.Uk:Go.Proofs.Lays.n137 Tryz.prog Tryz.Gl:={
 mixed:=by kernel_rfl
 f137:=Tryz.func71.trans (congrArg some (by kernel_rfl))
 f217:=Tryz.func107.trans (congrArg some (by kernel_rfl))
 f266:=Tryz.func144.trans (congrArg some (by kernel_rfl))
 t3:=Tryz.underlying3
 a3:=Tryz.isAgg3
 z3:=Tryz.sizeOf3
 v3:=Tryz.zeroValue3
 t5:=Tryz.underlying5
 a5:=Tryz.isAgg5
 z5:=Tryz.sizeOf5
 v5:=Tryz.zeroValue5
 t9:=Tryz.underlying9
 a9:=Tryz.isAgg9
 z9:=Tryz.sizeOf9
 v9:=Tryz.zeroValue9}
open Go.RowKit in
theorem Tryz.strings_IndexByte (s:ByteArray) (c:Int) (w:World) :
  Calls Tryz.prog 71 #[.string s,.int .u8 c] w fun e w'=>e = .returned (.int .i64 (Lib.indexByte s.data.toList c.toNat.toUInt8))∧w'=w:=Any.strings_IndexByte Tryz.Uk s c w
def Tryz.Gm:Go.Shelf.Ren:=⟨fun | 103=>153 | 210=>187 | 206=>163 | n=>n,fun | 9=>9 | 4=>4 | 24=>125 | 3=>3 | n=>n,fun | n=>n⟩
theorem Tryz.Ul:Go.Proofs.Lays.n103 Tryz.prog Tryz.Gm:={
 mixed:=by kernel_rfl
 f103:=Tryz.func153.trans (congrArg some (by kernel_rfl))
 f206:=Tryz.func163.trans (congrArg some (by kernel_rfl))
 f210:=Tryz.func187.trans (congrArg some (by kernel_rfl))
 t3:=Tryz.underlying3
 a3:=Tryz.isAgg3
 z3:=Tryz.sizeOf3
 v3:=Tryz.zeroValue3
 t4:=Tryz.underlying4
 a4:=Tryz.isAgg4
 z4:=Tryz.sizeOf4
 v4:=Tryz.zeroValue4
 t9:=Tryz.underlying9
 a9:=Tryz.isAgg9
 z9:=Tryz.sizeOf9
 v9:=Tryz.zeroValue9
 t24:=Tryz.underlying125
 a24:=Tryz.isAgg125
 z24:=Tryz.sizeOf125
 v24:=Tryz.zeroValue125}
open Go.RowKit in
theorem Tryz.strings_CutPrefix (s p:ByteArray) (w:World) :
  Calls Tryz.prog 153 #[.string s,.string p] w fun e w'=>e = .returned (.tuple #[.string ⟨(Lib.trimPrefix s.data.toList p.data.toList).toArray⟩,.bool (Lib.hasPrefix s.data.toList p.data.toList)])∧w'=w:=Any.strings_CutPrefix Tryz.Ul s p w
def Tryz.Gn:Go.Shelf.Ren:=⟨fun | 145=>149 | 220=>183 | 219=>204 | 217=>107 | 225=>186 | 224=>185 | 267=>214 | 266=>144 | 314=>216 | n=>n,fun | 9=>9 | 4=>4 | 59=>147 | 3=>3 | 5=>5 | 46=>127 | 146=>238 | 51=>180 | n=>n,fun | 1=>0 | n=>n⟩
theorem Tryz.Um:Go.Proofs.Lays.n145 Tryz.prog Tryz.Gn:={
 mixed:=by kernel_rfl
 f145:=Tryz.func149.trans (congrArg some (by kernel_rfl))
 f217:=Tryz.func107.trans (congrArg some (by kernel_rfl))
 f219:=Tryz.func204.trans (congrArg some (by kernel_rfl))
 f220:=Tryz.func183.trans (congrArg some (by kernel_rfl))
 f224:=Tryz.func185.trans (congrArg some (by kernel_rfl))
 f225:=Tryz.func186.trans (congrArg some (by kernel_rfl))
 f266:=Tryz.func144.trans (congrArg some (by kernel_rfl))
 f267:=Tryz.func214.trans (congrArg some (by kernel_rfl))
 f314:=Tryz.func216.trans (congrArg some (by kernel_rfl))
 t3:=Tryz.underlying3
 a3:=Tryz.isAgg3
 z3:=Tryz.sizeOf3
 v3:=Tryz.zeroValue3
 t4:=Tryz.underlying4
 a4:=Tryz.isAgg4
 z4:=Tryz.sizeOf4
 v4:=Tryz.zeroValue4
 t5:=Tryz.underlying5
 a5:=Tryz.isAgg5
 z5:=Tryz.sizeOf5
 v5:=Tryz.zeroValue5
 t9:=Tryz.underlying9
 a9:=Tryz.isAgg9
 z9:=Tryz.sizeOf9
 v9:=Tryz.zeroValue9
 t46:=Tryz.underlying127
 a46:=Tryz.isAgg127
 z46:=Tryz.sizeOf127
 v46:=Tryz.zeroValue127
 t51:=Tryz.underlying180
 a51:=Tryz.isAgg180
 z51:=Tryz.sizeOf180
 v51:=Tryz.zeroValue180
 t59:=Tryz.underlying147
 a59:=Tryz.isAgg147
 z59:=Tryz.sizeOf147
 v59:=Tryz.zeroValue147
 t146:=Tryz.underlying238
 a146:=Tryz.isAgg238
 z146:=Tryz.sizeOf238
 v146:=Tryz.zeroValue238
 g1:=by kernel_rfl}
open Go.RowKit Go.Lib in
theorem Tryz.strings_Cut (s sep:ByteArray) (m:Int) (w:World) (bh:s.size<4294967281) (hm:w.cell? ⟨0,0,none⟩=some (.int .i64 m)) :
  Calls Tryz.prog 149 #[.string s,.string sep] w fun e w'=>e = .returned (.tuple #[.string ⟨(Lib.cut s.data.toList sep.data.toList).1.toArray⟩,.string ⟨(Lib.cut s.data.toList sep.data.toList).2.1.toArray⟩,.bool (Lib.cut s.data.toList sep.data.toList).2.2])∧∃ n,w'=w.drewN n:=Any.strings_Cut Tryz.Um s sep m w bh hm
def Tryz.DF:Go.Shelf.Ren:=⟨fun | 145=>149 | 220=>183 | 219=>204 | 217=>107 | 225=>186 | 224=>185 | 267=>214 | 266=>144 | 314=>216 | n=>n,fun | 9=>9 | 4=>4 | 59=>147 | 3=>3 | 5=>5 | 46=>127 | 146=>238 | 51=>180 | n=>n,fun | 1=>0 | n=>n⟩
theorem Tryz.Qh:Go.Proofs.LaysM.n145 Tryz.prog Tryz.DF:={
 mixed:=by kernel_rfl
 f145:=Tryz.func149.trans (congrArg some (by kernel_rfl))
 f217:=Tryz.func107.trans (congrArg some (by kernel_rfl))
 f219:=Tryz.func204.trans (congrArg some (by kernel_rfl))
 f220:=Tryz.func183.trans (congrArg some (by kernel_rfl))
 f224:=Tryz.func185.trans (congrArg some (by kernel_rfl))
 f225:=Tryz.func186.trans (congrArg some (by kernel_rfl))
 f266:=Tryz.func144.trans (congrArg some (by kernel_rfl))
 f267:=Tryz.func214.trans (congrArg some (by kernel_rfl))
 f314:=Tryz.func216.trans (congrArg some (by kernel_rfl))
 t3:=Tryz.underlying3
 a3:=Tryz.isAgg3
 z3:=Tryz.sizeOf3
 v3:=Tryz.zeroValue3
 t4:=Tryz.underlying4
 a4:=Tryz.isAgg4
 z4:=Tryz.sizeOf4
 v4:=Tryz.zeroValue4
 t5:=Tryz.underlying5
 a5:=Tryz.isAgg5
 z5:=Tryz.sizeOf5
 v5:=Tryz.zeroValue5
 t9:=Tryz.underlying9
 a9:=Tryz.isAgg9
 z9:=Tryz.sizeOf9
 v9:=Tryz.zeroValue9
 t46:=Tryz.underlying127
 a46:=Tryz.isAgg127
 z46:=Tryz.sizeOf127
 v46:=Tryz.zeroValue127
 t51:=Tryz.underlying180
 a51:=Tryz.isAgg180
 z51:=Tryz.sizeOf180
 v51:=Tryz.zeroValue180
 t59:=Tryz.underlying147
 a59:=Tryz.isAgg147
 z59:=Tryz.sizeOf147
 v59:=Tryz.zeroValue147
 t146:=Tryz.underlying238
 a146:=Tryz.isAgg238
 z146:=Tryz.sizeOf238
 v146:=Tryz.zeroValue238
 g1:=by kernel_rfl
 i3:=by kernel_rfl
 i4:=by kernel_rfl
 i5:=by kernel_rfl
 i9:=by kernel_rfl
 i46:=by kernel_rfl
 i51:=by kernel_rfl
 i59:=by kernel_rfl
 i146:=by kernel_rfl
 m1:=by kernel_rfl
 s1_3:=fun w h=>Go.Proofs.cell_of_shapedOpen_int (zero:=#[.int .i64 0]) (t:=3) h (of_decide_eq_true (by kernel_rfl)) (by kernel_rfl) rfl (by kernel_rfl) (by kernel_rfl) Tryz.underlying3}
def Tryz.Gp:Go.Shelf.Ren:=⟨fun | 151=>121 | 152=>151 | 137=>71 | 119=>184 | 224=>185 | 225=>186 | 217=>107 | 266=>144 | n=>n,fun | 9=>9 | 21=>21 | 4=>4 | 3=>3 | 5=>5 | 0=>0 | 46=>127 | n=>n,fun | n=>n⟩
theorem Tryz.Un:Go.Proofs.Lays.n151 Tryz.prog Tryz.Gp:={
 mixed:=by kernel_rfl
 f119:=Tryz.func184.trans (congrArg some (by kernel_rfl))
 f137:=Tryz.func71.trans (congrArg some (by kernel_rfl))
 f151:=Tryz.func121.trans (congrArg some (by kernel_rfl))
 f152:=Tryz.func151.trans (congrArg some (by kernel_rfl))
 f217:=Tryz.func107.trans (congrArg some (by kernel_rfl))
 f224:=Tryz.func185.trans (congrArg some (by kernel_rfl))
 f225:=Tryz.func186.trans (congrArg some (by kernel_rfl))
 f266:=Tryz.func144.trans (congrArg some (by kernel_rfl))
 t0:=Tryz.underlying0
 a0:=Tryz.isAgg0
 z0:=Tryz.sizeOf0
 v0:=Tryz.zeroValue0
 t3:=Tryz.underlying3
 a3:=Tryz.isAgg3
 z3:=Tryz.sizeOf3
 v3:=Tryz.zeroValue3
 t4:=Tryz.underlying4
 a4:=Tryz.isAgg4
 z4:=Tryz.sizeOf4
 v4:=Tryz.zeroValue4
 t5:=Tryz.underlying5
 a5:=Tryz.isAgg5
 z5:=Tryz.sizeOf5
 v5:=Tryz.zeroValue5
 t9:=Tryz.underlying9
 a9:=Tryz.isAgg9
 z9:=Tryz.sizeOf9
 v9:=Tryz.zeroValue9
 t21:=Tryz.underlying21
 a21:=Tryz.isAgg21
 z21:=Tryz.sizeOf21
 v21:=Tryz.zeroValue21
 t46:=Tryz.underlying127
 a46:=Tryz.isAgg127
 z46:=Tryz.sizeOf127
 v46:=Tryz.zeroValue127}
open Go.RowKit Go.Lib in
theorem Tryz.strings_ContainsRune_ascii (s:ByteArray) (r:Int) (w:World) (cg:0≤r) (h1:r<128) :
  Calls Tryz.prog 121 #[.string s,.int .i32 r] w fun e w'=>e = .returned (.bool (decide (0≤Lib.indexByte s.data.toList r.toNat.toUInt8)))∧w'=w:=Any.strings_ContainsRune_ascii Tryz.Un s r w cg h1
end Go.Proofs
namespace Go.Proofs.YtkjgljnkocnnpaaGreatDoor.V
open Go Go.Proofs
def kv (w:World):Prop:=∃ m,w.cell? ⟨0,0,none⟩=some (.int .i64 m)
theorem kv.Uo {W:World} (h:W.ShapedOpen aR):kv W:=Tryz.Qh.s1_3 W h
theorem kv.I {w w':World} (h:kv w) (k:Mod [] w w'):kv w':=by
 obtain⟨m,hm⟩:=h;refine⟨m,?_⟩;have bM:0<w.heap.size:=by
  rcases Nat.lt_or_ge 0 w.heap.size with cb | cb
  ·exact cb
  unfold World.cell? at hm;rw [Array.getElem?_eq_none cb] at hm;cases hm
 unfold World.cell? at hm ⊢;rw [k.block 0 bM (by simp)];exact hm
theorem Mb (w:World) (n:Nat):Mod [] w (w.drewN n):=⟨rfl,rfl,rfl,Nat.le_refl _,fun _ _ _=>rfl⟩
theorem agn (w:World) (s:ab) (bh:s.length<4294967281) (eX:kv w):Calls aR 149 [S s,S [58]].toArray w (bH fun u w'=>u = .tuple #[S (Lib.cut s [58]).1,S (Lib.cut s [58]).2.1,.bool (Lib.cut s [58]).2.2]∧Mod [] w w'):=by
 obtain⟨m,hm⟩:=eX;refine(Tryz.strings_Cut ⟨⟨s⟩⟩ ⟨⟨[58]⟩⟩ m w bh hm).mono fun e w' he=>?_;obtain⟨rfl,n,rfl⟩:=he;exact⟨rfl,Mb w n⟩
theorem Ow (w:World) (s p:ab):Calls aR 153 [S s,S p].toArray w (bH fun u w'=>u = .tuple #[S (Lib.trimPrefix s p),.bool (Lib.hasPrefix s p)]∧Mod [] w w'):=by
 refine(Tryz.strings_CutPrefix ⟨⟨s⟩⟩ ⟨⟨p⟩⟩ w).mono fun e w' he=>?_;obtain⟨rfl,rfl⟩:=he;exact⟨rfl,Mod.refl _ _⟩
theorem Ez (w:World) (s:ab) (b:UInt8):Calls aR 71 [S s,.int .u8 (b.toNat:Int)].toArray w (bH fun u w'=>u = .int .i64 (Lib.indexByte s b)∧Mod [] w w'):=by
 refine(Tryz.strings_IndexByte ⟨⟨s⟩⟩ (b.toNat:Int) w).mono fun e w' he=>?_;obtain⟨rfl,rfl⟩:=he;refine⟨?_,Mod.refl _ _⟩;have h1:((b.toNat:Int).toNat).toUInt8=b:=by rw [Int.toNat_natCast];exact UInt8.ofNat_toNat
 rw [h1]
theorem ID (w:World) (s:ab) (c:Nat) (aZ:c<128):Calls aR 121 [S s,.int .i32 (c:Int)].toArray w (bH fun u w'=>u = .bool (s.any fun b=>decide (b.toNat=c))∧Mod [] w w'):=by
 refine(Tryz.strings_ContainsRune_ascii ⟨⟨s⟩⟩ (c:Int) w (by omega) (by omega)).mono fun e w' he=>?_;obtain⟨rfl,rfl⟩:=he;refine⟨?_,Mod.refl _ _⟩;rw [Int.toNat_natCast,BF _ _ aZ]
end Go.Proofs.YtkjgljnkocnnpaaGreatDoor.V
namespace Go.Proofs
open Go.Shelf
def Tryz.Gq:Go.Shelf.Ren:=⟨fun | 161=>195 | 231=>207 | 227=>208 | 233=>209 | 235=>210 | 228=>215 | 197=>164 | 151=>121 | 260=>192 | 152=>151 | 137=>71 | 119=>184 | 224=>185 | 225=>186 | 217=>107 | 266=>144 | n=>n,fun | 9=>9 | 4=>4 | 3=>3 | 5=>5 | 117=>225 | 116=>224 | 0=>0 | 124=>228 | 105=>181 | 21=>21 | 119=>218 | 46=>127 | 139=>221 | 138=>220 | n=>n,fun | 3=>4 | 4=>5 | n=>n⟩
theorem Tryz.Up:Go.Proofs.Lays.n161 Tryz.prog Tryz.Gq:={
 mixed:=by kernel_rfl
 f119:=Tryz.func184.trans (congrArg some (by kernel_rfl))
 f137:=Tryz.func71.trans (congrArg some (by kernel_rfl))
 f151:=Tryz.func121.trans (congrArg some (by kernel_rfl))
 f152:=Tryz.func151.trans (congrArg some (by kernel_rfl))
 f161:=Tryz.func195.trans (congrArg some (by kernel_rfl))
 f197:=Tryz.func164.trans (congrArg some (by kernel_rfl))
 f217:=Tryz.func107.trans (congrArg some (by kernel_rfl))
 f224:=Tryz.func185.trans (congrArg some (by kernel_rfl))
 f225:=Tryz.func186.trans (congrArg some (by kernel_rfl))
 f227:=Tryz.func208.trans (congrArg some (by kernel_rfl))
 f228:=Tryz.func215.trans (congrArg some (by kernel_rfl))
 f231:=Tryz.func207.trans (congrArg some (by kernel_rfl))
 f233:=Tryz.func209.trans (congrArg some (by kernel_rfl))
 f235:=Tryz.func210.trans (congrArg some (by kernel_rfl))
 f260:=Tryz.func192.trans (congrArg some (by kernel_rfl))
 f266:=Tryz.func144.trans (congrArg some (by kernel_rfl))
 t0:=Tryz.underlying0
 a0:=Tryz.isAgg0
 z0:=Tryz.sizeOf0
 v0:=Tryz.zeroValue0
 t3:=Tryz.underlying3
 a3:=Tryz.isAgg3
 z3:=Tryz.sizeOf3
 v3:=Tryz.zeroValue3
 t4:=Tryz.underlying4
 a4:=Tryz.isAgg4
 z4:=Tryz.sizeOf4
 v4:=Tryz.zeroValue4
 t5:=Tryz.underlying5
 a5:=Tryz.isAgg5
 z5:=Tryz.sizeOf5
 v5:=Tryz.zeroValue5
 t9:=Tryz.underlying9
 a9:=Tryz.isAgg9
 z9:=Tryz.sizeOf9
 v9:=Tryz.zeroValue9
 t21:=Tryz.underlying21
 a21:=Tryz.isAgg21
 z21:=Tryz.sizeOf21
 v21:=Tryz.zeroValue21
 t46:=Tryz.underlying127
 a46:=Tryz.isAgg127
 z46:=Tryz.sizeOf127
 v46:=Tryz.zeroValue127
 t105:=Tryz.underlying181
 a105:=Tryz.isAgg181
 z105:=Tryz.sizeOf181
 v105:=Tryz.zeroValue181
 t116:=Tryz.underlying224
 a116:=Tryz.isAgg224
 z116:=Tryz.sizeOf224
 t117:=Tryz.underlying225
 a117:=Tryz.isAgg225
 z117:=Tryz.sizeOf225
 v117:=Tryz.zeroValue225
 t119:=Tryz.underlying218
 a119:=Tryz.isAgg218
 z119:=Tryz.sizeOf218
 t124:=Tryz.underlying228
 a124:=Tryz.isAgg228
 z124:=Tryz.sizeOf228
 v124:=Tryz.zeroValue228
 t138:=Tryz.underlying220
 a138:=Tryz.isAgg220
 z138:=Tryz.sizeOf220
 v138:=Tryz.zeroValue220
 t139:=Tryz.underlying221
 a139:=Tryz.isAgg221
 z139:=Tryz.sizeOf221
 v139:=Tryz.zeroValue221
 g3:=by kernel_rfl
 g4:=by kernel_rfl}
def Tryz.DG:Go.Shelf.Ren:=⟨fun | 172=>112 | 244=>147 | 245=>148 | 247=>178 | 279=>179 | 280=>180 | 281=>181 | 282=>182 | 287=>201 | 316=>202 | 171=>59 | 205=>203 | 321=>212 | 322=>213 | 243=>98 | 246=>133 | 283=>157 | 284=>158 | 285=>159 | 286=>160 | 129=>177 | 317=>188 | 318=>189 | 319=>190 | 320=>191 | 337=>205 | 338=>206 | n=>n,fun | 9=>9 | 3=>3 | 75=>144 | 76=>145 | 4=>4 | 5=>5 | 167=>194 | 37=>58 | 0=>0 | 85=>195 | 2=>2 | 168=>197 | 53=>175 | 175=>212 | 46=>127 | 210=>216 | 127=>232 | 145=>235 | 143=>233 | 21=>21 | 171=>174 | 173=>178 | 212=>202 | 51=>180 | 20=>20 | 213=>203 | 232=>236 | 233=>237 | 80=>129 | n=>n,fun | 15=>2 | 16=>3 | 17=>1 | 18=>6 | 19=>7 | n=>n⟩
theorem Tryz.yt:Go.Proofs.LaysC.n172 Tryz.prog Tryz.DG:={
 mixed:=by kernel_rfl
 f129:=Tryz.func177.trans (congrArg some (by kernel_rfl))
 f171:=Tryz.func59.trans (congrArg some (by kernel_rfl))
 f172:=Tryz.func112.trans (congrArg some (by kernel_rfl))
 f205:=Tryz.func203.trans (congrArg some (by kernel_rfl))
 f243:=Tryz.func98.trans (congrArg some (by kernel_rfl))
 f244:=Tryz.func147.trans (congrArg some (by kernel_rfl))
 f245:=Tryz.func148.trans (congrArg some (by kernel_rfl))
 f246:=Tryz.func133.trans (congrArg some (by kernel_rfl))
 f247:=Tryz.func178.trans (congrArg some (by kernel_rfl))
 f279:=Tryz.func179.trans (congrArg some (by kernel_rfl))
 f280:=Tryz.func180.trans (congrArg some (by kernel_rfl))
 f281:=Tryz.func181.trans (congrArg some (by kernel_rfl))
 f282:=Tryz.func182.trans (congrArg some (by kernel_rfl))
 f283:=Tryz.func157.trans (congrArg some (by kernel_rfl))
 f284:=Tryz.func158.trans (congrArg some (by kernel_rfl))
 f285:=Tryz.func159.trans (congrArg some (by kernel_rfl))
 f286:=Tryz.func160.trans (congrArg some (by kernel_rfl))
 f287:=Tryz.func201.trans (congrArg some (by kernel_rfl))
 f316:=Tryz.func202.trans (congrArg some (by kernel_rfl))
 f317:=Tryz.func188.trans (congrArg some (by kernel_rfl))
 f318:=Tryz.func189.trans (congrArg some (by kernel_rfl))
 f319:=Tryz.func190.trans (congrArg some (by kernel_rfl))
 f320:=Tryz.func191.trans (congrArg some (by kernel_rfl))
 f321:=Tryz.func212.trans (congrArg some (by kernel_rfl))
 f322:=Tryz.func213.trans (congrArg some (by kernel_rfl))
 f337:=Tryz.func205.trans (congrArg some (by kernel_rfl))
 f338:=Tryz.func206.trans (congrArg some (by kernel_rfl))
 t0:=Tryz.underlying0
 a0:=Tryz.isAgg0
 z0:=Tryz.sizeOf0
 v0:=Tryz.zeroValue0
 t2:=Tryz.underlying2
 a2:=Tryz.isAgg2
 z2:=Tryz.sizeOf2
 v2:=Tryz.zeroValue2
 t3:=Tryz.underlying3
 a3:=Tryz.isAgg3
 z3:=Tryz.sizeOf3
 v3:=Tryz.zeroValue3
 t4:=Tryz.underlying4
 a4:=Tryz.isAgg4
 z4:=Tryz.sizeOf4
 v4:=Tryz.zeroValue4
 t5:=Tryz.underlying5
 a5:=Tryz.isAgg5
 z5:=Tryz.sizeOf5
 v5:=Tryz.zeroValue5
 t9:=Tryz.underlying9
 a9:=Tryz.isAgg9
 z9:=Tryz.sizeOf9
 v9:=Tryz.zeroValue9
 t20:=Tryz.underlying20
 a20:=Tryz.isAgg20
 z20:=Tryz.sizeOf20
 v20:=Tryz.zeroValue20
 t21:=Tryz.underlying21
 a21:=Tryz.isAgg21
 z21:=Tryz.sizeOf21
 v21:=Tryz.zeroValue21
 t37:=Tryz.underlying58
 a37:=Tryz.isAgg58
 z37:=Tryz.sizeOf58
 v37:=Tryz.zeroValue58
 t46:=Tryz.underlying127
 a46:=Tryz.isAgg127
 z46:=Tryz.sizeOf127
 v46:=Tryz.zeroValue127
 t51:=Tryz.underlying180
 a51:=Tryz.isAgg180
 z51:=Tryz.sizeOf180
 v51:=Tryz.zeroValue180
 t53:=Tryz.underlying175
 a53:=Tryz.isAgg175
 z53:=Tryz.sizeOf175
 v53:=Tryz.zeroValue175
 t75:=Tryz.underlying144
 a75:=Tryz.isAgg144
 z75:=Tryz.sizeOf144
 v75:=Tryz.zeroValue144
 t76:=Tryz.underlying145
 a76:=Tryz.isAgg145
 z76:=Tryz.sizeOf145
 v76:=Tryz.zeroValue145
 t85:=Tryz.underlying195
 a85:=Tryz.isAgg195
 z85:=Tryz.sizeOf195
 v85:=Tryz.zeroValue195
 t127:=Tryz.underlying232
 a127:=Tryz.isAgg232
 z127:=Tryz.sizeOf232
 v127:=Tryz.zeroValue232
 t143:=Tryz.underlying233
 a143:=Tryz.isAgg233
 z143:=Tryz.sizeOf233
 v143:=Tryz.zeroValue233
 t145:=Tryz.underlying235
 a145:=Tryz.isAgg235
 z145:=Tryz.sizeOf235
 v145:=Tryz.zeroValue235
 t167:=Tryz.underlying194
 a167:=Tryz.isAgg194
 z167:=Tryz.sizeOf194
 v167:=Tryz.zeroValue194
 t168:=Tryz.underlying197
 a168:=Tryz.isAgg197
 z168:=Tryz.sizeOf197
 v168:=Tryz.zeroValue197
 t171:=Tryz.underlying174
 a171:=Tryz.isAgg174
 z171:=Tryz.sizeOf174
 v171:=Tryz.zeroValue174
 t173:=Tryz.underlying178
 a173:=Tryz.isAgg178
 z173:=Tryz.sizeOf178
 v173:=Tryz.zeroValue178
 t175:=Tryz.underlying212
 a175:=Tryz.isAgg212
 z175:=Tryz.sizeOf212
 v175:=Tryz.zeroValue212
 t210:=Tryz.underlying216
 a210:=Tryz.isAgg216
 z210:=Tryz.sizeOf216
 v210:=Tryz.zeroValue216
 t212:=Tryz.underlying202
 a212:=Tryz.isAgg202
 z212:=Tryz.sizeOf202
 v212:=Tryz.zeroValue202
 t213:=Tryz.underlying203
 a213:=Tryz.isAgg203
 z213:=Tryz.sizeOf203
 t232:=Tryz.underlying236
 a232:=Tryz.isAgg236
 z232:=Tryz.sizeOf236
 v232:=Tryz.zeroValue236
 t233:=Tryz.underlying237
 a233:=Tryz.isAgg237
 z233:=Tryz.sizeOf237
 v233:=Tryz.zeroValue237
 g15:=by kernel_rfl
 g16:=by kernel_rfl
 g17:=by kernel_rfl
 g18:=by kernel_rfl
 g19:=by kernel_rfl
 t80:=Tryz.underlying129
 a80:=Tryz.isAgg129
 z80:=Tryz.sizeOf129
 v80:=Tryz.zeroValue129
 i0:=by kernel_rfl
 i2:=by kernel_rfl
 i3:=by kernel_rfl
 i4:=by kernel_rfl
 i5:=by kernel_rfl
 i9:=by kernel_rfl
 i20:=by kernel_rfl
 i21:=by kernel_rfl
 i37:=by kernel_rfl
 i46:=by kernel_rfl
 i51:=by kernel_rfl
 i53:=by kernel_rfl
 i75:=by kernel_rfl
 i76:=by kernel_rfl
 i80:=by kernel_rfl
 i85:=by kernel_rfl
 i127:=by kernel_rfl
 i143:=by kernel_rfl
 i145:=by kernel_rfl
 i167:=by kernel_rfl
 i168:=by kernel_rfl
 i171:=by kernel_rfl
 i173:=by kernel_rfl
 i175:=by kernel_rfl
 i210:=by kernel_rfl
 i212:=by kernel_rfl
 i232:=by kernel_rfl
 i233:=by kernel_rfl
 m15:=by kernel_rfl
 m16:=by kernel_rfl
 m17:=by kernel_rfl
 m18:=by kernel_rfl
 m19:=by kernel_rfl
 c0:=by kernel_rfl
 c2:=by kernel_rfl
 c3:=by kernel_rfl
 c4:=by kernel_rfl
 c5:=by kernel_rfl
 c9:=by kernel_rfl
 c20:=by kernel_rfl
 c21:=by kernel_rfl
 c37:=by kernel_rfl
 c46:=by kernel_rfl
 c51:=by kernel_rfl
 c53:=by kernel_rfl
 c75:=by kernel_rfl
 c76:=by kernel_rfl
 c80:=by kernel_rfl
 c85:=by kernel_rfl
 c127:=by kernel_rfl
 c143:=by kernel_rfl
 c145:=by kernel_rfl
 c167:=by kernel_rfl
 c168:=by kernel_rfl
 c171:=by kernel_rfl
 c173:=by kernel_rfl
 c175:=by kernel_rfl
 c210:=by kernel_rfl
 c212:=by kernel_rfl
 c213:=by kernel_rfl
 c232:=by kernel_rfl
 c233:=by kernel_rfl}
open Go.RowKit in
theorem Tryz.strconv_Atoi_ok (s:ByteArray) (alY:s.size≤9223372036854775806) (v:Int) (h:Lib.atoiAll s.data.toList = .ok v) (w:World) :
  Calls Tryz.prog 112 #[.string s] w fun e w'=>e = .returned (.tuple #[.int .i64 v,.nilIface])∧(w'=w∨∃ t,w'=Lib.bytesWorld w 5 t):=Any.strconv_Atoi_ok Tryz.yt s alY v h w
open Go.RowKit in
theorem Tryz.strconv_Atoi_syntax (s:ByteArray) (Uq:s.size≤281474976710656) (h:Lib.atoiAll s.data.toList = .«syntax») (rX:Value) (w:World) (bI:w.cell? ⟨2,0,none⟩=some rX) (ago:rX = .nilIface∨∃ agp agq,rX = .iface agp agq) :
  Calls Tryz.prog 112 #[.string s] w fun e w'=>∃ N,e = .returned (.tuple #[.int .i64 (0),.iface 197 (.pointer (some ⟨N,0,none⟩))])∧w.heap.size≤N∧w'.heap[N]? = some (.cells #[.string ⟨#[65,116,111,105]⟩,.string s,rX] 216 (0,0))∧Below w.heap.size w w':=Any.strconv_Atoi_syntax Tryz.yt s Uq h rX w bI ago
open Go.RowKit in
theorem Tryz.strconv_Atoi_range (s:ByteArray) (Uq:s.size≤281474976710656) (h:Lib.atoiAll s.data.toList = .range) (rX:Value) (w:World) (bI:w.cell? ⟨3,0,none⟩=some rX) (ago:rX = .nilIface∨∃ agp agq,rX = .iface agp agq) :
  Calls Tryz.prog 112 #[.string s] w fun e w'=>∃ N,e = .returned (.tuple #[.int .i64 (Lib.atoiSat s.data.toList),.iface 197 (.pointer (some ⟨N,0,none⟩))])∧w.heap.size≤N∧w'.heap[N]? = some (.cells #[.string ⟨#[65,116,111,105]⟩,.string s,rX] 216 (0,0))∧Below w.heap.size w w':=Any.strconv_Atoi_range Tryz.yt s Uq h rX w bI ago
def Tryz.Gr:Go.Shelf.Ren:=⟨fun | 101=>166 | 208=>194 | 206=>163 | n=>n,fun | 9=>9 | 4=>4 | 3=>3 | n=>n,fun | n=>n⟩
theorem Tryz.Ur:Go.Proofs.Lays.n101 Tryz.prog Tryz.Gr:={
 mixed:=by kernel_rfl
 f101:=Tryz.func166.trans (congrArg some (by kernel_rfl))
 f206:=Tryz.func163.trans (congrArg some (by kernel_rfl))
 f208:=Tryz.func194.trans (congrArg some (by kernel_rfl))
 t3:=Tryz.underlying3
 a3:=Tryz.isAgg3
 z3:=Tryz.sizeOf3
 v3:=Tryz.zeroValue3
 t4:=Tryz.underlying4
 a4:=Tryz.isAgg4
 z4:=Tryz.sizeOf4
 v4:=Tryz.zeroValue4
 t9:=Tryz.underlying9
 a9:=Tryz.isAgg9
 z9:=Tryz.sizeOf9
 v9:=Tryz.zeroValue9}
open Go.RowKit Go.Lib in
theorem Tryz.strings_TrimPrefix (s p:ByteArray) (w:World) :
  Calls Tryz.prog 166 #[.string s,.string p] w fun e w'=>e = .returned (.string ⟨(Lib.trimPrefix s.data.toList p.data.toList).toArray⟩)∧w'=w:=Any.strings_TrimPrefix Tryz.Ur s p w
def Tryz.wX:Go.Shelf.Ren:=⟨fun | 197=>164 | 260=>192 | n=>n,fun | 9=>9 | 21=>21 | 3=>3 | 4=>4 | 5=>5 | 105=>181 | 119=>218 | 0=>0 | 46=>127 | 139=>221 | 138=>220 | n=>n,fun | 3=>4 | 4=>5 | n=>n⟩
theorem Tryz.IE:Go.Proofs.Lays.n197 Tryz.prog Tryz.wX:={
 mixed:=by kernel_rfl
 f197:=Tryz.func164.trans (congrArg some (by kernel_rfl))
 f260:=Tryz.func192.trans (congrArg some (by kernel_rfl))
 t0:=Tryz.underlying0
 a0:=Tryz.isAgg0
 z0:=Tryz.sizeOf0
 v0:=Tryz.zeroValue0
 t3:=Tryz.underlying3
 a3:=Tryz.isAgg3
 z3:=Tryz.sizeOf3
 v3:=Tryz.zeroValue3
 t4:=Tryz.underlying4
 a4:=Tryz.isAgg4
 z4:=Tryz.sizeOf4
 v4:=Tryz.zeroValue4
 t5:=Tryz.underlying5
 a5:=Tryz.isAgg5
 z5:=Tryz.sizeOf5
 v5:=Tryz.zeroValue5
 t9:=Tryz.underlying9
 a9:=Tryz.isAgg9
 z9:=Tryz.sizeOf9
 v9:=Tryz.zeroValue9
 t21:=Tryz.underlying21
 a21:=Tryz.isAgg21
 z21:=Tryz.sizeOf21
 v21:=Tryz.zeroValue21
 t46:=Tryz.underlying127
 a46:=Tryz.isAgg127
 z46:=Tryz.sizeOf127
 v46:=Tryz.zeroValue127
 t105:=Tryz.underlying181
 a105:=Tryz.isAgg181
 z105:=Tryz.sizeOf181
 v105:=Tryz.zeroValue181
 t119:=Tryz.underlying218
 a119:=Tryz.isAgg218
 z119:=Tryz.sizeOf218
 t138:=Tryz.underlying220
 a138:=Tryz.isAgg220
 z138:=Tryz.sizeOf220
 v138:=Tryz.zeroValue220
 t139:=Tryz.underlying221
 a139:=Tryz.isAgg221
 z139:=Tryz.sizeOf221
 v139:=Tryz.zeroValue221
 g3:=by kernel_rfl
 g4:=by kernel_rfl}
open Go.RowKit Go.Lib in
def Tryz.Gs:Go.Shelf.Ren:=⟨fun | 152=>151 | 137=>71 | 119=>184 | 224=>185 | 225=>186 | 217=>107 | 266=>144 | n=>n,fun | 9=>9 | 21=>21 | 3=>3 | 4=>4 | 5=>5 | 0=>0 | 46=>127 | n=>n,fun | n=>n⟩
theorem Tryz.Us:Go.Proofs.Lays.n152 Tryz.prog Tryz.Gs:={
 mixed:=by kernel_rfl
 f119:=Tryz.func184.trans (congrArg some (by kernel_rfl))
 f137:=Tryz.func71.trans (congrArg some (by kernel_rfl))
 f152:=Tryz.func151.trans (congrArg some (by kernel_rfl))
 f217:=Tryz.func107.trans (congrArg some (by kernel_rfl))
 f224:=Tryz.func185.trans (congrArg some (by kernel_rfl))
 f225:=Tryz.func186.trans (congrArg some (by kernel_rfl))
 f266:=Tryz.func144.trans (congrArg some (by kernel_rfl))
 t0:=Tryz.underlying0
 a0:=Tryz.isAgg0
 z0:=Tryz.sizeOf0
 v0:=Tryz.zeroValue0
 t3:=Tryz.underlying3
 a3:=Tryz.isAgg3
 z3:=Tryz.sizeOf3
 v3:=Tryz.zeroValue3
 t4:=Tryz.underlying4
 a4:=Tryz.isAgg4
 z4:=Tryz.sizeOf4
 v4:=Tryz.zeroValue4
 t5:=Tryz.underlying5
 a5:=Tryz.isAgg5
 z5:=Tryz.sizeOf5
 v5:=Tryz.zeroValue5
 t9:=Tryz.underlying9
 a9:=Tryz.isAgg9
 z9:=Tryz.sizeOf9
 v9:=Tryz.zeroValue9
 t21:=Tryz.underlying21
 a21:=Tryz.isAgg21
 z21:=Tryz.sizeOf21
 v21:=Tryz.zeroValue21
 t46:=Tryz.underlying127
 a46:=Tryz.isAgg127
 z46:=Tryz.sizeOf127
 v46:=Tryz.zeroValue127}
open Go.RowKit Go.Lib in
theorem Tryz.strings_IndexRune_ascii (s:ByteArray) (r:Int) (w:World) (cg:0≤r) (h1:r<128) :
  Calls Tryz.prog 151 #[.string s,.int .i32 r] w fun e w'=>e = .returned (.int .i64 (Lib.indexByte s.data.toList r.toNat.toUInt8))∧w'=w:=Any.strings_IndexRune_ascii Tryz.Us s r w cg h1
end Go.Proofs
namespace Go.Proofs.YtkjgljnkocnnpaaGreatDoor.V
open Go Go.Proofs
theorem Mod.wY {w w':World} (h:RowKit.Below w.heap.size w w'):Mod [] w w':=⟨h.os,h.tape,h.output,h.size,fun i hi _=>h.block i hi⟩
theorem IF (w:World) (e:Nat) (s:ByteArray):Mod [] w (Lib.bytesWorld w e s):=by
 refine⟨?_,?_,?_,?_,?_⟩
 ·simp only [Lib.bytesWorld,World.freeze];rfl
 ·simp only [Lib.bytesWorld,World.freeze];rfl
 ·simp only [Lib.bytesWorld,World.freeze];rfl
 ·rw [Lib.bytesWorld_size];omega
 exact fun i hi _=>Lib.bytesWorld_at_old w e _ i hi
theorem sc {w w':World} {M:List Nat} {a:Nat} {v:Value} {g:Nat} (h:w.cell? ⟨g,a,none⟩=some v) (k:Mod M w w') (dY:g∉M):w'.cell? ⟨g,a,none⟩=some v:=by
 have bM:g<w.heap.size:=by
  rcases Nat.lt_or_ge g w.heap.size with cb | cb
  ·exact cb
  unfold World.cell? at h;rw [Array.getElem?_eq_none cb] at h;cases h
 unfold World.cell? at h ⊢;rw [k.block g bM dY];exact h
def Ad (w:World):Prop:=Lib.Utf8Tabs 4 5 w
theorem Ad.mod {w w':World} {M:List Nat} (h:Ad w) (k:Mod M w w') (eX:∀ x∈M,5<x):Ad w':=
 ⟨fun c aZ=>sc (h.1 c aZ) k (fun ae=>by have:=eX _ ae;omega),fun i hi=>⟨sc (h.2 i hi).1 k (fun ae=>by have:=eX _ ae;omega),sc (h.2 i hi).2 k (fun ae=>by have:=eX _ ae;omega)⟩⟩
theorem Ad.I {w w':World} (h:Ad w) (k:Mod [] w w'):Ad w':=h.mod k (by simp)
def IG (w:World):Prop:=(∃ rX,w.cell? ⟨2,0,none⟩=some rX∧(rX = .nilIface∨∃ agp agq,rX = .iface agp agq))∧∃ rX,w.cell? ⟨3,0,none⟩=some rX∧(rX = .nilIface∨∃ agp agq,rX = .iface agp agq)
theorem IG.mod {w w':World} {M:List Nat} (h:IG w) (k:Mod M w w') (eX:∀ x∈M,5<x):IG w':=by
 obtain⟨⟨bu,h1,aq⟩,⟨ee,bb,bP⟩⟩:=h;exact⟨⟨bu,sc h1 k (fun ae=>by have:=eX _ ae;omega),aq⟩,⟨ee,sc bb k (fun ae=>by have:=eX _ ae;omega),bP⟩⟩
theorem IH (w:World) (s:ab) (c:Nat) (aZ:c<128):Calls aR 151 [S s,.int .i32 (c:Int)].toArray w (bH fun u w'=>u = .int .i64 (Lib.indexByte s (UInt8.ofNat c))∧Mod [] w w'):=by
 refine(Tryz.strings_IndexRune_ascii ⟨⟨s⟩⟩ (c:Int) w (by omega) (by omega)).mono fun e w' he=>?_;obtain⟨rfl,rfl⟩:=he;exact⟨by rw [Int.toNat_natCast],Mod.refl _ _⟩
theorem Ut (w:World) (s p:ab):Calls aR 166 [S s,S p].toArray w (bH fun u w'=>u=S (Lib.trimPrefix s p)∧Mod [] w w'):=by
 refine(Tryz.strings_TrimPrefix ⟨⟨s⟩⟩ ⟨⟨p⟩⟩ w).mono fun e w' he=>?_;obtain⟨rfl,rfl⟩:=he;exact⟨rfl,Mod.refl _ _⟩
theorem Uu (w:World) (s p:ab) (cc:p.length<1000) (aE:∀ b∈p,b.toNat<128):Calls aR 195 [S s,S p].toArray w (bH fun u w'=>u=S (Lib.trimLeftS s p)∧Mod [] w w'):=by
 refine(Any.strings_TrimLeft_laid Tryz.Up (by kernel_rfl) ⟨⟨s⟩⟩ ⟨⟨p⟩⟩ w (show p.length<4294967281 by omega) (fun j b aW=>aE b (List.mem_of_getElem? aW))).mono fun e w' he=>?_;obtain⟨rfl,k⟩:=he;exact⟨rfl,Mod.wY k⟩
def Ox (s:ab):Nat×Nat:=Lib.decodeGo ⟨⟨s⟩⟩
theorem wZ {s:ab} {i:Nat} (h:i<s.length):Ox (s.drop i)=Utf8.decode ⟨⟨s.drop i⟩⟩ 0:=by
 unfold Ox Lib.decodeGo;rw [ak];show ¬ (s.drop i).length=0;rw [List.length_drop];omega
theorem AG (w:World) (s:ab) (j1:Ad w):Calls aR 164 [S s].toArray w (bH fun u w'=>u = .tuple #[.int .i32 ((Ox s).1:Int),.int .i64 ((Ox s).2:Int)]∧Mod [] w w'):=by
 refine(Any.utf8_DecodeRuneInString Tryz.IE ⟨⟨s⟩⟩ w j1).mono fun e w' he=>?_;obtain⟨rfl,k⟩:=he;exact⟨rfl,Mod.wY k⟩
def Mc (s:ab) (n:Int) (err:Value):Prop:=(Lib.atoiAll s = .ok n∧err = .nilIface)∨((∀ v,Lib.atoiAll s≠.ok v)∧(∃ T p,err = .iface T p)∧(n=0∨n = -9223372036854775808∨n=9223372036854775807)∧(n=0→Lib.atoiAll s = .«syntax»))
theorem AH (w:World) (s:ab) (bh:s.length≤1000000) (gR:IG w):Calls aR 112 [S s].toArray w (bH fun u w'=>∃ n err,u = .tuple #[.int .i64 n,err]∧Mc s n err∧Mod [] w w'):=by
 obtain⟨⟨bu,h1,aq⟩,⟨ee,bb,bP⟩⟩:=gR;cases dy:Lib.atoiAll s with
 | ok v=>
  refine(Tryz.strconv_Atoi_ok ⟨⟨s⟩⟩ (show s.length≤_ by omega) v dy w).mono fun e w' he=>?_;obtain⟨rfl,k⟩:=he;refine⟨v,_,rfl,.inl ⟨dy,rfl⟩,?_⟩;rcases k with rfl | ⟨t,rfl⟩
  ·exact Mod.refl _ _
  exact IF _ _ _
 | «syntax» =>
  refine(Tryz.strconv_Atoi_syntax ⟨⟨s⟩⟩ (show s.length≤_ by omega) dy bu w h1 aq).mono fun e w' he=>?_;obtain⟨N,rfl,_,_,k⟩:=he;exact⟨0,_,rfl,.inr ⟨fun v=>(by rw [dy];intro h;cases h),⟨_,_,rfl⟩,.inl rfl,fun _=>dy⟩,Mod.wY k⟩
 | range=>
  refine(Tryz.strconv_Atoi_range ⟨⟨s⟩⟩ (show s.length≤_ by omega) dy ee w bb bP).mono fun e w' he=>?_;obtain⟨N,rfl,_,_,k⟩:=he;refine⟨Lib.atoiSat s,_,rfl,.inr ⟨fun v=>(by rw [dy];intro h;cases h),⟨_,_,rfl⟩,?_,fun h=>?_⟩,Mod.wY k⟩
  ·unfold Lib.atoiSat
   split
   ·exact .inr (.inl rfl)
   exact .inr (.inr rfl)
  unfold Lib.atoiSat at h
  split at h <;> cases h
end Go.Proofs.YtkjgljnkocnnpaaGreatDoor.V
namespace Go.Proofs.YtkjgljnkocnnpaaGreatDoor.V
open Go
def CI (l:List (Nat×Value)):Op→Option Value
 | .move x=>bf l x
 | .assign x=>bf l x
 | .pick x y z=>match bf l x with
  | some (.bool true)=>bf l y
  | some (.bool false)=>bf l z
  | _=>none
 | .unOp .not _ x=>match bf l x with
  | some (.bool b)=>some (.bool (!b))
  | _=>none
 | .extract x i=>match bf l x with
  | some (.tuple vs)=>vs[i]?
  | _=>none
 | .nilCheck x=>match bf l x with
  | some (.pointer (some ad))=>some (.pointer (some ad))
  | _=>none
 | .binOp .lss _ x y _=>match bf l x,bf l y with
  | some (.int k m),some (.int kS gZ)=>if k=kS then some (.bool (decide (m<gZ)))else none
  | _,_=>none
 | .binOp .leq _ x y _=>match bf l x,bf l y with
  | some (.int k m),some (.int kS gZ)=>if k=kS then some (.bool (decide (m≤gZ)))else none
  | _,_=>none
 | .binOp .gtr _ x y _=>match bf l x,bf l y with
  | some (.int k m),some (.int kS gZ)=>if k=kS then some (.bool (decide (gZ<m)))else none
  | _,_=>none
 | .binOp .eql _ x y _=>match bf l x,bf l y with
  | some (.int k m),some (.int kS gZ)=>if k=kS then some (.bool (decide (m=gZ)))else none
  | _,_=>none
 | .binOp .neq _ x y _=>match bf l x,bf l y with
  | some (.int k m),some (.int kS gZ)=>if k=kS then some (.bool (decide (m≠gZ)))else none
  | _,_=>none
 | _=>none
def mA (ops:Array Oper) (n:Nat) (l:List (Nat×Value)):Oper→Option (List (Nat×Value))
 | ⟨some d,op,_,_,_,g⟩=>match Nat.blt d n with
  | true=>match g with
   | none=>match CI l op with
    | some v=>some ((d,v)::l)
    | none=>none
   | some (j,want)=>match Cy ops l j with
    | some b=>match b,want with
     | true,true=>match CI l op with
      | some v=>some ((d,v)::l)
      | none=>none
     | false,false=>match CI l op with
      | some v=>some ((d,v)::l)
      | none=>none
     | true,false=>some ((d,undef)::l)
     | false,true=>some ((d,undef)::l)
    | none=>match (ops[j]?).bind (·.dst)with
     | some t=>match iF t l with
      | some (.tuple vs)=>match vs.size with
       | 0=>some ((d,undef)::l)
       | _=>none
      | _=>none
     | none=>none
  | false=>none
 | _=>none
def CJ (ops:Array Oper) (n:Nat):Nat→List Oper→List (Nat×Value)→Option (List Oper×List (Nat×Value))
 | 0,lo,l=>some (lo,l)
 | k+1,o::lo,l=>match mA ops n l o with
  | some l'=>CJ ops n k lo l'
  | none=>none
 | _+1,[],_=>none
section
variable {P:Program} {ops:Array Oper} {Q:Exit→Act→World→Prop} {n:Nat} {ds:List Deferred} {l l':List (Nat×Value)} {M:List (Nat×(Value→World→Prop))} {w w':World} {Fin:lj→Prop}
variable {lo adp:List Oper} {d:Nat} {op:Op} {ty:TypeId} {pos:String} {af:Array Edge} {gg:Option (Nat×Bool)}
theorem qg {v:Value} (h:CI l op=some v):bE P l ⟨some d,op,ty,pos,af,gg⟩ w v w:=by
 unfold CI at h
 split at h
 ·exact fj h
 ·exact cS h
 ·split at h
  ·rename_i ae;exact fun ρ gw=>by simp [execOp,gw _ _ ae,gw _ _ h,asBool,bf]
  ·rename_i ae;exact fun ρ gw=>by simp [execOp,gw _ _ ae,gw _ _ h,asBool]
  cases h
 ·split at h
  ·rename_i ae;injection h with h;subst h;exact fC ae
  cases h
 ·split at h
  ·rename_i ae;exact fo ae h
  cases h
 ·split at h
  ·rename_i ae;injection h with h;subst h;exact eS ae
  cases h
 ·split at h
  ·rename_i ae ba
   split at h
   ·rename_i hk;subst hk;injection h with h;subst h;exact cT ae ba
   cases h
  cases h
 ·split at h
  ·rename_i ae ba
   split at h
   ·rename_i hk;subst hk;injection h with h;subst h;exact pr ae ba
   cases h
  cases h
 ·split at h
  ·rename_i ae ba
   split at h
   ·rename_i hk;subst hk;injection h with h;subst h;exact hV ae ba
   cases h
  cases h
 ·split at h
  ·rename_i ae ba
   split at h
   ·rename_i hk;subst hk;injection h with h;subst h;exact k1 ae ba
   cases h
  cases h
 ·split at h
  ·rename_i ae ba
   split at h
   ·rename_i hk;subst hk;injection h with h;subst h;exact fO ae ba
   cases h
  cases h
 cases h
theorem RZ {o:Oper} (h:mA ops n l o=some l') (hI:fI P ops Q lo n ds l' w):fI P ops Q (o::lo) n ds l w:=by
 obtain⟨dst,op,ty,pos,af,g⟩:=o;cases dst with
 | none=>simp [mA] at h
 | some d=>
  cases bT:Nat.blt d n with
  | false=>simp [mA,bT] at h
  | true=>
   cases g with
   | none=>
    cases he:CI l op with
    | none=>simp [mA,bT,he] at h
    | some v=>
     simp [mA,bT,he] at h;subst h;exact hg (qg he) bT hI
   | some atn=>
    obtain⟨j,want⟩:=atn;cases dY:Cy ops l j with
    | some b=>
     cases b <;> cases want <;> simp only [mA,bT,dY] at h
     ·cases he:CI l op with
      | none=>simp [he] at h
      | some v=>
       simp [he] at h;subst h;exact mc dY rfl (qg he) bT hI
     ·injection h with h
      subst h;exact as4 dY (by decide) bT hI
     ·injection h with h
      subst h;exact as4 dY (by decide) bT hI
     cases he:CI l op with
     | none=>simp [he] at h
     | some v=>
      simp [he] at h;subst h;exact mc dY rfl (qg he) bT hI
    | none=>
     simp only [mA,bT,dY] at h
     split at h
     ·rename_i t bW
      split at h
      ·rename_i vs bI
       split at h
       ·rename_i bh
        injection h with h
        subst h;have:vs = #[]:=Array.eq_empty_of_size_eq_zero bh;subst this;exact ate bW bI bT hI
       cases h
      cases h
     cases h
theorem Nf {o:Oper} (h:mA ops n l o=some l') (bh:gf o.op=true) (hI:hj P ops w n Fin lo l' M):hj P ops w n Fin (o::lo) l M:=by
 obtain⟨dst,op,ty,pos,af,g⟩:=o;cases dst with
 | none=>simp [mA] at h
 | some d=>
  cases bT:Nat.blt d n with
  | false=>simp [mA,bT] at h
  | true=>
   cases g with
   | none=>
    cases he:CI l op with
    | none=>simp [mA,bT,he] at h
    | some v=>
     simp [mA,bT,he] at h;subst h;exact asg (fun _ _=>qg he) bT bh hI
   | some atn=>
    obtain⟨j,want⟩:=atn;cases dY:Cy ops l j with
    | some b=>
     cases b <;> cases want <;> simp only [mA,bT,dY] at h
     ·cases he:CI l op with
      | none=>simp [he] at h
      | some v=>
       simp [he] at h;subst h;exact RO dY rfl (fun _ _=>qg he) bT bh hI
     ·injection h with h
      subst h;exact as6 dY (by decide) bT hI
     ·injection h with h
      subst h;exact as6 dY (by decide) bT hI
     cases he:CI l op with
     | none=>simp [he] at h
     | some v=>
      simp [he] at h;subst h;exact RO dY rfl (fun _ _=>qg he) bT bh hI
    | none=>
     simp only [mA,bT,dY] at h
     split at h
     ·rename_i t bW
      split at h
      ·rename_i vs bI
       split at h
       ·rename_i cP
        injection h with h
        subst h;have:vs = #[]:=Array.eq_empty_of_size_eq_zero cP;subst this;exact atf bW bI bT hI
       cases h
      cases h
     cases h
theorem aj (k:Nat) (h:CJ ops n k lo l=some (adp,l')) (hI:fI P ops Q adp n ds l' w):fI P ops Q lo n ds l w:=by
 induction k generalizing lo l with
 | zero=>injection h with h;injection h with h1 aq;subst h1;subst aq;exact hI
 | succ k ea=>
  cases lo with
  | nil=>simp [CJ] at h
  | cons o lo=>
   simp only [CJ] at h
   split at h
   ·rename_i akv h1
    exact RZ h1 (ea h)
   cases h
def XK:Nat→List Oper→Bool
 | 0,_=>true
 | k+1,o::lo=>gf o.op&&XK k lo
 | _+1,[]=>false
theorem hF (k:Nat) (h:CJ ops n k lo l=some (adp,l')) (bh:XK k lo=true) (hI:hj P ops w n Fin adp l' M):hj P ops w n Fin lo l M:=by
 induction k generalizing lo l with
 | zero=>injection h with h;injection h with h1 aq;subst h1;subst aq;exact hI
 | succ k ea=>
  cases lo with
  | nil=>simp [CJ] at h
  | cons o lo=>
   simp only [XK,Bool.and_eq_true] at bh;simp only [CJ] at h
   split at h
   ·rename_i akv h1
    exact Nf h1 bh.1 (ea h bh.2)
   cases h
/-! a truth made literal -/
variable {t:Nat} {p:Prop} {b gv:Bool}
theorem c7 [Decidable p] (h1:p→fI P ops Q lo n ds ((t,.bool true)::l) w) (aq:¬ p→fI P ops Q lo n ds ((t,.bool false)::l) w):fI P ops Q lo n ds ((t,.bool (decide p))::l) w:=by
 by_cases h:p
 ·rw [decide_eq_true h];exact h1 h
 rw [decide_eq_false h];exact aq h
theorem oM (h1:b=true→fI P ops Q lo n ds ((t,.bool true)::l) w) (aq:¬ b=true→fI P ops Q lo n ds ((t,.bool false)::l) w):fI P ops Q lo n ds ((t,.bool b)::l) w:=by
 cases b
 ·exact aq (by decide)
 exact h1 rfl
theorem tn (h1:b=true→fI P ops Q lo n ds ((t,.bool true)::l) w) (aq:b=false→fI P ops Q lo n ds ((t,.bool false)::l) w):fI P ops Q lo n ds ((t,.bool b)::l) w:=by
 cases b
 ·exact aq rfl
 exact h1 rfl
theorem kq (h:b=gv) (hI:fI P ops Q lo n ds ((t,.bool gv)::l) w):fI P ops Q lo n ds ((t,.bool b)::l) w:=h▸hI
end
structure azL (aBn:Prop):Prop where
 o:aBn
theorem share {aBn G:Prop} (h:azL aBn→G) (r:aBn):G:=h ⟨r⟩
end Go.Proofs.YtkjgljnkocnnpaaGreatDoor.V
set_option maxRecDepth 10000
namespace Go.Proofs.YtkjgljnkocnnpaaGreatDoor.V
open Go Go.Proofs
def je:=kT (j4 aR 25 3 3 1)
def b2:=kT (pa aR 9)
def gU:=kT (j4 aR 25 4 4 1)
def j8:=kT (pa aR 22)
def kt:=kT (kU aR 22 25 6 88)
def au:=kT (lG aR 25 6)
def F0:=eW Tryz.func19
def cd:=kT (j4 aR 25 5 5 1)
def dM:=kT (pa aR 23)
theorem wide:aR.follows .mixedOrders=true:=by kernel_rfl
def dk:=kT (kU aR 23 38 7 104)
def iO:=kT (j4 aR 38 1 1 6)
def e3:=kT (j4 aR 38 0 0 1)
theorem Du (N:Nat) (ea:∀ (w:World) (v:JV) (us:List Value) (left deep:Int),v.sz≤N→ao [] w v.D us→Calls aR 19 [.agg us.toArray,.int .i64 left,.int .i64 deep].toArray w (bH fun u w'=>u = .int .i64 (v.kj left deep)∧Mod [] w w')) (w:World) (v:JV) (us:List Value) (left deep:Int) (gy:v.sz≤N+1) (aBn:ao [] w v.D us):Calls aR 19 [.agg us.toArray,.int .i64 left,.int .i64 deep].toArray w (bH fun u w'=>u = .int .i64 (v.kj left deep)∧Mod [] w w'):=by
 refine iZ Tryz.func19 rfl fun E=>?_;obtain⟨al,cl,am,cm,rfl,k3,j3⟩:=JV.aU aBn;refine aa fun a6=>eY rfl rfl rfl fun g1 aJ bZ=>?_;have aY:=bZ.le E;replace E:=E.then bZ.mod;have R:=bZ.ar;refine a7 rfl (J a6 (aa fun aQ=>aO rfl (ah (hB rfl rfl) (ah (aD je rfl) (ah (bF b2 rfl (R.cell rfl)) (ah (bQ aA rfl) (ah (hB rfl rfl) (a7 rfl (J aQ (aB fun a'=>aa fun bp=>aj 2 rfl ?_))))))))));refine J bp ?_;refine aX rfl (fun oG=>?_) (fun oG=>?_)
 ·exact aa fun bx=>a7 rfl (J bx (bn (aP (aG rfl rfl ⟨by rw [JV.Ek,aL oG],E⟩))))
 have aq9:¬ deep=0:=oG;have hI:=JV.Ek v left deep;rw [ak aq9] at hI;refine b' (av a' (aB fun bO=>aa fun b4=>a7 rfl (J b4 (eN (bK (σ:=Nat×Int) (fun⟨k,z⟩=>[(1,.int .i64 z),(2,.int .i64 deep),(3,.pointer (some ⟨g1,0,none⟩)),(7,.int .i64 (k:Int))]) (fun⟨k,z⟩ aJ=>k≤v.list.length∧JV.kO (v.list.drop k) z (ll (deep-1))=JV.kO v.list (ll (ll (left-1)-v.str.length)) (ll (deep-1))∧aF aJ g1 25 [.int .i64 v.kind,.bool v.is,.int .i64 v.num,S v.str,.slice al v.list.length cl,.slice am v.map.length cm]∧Mod [] w aJ) (fun⟨k,z⟩=>v.list.length-k) (⟨0,(ll (ll (left-1)-v.str.length))⟩) (⟨by omega,rfl,R,E⟩) ?_)))));rintro⟨k,z⟩ cX ⟨hk,Bd,R,E⟩;refine aB fun cw=>aa fun cy=>aO rfl (ah (aD gU rfl) (ah (bF j8 rfl (R.cell rfl)) (ah (bY hJ rfl) (ah (cT rfl rfl) ?_))));refine c7 (fun LL:(k:Int)<(v.list.length:Int)=>?_) (fun LL=>?_);rotate_left
 ·refine aj 4 rfl (J cy (aI rfl ?_));have tE:JV.kO v.list (ll (ll (left-1)-v.str.length)) (ll (deep-1))=z:=by rw [← Bd];exact JV.H3 (by omega)
  refine bL (aP (aP (ch (av bO (aB fun dG=>aa fun eV=>a7 rfl (J eV (eN (bK (σ:=Nat×Int) (fun⟨k,y⟩=>[(1,.int .i64 y),(2,.int .i64 deep),(3,.pointer (some ⟨g1,0,none⟩)),(8,.int .i64 (k:Int))]) (fun⟨k,y⟩ aJ=>k≤v.map.length∧JV.kP (v.map.drop k) y (ll (deep-1))=JV.kP v.map z (ll (deep-1))∧aF aJ g1 25 [.int .i64 v.kind,.bool v.is,.int .i64 v.num,S v.str,.slice al v.list.length cl,.slice am v.map.length cm]∧Mod [] w aJ) (fun⟨k,y⟩=>v.map.length-k) (⟨0,z⟩) (⟨by omega,rfl,R,E⟩) ?_))))))));rintro⟨k,y⟩ i' ⟨hk,jK,R,E⟩;refine aB fun eO=>aa fun eC=>aO rfl (ah (aD cd rfl) (ah (bF dM rfl (R.cell rfl)) (ah (bY cO rfl) (ah (cT rfl rfl) ?_))));refine c7 (fun Be:(k:Int)<(v.map.length:Int)=>?_) (fun Be=>?_);rotate_left
  ·refine aj 4 rfl (J eC (aI rfl ?_));have oI:v.kj left deep=y:=by rw [hI,tE,← jK];exact JV.zr (by omega)
   exact bL (aP (aP (ch (av dG (aa fun fT=>aj 2 rfl (J fT (bn (aG rfl rfl ⟨by rw [oI],E⟩))))))))
  refine aj 2 rfl (ay (dA rfl rfl) (ah (oH rfl rfl rfl) (J eC ?_)));refine aX rfl (fun afX=>?_) (fun afX=>?_)
  ·obtain⟨x,bS⟩:∃ x,v.map[k]? = some x:=⟨_,List.getElem?_eq_getElem (by omega)⟩;obtain⟨kJ,lz,dW,eJ,h'⟩:=JV.kQ j3 bS;obtain⟨j9,j',jf,ik,rfl,lA,mD⟩:=JV.aU eJ;have cA:=h'.I E;have jg:=JV.iA j3;obtain rfl:=dW;have cP:¬ y<0:=by omega
   have lX:=JV.Bf (d:=(ll (deep-1))) bS cP;refine b' (av eO (aB fun eP=>eN (cn wide (by kernel_rfl) (ax (fun U=>(aD cd rfl)) (ax (fun U=>(bF dM rfl ((R.I U).cell rfl))) (ax (fun U=>(fj rfl)) (ax (fun U=>(c8 dk rfl rfl (by omega))) (ax (fun U=>(fY iO rfl)) (ax (fun U=>(fb au rfl rfl (cA.I U).vK)) (ax (fun U=>(fj rfl)) (ax (fun U=>(aD cd rfl)) (ax (fun U=>(bF dM rfl ((R.I U).cell rfl))) ?_))))))))))));refine ax (fun U=>(fj rfl)) (ax (fun U=>(c8 dk rfl rfl (by omega))) (ax (fun U=>(fY e3 rfl)) (ax (fun U=>(bF b2 rfl ((cA.I U) 0 _ rfl))) (ax (fun U=>(bQ aA rfl)) (ax (fun U=>(hB rfl rfl)) (ax (fun U=>(fj rfl)) (ax (fun U=>(hB rfl rfl)) (El (fun db U=>bB F0 rfl) (fun db U=>ea _ x.2 _ _ _ (by have:=JV.hU (List.mem_of_getElem? bS);omega) (eJ.b1 (E.then U))) rfl rfl (ax (fun U=>(cS rfl)) (cq rfl fun iw U=>?_))))))))));replace R:=R.I U;replace E:=E.then U;refine bw (av eP (b5 (aO rfl (ah (bt rfl rfl (by omega)) (a7 rfl (cx ?_))))));have ti:=JV.iA j3;exact aw (σ:=Nat×Int) (s:=⟨k,y⟩) (⟨k+1,x.2.kj (ll (y-x.1.length)) (ll (deep-1))⟩) ⟨by omega,by rw [← lX];exact jK,R,E⟩
  have oI:v.kj left deep=y:=by rw [hI,tE,← jK];exact JV.zq (by omega)
  exact bL (aP (aP (ch (av dG (aa fun fw=>aj 2 rfl (J fw (bn (aG rfl rfl ⟨by rw [oI],E⟩))))))))
 refine aj 2 rfl (ay (dA rfl rfl) (ah (oH rfl rfl rfl) (J cy ?_)));refine aX rfl (fun r0=>?_) (fun r0=>?_)
 ·obtain⟨x,bS⟩:∃ x,v.list[k]? = some x:=⟨_,List.getElem?_eq_getElem (by omega)⟩;obtain⟨kJ,lz,dW,eJ,h'⟩:=JV.zp k3 bS;obtain⟨j9,j',jf,ik,rfl,lA,mD⟩:=JV.aU eJ;have cA:=h'.I E;have jg:=JV.qk k3;obtain rfl:=dW;have cP:¬ z<0:=by omega
  have lX:=JV.LM (d:=(ll (deep-1))) bS cP;refine b' (av cw (aB fun b6=>eN (b5 (ah (aD gU rfl) (ah (bF j8 rfl (R.cell rfl)) (aO rfl (ah (c8 kt rfl rfl (by omega)) (ah (fb au rfl rfl cA) (aj 2 rfl (ah (hB rfl rfl) (cG E (bB F0 rfl) (ea _ x _ z _ (by have:=JV.il (List.mem_of_getElem? bS);omega) (eJ.b1 E)) fun gr U E=>?_)))))))))));replace R:=R.I U;refine a7 rfl (cx (bw (av b6 (b5 (aO rfl (ah (bt rfl rfl (by omega)) (a7 rfl (cx ?_))))))));have ti:=JV.qk k3;exact aw (σ:=Nat×Int) (s:=⟨k,z⟩) (⟨k+1,x.kj z (ll (deep-1))⟩) ⟨by omega,by rw [← lX];exact Bd,R,E⟩
 have tE:JV.kO v.list (ll (ll (left-1)-v.str.length)) (ll (deep-1))=z:=by rw [← Bd];exact JV.H2 (by omega)
 refine bL (aP (aP (ch (av bO (aB fun bR=>aa fun cv=>a7 rfl (J cv (eN (bK (σ:=Nat×Int) (fun⟨k,y⟩=>[(1,.int .i64 y),(2,.int .i64 deep),(3,.pointer (some ⟨g1,0,none⟩)),(8,.int .i64 (k:Int))]) (fun⟨k,y⟩ aJ=>k≤v.map.length∧JV.kP (v.map.drop k) y (ll (deep-1))=JV.kP v.map z (ll (deep-1))∧aF aJ g1 25 [.int .i64 v.kind,.bool v.is,.int .i64 v.num,S v.str,.slice al v.list.length cl,.slice am v.map.length cm]∧Mod [] w aJ) (fun⟨k,y⟩=>v.map.length-k) (⟨0,z⟩) (⟨by omega,rfl,R,E⟩) ?_))))))));rintro⟨k,y⟩ h8 ⟨hk,jK,R,E⟩;refine aB fun bV=>aa fun cE=>aO rfl (ah (aD cd rfl) (ah (bF dM rfl (R.cell rfl)) (ah (bY cO rfl) (ah (cT rfl rfl) ?_))));refine c7 (fun Be:(k:Int)<(v.map.length:Int)=>?_) (fun Be=>?_);rotate_left
 ·refine aj 4 rfl (J cE (aI rfl ?_));have oI:v.kj left deep=y:=by rw [hI,tE,← jK];exact JV.zr (by omega)
  exact bL (aP (aP (ch (av bR (aa fun ec=>aj 2 rfl (J ec (bn (aG rfl rfl ⟨by rw [oI],E⟩))))))))
 refine aj 2 rfl (ay (dA rfl rfl) (ah (oH rfl rfl rfl) (J cE ?_)));refine aX rfl (fun afX=>?_) (fun afX=>?_)
 ·obtain⟨x,bS⟩:∃ x,v.map[k]? = some x:=⟨_,List.getElem?_eq_getElem (by omega)⟩;obtain⟨kJ,lz,dW,eJ,h'⟩:=JV.kQ j3 bS;obtain⟨j9,j',jf,ik,rfl,lA,mD⟩:=JV.aU eJ;have cA:=h'.I E;have jg:=JV.iA j3;obtain rfl:=dW;have cP:¬ y<0:=by omega
  have lX:=JV.Bf (d:=(ll (deep-1))) bS cP;refine b' (av bV (aB fun cI=>eN (cn wide (by kernel_rfl) (ax (fun U=>(aD cd rfl)) (ax (fun U=>(bF dM rfl ((R.I U).cell rfl))) (ax (fun U=>(fj rfl)) (ax (fun U=>(c8 dk rfl rfl (by omega))) (ax (fun U=>(fY iO rfl)) (ax (fun U=>(fb au rfl rfl (cA.I U).vK)) (ax (fun U=>(fj rfl)) (ax (fun U=>(aD cd rfl)) (ax (fun U=>(bF dM rfl ((R.I U).cell rfl))) ?_))))))))))));refine ax (fun U=>(fj rfl)) (ax (fun U=>(c8 dk rfl rfl (by omega))) (ax (fun U=>(fY e3 rfl)) (ax (fun U=>(bF b2 rfl ((cA.I U) 0 _ rfl))) (ax (fun U=>(bQ aA rfl)) (ax (fun U=>(hB rfl rfl)) (ax (fun U=>(fj rfl)) (ax (fun U=>(hB rfl rfl)) (El (fun db U=>bB F0 rfl) (fun db U=>ea _ x.2 _ _ _ (by have:=JV.hU (List.mem_of_getElem? bS);omega) (eJ.b1 (E.then U))) rfl rfl (ax (fun U=>(cS rfl)) (cq rfl fun iS U=>?_))))))))));replace R:=R.I U;replace E:=E.then U;refine bw (av cI (b5 (aO rfl (ah (bt rfl rfl (by omega)) (a7 rfl (cx ?_))))));have ti:=JV.iA j3;exact aw (σ:=Nat×Int) (s:=⟨k,y⟩) (⟨k+1,x.2.kj (ll (y-x.1.length)) (ll (deep-1))⟩) ⟨by omega,by rw [← lX];exact jK,R,E⟩
 have oI:v.kj left deep=y:=by rw [hI,tE,← jK];exact JV.zq (by omega)
 exact bL (aP (aP (ch (av bR (aa fun dr=>aj 2 rfl (J dr (bn (aG rfl rfl ⟨by rw [oI],E⟩))))))))
theorem wI:∀ N:Nat,∀ (w:World) (v:JV) (us:List Value) (left deep:Int),v.sz≤N→ao [] w v.D us→Calls aR 19 [.agg us.toArray,.int .i64 left,.int .i64 deep].toArray w (bH fun u w'=>u = .int .i64 (v.kj left deep)∧Mod [] w w')
 | 0,w,v,us,left,deep,h,aBn=>absurd (JV.ql v) (by omega)
 | N+1,w,v,us,left,deep,h,aBn=>Du N (wI N) w v us left deep h aBn
theorem Tt (w:World) (v:JV) (us:List Value) (left deep:Int) (aBn:ao [] w v.D us):Calls aR 19 [.agg us.toArray,.int .i64 left,.int .i64 deep].toArray w (bH fun u w'=>u = .int .i64 (v.kj left deep)∧Mod [] w w'):=wI v.sz w v us left deep (Nat.le_refl _) aBn
set_option maxRecDepth 10000
def hK:=kT (j4 aR 25 0 0 1)
def eg:=kT (pa aR 3)
def sH:=kT (j4 aR 25 1 1 1)
def kV:=kT (pa aR 4)
def mj:=kT (j4 aR 25 2 2 1)
def F1:=eW Tryz.func15
theorem F2 (N:Nat) (ea:∀ (w:World) (v y:JV) (us vs:List Value),v.sz≤N→ao [] w v.D us→ao [] w y.D vs→Calls aR 15 [.agg us.toArray,.agg vs.toArray].toArray w (bH fun u w'=>u = .bool (JV.pG v y)∧Mod [] w w')) (w:World) (v y:JV) (us vs:List Value) (gy:v.sz≤N+1) (aBn:ao [] w v.D us) (z1:ao [] w y.D vs):Calls aR 15 [.agg us.toArray,.agg vs.toArray].toArray w (bH fun u w'=>u = .bool (JV.pG v y)∧Mod [] w w'):=by
 refine cY Tryz.func15 rfl fun E=>?_;obtain⟨al,cl,am,cm,rfl,k3,j3⟩:=JV.aU aBn;obtain⟨PV,PW,PX,PY,rfl,akI,akJ⟩:=JV.aU z1;refine aa fun a6=>eY rfl rfl rfl fun g1 aJ bZ=>?_;have aY:=bZ.le E;replace E:=E.then bZ.mod;have R:=bZ.ar;refine eY rfl rfl rfl fun g2 cX cz=>?_;have bJ:=cz.le E;have bl:=cz.ne R;replace R:=R.I cz.mod;replace E:=E.then cz.mod;have ag:=cz.ar;refine a7 rfl (J a6 (aB fun aQ=>aa fun a'=>ah (aD hK rfl) (ah (bF eg rfl (R.cell rfl)) (ah (aD hK rfl) (ah (bF eg rfl (ag.cell rfl)) (ah (fO rfl rfl) ?_))))));refine c7 (fun k5:v.kind≠y.kind=>?_) (fun k5=>?_)
 ·have oI:JV.pG v y=false:=JV.ov fun e=>k5 (by rw [e]);exact aj 39 rfl (J a' (az rfl (aa fun bp=>a7 rfl (J bp (bn (aP (aG rfl rfl ⟨by rw [oI],E⟩)))))))
 refine aO rfl (ay (aD sH rfl) (ay (bF kV rfl (R.cell rfl)) (ay (aD sH rfl) (ay (bF kV rfl (ag.cell rfl)) (ay (N9 LN rfl rfl) ?_)))));refine tn (fun qm:((v.is != y.is))=true=>?_) (fun qm=>?_)
 ·have oI:JV.pG v y=false:=JV.ov fun e=>(by subst e;simp at qm);exact aj 33 rfl (J a' (az rfl (aa fun bx=>a7 rfl (J bx (bn (aP (aG rfl rfl ⟨by rw [oI],E⟩)))))))
 refine aj 2 rfl (ay (aD mj rfl) (ay (bF eg rfl (R.cell rfl)) (ay (aD mj rfl) (ay (bF eg rfl (ag.cell rfl)) (ay (fO rfl rfl) ?_)))));refine c7 (fun Bg:v.num≠y.num=>?_) (fun Bg=>?_)
 ·have oI:JV.pG v y=false:=JV.ov fun e=>Bg (by rw [e]);exact aj 26 rfl (J a' (az rfl (aa fun bO=>a7 rfl (J bO (bn (aP (aG rfl rfl ⟨by rw [oI],E⟩)))))))
 refine aj 2 rfl (ay (aD je rfl) (ay (bF b2 rfl (R.cell rfl)) (ay (aD je rfl) (ay (bF b2 rfl (ag.cell rfl)) (ay (ia rfl rfl) ?_)))));refine c7 (fun LO:v.str≠y.str=>?_) (fun LO=>?_)
 ·have oI:JV.pG v y=false:=JV.ov fun e=>LO (by rw [e]);exact aj 19 rfl (J a' (az rfl (aa fun b4=>a7 rfl (J b4 (bn (aP (aG rfl rfl ⟨by rw [oI],E⟩)))))))
 refine aj 2 rfl (ay (aD gU rfl) (ay (bF j8 rfl (R.cell rfl)) (ay (bY hJ rfl) (ay (aD gU rfl) (ay (bF j8 rfl (ag.cell rfl)) (ay (bY hJ rfl) (ay (fO rfl rfl) ?_)))))));refine c7 (fun Tu:(v.list.length:Int)≠(y.list.length:Int)=>?_) (fun Tu=>?_)
 ·have oI:JV.pG v y=false:=JV.ov fun e=>Tu (by rw [e]);exact aj 10 rfl (J a' (az rfl (aa fun cw=>a7 rfl (J cw (bn (aP (aG rfl rfl ⟨by rw [oI],E⟩)))))))
 refine aj 2 rfl (ay (aD cd rfl) (ay (bF dM rfl (R.cell rfl)) (ay (bY cO rfl) (ay (aD cd rfl) (ay (bF dM rfl (ag.cell rfl)) (ay (bY cO rfl) (ay (fO rfl rfl) ?_)))))));refine c7 (fun Tv:(v.map.length:Int)≠(y.map.length:Int)=>?_) (fun Tv=>?_)
 ·have oI:JV.pG v y=false:=JV.ov fun e=>Tv (by rw [e]);exact ah (hG rfl rfl rfl) (J a' (az rfl (aa fun cy=>a7 rfl (J cy (bn (aP (aG rfl rfl ⟨by rw [oI],E⟩)))))))
 refine ah (hG rfl rfl rfl) (J a' (aI rfl (b' (av aQ (aB fun b6=>aa fun bR=>ah (aD gU rfl) (ah (bF j8 rfl (R.cell rfl)) (ah (bY hJ rfl) (aO rfl (J bR (eN (bK (σ:=Nat) (fun k=>[(2,.pointer (some ⟨g1,0,none⟩)),(3,.pointer (some ⟨g2,0,none⟩)),(53,.int .i64 v.list.length),(54,.int .i64 (k:Int))]) (fun k aJ=>k≤v.list.length∧(∀ (i:Nat) (a b:JV),i<k→v.list[i]? = some a→y.list[i]? = some b→a=b)∧aF aJ g1 25 [.int .i64 v.kind,.bool v.is,.int .i64 v.num,S v.str,.slice al v.list.length cl,.slice am v.map.length cm]∧aF aJ g2 25 [.int .i64 y.kind,.bool y.is,.int .i64 y.num,S y.str,.slice PV y.list.length PW,.slice PX y.map.length PY]∧Mod [] w aJ) (fun k=>v.list.length-k) (0) (⟨by omega,fun i a b h=>by omega,R,ag,E⟩) ?_)))))))))));rintro k gr ⟨hk,dy,R,ag,E⟩;refine aa fun cv=>ah (cT rfl rfl) (J cv (aB fun bV=>?_));refine aX rfl (fun aq'=>?_) (fun aq'=>?_)
 ·obtain⟨x,bS⟩:∃ x,v.list[k]? = some x:=⟨_,List.getElem?_eq_getElem (by omega)⟩;obtain⟨kJ,lz,dW,eJ,h'⟩:=JV.zp k3 bS;obtain⟨j9,j',jf,ik,rfl,lA,mD⟩:=JV.aU eJ;have cA:=h'.I E;have jg:=JV.qk k3;obtain rfl:=dW;obtain⟨z,tF⟩:∃ x,y.list[k]? = some x:=⟨_,List.getElem?_eq_getElem (by omega)⟩;obtain⟨ara,akK,Tw,Tx,F3⟩:=JV.zp akI tF;obtain⟨akL,akM,akN,akO,rfl,akP,akQ⟩:=JV.aU Tx;have Bh:=F3.I E;have abn:=JV.qk akI;obtain rfl:=Tw;refine b' (av bV (aB fun cE=>eN (aa fun cI=>aj 2 rfl (J cI (aB fun dr=>cn wide (by kernel_rfl) (ax (fun U=>(aD gU rfl)) (ax (fun U=>(bF j8 rfl ((R.I U).cell rfl))) (ax (fun U=>(fj rfl)) (ax (fun U=>(c8 kt rfl rfl (by omega))) (ax (fun U=>(fb au rfl rfl (cA.I U))) ?_))))))))));refine ax (fun U=>(aD gU rfl)) (ax (fun U=>(bF j8 rfl ((ag.I U).cell rfl))) (ax (fun U=>(fj rfl)) (ax (fun U=>(c8 kt rfl rfl (by omega))) (ax (fun U=>(fb au rfl rfl (Bh.I U))) (El (fun db U=>bB F1 rfl) (fun db U=>ea _ x z _ _ (by have:=JV.il (List.mem_of_getElem? bS);omega) (eJ.b1 (E.then U)) (Tx.b1 (E.then U))) rfl rfl (ax (fun U=>(fC rfl)) (cq rfl fun h8 U=>?_)))))));replace R:=R.I U;replace ag:=ag.I U;replace E:=E.then U;refine av dr ?_;refine a1 rfl (fun H4=>?_) (fun H4=>?_)
  ·have oI:JV.pG v y=false:=JV.ov fun e=>by
    subst e;rw [bS] at tF;injection tF with e
    subst e;rw [JV.r2] at H4;cases H4
   exact aa fun ec=>a7 rfl (J ec (bn (bw (aP (aP (bw (aP (aG rfl rfl ⟨by rw [oI],E⟩))))))))
  have LP:∀ (i:Nat) (a b:JV),i<k+1→v.list[i]? = some a→y.list[i]? = some b→a=b:=fun i a b hi aE aW=>by
   rcases Nat.lt_succ_iff_lt_or_eq.1 hi with h | h
   ·exact dy i a b h aE aW
   subst h;rw [bS] at aE;rw [tF] at aW;injection aE with aE
   injection aW with aW
   subst aE;subst aW;exact JV.wJ.1 (by simpa using H4)
  exact b' (bw (av cE (b5 (ah (bt rfl rfl (by omega)) (aO rfl (cx (aw (σ:=Nat) (s:=k) (k+1) ⟨by omega,LP,R,ag,E⟩)))))))
 refine bL (aP (aP (ch (av b6 (aB fun dG=>aa fun eV=>ah (aD cd rfl) (ah (bF dM rfl (R.cell rfl)) (ah (bY cO rfl) (aO rfl (J eV (eN (bK (σ:=Nat) (fun j=>[(2,.pointer (some ⟨g1,0,none⟩)),(3,.pointer (some ⟨g2,0,none⟩)),(72,.int .i64 v.map.length),(73,.int .i64 (j:Int))]) (fun j aJ=>j≤v.map.length∧(∀ (i:Nat) (a b:List UInt8×JV),i<j→v.map[i]? = some a→y.map[i]? = some b→a=b)∧aF aJ g1 25 [.int .i64 v.kind,.bool v.is,.int .i64 v.num,S v.str,.slice al v.list.length cl,.slice am v.map.length cm]∧aF aJ g2 25 [.int .i64 y.kind,.bool y.is,.int .i64 y.num,S y.str,.slice PV y.list.length PW,.slice PX y.map.length PY]∧Mod [] w aJ) (fun j=>v.map.length-j) (0) (⟨by omega,fun i a b h=>by omega,R,ag,E⟩) ?_)))))))))));rintro j iS ⟨eD,ev,R,ag,E⟩;refine aa fun eO=>ah (cT rfl rfl) (J eO (aB fun eC=>?_));refine aX rfl (fun afY=>?_) (fun afY=>?_);rotate_left
 ·exact bL (aP (aP (ch (av dG (aa fun hq=>a7 rfl (J hq (bn (aG rfl rfl ⟨by rw [JV.wJ.2 (JV.Ty (Classical.byContradiction k5) (by simpa using qm) (Classical.byContradiction Bg) (Classical.byContradiction LO) (JV.Bi (by omega) fun i a b hi aE aW=>dy i a b (by omega) aE aW) (JV.Bi (by omega) fun i a b hi aE aW=>ev i a b (by omega) aE aW))],E⟩))))))))
 obtain⟨x,bS⟩:∃ x,v.map[j]? = some x:=⟨_,List.getElem?_eq_getElem (by omega)⟩;obtain⟨kJ,lz,dW,eJ,h'⟩:=JV.kQ j3 bS;obtain⟨j9,j',jf,ik,rfl,lA,mD⟩:=JV.aU eJ;have cA:=h'.I E;have jg:=JV.iA j3;obtain rfl:=dW;obtain⟨z,tF⟩:∃ x,y.map[j]? = some x:=⟨_,List.getElem?_eq_getElem (by omega)⟩;obtain⟨ara,akK,Tw,Tx,F3⟩:=JV.kQ akJ tF;obtain⟨akL,akM,akN,akO,rfl,akP,akQ⟩:=JV.aU Tx;have Bh:=F3.I E;have abn:=JV.iA akJ;obtain rfl:=Tw;refine b' (av eC (aB fun eP=>eN (aa fun fw=>aj 2 rfl (J fw (aB fun fT=>?_)))))
 by_cases er:x.1≠z.1
 ·refine cn wide (by kernel_rfl) (ax (fun U=>(aD cd rfl)) (ax (fun U=>(bF dM rfl ((R.I U).cell rfl))) (ax (fun U=>(fj rfl)) (ax (fun U=>(c8 dk rfl rfl (by omega))) (ax (fun U=>(fY e3 rfl)) (ax (fun U=>(bF b2 rfl ((cA.I U) 0 _ rfl))) (ax (fun U=>(aD cd rfl)) (ax (fun U=>(bF dM rfl ((ag.I U).cell rfl))) (ax (fun U=>(fj rfl)) (ax (fun U=>(c8 dk rfl rfl (by omega))) (ax (fun U=>(fY e3 rfl)) (ax (fun U=>(bF b2 rfl ((Bh.I U) 0 _ rfl))) (ax (fun U=>(ia rfl rfl)) ?_)))))))))))));refine ax (fun U=>(fj rfl)) (fP rfl (bD er) (fP rfl (bD er) (fP rfl (bD er) (fP rfl (bD er) (fP rfl (bD er) (fP rfl (bD er) (fP rfl (bD er) (fP rfl (bD er) (fP rfl (bD er) (fP rfl (bD er) (fP rfl (bD er) (fP rfl (bD er) (fP rfl (bD er) ?_)))))))))))));refine fP rfl (bD er) (ax (fun U=>(oH (bD er) rfl rfl)) (cq rfl fun i' U=>?_));replace R:=R.I U;replace ag:=ag.I U;replace E:=E.then U;refine av fT (az rfl ?_);have oI:JV.pG v y=false:=JV.ov fun e=>by
   subst e;rw [bS] at tF;injection tF with e
   subst e;exact er rfl
  exact aa fun gh=>a7 rfl (J gh (bn (bw (aP (aP (bw (aP (aG rfl rfl ⟨by rw [oI],E⟩))))))))
 refine cn wide (by kernel_rfl) (ax (fun U=>(aD cd rfl)) (ax (fun U=>(bF dM rfl ((R.I U).cell rfl))) (ax (fun U=>(fj rfl)) (ax (fun U=>(c8 dk rfl rfl (by omega))) (ax (fun U=>(fY e3 rfl)) (ax (fun U=>(bF b2 rfl ((cA.I U) 0 _ rfl))) (ax (fun U=>(aD cd rfl)) (ax (fun U=>(bF dM rfl ((ag.I U).cell rfl))) (ax (fun U=>(fj rfl)) (ax (fun U=>(c8 dk rfl rfl (by omega))) (ax (fun U=>(fY e3 rfl)) (ax (fun U=>(bF b2 rfl ((Bh.I U) 0 _ rfl))) (ax (fun U=>(ia rfl rfl)) ?_)))))))))))));refine ax (fun U=>(fj rfl)) (a8 (cr er) (fun U=>(aD cd rfl)) (a8 (cr er) (fun U=>(bF dM rfl ((R.I U).cell rfl))) (a8 (cr er) (fun U=>(fj rfl)) (a8 (cr er) (fun U=>(c8 dk rfl rfl (by omega))) (a8 (cr er) (fun U=>(fY iO rfl)) (a8 (cr er) (fun U=>(fb au rfl rfl (cA.I U).vK)) (a8 (cr er) (fun U=>(aD cd rfl)) (a8 (cr er) (fun U=>(bF dM rfl ((ag.I U).cell rfl))) (a8 (cr er) (fun U=>(fj rfl)) (a8 (cr er) (fun U=>(c8 dk rfl rfl (by omega))) (a8 (cr er) (fun U=>(fY iO rfl)) (a8 (cr er) (fun U=>(fb au rfl rfl (Bh.I U).vK)) (H5 rfl (cr er) (fun db U=>bB F1 rfl) (fun db U=>ea _ x.2 z.2 _ _ (by have:=JV.hU (List.mem_of_getElem? bS);omega) (eJ.b1 (E.then U)) (Tx.b1 (E.then U))) rfl rfl ?_)))))))))))));refine a8 (cr er) (fun U=>(fC rfl)) (ax (fun U=>(hG (cr er) rfl rfl)) (cq rfl fun iw U=>?_));replace R:=R.I U;replace ag:=ag.I U;replace E:=E.then U;refine av fT ?_;refine a1 rfl (fun q6=>?_) (fun q6=>?_)
 ·have oI:JV.pG v y=false:=JV.ov fun e=>by
   subst e;rw [bS] at tF;injection tF with e
   subst e;rw [JV.r2] at q6;cases q6
  exact aa fun fk=>a7 rfl (J fk (bn (bw (aP (aP (bw (aP (aG rfl rfl ⟨by rw [oI],E⟩))))))))
 have arb:∀ (i:Nat) (a b:List UInt8×JV),i<j+1→v.map[i]? = some a→y.map[i]? = some b→a=b:=fun i a b hi aE aW=>by
  rcases Nat.lt_succ_iff_lt_or_eq.1 hi with h | h
  ·exact ev i a b h aE aW
  subst h;rw [bS] at aE;rw [tF] at aW;injection aE with aE
  injection aW with aW
  subst aE;subst aW;exact Prod.ext (Classical.byContradiction er) (JV.wJ.1 (by simpa using q6))
 exact b' (bw (av eP (b5 (ah (bt rfl rfl (by omega)) (aO rfl (cx (aw (σ:=Nat) (s:=j) (j+1) ⟨by omega,arb,R,ag,E⟩)))))))
theorem zs:∀ N:Nat,∀ (w:World) (v y:JV) (us vs:List Value),v.sz≤N→ao [] w v.D us→ao [] w y.D vs→Calls aR 15 [.agg us.toArray,.agg vs.toArray].toArray w (bH fun u w'=>u = .bool (JV.pG v y)∧Mod [] w w')
 | 0,w,v,y,us,vs,h,aBn,z1=>absurd (JV.ql v) (by omega)
 | N+1,w,v,y,us,vs,h,aBn,z1=>F2 N (zs N) w v y us vs h aBn z1
theorem N' (w:World) (v y:JV) (us vs:List Value) (aBn:ao [] w v.D us) (z1:ao [] w y.D vs):Calls aR 15 [.agg us.toArray,.agg vs.toArray].toArray w (bH fun u w'=>u = .bool (JV.pG v y)∧Mod [] w w'):=zs v.sz w v y us vs (Nat.le_refl _) aBn z1
set_option maxRecDepth 10000
theorem afZ:aeN aR 162:=fun args w=>run_callFunc_extern Tryz.func162 (by kernel_rfl) (by kernel_rfl) (by kernel_rfl) (by kernel_rfl) args w
def abo:=eW Tryz.func136
def abp:=eW Tryz.func100
def jL:=kT (lG aR 38 7)
def Tz:=eW Tryz.func63
def iT:=kT (tp aR 38 [(0,1),(1,6)])
theorem eU:gX aR 38 ([S [],.int .i64 0,.bool false,.int .i64 0,S [],.slice none 0 0,.slice none 0 0]):=by unfold gX;kernel_rfl
def af0:=eW Tryz.func62
theorem abq (w:World) (a b:ab):Calls aR 136 [S a,S b].toArray w (bH fun u w'=>u = .int .i64 (r3 a b)∧Mod [] w w'):=by
 refine cY Tryz.func136 rfl fun E=>aa fun a6=>a7 rfl (J a6 (aa fun aQ=>aj 2 rfl (ah ((PZ afZ rfl rfl).to (by rw [yh])) ?_)));exact a7 rfl (J aQ (bn (aG rfl rfl ⟨rfl,E⟩)))
theorem abr (w:World) (a b:ab):Calls aR 100 [S a,S b].toArray w (bH fun u w'=>u = .int .i64 (r3 a b)∧Mod [] w w'):=by
 exact cY Tryz.func100 rfl fun E=>aa fun a6=>a7 rfl (J a6 (aa fun aQ=>aj 2 rfl (cG E (bB abo rfl) (abq _ _ _) fun aJ U E=>a7 rfl (J aQ (bn (aG rfl rfl ⟨rfl,E⟩))))))
theorem H6 (w:World) (a b:ab) (us vs:List Value):Calls aR 63 [.agg (S a::us).toArray,.agg (S b::vs).toArray].toArray w (bH fun u w'=>u = .int .i64 (r3 a b)∧Mod [] w w'):=by
 refine cY Tryz.func63 rfl fun E=>aa fun a6=>eY rfl rfl rfl fun g1 aJ bZ=>?_;have aY:=bZ.le E;replace E:=E.then bZ.mod;have R:=bZ.ar;refine eY rfl rfl rfl fun g2 cX cz=>?_;have bJ:=cz.le E;have bl:=cz.ne R;replace R:=R.I cz.mod;replace E:=E.then cz.mod;have ag:=cz.ar;refine a7 rfl (J a6 (aa fun aQ=>ah (aD e3 rfl) (ah (bF b2 rfl (R.cell rfl)) (ah (aD e3 rfl) (ah (bF b2 rfl (ag.cell rfl)) (cG E (bB abp rfl) (abr _ _ _) fun gr U E=>?_))))));replace R:=R.I U;replace ag:=ag.I U;exact a7 rfl (J aQ (bn (aG rfl rfl ⟨rfl,E⟩)))
theorem af1 (w:World) (m:List (ab×JV)) (v:Value) (aBn:bq [] w (.jH 7 (m.map JV.jq)) v) (k:ab) (akR z2 z3 z4 z5 arc:Value) (aE:et m) (cu:m.length≤1353245080310):Calls aR 62 [v,.agg [S k,akR,z2,z3,z4,z5,arc].toArray,.func (.func 63) #[] #[]].toArray w (bH fun u w'=>u = .tuple #[.int .i64 (gD m k),.bool (look m k).isSome]∧Mod [] w w'):=by
 refine iZ Tryz.func62 rfl fun E=>?_;obtain⟨ad,c,rfl,eQ,h3⟩:∃ ad c,v = .slice ad m.length c∧m.length≤c∧c≤9223372036854775807:=by
  obtain⟨ad,c,h1,aq,bb⟩:=aBn.vL;rw [List.length_map] at h1 aq;exact⟨ad,c,h1,aq,bb⟩
 refine aa fun a6=>eY rfl rfl rfl fun g1 aJ bZ=>?_;have aY:=bZ.le E;replace E:=E.then bZ.mod;have R:=bZ.ar;refine aj 2 rfl (J a6 (aa fun aQ=>aO rfl (ah (bY cO rfl) (a7 rfl (J aQ (aa fun a'=>aj 3 rfl (J a' (aB fun bp=>eN ?_))))))));refine bK (σ:=Nat×Nat) (fun⟨i,j⟩=>[(0,.slice ad m.length c),(2,.func (.func 63) #[] #[]),(4,.pointer (some ⟨g1,0,none⟩)),(8,.int .i64 m.length),(9,.int .i64 (i:Int)),(10,.int .i64 (j:Int))]) (fun⟨i,j⟩ aJ=>i≤j∧j≤m.length∧(∀ (a:Nat) (y:ab×JV),a<i→m[a]? = some y→fx y.1 k=true)∧(∀ (a:Nat) (y:ab×JV),j≤a→m[a]? = some y→fx y.1 k=false)∧aF aJ g1 38 [S k,akR,z2,z3,z4,z5,arc]∧Mod [] w aJ) (fun⟨i,j⟩=>j-i) (⟨0,m.length⟩) (⟨by omega,by omega,fun a y h=>by omega,fun a y h ba=>(by rw [List.getElem?_eq_none h] at ba;cases ba),R,E⟩) ?_;rintro⟨i,j⟩ cX ⟨z6,eD,h1,aq,R,E⟩;refine aB fun bx=>aa fun bO=>aj 3 rfl (J bO ?_);refine aX rfl (fun tG=>?_) (fun tG=>?_);rotate_left
 ·refine bL (aP (aP (ch (av bp (aB fun cy=>?_)))))
  by_cases jM:(i:Int)<(m.length:Int)
  ·have TE:i=j:=by omega
   subst TE;have H8:=Bk (by omega) h1 aq;obtain⟨x,bS⟩:∃ x,m[i]? = some x:=⟨_,List.getElem?_eq_getElem (by omega)⟩;obtain⟨kJ,lz,dW,eJ,h'⟩:=JV.kQ aBn bS;obtain⟨j9,j',jf,ik,rfl,lA,mD⟩:=JV.aU eJ;have cA:=h'.I E;have jg:=JV.iA aBn;obtain rfl:=dW;have yi:decide (r3 x.1 k=0)=(look m k).isSome:=(akT aE H8 bS).symm;refine cn wide (by kernel_rfl) (hF 5 rfl rfl (a8 (bD jM) (fun U=>(fj rfl)) (a8 (bD jM) (fun U=>(fj rfl)) (a8 (bD jM) (fun U=>(fj rfl)) (a8 (bD jM) (fun U=>(c8 dk rfl rfl (by omega))) (a8 (bD jM) (fun U=>(fb jL rfl rfl (cA.I U))) (a8 (bD jM) (fun U=>(tH jL rfl ((R.I U).cs rfl))) (H5 rfl (bD jM) (fun db U=>wK Tz rfl rfl) (fun db U=>H6 _ x.1 k _ _) rfl rfl (a8 (bD jM) (fun U=>(k1 rfl rfl)) (ax (fun U=>(oH (bD jM) rfl rfl)) (hF 2 rfl rfl (cq rfl fun h8 U=>?_))))))))))));replace R:=R.I U;replace E:=E.then U;exact av cy (bn (cj rfl rfl rfl ⟨by rw [H8,← yi],E⟩))
  have TE:i=j:=by omega
  subst TE;have H8:=Bk (by omega) h1 aq;have yi:false=(look m k).isSome:=(H9 aE (by omega)).symm;refine cn wide (by kernel_rfl) (hF 5 rfl rfl (fP rfl (cr jM) (fP rfl (cr jM) (fP rfl (cr jM) (fP rfl (cr jM) (fP rfl (cr jM) (fP rfl (cr jM) (fP rfl (cr jM) (fP rfl (cr jM) (ax (fun U=>(hG (cr jM) rfl rfl)) (hF 2 rfl rfl (cq rfl fun iS U=>?_))))))))))));replace R:=R.I U;replace E:=E.then U;exact av cy (bn (cj rfl rfl rfl ⟨by rw [H8,← yi],E⟩))
 have bM:(i+j) / 2<m.length:=by omega
 obtain⟨x,bS⟩:∃ x,m[((i+j) / 2)]? = some x:=⟨_,List.getElem?_eq_getElem (by omega)⟩;obtain⟨kJ,lz,dW,eJ,h'⟩:=JV.kQ aBn bS;obtain⟨j9,j',jf,ik,rfl,lA,mD⟩:=JV.aU eJ;have cA:=h'.I E;have jg:=JV.iA aBn;obtain rfl:=dW;refine b' (av bx (eN (aa fun b4=>aj 2 rfl (ah (bt rfl rfl (by omega)) (ah (e9 (r:=((i:Int)+j)) gj Bj rfl (im _ (by omega))) (ah (abt (r:=(((i+j) / 2:Nat):Int)) rfl rfl (by omega) (by rw [← LQ];exact P0 _)) (ah (e9 (r:=(((i+j) / 2:Nat):Int)) Bj gj rfl (wrap64_in _ (by omega))) (a7 rfl (J b4 (aB fun cw=>cn wide (by kernel_rfl) (hF 3 rfl rfl ?_)))))))))));refine ax (fun U=>(c8 dk rfl rfl (by omega))) (ax (fun U=>(fb jL rfl rfl (cA.I U))) (ax (fun U=>(tH jL rfl ((R.I U).cs rfl))) (El (fun db U=>wK Tz rfl rfl) (fun db U=>H6 _ x.1 k _ _) rfl rfl (ax (fun U=>(cT rfl rfl)) (cq rfl fun gr U=>?_)))));replace R:=R.I U;replace E:=E.then U;refine av cw ?_;refine aX rfl (fun gu=>?_) (fun gu=>?_)
 ·have akS:∀ (a:Nat) (y:ab×JV),a<(i+j) / 2+1→m[a]? = some y→fx y.1 k=true:=fun a y F4 ba=>by
   rcases Nat.lt_succ_iff_lt_or_eq.1 F4 with h | h
   ·exact hL (tI aE ba bS h) (tJ.1 gu)
   subst h;rw [bS] at ba;injection ba with ba;subst ba;exact tJ.1 gu
  exact b5 (aO rfl (ah (aS (r:=(((i+j) / 2+1:Nat):Int)) rfl rfl) (a7 rfl (cx (bw (aw (σ:=Nat×Nat) (s:=⟨i,j⟩) (⟨(i+j) / 2+1,j⟩) ⟨by omega,by omega,akS,aq,R,E⟩))))))
 have af2:∀ (a:Nat) (y:ab×JV),(i+j) / 2≤a→m[a]? = some y→fx y.1 k=false:=fun a y F4 ba=>by
  cases H7:fx y.1 k with
  | false=>rfl
  | true=>
   rcases Nat.lt_or_ge ((i+j) / 2) a with h | h
   ·exact absurd (tJ.2 (hL (tI aE bS ba h) H7)) gu
   have:a=(i+j) / 2:=by omega
   subst this;rw [bS] at ba;injection ba with ba;subst ba;exact absurd (tJ.2 H7) gu
 exact b5 (aj 2 rfl (cx (bw (aw (σ:=Nat×Nat) (s:=⟨i,j⟩) (⟨i,(i+j) / 2⟩) ⟨by omega,by omega,h1,af2,R,E⟩))))
theorem Bc (w:World) (m:List (ab×JV)) (v:Value) (aBn:bq [] w (.jH 7 (m.map JV.jq)) v) (k:ab) (aE:et m) (cu:m.length≤1353245080310):Calls aR 33 [v,S k].toArray w (bH fun u w'=>u = .tuple #[.int .i64 (gD m k),.bool (look m k).isSome]∧Mod [] w w'):=by
 exact cY Tryz.func33 rfl fun E=>aa fun a6=>aj 2 rfl (J a6 (aa fun aQ=>aj 2 rfl (ah (cD iT eU rfl rfl) (cG E (bB af0 rfl) (af1 _ m _ (aBn.b1 E) k _ _ _ _ _ _ aE cu) fun aJ U E=>aj 4 rfl (J aQ (bn (cj rfl rfl rfl ⟨rfl,E⟩)))))))
set_option maxRecDepth 10000
theorem bA:gX aR 25 ([.int .i64 0,.bool false,.int .i64 0,S [],.slice none 0 0,.slice none 0 0]):=by unfold gX;kernel_rfl
def LK:=eW Tryz.func33
def dz:=kT (tp aR 25 [(0,1),(1,1),(2,1),(3,1),(4,1),(5,1)])
theorem F5 (A:List Nat) (w0 w:World) (Oa:Mod [] w0 w) (v:JV) (us:List Value) (aBn:ao A w0 v.D us) (k:ab) (aE:et v.map) (cu:v.map.length≤1353245080310):Calls aR 45 [.agg us.toArray,S k].toArray w (bH fun u w'=>∃ ga,u = .tuple #[.agg ga.toArray,.bool (v.get k).isSome]∧ao A w0 ((v.get k).getD JV.fg).D ga∧Mod [] w w'):=by
 refine cY Tryz.func45 rfl fun E=>?_;obtain⟨al,cl,am,cm,rfl,k3,j3⟩:=JV.aU aBn;refine aa fun a6=>eY rfl rfl rfl fun g1 aJ bZ=>?_;have aY:=bZ.le E;replace E:=E.then bZ.mod;have R:=bZ.ar;refine bj bA rfl fun g2 cX cz=>?_;have bJ:=cz.le E;have bl:=cz.ne R;replace R:=R.I cz.mod;replace E:=E.then cz.mod;have ag:=cz.ar;refine a7 rfl (J a6 (aa fun aQ=>ah (aD cd rfl) (ah (bF dM rfl (R.cell rfl)) (aO rfl (cG E (bB LK rfl) (Bc _ v.map _ ((j3.eu (by simp)).b1 (Oa.then E)) k aE cu) fun gr U E=>?_)))));replace R:=R.I U;replace ag:=ag.I U;refine aj 5 rfl (J aQ (aB fun a'=>aa fun bp=>ah (aD hK rfl) (ah (bF eg rfl (R.cell rfl)) (ah (fO rfl rfl) ?_))));refine c7 (fun Bl:v.kind≠5=>?_) (fun Bl=>?_)
 ·refine aj 4 rfl (J bp (az rfl ?_));have jN:v.get k=none:=by simp [JV.get,Bl]
  refine aa fun bx=>ah (bc dz bA rfl rfl) (aK au ag rfl rfl fun h8 j0=>?_);replace R:=R.ne j0.mod bl;replace E:=E.own j0.mod bJ;replace ag:aF h8 g2 _ [_,_,_,_,_,_]:=j0.ar;exact a7 rfl (J bx (bn (aP (jO rfl au rfl (ag.cs rfl) rfl ⟨_,by rw [jN];rfl,by rw [jN];exact JV.b3,E⟩))))
 refine aj 4 rfl (J bp ?_);refine a1 rfl (fun H'=>?_) (fun H'=>?_)
 ·have jN:v.get k=none:=by
   have h:look v.map k=none:=by simpa using H'
   simp [JV.get,h]
  refine aa fun bO=>ah (bc dz bA rfl rfl) (aK au ag rfl rfl fun iS hd=>?_);replace R:=R.ne hd.mod bl;replace E:=E.own hd.mod bJ;replace ag:aF iS g2 _ [_,_,_,_,_,_]:=hd.ar;exact a7 rfl (J bO (bn (aP (jO rfl au rfl (ag.cs rfl) rfl ⟨_,by rw [jN];rfl,by rw [jN];exact JV.b3,E⟩))))
 have fc:v.kind=5:=Classical.byContradiction Bl;obtain⟨x,bS,azd,F6⟩:=uM aE (by simpa using H');have Bm:v.get k=some x.2:=by simp [JV.get,fc,F6]
 have zZ:=(List.getElem?_eq_some_iff.1 bS).1;obtain⟨kJ,lz,dW,eJ,h'⟩:=JV.kQ j3 bS;obtain⟨j9,j',jf,ik,rfl,lA,mD⟩:=JV.aU eJ;have cA:=h'.I (Oa.then E);obtain rfl:=dW;refine b' (av a' (aa fun b4=>ah (aD cd rfl) (ah (bF dM rfl (R.cell rfl)) (aO rfl (ah (c8 dk rfl rfl (by omega)) (ah (fY iO rfl) (ah (fb au rfl rfl cA.vK) (aK au ag rfl rfl fun i' kI=>?_))))))));replace R:=R.ne kI.mod bl;replace E:=E.own kI.mod bJ;replace ag:aF i' g2 _ [_,_,_,_,_,_]:=kI.ar;exact a7 rfl (J b4 (bn (jO rfl au rfl (ag.cs rfl) rfl ⟨_,by rw [Bm];rfl,by rw [Bm];exact eJ,E⟩)))
theorem Ei (A:List Nat) (w0 w:World) (v:JV) (us:List Value) (aBn:ao A w0 v.D us):Calls aR 32 [.agg us.toArray].toArray w (bH fun u w'=>bq A w0 (.jH 7 (v.fN.map JV.jq)) u∧Mod [] w w'):=by
 refine bs Tryz.func32 rfl fun E=>?_;obtain⟨al,cl,am,cm,rfl,k3,j3⟩:=JV.aU aBn;refine aa fun a6=>eY rfl rfl rfl fun g1 aJ bZ=>?_;have aY:=bZ.le E;replace E:=E.then bZ.mod;have R:=bZ.ar;refine a7 rfl (J a6 (aB fun aQ=>aa fun a'=>ah (aD hK rfl) (ah (bF eg rfl (R.cell rfl)) (ah (fO rfl rfl) (J a' ?_)))));refine aX rfl (fun cZ=>?_) (fun cZ=>?_)
 ·have bW:v.fN = []:=by simp [JV.fN,cZ]
  exact aa fun bp=>a7 rfl (J bp (bn (aP (aG rfl rfl ⟨by rw [bW];exact bq.eh,E⟩))))
 have bW:v.fN=v.map:=by simp [JV.fN];intro h;exact absurd h cZ
 exact b' (av aQ (aa fun bx=>ah (aD cd rfl) (ah (bF dM rfl (R.cell rfl)) (a7 rfl (J bx (bn (aG rfl rfl ⟨by rw [bW];exact j3,E⟩)))))))
theorem yj (A:List Nat) (w0 w:World) (Oa:Mod [] w0 w) (m:List (ab×JV)) (v:Value) (aBn:bq A w0 (.jH 7 (m.map JV.jq)) v) (k:ab):Calls aR 86 [v,S k].toArray w (bH fun u w'=>∃ ga,u = .tuple #[.agg ga.toArray,.bool (look m k).isSome]∧ao A w0 ((look m k).getD JV.fg).D ga∧Mod [] w w'):=by
 refine cY Tryz.func86 rfl fun E=>?_;obtain⟨ad,c,rfl,eQ,h3⟩:∃ ad c,v = .slice ad m.length c∧m.length≤c∧c≤9223372036854775807:=by
  obtain⟨ad,c,h1,aq,bb⟩:=aBn.vL;rw [List.length_map] at h1 aq;exact⟨ad,c,h1,aq,bb⟩
 refine aa fun a6=>bj bA rfl fun g1 aJ bZ=>?_;have aY:=bZ.le E;replace E:=E.then bZ.mod;have R:=bZ.ar;refine a7 rfl (J a6 (aB fun aQ=>aa fun a'=>aO rfl (ah (bY cO rfl) (aO rfl (J a' (eN (bK (σ:=Nat) (fun i=>[(1,S k),(4,.pointer (some ⟨g1,0,none⟩)),(5,.bool false),(8,.slice ad m.length c),(9,.int .i64 m.length),(10,.int .i64 (i:Int))]) (fun i aJ=>i≤m.length∧(∀ (j:Nat) (y:ab×JV),j<i→m[j]? = some y→y.1≠k)∧aF aJ g1 25 [.int .i64 0,.bool false,.int .i64 0,S [],.slice none 0 0,.slice none 0 0]∧w.heap.size≤g1∧Mod [] w aJ) (fun i=>m.length-i) (0) (⟨by omega,fun j y h=>by omega,R,aY,E⟩) ?_)))))));rintro i cX ⟨hi,dy,R,aY,E⟩;refine aa fun bp=>ah (cT rfl rfl) (J bp (aB fun bx=>?_));refine aX rfl (fun wL=>?_) (fun wL=>?_);rotate_left
 ·refine bL (aP (aP (ch (av aQ (aa fun b6=>ah (bc dz bA rfl rfl) (aK au R rfl rfl fun i' kI=>?_))))));replace E:=E.own kI.mod aY;replace R:aF i' g1 _ [_,_,_,_,_,_]:=kI.ar;exact a7 rfl (J b6 (bn (jO rfl au rfl (R.cs rfl) rfl ⟨_,by rw [iq fun j y ba=>dy j y (by have:=(List.getElem?_eq_some_iff.1 ba).1;omega) ba];rfl,by rw [iq fun j y ba=>dy j y (by have:=(List.getElem?_eq_some_iff.1 ba).1;omega) ba];exact JV.b3,E⟩)))
 obtain⟨x,bS⟩:∃ x,m[i]? = some x:=⟨_,List.getElem?_eq_getElem (by omega)⟩;obtain⟨kJ,lz,dW,eJ,h'⟩:=JV.kQ aBn bS;obtain⟨j9,j',jf,ik,rfl,lA,mD⟩:=JV.aU eJ;have cA:=h'.I (Oa.then E);have jg:=JV.iA aBn;obtain rfl:=dW;refine b' (av bx (aB fun bO=>eN (aa fun b4=>ah (c8 dk rfl rfl (by omega)) (ah (fb jL rfl rfl cA) (bj eU rfl fun g2 gr cz=>?_)))));have bJ:=cz.le E;have bl:=cz.ne R;replace R:=R.I cz.mod;replace E:=E.then cz.mod;have ag:=cz.ar;refine nf jL ag rfl rfl fun h8 j0=>?_;replace R:=R.ne j0.mod bl;replace E:=E.own j0.mod bJ;replace ag:aF h8 g2 _ [_,_,_,_,_,_,_]:=j0.ar;refine J b4 (aa fun cw=>ah (aD e3 rfl) (ah (bF b2 rfl (ag.cell rfl)) (aO rfl (ah (jr rfl rfl) (J cw ?_)))));refine aX rfl (fun tG=>?_) (fun tG=>?_)
 ·have abu:look m k=some x.2:=Em dy bS tG;refine aa fun cy=>ah (aD iO rfl) (ah (br au rfl (ag.cs rfl)) (aK au R rfl rfl fun iS hd=>?_));replace ag:=ag.ne hd.mod (Ne.symm bl);replace E:=E.own hd.mod aY;replace R:aF iS g1 _ [_,_,_,_,_,_]:=hd.ar;exact a7 rfl (J cy (bn (bw (aP (aP (bw (aP (jO rfl au rfl (R.cs rfl) rfl ⟨_,by rw [abu];rfl,by rw [abu];exact eJ,E⟩))))))))
 have LP:∀ (j:Nat) (y:ab×JV),j<i+1→m[j]? = some y→y.1≠k:=fun j y eD ba=>by
  rcases Nat.lt_succ_iff_lt_or_eq.1 eD with h | h
  ·exact dy j y h ba
  subst h;rw [bS] at ba;injection ba with ba;subst ba;exact tG
 exact b' (bw (av bO (b5 (ah (bt rfl rfl (by omega)) (aO rfl (cx (aw (σ:=Nat) (s:=i) (i+1) ⟨by omega,LP,R,aY,E⟩)))))))
end Go.Proofs.YtkjgljnkocnnpaaGreatDoor.V
