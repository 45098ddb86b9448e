/-
  A part of the proof: a value's canonical text, read, is the value; a value with a canonical text is read from it as it is; what the row lays, as the reading asks for it; no writing fails with the number 0; what is read has a canonical text, unless it is too long; a map without one of its keys; an event out of a JSON value, taken member by member, in plain Lean; bytes as letters, six bits by six; six bits out of a number, a byte put behind a number, in the words of the machine's kinds; an append in the place of an own slice's rest; a slice with three bounds; an event's value without some of its members; an event's text without some of its members is one, if the event has a text; so has the stripped event; an event that can be, its text; what has a text has keys that rise; an event out of a JSON value: what is taken, one behind the other; an event out of a JSON value: how great it may be. No condition of its own.
-/
import Derived.Test.YtnihidkbkhcfoaaGreatDoorM10
import Derived.Test.YtnihidkbkhcfoaaGreatDoorM8
import Derived.Test.YtnihidkbkhcfoaaGreatDoorM3
import Derived.Test.YtnihidkbkhcfoaaGreatDoorRows
import Derived.Lib.LaidTab
import Derived.Lib.LaidU8
import Derived.Test.YtnihidkbkhcfoaaGreatDoorM7
import Derived.Test.YtnihidkbkhcfoaaGreatDoorM1
import Derived.Test.YtnihidkbkhcfoaaGreatDoorM5
import Derived.Test.YtnihidkbkhcfoaaGreatDoorM4
import Derived.Test.YtnihidkbkhcfoaaGreatDoorProg
import Derived.Test.YtnihidkbkhcfoaaGreatDoorM2
set_option linter.unusedVariables false
set_option linter.unusedSimpArgs false
namespace Go.Proofs.YtnihidkbkhcfoaaGreatDoor.V
open Go
theorem su (s:U):∀ f:Nat,(∀ k deep r,iY f s k deep=some r→iY (f+1) s k deep=some r)∧
  (∀ k deep acc r,oP f s k deep acc=some r→oP (f+1) s k deep acc=some r)∧
  (∀ k deep m r,oQ f s k deep m=some r→oQ (f+1) s k deep m=some r)
 | 0=>⟨fun _ _ _ h=>by simp [iY] at h,fun _ _ _ _ h=>by simp [oP] at h,fun _ _ _ _ h=>by simp [oQ] at h⟩
 | f+1=>by
  obtain⟨rH,wy,wz⟩:=su s f
  refine⟨fun pj deep r h=>?_,fun k deep acc r h=>?_,fun k deep m r h=>?_⟩
  ·rw [iY] at h ⊢
   generalize ag aG s pj=k at h ⊢
   dsimp only at h ⊢
   split at h
   ·rename_i c;rw [if_pos c];exact h
   rename_i c;rw [if_neg c]
   split at h
   ·rename_i c;rw [if_pos c];exact h
   rename_i c;rw [if_neg c]
   split at h
   ·rename_i c;rw [if_pos c];exact h
   rename_i c;rw [if_neg c]
   split at h
   ·rename_i c;rw [if_pos c];exact h
   rename_i c;rw [if_neg c]
   split at h
   ·rename_i c;rw [if_pos c]
    split at h
    ·rename_i c;rw [if_pos c];exact h
    rename_i c;rw [if_neg c]
    split at h
    ·rename_i c;rw [if_pos c]
     split at h
     ·rename_i c;rw [if_pos c];exact h
     rename_i c;rw [if_neg c]
     exact wy _ _ _ _ h
    rename_i c;rw [if_neg c]
    split at h
    ·rename_i c;rw [if_pos c];exact h
    rename_i c;rw [if_neg c]
    exact wz _ _ _ _ h
   rename_i c;rw [if_neg c];exact h
  ·rw [oP] at h ⊢
   split at h
   ·cases h
   ·rename_i e bw;rw [rH _ _ _ bw];exact h
   rename_i y iP bw
   rw [rH _ _ _ bw]
   dsimp only at h ⊢
   split at h
   ·rename_i c;rw [if_pos c];exact h
   rename_i c;rw [if_neg c]
   split at h
   ·rename_i c;rw [if_pos c];exact wy _ _ _ _ h
   rename_i c;rw [if_neg c];exact h
  rw [oQ] at h ⊢
  split at h
  ·rename_i e hk;exact h
  rename_i t dr hk
  split at h
  ·cases h
  ·rename_i e bw;rw [rH _ _ _ bw];exact h
  rename_i y iP bw
  rw [rH _ _ _ bw]
  dsimp only at h ⊢
  split at h
  ·rename_i c;rw [if_pos c];exact h
  rename_i c;rw [if_neg c]
  split at h
  ·rename_i c;rw [if_pos c];exact wz _ _ _ _ h
  rename_i c;rw [if_neg c];exact h
theorem vv {s:U} {f g k deep:Nat} {r:yo} (h:iY f s k deep=some r) (cN:f≤g):iY g s k deep=some r:=by
 induction g with
 | zero=>
  obtain rfl:f=0:=by omega
  exact h
 | succ g dh=>
  rcases Nat.lt_or_ge g f with h1 | h1
  ·obtain rfl:f=g+1:=by omega
   exact h
  exact(su s g).1 _ _ _ (dh h1)
theorem Qm {s:U} {f g k deep:Nat} {acc:List JV} {r:yo} (h:oP f s k deep acc=some r) (cN:f≤g):oP g s k deep acc=some r:=by
 induction g with
 | zero=>
  obtain rfl:f=0:=by omega
  exact h
 | succ g dh=>
  rcases Nat.lt_or_ge g f with h1 | h1
  ·obtain rfl:f=g+1:=by omega
   exact h
  exact(su s g).2.1 _ _ _ _ (dh h1)
theorem Qn {s:U} {f g k deep:Nat} {acc:List (U×JV)} {r:yo} (h:oQ f s k deep acc=some r) (cN:f≤g):oQ g s k deep acc=some r:=by
 induction g with
 | zero=>
  obtain rfl:f=0:=by omega
  exact h
 | succ g dh=>
  rcases Nat.lt_or_ge g f with h1 | h1
  ·obtain rfl:f=g+1:=by omega
   exact h
  exact(su s g).2.2 _ _ _ _ (dh h1)
theorem LN {s:U} {f g k deep:Nat} {r Vd:yo} (h:iY f s k deep=some r) (fb:iY g s k deep=some Vd):r=Vd:=by
 have h1:=vv h (Nat.le_max_left f g);have aj:=vv fb (Nat.le_max_right f g);rw [h1] at aj;injection aj
theorem cR {s:U} {k:Nat} {c:UInt8} {r:U} (h:s.drop k=c::r):s[k]? = some c∧s.drop (k+1)=r:=by
 have hk:s[k]? = some c:=by
  have:=congrArg (fun l=>l[0]?) h;simpa [List.getElem?_drop] using this
 rw [fq hk] at h;injection h with _ h
 exact⟨hk,h⟩
theorem kI {s a r:U} {k:Nat} (h:s.drop k=a++r):s.drop (k+a.length)=r:=by
 rw [← List.drop_drop,h,List.drop_left' rfl]
theorem b0 {s r t:U} {k:Nat} {c d:UInt8} (h:s.drop k=c::r) (bL:d≠c):av s k (d::t)=false:=by
 rw [av,h,List.isPrefixOf,beq_eq_false_iff_ne.2 bL];rfl
theorem tK {s t r:U} {k:Nat} (h:s.drop k=t++r):av s k t=true:=by
 rw [yV,h,List.take_left' rfl]
theorem fI {s r:U} {k:Nat} {c:UInt8} (h:s.drop k=c::r) (a6:aG c=false):ag aG s k=k:=jG (cR h).1 a6
def LO (c:UInt8):Prop:=aG c=false∧c≠93∧c≠125
def ahh (r:U):Prop:=∀ c,r[0]? = some c→dW c=false
def Ee (v:JV) (deep:Nat) (t:U):Prop:=(∃ c r,t=c::r∧LO c)∧∀ s k rest,s.drop k=t++rest→ahh rest→∃ f,iY f s k deep=some (.ok (v,k+t.length))
theorem Fa (n:Int):∃ c r,Lib.itoa n=c::r∧(c=45∨a' c=true):=by
 unfold Lib.itoa
 split
 ·exact⟨45,_,rfl,.inl rfl⟩
 cases h:Lib.decDigits n.toNat with
 | nil=>exact absurd h (qB _)
 | cons c r=>exact⟨c,r,rfl,.inr (oc n.toNat c (by rw [h];simp))⟩
theorem Ve {c:UInt8} (h:c=45∨a' c=true) (d:UInt8) (bL:¬ (d.toNat=45∨(48≤d.toNat∧d.toNat≤57))):d≠c:=by
 intro e;subst e;apply bL;rcases h with rfl | h
 ·left;rfl
 right;simp only [a',Bool.and_eq_true,decide_eq_true_eq] at h;exact h
theorem Qo {deep:Nat}:Ee JV.fQ deep JV.kF:=by
 refine⟨⟨110,_,rfl,by decide,by decide,by decide⟩,fun s k rest h _=>⟨1,?_⟩⟩;have hw:=fI (c:=110) h rfl;rw [iY];simp only;rw [hw,if_pos (tK h)];rfl
theorem LP {deep:Nat}:Ee (.mk 1 true 0 [] [] []) deep JV.jo:=by
 refine⟨⟨116,_,rfl,by decide,by decide,by decide⟩,fun s k rest h _=>⟨1,?_⟩⟩;have hw:=fI (c:=116) h rfl;rw [iY];simp only;rw [hw,b0 (c:=116) h (by decide),if_neg (by simp),if_pos (tK h)];rfl
theorem It {deep:Nat}:Ee (.mk 1 false 0 [] [] []) deep JV.hD:=by
 refine⟨⟨102,_,rfl,by decide,by decide,by decide⟩,fun s k rest h _=>⟨1,?_⟩⟩;have hw:=fI (c:=102) h rfl;rw [iY];simp only;rw [hw,b0 (c:=102) h (by decide),if_neg (by simp),b0 (c:=102) h (by decide),if_neg (by simp),if_pos (tK h)];rfl
theorem Qp {deep:Nat} {n:Int} (bD : -9007199254740991≤n) (h1:n≤9007199254740991):Ee (JV.fs n) deep (Lib.itoa n):=by
 obtain⟨c,r,a6,bL⟩:=Fa n;have bS:=fun d pY=>Ve bL d pY;refine⟨⟨c,r,a6,?_,(bS 93 (by decide)).symm,(bS 125 (by decide)).symm⟩,fun s k rest h bf=>⟨1,?_⟩⟩
 ·unfold aG;rw [beq_eq_false_iff_ne.2 (bS 32 (by decide)).symm,beq_eq_false_iff_ne.2 (bS 9 (by decide)).symm,beq_eq_false_iff_ne.2 (bS 10 (by decide)).symm,beq_eq_false_iff_ne.2 (bS 13 (by decide)).symm];rfl
 have l1:aG c=false:=by
  unfold aG;rw [beq_eq_false_iff_ne.2 (bS 32 (by decide)).symm,beq_eq_false_iff_ne.2 (bS 9 (by decide)).symm,beq_eq_false_iff_ne.2 (bS 10 (by decide)).symm,beq_eq_false_iff_ne.2 (bS 13 (by decide)).symm];rfl
 have aN:s.drop k=c::(r++rest):=by rw [h,a6];rfl
 rw [iY];simp only;rw [fI aN l1,b0 aN (bS 110 (by decide)),b0 aN (bS 116 (by decide)),b0 aN (bS 102 (by decide)),b0 aN (bS 34 (by decide)),b0 aN (bS 91 (by decide)),b0 aN (bS 123 (by decide))];simp only [Bool.false_eq_true,if_false,Bool.or_self];rw [E9 bD h1 h bf]
theorem rI (t:U):b7 t=34::(cW t ++ [34]):=rfl
theorem Qq {deep:Nat} {t:U} (bw:ck t=true):Ee (JV.aY t) deep (b7 t):=by
 refine⟨⟨34,_,rI t,by decide,by decide,by decide⟩,fun s k rest h _=>⟨1,?_⟩⟩;have aN:s.drop k=34::(cW t ++ [34]++rest):=by rw [h,rI];rfl
 rw [iY];simp only;rw [fI aN rfl,b0 aN (by decide),b0 aN (by decide),b0 aN (by decide)];simp only [Bool.false_eq_true,if_false];rw [if_pos (fr.2 (cR aN).1),y2 bw h]
theorem y5 {s t rest:U} {k:Nat} {m:List (U×JV)} (bw:ck t=true) (bW:look m t=none) (h:s.drop k=b7 t++58::rest):ih s k m = .ok (t,k+(b7 t).length+1):=by
 have aN:s.drop k=34::(cW t ++ [34]++58::rest):=by rw [h,rI];rfl
 have aj:s.drop (k+(b7 t).length)=58::rest:=kI h;unfold ih;rw [fI aN rfl,y2 bw h];simp only;rw [bW,if_neg (by simp),fI aj rfl,if_pos (fr.2 (cR aj).1)]
def LQ (l:List JV) (deep:Nat) (t:U):Prop:=∀ s k acc rest,s.drop k=t++93::rest→∃ f,oP f s k (deep+1) acc=some (.ok (JV.fw (acc++l),k+t.length+1))
theorem LR {x:JV} {deep:Nat} {t:U} (h:Ee x (deep+1) t):LQ [x] deep t:=fun s k acc rest aN=>by
 obtain⟨f,dm⟩:=h.2 s k _ aN (fun c a6=>by simp at a6;subst a6;rfl);refine⟨f+1,?_⟩;have aj:s.drop (k+t.length)=93::rest:=kI aN;rw [oP,dm];simp only;rw [fI aj rfl,if_pos (fr.2 (cR aj).1)]
theorem Iu {x:JV} {l:List JV} {deep:Nat} {t t':U} (h:Ee x (deep+1) t) (fb:LQ l deep t'):LQ (x::l) deep (t ++ [44]++t'):=fun s k acc rest aN=>by
 have jn:s.drop k=t++44::(t'++93::rest):=by rw [aN];simp
 obtain⟨f,dm⟩:=h.2 s k _ jn (fun c a6=>by simp at a6;subst a6;rfl);have aj:s.drop (k+t.length)=44::(t'++93::rest):=kI jn;obtain⟨g,cN⟩:=fb s (k+t.length+1) (acc ++ [x]) rest (cR aj).2;refine⟨max f g+1,?_⟩;rw [oP,vv dm (Nat.le_max_left f g)];simp only;rw [fI aj rfl,b0 aj (by decide),if_neg (by simp),if_pos (fr.2 (cR aj).1),Qm cN (Nat.le_max_right f g)];simp only [List.append_assoc,List.singleton_append,List.length_append,List.length_cons,List.length_nil,Option.some.injEq,Except.ok.injEq,Prod.mk.injEq,true_and];omega
def LS (m:List (U×JV)) (deep:Nat) (t:U):Prop:=∀ s k m0 rest,s.drop k=t++125::rest→(∀ p∈m0,∀ q∈m,fA p.1 q.1=true)→cZ m0→∃ f,oQ f s k (deep+1) m0=some (.ok (JV.obj (m0++m),k+t.length+1))
theorem wH {m0:List (U×JV)} {t:U} {x:JV} (h:∀ p∈m0,fA p.1 t=true):dJ m0 t x=m0 ++ [(t,x)]∧look m0 t=none:=by
 constructor
 ·unfold dJ;rw [List.filter_eq_self.2 h,List.filter_eq_nil_iff.2 (fun p bJ e=>by
   have h1:=h p bJ;have:=fo h1 e;rw [cS] at this;cases this)]
  simp
 refine hT fun j y aR e=>?_;have:=h y (List.mem_of_getElem? aR);rw [e,cS] at this;cases this
theorem LU {m0:List (U×JV)} {t:U} {x:JV} (ax:cZ m0) (h:∀ p∈m0,fA p.1 t=true):cZ (m0 ++ [(t,x)]):=by
 rw [← (wH (x:=x) h).1];exact oe ax
theorem LV {x:U×JV} {deep:Nat} {t:U} (bw:ck x.1=true) (h:Ee x.2 (deep+1) t):LS [x] deep (b7 x.1 ++ [58]++t):=fun s k m0 rest aN hm ax=>by
 have jn:s.drop k=b7 x.1++58::(t++125::rest):=by rw [aN];simp
 obtain⟨bJ,bM⟩:=wH (x:=x.2) (fun p bJ=>hm p bJ x (by simp));have aF:s.drop (k+(b7 x.1).length+1)=t++125::rest:=(cR (kI jn)).2;obtain⟨f,dm⟩:=h.2 s _ _ aF (fun c a6=>by simp at a6;subst a6;rfl);have aj:s.drop (k+(b7 x.1).length+1+t.length)=125::rest:=kI aF;refine⟨f+1,?_⟩;rw [oQ,y5 bw bM jn];simp only;rw [dm];simp only;rw [fI aj rfl,if_pos (fr.2 (cR aj).1),bJ];simp only [List.length_append,List.length_cons,List.length_nil,Option.some.injEq,Except.ok.injEq,Prod.mk.injEq,true_and];omega
theorem Iv {x:U×JV} {m:List (U×JV)} {deep:Nat} {t t':U} (bw:ck x.1=true) (ab:∀ q∈m,fA x.1 q.1=true) (h:Ee x.2 (deep+1) t) (fb:LS m deep t'):LS (x::m) deep (b7 x.1 ++ [58]++t ++ [44]++t'):=fun s k m0 rest aN hm ax=>by
 have jn:s.drop k=b7 x.1++58::(t++44::(t'++125::rest)):=by rw [aN];simp
 have abq:∀ p∈m0,fA p.1 x.1=true:=fun p bJ=>hm p bJ x (by simp);obtain⟨bJ,bM⟩:=wH (x:=x.2) abq;have aF:s.drop (k+(b7 x.1).length+1)=t++44::(t'++125::rest):=(cR (kI jn)).2;obtain⟨f,dm⟩:=h.2 s _ _ aF (fun c a6=>by simp at a6;subst a6;rfl);have aj:s.drop (k+(b7 x.1).length+1+t.length)=44::(t'++125::rest):=kI aF;obtain⟨g,cN⟩:=fb s (k+(b7 x.1).length+1+t.length+1) (m0 ++ [(x.1,x.2)]) rest (cR aj).2 (fun p bJ q eE=>by
  rcases List.mem_append.1 bJ with bJ | bJ
  ·exact hm p bJ q (by simp [eE])
  simp only [List.mem_singleton] at bJ;subst bJ;exact ab q eE) (LU ax abq)
 refine⟨max f g+1,?_⟩;rw [oQ,y5 bw bM jn];simp only;rw [vv dm (Nat.le_max_left f g)];simp only;rw [fI aj rfl,b0 aj (by decide),if_neg (by simp),if_pos (fr.2 (cR aj).1),bJ,Qn cN (Nat.le_max_right f g)];simp only [List.append_assoc,List.singleton_append,List.length_append,List.length_cons,List.length_nil,Option.some.injEq,Except.ok.injEq,Prod.mk.injEq,true_and,List.cons_append,List.nil_append];omega
theorem LW {deep:Nat} (bL:deep≠32):Ee (JV.fw []) deep [91,93]:=by
 refine⟨⟨91,_,rfl,by decide,by decide,by decide⟩,fun s k rest h _=>⟨1,?_⟩⟩;have aN:s.drop k=91::(93::rest):=h;have aj:=(cR aN).2;rw [iY];simp only;rw [fI aN rfl,b0 aN (by decide),b0 aN (by decide),b0 aN (by decide),b0 aN (by decide)];simp only [Bool.false_eq_true,if_false];rw [fr.2 (cR aN).1,Bool.true_or,if_pos rfl,if_neg bL,if_pos rfl,fI aj rfl,if_pos (fr.2 (cR aj).1)];rfl
theorem LX {deep:Nat} (bL:deep≠32):Ee (JV.obj []) deep [123,125]:=by
 refine⟨⟨123,_,rfl,by decide,by decide,by decide⟩,fun s k rest h _=>⟨1,?_⟩⟩;have aN:s.drop k=123::(125::rest):=h;have aj:=(cR aN).2;rw [iY];simp only;rw [fI aN rfl,b0 aN (by decide),b0 aN (by decide),b0 aN (by decide),b0 aN (by decide),b0 (d:=91) aN (by decide)];simp only [Bool.false_eq_true,if_false];rw [fr.2 (cR aN).1,Bool.or_true,if_pos rfl,if_neg bL,fI aj rfl,if_pos (fr.2 (cR aj).1)];rfl
theorem Qr {l:List JV} {deep:Nat} {c:UInt8} {r:U} (bL:deep≠32) (a6:LO c) (h:LQ l deep (c::r)):Ee (JV.fw l) deep (91::((c::r) ++ [93])):=by
 refine⟨⟨91,_,rfl,by decide,by decide,by decide⟩,fun s k rest aN _=>?_⟩;have jn:s.drop k=91::((c::r)++93::rest):=by rw [aN];simp
 have aj:=(cR jn).2;obtain⟨f,dm⟩:=h s (k+1) [] rest aj;refine⟨f+1,?_⟩;have Av:s.drop (k+1)=c::(r++93::rest):=aj;rw [iY];simp only;rw [fI jn rfl,b0 jn (by decide),b0 jn (by decide),b0 jn (by decide),b0 jn (by decide)];simp only [Bool.false_eq_true,if_false];rw [fr.2 (cR jn).1,Bool.true_or,if_pos rfl,if_neg bL,if_pos rfl,fI Av a6.1,b0 Av a6.2.1.symm,if_neg (by simp),dm];simp only [List.nil_append,List.length_append,List.length_cons,List.length_nil,Option.some.injEq,Except.ok.injEq,Prod.mk.injEq,true_and];omega
theorem Qs {m:List (U×JV)} {deep:Nat} {c:UInt8} {r:U} (bL:deep≠32) (a6:LO c) (h:LS m deep (c::r)):Ee (JV.obj m) deep (123::((c::r) ++ [125])):=by
 refine⟨⟨123,_,rfl,by decide,by decide,by decide⟩,fun s k rest aN _=>?_⟩;have jn:s.drop k=123::((c::r)++125::rest):=by rw [aN];simp
 have aj:=(cR jn).2;obtain⟨f,dm⟩:=h s (k+1) [] rest aj (by simp) List.Pairwise.nil;refine⟨f+1,?_⟩;have Av:s.drop (k+1)=c::(r++125::rest):=aj;rw [iY];simp only;rw [fI jn rfl,b0 jn (by decide),b0 jn (by decide),b0 jn (by decide),b0 jn (by decide),b0 (d:=91) jn (by decide)];simp only [Bool.false_eq_true,if_false];rw [fr.2 (cR jn).1,Bool.or_true,if_pos rfl,if_neg bL,fI Av a6.1,b0 Av a6.2.2.symm,if_neg (by simp),dm];simp only [List.nil_append,List.length_append,List.length_cons,List.length_nil,Option.some.injEq,Except.ok.injEq,Prod.mk.injEq,true_and];omega
theorem uR {b s eA:U} (h:gC b s = .ok eA):ck s=true∧eA=b++b7 s:=by
 unfold gC at h
 split at h
 ·cases h
 split at h
 ·rename_i bw
  exact⟨bw,(eM h).1⟩
 cases h
theorem Fb {s:U} (h:∀ c:U,(c++b7 s).length≤65536→gC c s = .ok (c++b7 s)) (bM:(b7 s).length≤65536):ck s=true:=(uR (h [] (by simpa using bM))).1
namespace JV
theorem Iw {v:JV} (h:v.list.length=0):v.list = []:=List.eq_nil_of_length_eq_zero h
theorem map_nil {v:JV} (h:v.map.length=0):v.map = []:=List.eq_nil_of_length_eq_zero h
theorem jI {v:JV} (h:v.bare=true):(v.kind=1∨v.is=false)∧(v.kind=2∨v.num=0)∧(v.kind=3∨v.str = [])∧(v.kind=4∨v.list = [])∧(v.kind=5∨v.map = []):=by
 unfold bare at h;simp only [Bool.and_eq_true,Bool.or_eq_true,decide_eq_true_eq,Bool.not_eq_true',decide_eq_false_iff_not] at h;obtain⟨⟨⟨⟨⟨⟨bD,h1⟩,aj⟩,aF⟩,bn⟩,ch⟩,eB⟩:=h;exact⟨h1,aj,aF,bn.imp id Iw,ch.imp id map_nil⟩
theorem mk_eq {v:JV} {k n:Int} {i:Bool} {s:U} {l:List JV} {m:List (U×JV)} (h1:v.kind=k) (aj:v.is=i) (aF:v.num=n) (bn:v.str=s) (ch:v.list=l) (eB:v.map=m):v = .mk k i n s l m:=by
 rw [eta v,h1,aj,aF,bn,ch,eB]
end JV
theorem l2 {b t eA:U} (h:dw (b++t) = .ok eA):eA=b++t:=(eM h).1
theorem Ci {N:Nat} (dh:∀ (v:JV) (deep:Nat) (b eA:U),v.sz≤N→JV.wr v deep b = .ok eA→∃ t,eA=b++t∧Ee v deep t) :
  ∀ (x:JV) (l:List JV) (deep:Nat) (fst:Bool) (b eA:U),(∀ y∈x::l,y.sz≤N)→JV.h9 (x::l) deep fst b = .ok eA→∃ t,eA=b++(if fst then [] else [44])++t∧(∃ c r,t=c::r∧LO c)∧LQ (x::l) deep t
 | x,l,deep,fst,b,eA,hj,h=>by
  rw [JV.jr] at h
  obtain⟨ev,h1,h⟩:=cB h
  obtain⟨eW,aj,h⟩:=cB h
  obtain⟨t,rfl,aH⟩:=dh _ _ _ _ (hj x (by simp)) aj
  have aV:ev=b++(if fst then [] else [44]):=by
   cases fst with
   | true=>injection h1 with h1;subst h1;simp
   | false=>exact l2 h1
  subst aV
  cases l with
  | nil=>
   rw [JV.h9] at h
   injection h with h
   exact⟨t,h.symm,aH.1,LR aH⟩
  | cons y l=>
   obtain⟨t',rfl,_,wI⟩:=Ci dh y l deep false _ _ (fun z cO=>hj z (by simp [List.mem_cons.1 cO])) h
   refine⟨t ++ [44]++t',by simp,?_,Iu aH wI⟩
   obtain⟨c,r,rfl,a6⟩:=aH.1
   exact⟨c,_,rfl,a6⟩
theorem Cj {N:Nat} (dh:∀ (v:JV) (deep:Nat) (b eA:U),v.sz≤N→JV.wr v deep b = .ok eA→∃ t,eA=b++t∧Ee v deep t) :
  ∀ (x:U×JV) (m:List (U×JV)) (deep:Nat) (prev:Option U) (b eA:U),eA.length≤65536→(∀ y∈x::m,y.2.sz≤N)→JV.fk (x::m) deep prev b = .ok eA→∃ t,eA=b++JV.comma prev++t∧(∃ c r,t=c::r∧LO c)∧LS (x::m) deep t
 | x,m,deep,prev,b,eA,bM,hj,h=>by
  obtain⟨_,eW,aj,aF,bQ,eE⟩:=JV.sv h
  have bw:ck x.1=true:=Fb bQ (by simp only [List.length_append] at eE ⊢;omega)
  obtain⟨t,rfl,aH⟩:=dh _ _ _ _ (hj x (by simp)) aj
  cases m with
  | nil=>
   rw [JV.fk] at aF
   injection aF with aF
   exact⟨b7 x.1 ++ [58]++t,by rw [← aF];simp,⟨34,_,rfl,by decide,by decide,by decide⟩,LV bw aH⟩
  | cons y m=>
   have ab:=(JV.sw _ _ _ _ _ aF).2 x.1 rfl
   obtain⟨t',rfl,_,wI⟩:=Cj dh y m deep (some x.1) _ _ bM (fun z cO=>hj z (by simp [List.mem_cons.1 cO])) aF
   exact⟨b7 x.1 ++ [58]++t ++ [44]++t',by simp [JV.comma],⟨34,_,rfl,by decide,by decide,by decide⟩,Iv bw ab aH wI⟩
theorem y7:∀ (N:Nat) (v:JV) (deep:Nat) (b eA:U),v.sz≤N→JV.wr v deep b = .ok eA→∃ t,eA=b++t∧Ee v deep t
 | 0,v,_,_,_,h,_=>absurd (JV.nI v) (by omega)
 | N+1,v,deep,b,eA,hj,h=>by
  have dh:=y7 N
  have hlen:eA.length≤65536:=(JV.fit h).elim fun t bQ=>bQ.2.1
  rw [JV.dZ] at h
  split at h
  ·cases h
  rename_i aH
  have aH:v.bare=true:=by simpa using aH
  have j8:=@JV.oT v aH
  obtain⟨ET,Ef,GS,Eg,Ck⟩:=JV.jI aH
  split at h
  ·rename_i pj
   obtain rfl:v=JV.fQ:=JV.mk_eq pj (ET.resolve_left (by omega)) (Ef.resolve_left (by omega)) (GS.resolve_left (by omega)) (Eg.resolve_left (by omega)) (Ck.resolve_left (by omega))
   exact⟨_,l2 h,Qo⟩
  rename_i pj
  split at h
  ·rename_i dr
   cases hi:v.is with
   | true=>
    obtain rfl:v = .mk 1 true 0 [] [] []:=JV.mk_eq dr hi (Ef.resolve_left (by omega)) (GS.resolve_left (by omega)) (Eg.resolve_left (by omega)) (Ck.resolve_left (by omega))
    exact⟨_,l2 h,LP⟩
   | false=>
    obtain rfl:v = .mk 1 false 0 [] [] []:=JV.mk_eq dr hi (Ef.resolve_left (by omega)) (GS.resolve_left (by omega)) (Eg.resolve_left (by omega)) (Ck.resolve_left (by omega))
    exact⟨_,l2 h,It⟩
  rename_i dr
  split at h
  ·rename_i iP
   obtain⟨Af,qy⟩:=yU aH iP
   have bw:v=JV.fs v.num:=JV.mk_eq iP (ET.resolve_left (by omega)) rfl (GS.resolve_left (by omega)) (Eg.resolve_left (by omega)) (Ck.resolve_left (by omega))
   rw [bw]
   exact⟨_,l2 h,Qp Af qy⟩
  rename_i iP
  split at h
  ·rename_i pV
   have bw:v=JV.aY v.str:=JV.mk_eq pV (ET.resolve_left (by omega)) (Ef.resolve_left (by omega)) rfl (Eg.resolve_left (by omega)) (Ck.resolve_left (by omega))
   obtain⟨h1,aj⟩:=uR h
   rw [bw]
   exact⟨_,aj,Qq h1⟩
  rename_i pV
  split at h
  ·cases h
  rename_i bL
  split at h
  ·rename_i rG
   have bw:v=JV.fw v.list:=JV.mk_eq rG (ET.resolve_left (by omega)) (Ef.resolve_left (by omega)) (GS.resolve_left (by omega)) rfl (Ck.resolve_left (by omega))
   obtain⟨ev,h1,aF⟩:=cB h
   obtain⟨eW,aj,bn⟩:=cB aF
   have aV:=l2 h1
   have GU:=l2 bn
   clear aF bn h1 h
   subst aV
   subst GU
   have ha:∀ y∈v.list,y.sz≤N:=fun y aR=>by have:=JV.hv aR;omega
   rw [bw]
   cases bM:v.list with
   | nil=>
    rw [bM,JV.h9] at aj
    injection aj with aj
    subst aj
    exact⟨[91,93],by simp,LW bL⟩
   | cons x l=>
    rw [bM] at aj ha
    obtain⟨t,rfl,⟨c,r,rfl,a6⟩,dT⟩:=Ci dh x l deep true _ _ ha aj
    exact⟨91::((c::r) ++ [93]),by simp,Qr bL a6 dT⟩
  rename_i rG
  have q4:v.kind=5:=by omega
  have bw:v=JV.obj v.map:=JV.mk_eq q4 (ET.resolve_left (by omega)) (Ef.resolve_left (by omega)) (GS.resolve_left (by omega)) (Eg.resolve_left (by omega)) rfl
  obtain⟨ev,h1,aF⟩:=cB h
  obtain⟨eW,aj,bn⟩:=cB aF
  have aV:=l2 h1
  have GU:=l2 bn
  clear aF bn h1 h
  subst aV
  subst GU
  have ha:∀ y∈v.map,y.2.sz≤N:=fun y aR=>by have:=JV.gI aR;omega
  rw [bw]
  cases bM:v.map with
  | nil=>
   rw [bM,JV.fk] at aj
   injection aj with aj
   subst aj
   exact⟨[123,125],by simp,LX bL⟩
  | cons x m=>
   rw [bM] at aj ha
   obtain⟨t,rfl,⟨c,r,rfl,a6⟩,dT⟩:=Cj dh x m deep none _ _ (by simp only [List.length_append] at hlen ⊢;omega) ha aj
   exact⟨123::((c::r) ++ [125]),by simp [JV.comma],Qs bL a6 dT⟩
theorem Qt {s:U} {f:Nat} {r:yo} (h:iY f s 0 0=some r):EZ s=r:=LN (GQ s) h
theorem y8 {v:JV} {t:U} (h:v.wr 0 [] = .ok t):parse t = .ok v:=by
 obtain⟨t',e,dT⟩:=y7 v.sz v 0 [] t (Nat.le_refl _) h;rw [List.nil_append] at e;subst e;have hlen:t.length≤65536:=(JV.fit h).elim fun t bQ=>bQ.2.1;obtain⟨f,dm⟩:=dT.2 t 0 [] (by simp) (fun c a6=>by simp at a6);unfold parse;rw [if_neg (by omega),Qt dm];simp only;rw [jq (by omega),if_neg (by omega)]
end Go.Proofs.YtnihidkbkhcfoaaGreatDoor.V
set_option maxRecDepth 10000
namespace Go.Proofs.YtnihidkbkhcfoaaGreatDoor.V
open Go Go.Proofs
end Go.Proofs.YtnihidkbkhcfoaaGreatDoor.V
set_option maxRecDepth 100000
namespace Go.Proofs.YtnihidkbkhcfoaaGreatDoor.V
open Go Go.Proofs Go.Lib
theorem B4:Go.Pinned.utf8First=Lib.firstData:=by kernel_rfl
theorem Ii:(Go.Proofs.YtnihidkbkhcfoaaGreatDoor.Rows.laid_unicode_utf8_acceptRanges:DataW Unit)=Lib.acceptData:=by kernel_rfl
theorem abb {W:World} (aF:VarReads Tryz.prog W "unicode/utf8.first" Lib.firstData) (bn:VarReads Tryz.prog W "unicode/utf8.acceptRanges" Lib.acceptData):ve W:=
 utf8Tabs_of_reads (P:=Tryz.prog) (ρ:=Tryz.sj) {Tryz.wm with} ⟨by kernel_rfl,by kernel_rfl,by kernel_rfl,by kernel_rfl,by kernel_rfl,by kernel_rfl,by kernel_rfl⟩ aF bn
theorem B5 {P:Program} {qy:String} {d1:DataW Unit} {rest:List (String×DataW Unit)} {W:World} (h:laidMet P ((qy,d1)::rest) W):laidMet P rest W:=by
 obtain⟨hI,⟨g,t,cs,fuel,p,q,_,_,_,_,eE,rfl⟩,bW,a6⟩:=h;exact⟨q,eE,(List.nodup_append.1 bW).2.1,fun b off aH=>a6 b off (List.mem_append_right _ aH)⟩
theorem Lu {W:World} {n anr:String} {d:DataW Unit} {g t:Nat} {ms:Array (String×TypeId)} (h:VarReads Tryz.prog W n (.iface anr d)) (cN:Tryz.prog.globalNamed n=some g) (aR:(Tryz.prog.globals[g]?).map (·.type)=some t) (bQ:Tryz.prog.underlying t=some (.interface ms)):∃ u v,W.cell? ⟨g,0,none⟩=some (.iface u v):=by
 obtain⟨ER,t',cs,fuel,p,h1,aj,aF,bn⟩:=h;rw [cN] at h1;injection h1 with h1
 subst h1;rw [aR] at aj;injection aj with aj
 subst aj;have rB:∃ u v,cs.toList = [.iface u v]:=by
  cases fuel with
  | zero=>simp [DataW.trod] at bn
  | succ fuel=>
   unfold DataW.trod at bn;simp only [bQ] at bn
   split at bn <;> first | (exact⟨_,_,by assumption⟩) | (simp at bn;done) | (rename_i aV bs;exact⟨_,_,bs⟩) | simp_all
 obtain⟨u,v,rB⟩:=rB;refine⟨u,v,?_⟩;unfold World.var? at aF;rw [cN] at aF;simp only [Option.bind_some] at aF;unfold World.cell?
 split at aF
 ·rename_i c t f jE
  injection aF with aF
  subst aF;rw [jE];have:c = #[.iface u v]:=by rw [← Array.toList_inj];exact rB
  subst this;rfl
 cases aF
theorem UI {W:World} (h:laidMet Tryz.prog Go.Proofs.YtnihidkbkhcfoaaGreatDoor.Rows.jsonTellsRow.laid W):Env W:=by
 have hZ:ve W:=abb (B4▸laidMet.reads h (.tail _ (.tail _ (.tail _ (.tail _ (.tail _ (.tail _ (.head _)))))))) (Ii▸laidMet.reads h (.tail _ (.tail _ (.tail _ (.head _)))));have kX:=Lu (g:=3) (laidMet.reads h (.tail _ (.tail _ (.tail _ (.tail _ (.head _)))))) (by kernel_rfl) (by kernel_rfl) jk;have kl:=Lu (g:=2) (laidMet.reads h (.tail _ (.tail _ (.tail _ (.tail _ (.tail _ (.head _))))))) (by kernel_rfl) (by kernel_rfl) jk;obtain⟨h7,v1,h1⟩:=kX;obtain⟨ly,v2,aj⟩:=kl;refine⟨?_,hZ,⟨⟨_,aj,.inr ⟨_,_,rfl⟩⟩,⟨_,h1,.inr ⟨_,_,rfl⟩⟩⟩,?_⟩
 ·exact Lib.tabIs_of_head (rest:=_) La (by kernel_rfl) Tryz.underlying245 Tryz.underlying154 (by kernel_rfl) (by kernel_rfl) (B5 (B5 h))
 have bD:=(hZ.2 0 (by decide)).1;rcases Nat.lt_or_ge 6 W.heap.size with bM | bM
 ·exact bM
 unfold World.cell? at bD;rw [Array.getElem?_eq_none bM] at bD;cases bD
end Go.Proofs.YtnihidkbkhcfoaaGreatDoor.V
set_option maxRecDepth 10000
namespace Go.Proofs.YtnihidkbkhcfoaaGreatDoor.V
open Go Go.Proofs
section
variable {H:Type} {enc:TypeId×Value→H} {w:World}
theorem Sh (n:Nat):ga enc Tryz.prog w n 25 JV.D JV.ok:=by
 induction n using Nat.strongRecOn with
 | ind n dh=>
  cases n with
  | zero=>exact ga.zero
  | succ n=>
   have bM:ga enc Tryz.prog w n 22 (fun xs:List JV=>[.iW 6 (xs.map JV.D)]) (fun xs=>(∀ x∈xs,x.ok)∧xs.length*88≤140737488351232):=by
    cases n with
    | zero=>exact ga.zero
    | succ n=>exact o5 Tryz.underlying22 (by kernel_rfl) (by kernel_rfl) (by decide) (dh n (by omega))
   have hm:ga enc Tryz.prog w n 23 (fun xs:List (List UInt8×JV)=>[.iW 7 (xs.map JV.hG)]) (fun xs=>(∀ x∈xs,x.1.length≤140737488351232∧x.2.ok)∧xs.length*104≤140737488351232):=by
    cases n with
    | zero=>exact ga.zero
    | succ n=>
     refine o5 Tryz.underlying23 (by kernel_rfl) (by kernel_rfl) (by decide) ?_;cases n with
     | zero=>exact ga.zero
     | succ n=>
      exact ga.to (nz (tot:=7) Tryz.underlying51 (by kernel_rfl) (df (k:=1) rfl (by kernel_rfl) (hL Tryz.underlying9) (df (k:=6) rfl (by kernel_rfl) (dh n (by omega)) s3))) (fun p=>(p.1,p.2.1)) (fun p=>by simp [JV.hG]) (fun p h=>⟨h.1,h.2.1⟩)
   refine ga.to (nz (tot:=6) Tryz.underlying25 (by kernel_rfl) (df (k:=1) rfl (by kernel_rfl) (s0 Tryz.underlying3) (df (k:=1) rfl (by kernel_rfl) (zx Tryz.underlying4) (df (k:=1) rfl (by kernel_rfl) (s0 Tryz.underlying3) (df (k:=1) rfl (by kernel_rfl) (hL Tryz.underlying9) (df (k:=1) rfl (by kernel_rfl) bM (df (k:=1) rfl (by kernel_rfl) hm s3))))))) (fun p=>JV.mk p.1 p.2.1 p.2.2.1 p.2.2.2.1 p.2.2.2.2.1 p.2.2.2.2.2.1) (fun p=>by rw [JV.Hi];rfl) (fun p h=>?_);obtain⟨h1,aj,aF,bn,ch,eB,_⟩:=h;rw [JV.ok_eq];refine⟨bn,?_,?_,ch.1,eB.1⟩
   ·have:=ch.2;show p.2.2.2.2.1.length≤_;omega
   have:=eB.2;show p.2.2.2.2.2.1.length≤_;omega
theorem zK (n:Nat):ga enc Tryz.prog w n 26 (fun xs:List U=>[lO xs]) (fun xs=>(∀ x∈xs,x.length≤140737488351232)∧xs.length*16≤140737488351232):=by
 cases n with
 | zero=>exact ga.zero
 | succ n=>exact o5 Tryz.underlying26 (by kernel_rfl) (by kernel_rfl) (by decide) (hL Tryz.underlying9)
theorem O5 (n:Nat):ga enc Tryz.prog w n 92 (fun x:cX=>(cX.cells x).map D.v) (fun x=>x.cP.length≤140737488351232∧x.key.length≤140737488351232∧x.sig.length≤140737488351232):=by
 cases n with
 | zero=>exact ga.zero
 | succ n=>exact ga.to (nz (tot:=3) Tryz.underlying92 (by kernel_rfl) (df (k:=1) rfl (by kernel_rfl) (hL Tryz.underlying9) (df (k:=1) rfl (by kernel_rfl) (hL Tryz.underlying9) (df (k:=1) rfl (by kernel_rfl) (hL Tryz.underlying9) s3)))) (fun p=>⟨p.1,p.2.1,p.2.2.1⟩) (fun _=>rfl) (fun p h=>⟨h.1,h.2.1,h.2.2.1⟩)
theorem Kd (n:Nat):ga enc Tryz.prog w n 27 (fun xs:List cX=>[flat 3 cX.cells xs]) (fun xs=>(∀ x∈xs,x.cP.length≤140737488351232∧x.key.length≤140737488351232∧x.sig.length≤140737488351232)∧xs.length*48≤140737488351232):=by
 cases n with
 | zero=>exact ga.zero
 | succ n=>exact o5 Tryz.underlying27 (by kernel_rfl) (by kernel_rfl) (by decide) (O5 n)
theorem Qc (n:Nat):ga enc Tryz.prog w n 29 EV.D EV.ok:=by
 cases n with
 | zero=>exact ga.zero
 | succ n=>
  refine ga.to (nz (tot:=17) Tryz.underlying29 (by kernel_rfl) (df (k:=1) rfl (by kernel_rfl) (hL Tryz.underlying9) (df (k:=1) rfl (by kernel_rfl) (hL Tryz.underlying9) (df (k:=1) rfl (by kernel_rfl) (hL Tryz.underlying9) (df (k:=1) rfl (by kernel_rfl) (zx Tryz.underlying4) (df (k:=1) rfl (by kernel_rfl) (hL Tryz.underlying9) (df (k:=6) rfl (by kernel_rfl) (Sh n) (df (k:=1) rfl (by kernel_rfl) (zK n) (df (k:=1) rfl (by kernel_rfl) (zK n) (df (k:=1) rfl (by kernel_rfl) (s0 Tryz.underlying3) (df (k:=1) rfl (by kernel_rfl) (s0 Tryz.underlying3) (df (k:=1) rfl (by kernel_rfl) (hL Tryz.underlying9) (df (k:=1) rfl (by kernel_rfl) (Kd n) s3))))))))))))) (fun p=>EV.mk p.1 p.2.1 p.2.2.1 p.2.2.2.1 p.2.2.2.2.1 p.2.2.2.2.2.1 p.2.2.2.2.2.2.1 p.2.2.2.2.2.2.2.1 p.2.2.2.2.2.2.2.2.1 p.2.2.2.2.2.2.2.2.2.1 p.2.2.2.2.2.2.2.2.2.2.1 p.2.2.2.2.2.2.2.2.2.2.2.1) (fun p=>?_) (fun p h=>?_)
  ·simp only [EV.D,List.cons_append,List.nil_append,List.append_nil,List.append_assoc]
  obtain⟨h1,aj,aF,_,ch,eB,kv,j0,_,_,JY,Bh,_⟩:=h;exact⟨h1,aj,aF,ch,eB,kv.1,by have:=kv.2;dsimp only;omega,j0.1,by have:=j0.2;dsimp only;omega,JY,Bh.1,by have:=Bh.2;dsimp only;omega⟩
end
end Go.Proofs.YtnihidkbkhcfoaaGreatDoor.V
namespace Go.Proofs.YtnihidkbkhcfoaaGreatDoor.V
open Go
theorem ze {l:List (U×JV)}:(JV.obj l).bare=true:=by
 simp [JV.bare,JV.obj,JV.kind,JV.is,JV.num,JV.str,JV.list,JV.map]
end Go.Proofs.YtnihidkbkhcfoaaGreatDoor.V
set_option maxRecDepth 10000
namespace Go.Proofs.YtnihidkbkhcfoaaGreatDoor.V
open Go Go.Proofs
theorem qs (v:JV):JV.n0 v v=true:=JV.sc.2 rfl
end Go.Proofs.YtnihidkbkhcfoaaGreatDoor.V
namespace Go.Proofs.YtnihidkbkhcfoaaGreatDoor.V
open Go
def b4 (m:List (U×JV)) (k:U):List (U×JV):=m.filter fun q=>decide (q.1≠k)
theorem Gx:∀ {m:List (U×JV)} {p:Nat} {y:U×JV},cZ m→m[p]? = some y→b4 m y.1=m.take p++m.drop (p+1)
 | [],_,_,_,h=>by simp at h
 | a::r,0,y,ax,h=>by
  injection h with h
  subst h
  have bf:=(List.pairwise_cons.1 ax).1
  unfold b4
  rw [List.filter_cons,if_neg (by simp)]
  simp only [List.take_zero,List.nil_append,List.drop_succ_cons,List.drop_zero]
  exact List.filter_eq_self.2 fun b aH=>decide_eq_true fun e=>by
   have:=bf b aH
   rw [e,cS] at this
   cases this
 | a::r,p+1,y,ax,h=>by
  have fb:r[p]? = some y:=by simpa using h
  have dh:=Gx (List.pairwise_cons.1 ax).2 fb
  have bS:a.1≠y.1:=fun e=>by
   have:=(List.pairwise_cons.1 ax).1 y (List.mem_of_getElem? fb)
   rw [e,cS] at this
   cases this
  unfold b4 at dh ⊢
  rw [List.filter_cons,if_pos (decide_eq_true bS),dh]
  simp
theorem HX {m:List (U×JV)} {k:U} (h:look m k=none):b4 m k=m:=
 List.filter_eq_self.2 fun q eE=>decide_eq_true (oY h q eE)
theorem JV.HW {A:List Nat} {w:World} {m:List (U×JV)} {vs:List Value} {i:Nat} (h:ak A w (m.map JV.hG).flatten vs) (hi:i<m.length) :
  ak A w ((m.take i++m.drop (i+1)).map JV.hG).flatten (vs.take (i*7)++vs.drop ((i+1)*7)):=by
 obtain⟨h1,_⟩:=ak.p7 (i:=i) (JV.oZ m) (by simpa using Nat.le_of_lt hi) h
 obtain⟨_,aj⟩:=ak.p7 (i:=i+1) (JV.oZ m) (by rw [List.length_map];omega) h
 rw [List.map_append,List.flatten_append,List.map_take,List.map_drop]
 exact h1.append aj
structure kO where
 rest:JV
 bad:Bool
def cG (t:kO) (k:U) (kind:Int):JV×kO:=match t.rest.get k with
 | some x=>if x.kind=kind then (x,⟨JV.obj (b4 t.rest.ec k),t.bad⟩)else (JV.fQ,⟨t.rest,true⟩)
 | none=>(JV.fQ,⟨t.rest,true⟩)
def A7 (t:kO) (k:U):List U×kO:=((cG t k 4).1.list.map JV.str,⟨(cG t k 4).2.rest,(cG t k 4).2.bad||(cG t k 4).1.list.any fun x=>decide (x.kind≠3)⟩)
theorem mh {t:kO} {k:U} {kind:Int} (h:t.rest.get k=none):cG t k kind=(JV.fQ,⟨t.rest,true⟩):=by unfold cG;rw [h]
theorem mg {t:kO} {k:U} {kind:Int} {x:JV} (h:t.rest.get k=some x) (hk:x.kind≠kind):cG t k kind=(JV.fQ,⟨t.rest,true⟩):=by unfold cG;rw [h];simp only;rw [if_neg hk]
theorem kP {t:kO} {k:U} {kind:Int} {x:JV} (h:t.rest.get k=some x) (hk:x.kind=kind):cG t k kind=(x,⟨JV.obj (b4 t.rest.ec k),t.bad⟩):=by unfold cG;rw [h];simp only;rw [if_pos hk]
def kO.fit (t:kO):Prop:=cZ t.rest.map∧t.rest.map.length≤1000000∧∀ p∈t.rest.map,p.2.list.length≤1000000∧cZ p.2.map∧p.2.map.length≤1000000
theorem kO.xF {t:kO} (h:t.fit):cZ t.rest.ec∧t.rest.ec.length≤1000000:=by
 unfold JV.ec
 split
 ·exact⟨h.1,h.2.1⟩
 exact⟨List.Pairwise.nil,by simp⟩
theorem kO.gu {t:kO} (h:t.fit) (k:U) (kind:Int):(cG t k kind).2.fit:=by
 unfold cG
 split
 ·split
  ·obtain⟨h1,aj⟩:=kO.xF h;refine⟨List.Pairwise.filter _ h1,Nat.le_trans (List.length_filter_le _ _) aj,fun p bJ=>?_⟩;have rY:p∈t.rest.ec:=(List.mem_filter.1 bJ).1;unfold JV.ec at rY
   split at rY
   ·exact h.2.2 p rY
   cases rY
  exact h
 exact h
theorem kO.C' {t:kO} (h:t.fit) (b:Bool):(⟨t.rest,b⟩:kO).fit:=h
theorem kO.C8 {t:kO} (h:t.fit) (k:U) (kind:Int):(cG t k kind).1.list.length≤1000000∧cZ (cG t k kind).1.map∧(cG t k kind).1.map.length≤1000000:=by
 have bW:JV.fQ.list.length≤1000000∧cZ JV.fQ.map∧JV.fQ.map.length≤1000000:=⟨by simp [JV.fQ,JV.list],List.Pairwise.nil,by simp [JV.fQ,JV.map]⟩;cases cN:t.rest.get k with
 | none=>rw [mh cN];exact bW
 | some x=>
  by_cases hk:x.kind=kind
  ·rw [kP cN hk];exact h.2.2 _ (JV.ud cN)
  rw [mg cN hk];exact bW
end Go.Proofs.YtnihidkbkhcfoaaGreatDoor.V
set_option maxRecDepth 10000
namespace Go.Proofs.YtnihidkbkhcfoaaGreatDoor.V
open Go Go.Proofs
abbrev alj:Nat:=0
set_option maxRecDepth 10000
set_option maxRecDepth 10000
set_option maxRecDepth 10000
set_option maxRecDepth 10000
set_option maxRecDepth 10000
set_option maxRecDepth 10000
set_option maxRecDepth 10000
end Go.Proofs.YtnihidkbkhcfoaaGreatDoor.V
namespace Go.Proofs.YtnihidkbkhcfoaaGreatDoor.V
open Go
end Go.Proofs.YtnihidkbkhcfoaaGreatDoor.V
set_option maxRecDepth 10000
namespace Go.Proofs.YtnihidkbkhcfoaaGreatDoor.V
open Go Go.Proofs
set_option maxRecDepth 10000
end Go.Proofs.YtnihidkbkhcfoaaGreatDoor.V
namespace Go.Proofs.YtnihidkbkhcfoaaGreatDoor.V
open Go
section
variable {P:Program} {ops:Array Oper} {Q:Exit→Act→World→Prop} {n:Nat} {ds:List Deferred} {l:List (Nat×Value)} {w w':World} {a:Act}
variable {rest:List Oper} {d:Nat} {op:Op} {ty:TypeId} {pos:String} {af:Array Edge}
variable {dd:Option Nat} {gg:Option (Nat×Bool)} {x y z:Operand} {t t':TypeId}
theorem KD {o1 e sz fY N c k c':Nat} {ad:Addr} {u:Value} {vs news:List Value} (bQ:k2 P t e sz fY=true) (O:Own w e sz (.slice (some ad) N c) N vs) (ab:aT l x=some (.slice (some ad) k c)) (aR:aT l y=some u)
  (aN:Src P sz o1 u c' news w) (hk:k+c'≤N) (bL:Nat.blt d n=true)
  (h:∀ w',Own w' e sz (.slice (some ad) N c) N (vs.take (k*sz)++news++vs.drop ((k+c')*sz))→Mod [ad.block] w w'→w'.heap.size=w.heap.size→fC P ops Q rest n ds ((d,.slice (some ad) (k+c') c)::l) w') :
  fC P ops Q (⟨some d,.call {callee:=.builtin .append,args:=#[x,y],argTypes:=#[t,o1]},ty,pos,af,none⟩::rest) n ds l w:=by
 obtain⟨i,z,h1,aj,aF,bn,ch,eB⟩:=hU bQ
 subst aF
 rcases O.2 with⟨bD,_⟩ | ⟨g,o,cap,cs,bw,dT,fi,gA,qZ,o0⟩
 ·cases bD
 injection bw with aV bs kk
 injection aV with aV
 subst aV;subst kk
 have pt:=aN.newsLen
 have hle:(k+c')*i.size≤N*i.size:=Nat.mul_le_mul_right _ hk
 have zm:N*i.size≤c*i.size:=Nat.mul_le_mul_right _ fi
 have mv:=O.1
 have Tz:(k+c')*i.size=k*i.size+c'*i.size:=Nat.add_mul _ _ _
 have lx:k+c'≤c:=by omega
 obtain⟨aE,hc,bJ⟩:=gr (P:=P) dT (o:=o+k*i.size) (vs:=news) (by rw [pt];omega) aN.one
 have bf:(Builtin.append_ #[t,o1] ty #[.slice (some ⟨g,o,none⟩) k c,u]).run P w = .ok (.slice (some ⟨g,o,none⟩) (k+c') c) aE:=by
  rcases aN.kind with⟨uM,hk⟩ | hk <;> simp [Builtin.append_,run_underlying h1,run_underlying hk,sizeOf,typeInfo,aj,aN.len,lx,aN.cells,Addr.add_lit,hc]
 refine e9 (v:=.slice (some ⟨g,o,none⟩) (k+c') c) (w':=aE) (fun ρ e2=>?_) bL (h aE ⟨?_,.inr ⟨g,o,c,_,rfl,bJ.aA,fi,gA,by simp [splice];omega,?_⟩⟩ bJ.mod bJ.size)
 ·simp [execOp,resolve,invoke,builtin,e2 _ _ ab,e2 _ _ aR,bf]
 ·simp only [List.length_append,List.length_take,List.length_drop,pt,mv]
  omega
 subst o0
 apply List.ext_getElem?
 intro j
 simp only [splice,pt]
 simp only [List.getElem?_take,List.getElem?_drop,List.getElem?_append,List.length_append,List.length_take,List.length_drop,pt]
 repeat' split
 all_goals first
  | omega
  | rfl
  | (congr 1;omega)
theorem PT {ad:Option Addr} {c c' e sz fY lo hi mx:Nat} {h fb Kr:Operand} (bQ:k2 P t e sz fY=true) (ab:aT l x=some (.slice ad c c')) (bM:aT l h=some (.int .i64 (lo:Int))) (jE:aT l fb=some (.int .i64 (hi:Int))) (hm:aT l Kr=some (.int .i64 (mx:Int))) (aH:lo≤hi∧hi≤mx∧mx≤c') :
  bo P l ⟨dd,.slice t x (some h) (some fb) (some Kr),ty,pos,af,gg⟩ w (.slice (ko ad mx lo sz) (hi-lo) (mx-lo)) w:=fun ρ e2=>by
 obtain⟨i,z,h1,aj,aF,bn,ch,eB⟩:=hU bQ
 subst aF
 have s1:=run_sliceBound (P:=P) (w:=w) .i64 (mx:Int) c' .slice3Acap (by omega) (by omega)
 have s2:=run_sliceBound (P:=P) (w:=w) .i64 (hi:Int) mx .slice3B (by omega) (by omega)
 have aox:=run_sliceBound (P:=P) (w:=w) .i64 (lo:Int) hi .slice3C (by omega) (by omega)
 simp [execOp,Instr.sliceAt,Instr.slice,e2 _ _ ab,e2 _ _ bM,e2 _ _ jE,e2 _ _ hm,run_underlying h1,cu aj,Instr.sliceBounds,s1,s2,aox,ko]
end
theorem Ej {vs:List Value} {n i sz:Nat} (bM:vs.length=n*sz) (hi:i<n) :
  (vs.take (i*sz)++(vs.drop ((i+1)*sz)).take ((n-(i+1))*sz)++vs.drop ((i+(n-(i+1)))*sz)).take ((i+(n-(i+1)))*sz)=vs.take (i*sz)++vs.drop ((i+1)*sz):=by
 have h1:(i+1)*sz+(n-(i+1))*sz=n*sz:=by rw [← Nat.add_mul];congr 1;omega
 have aj:(i+(n-(i+1)))*sz=i*sz+(n-(i+1))*sz:=Nat.add_mul _ _ _
 have aF:i*sz≤n*sz:=Nat.mul_le_mul_right _ (by omega)
 have bn:(vs.drop ((i+1)*sz)).take ((n-(i+1))*sz)=vs.drop ((i+1)*sz):=List.take_of_length_le (by rw [List.length_drop];omega)
 rw [bn]
 refine List.take_left' ?_
 rw [List.length_append,List.length_take,List.length_drop]
 omega
end Go.Proofs.YtnihidkbkhcfoaaGreatDoor.V
set_option maxRecDepth 10000
namespace Go.Proofs.YtnihidkbkhcfoaaGreatDoor.V
open Go Go.Proofs
theorem PS (w:World) (n i c:Nat) (ad:Addr) (vs:List Value) (O:Own w 51 7 (.slice (some ad) n c) n vs) (h1:∀ u∈vs,u.oneCell'=true) (hi:i<n) (bW:n≤1353245080310):Calls Tryz.prog 71 [.slice (some ad) n c,.int .i64 (i:Int),.int .i64 ((i+1:Nat):Int)].toArray w (bI fun u w'=>u = .slice (some ad) (i+(n-(i+1))) c∧Own w' 51 7 u (n-1) (vs.take (i*7)++vs.drop ((i+1)*7))∧Mod [ad.block] w w'):=by
 refine enter Tryz.func71 rfl rfl rfl (l:=[(0,_),(1,_),(2,_)]) ⟨rfl,rfl,rfl,trivial⟩ ?_;have E:=Mod.refl [] w;obtain⟨nX,c1,dm,aaJ,am7⟩:=O.form;injection dm with aV bs kk
 subst aV;subst kk;refine ae fun aX=>bb rfl (R aX (ae fun aM=>aq 4 rfl (ao (bx Tryz.underlying23 rfl) (ao (PT (lo:=i) (hi:=i+1) (mx:=n) dn rfl rfl rfl rfl (by omega)) (R aM (ay fun a7=>ae fun bC=>aq 2 rfl (ao ((oC rfl rfl).to (v':=.bool false) (congrArg Value.bool (bX (by omega)))) (R bC (aJ rfl ?_)))))))));refine cJ (az a7 (ae fun bU=>aQ rfl (ao (bx Tryz.underlying23 rfl) (bb rfl (R bU (ay fun ca=>nY [] [0,1,2,3,4,5] 6 [7] wide (by kernel_rfl) (fun _ _ _ h=>h.2) (kU (fM 2 rfl rfl (ah (fun J=>(z1 dn rfl rfl (by omega) aaJ)) (fM 2 rfl rfl (ah (fun J=>(iw (lo:=i+1) dn rfl rfl (by omega) aaJ)) ?_)))))))))));refine ml rfl fun aE J=>?_;replace E:=E.then J;have gG:=O.I E;have agt:=gG.cut (lo:=i+1) (hi:=n) (by omega) (Nat.le_refl n);refine KD dn gG rfl rfl (Src.own Tryz.underlying23 agt (fun u hu=>h1 u (List.mem_of_mem_drop (List.mem_of_mem_take hu)))) (by omega) rfl fun cY qp am8 am9=>?_;have am':Mod [ad.block] w cY:=(E.mono (by simp)).trans am8;clear E;refine bb rfl (R ca (ae fun cA=>aq 2 rfl (ao (bx Tryz.underlying23 rfl) (aQ rfl (ao (PU (lo:=(i+(n-(i+1)))) (hi:=n) dn rfl rfl rfl (by omega) (by omega)) (KE dn gV rfl (by decide) (by simp [Value.oneCell']) qp (k:=(i+(n-(i+1)))) (by omega) rfl fun gv vq ana anb=>?_))))));have agu:=am'.trans ana;exact R cA (ae fun cM=>aq 2 rfl (R cM (bg (ar rfl rfl ⟨rfl,vq.same (by omega) (Ej O.1 hi),agu⟩))))
set_option maxRecDepth 10000
theorem Uh:aP Tryz.prog 71:=aP.of Tryz.func71 (by kernel_rfl) (by kernel_rfl)
theorem KF (A:List Nat) (w:World) (du:∀ a∈A,a<w.heap.size) (v:JV) (us:List Value) (apv:ak A w v.D us) (k:U) (ax:cZ v.ec) (bW:v.ec.length≤1353245080310):Calls Tryz.prog 34 [.agg us.toArray,S k].toArray w (bI fun u w'=>∃ gH,u = .agg gH.toArray∧ak A w' (JV.obj (b4 v.ec k)).D gH∧Mod [] w w'):=by
 refine enter Tryz.func34 rfl rfl rfl (l:=[(0,_),(1,_)]) ⟨rfl,rfl,trivial⟩ ?_;have E:=Mod.refl [] w;obtain⟨al,cl,am,cm,rfl,kq,jh⟩:=JV.bc apv;have apv:=JV.b6 kq jh;refine ae fun aX=>ef rfl rfl rfl fun g1 aE bO=>?_;have bR:=bO.le E;replace E:=E.then bO.mod;have aa:=bO.aA;refine bl cK rfl fun g2 cY cU=>?_;have cp:=cU.le E;have cb:=cU.ne aa;replace aa:=aa.I cU.mod;replace E:=E.then cU.mod;have ai:=cU.aA;refine R aX (ae fun aM=>ao (a8 (vs:=[_,_,_,_,_,_]) aK rfl rfl (aa.cs rfl)) (fP (bt KG rfl) (yJ A w _ v _ apv) rfl fun cC gv aB=>?_));obtain⟨agv,J⟩:=aB;replace aa:=aa.I J;replace ai:=ai.I J;replace E:=E.then J;have BD:=aa.lt;have BE:=ai.lt;have Gw:=E.size;refine fP (bt KH rfl) (yK A w _ v.ec _ agv E bW) rfl fun cC iH aB=>?_;obtain⟨vs,tx,oD,vQ,J⟩:=aB;replace aa:=aa.I J;replace ai:=ai.I J;replace E:=E.then J;have D1:∀ x∈aL cC,x≠g1:=fun x ab e=>by have:=vQ x ab;omega
 have D2:∀ x∈aL cC,x≠g2:=fun x ab e=>by have:=vQ x ab;omega
 have pI:∀ x∈aL cC,w.heap.size≤x:=fun x ab=>by have:=vQ x ab;omega
 obtain⟨rm,c3,rfl,BF,BG⟩:=tx.form;refine ao (bj (cs:=[_,_,_,_,_,_]) iI cK rfl rfl) (bl cK rfl fun g3 jO eT=>?_);have dA:=eT.le E;have eJ:=eT.ne aa;have cc:=eT.ne ai;have z6:=eT.cd tx;replace aa:=aa.I eT.mod;replace ai:=ai.I eT.mod;replace E:=E.then eT.mod;replace tx:=tx.I eT.mod;have bq:=eT.aA;refine bd (vs:=[_,_,_,_,_,_]) aK bq rfl rfl rfl (by simp [Value.oneCell']) (by simp) fun jV ni=>?_;replace aa:=aa.ne ni.mod eJ;replace ai:=ai.ne ni.mod cc;replace E:=E.own ni.mod dA;replace tx:=tx.put ni.mod z6;replace bq:aD jV g3 _ [_,_,_,_,_,_]:=ni.aA;refine R aM (ay fun a7=>ae fun bC=>ao (au cw rfl) (ao (bh eg rfl (bq.cell rfl)) (aQ rfl ?_)));have aaK:=Own.vR (A:=[]) tx ((oD.fN (by simp)).bE E) rfl (by simp);refine cD (bt Ek rfl) (vS _ v.ec _ aaK k ax bW) fun ix J=>?_;replace aa:=aa.I J;replace ai:=ai.I J;replace bq:=bq.I J;replace E:=E.then J;replace tx:=tx.I J;refine aq 5 rfl (R bC (ae fun bU=>aQ rfl (R bU ?_)));refine aU rfl (fun mX=>?_) (fun mX=>?_);rotate_left
 ·have PV:b4 v.ec k=v.ec:=HX (by cases bM:look v.ec k with | none=>rfl | some z=>rw [bM] at mX;simp at mX);have rn:=oD;have jP:(b4 v.ec k).length=v.ec.length:=by rw [PV]
  rw [← PV] at rn;have Uj:=pI;refine cJ (az a7 (ae fun cA=>ao (a8 (vs:=[_,_,_,_,_,_]) aK rfl rfl (bq.cs rfl)) (bd (vs:=[_,_,_,_,_,_]) aK ai rfl rfl rfl (by simp [Value.oneCell']) (by simp) fun j1 eh=>?_)));replace aa:=aa.ne eh.mod cb;replace bq:=bq.ne eh.mod (Ne.symm cc);replace E:=E.own eh.mod cp;replace tx:=tx.put eh.mod D2;replace ai:aD j1 g2 _ [_,_,_,_,_,_]:=eh.aA;exact R cA (bg (kr (vs:=[_,_,_,_,_,_]) rfl aK rfl rfl (ai.cs rfl) ⟨_,rfl,JV.oE jP (Own.vR tx (rn.bE E) jP (fun x ab h=>by have:=Uj x ab;have:=du x h;omega)),E⟩))
 obtain⟨y,aR,Ui,_⟩:=qq ax mX;have vT:=(List.getElem?_eq_some_iff.1 aR).1;obtain⟨rm,rfl⟩:∃ a,rm=some a:=by
  cases rm with
  | some a=>exact⟨a,rfl⟩
  | none=>have:=JV.z7 aaK;rw [this] at vT;simp at vT
 refine b8 (ao (au cw rfl) (ao (bh eg rfl (bq.cell rfl)) (aq 2 rfl (ao (c7 (r:=((eK v.ec k+1:Nat):Int)) rfl rfl (by rw [wrap64_in _ (by omega)];omega)) (fP (bt Uh rfl) (PS _ v.ec.length (eK v.ec k) c3 rm vs tx oD.one vT bW) rfl fun cC pD aB=>?_)))));obtain⟨rfl,BH,J⟩:=aB;have lT:eK v.ec k+(v.ec.length-(eK v.ec k+1))=v.ec.length-1:=by omega
 rw [lT] at BH ⊢;have Uj:∀ x∈aL (.slice (some rm) (v.ec.length-1) c3),w.heap.size≤x:=fun x ab=>pI x (by simpa [aL] using ab);have agw:∀ x∈aL (.slice (some rm) (v.ec.length-1) c3),x≠g2:=fun x ab=>D2 x (by simpa [aL] using ab);have KK:∀ x∈aL (.slice (some rm) (v.ec.length-1) c3),x≠g3:=fun x ab=>z6 x (by simpa [aL] using ab);replace E:=E.trans' J (fun x ab=>.inr (pI x (by simpa [aL] using ab)));replace ai:=ai.mod J (fun h=>D2 rm.block (by simp [aL]) (List.mem_singleton.1 h).symm);replace bq:=bq.mod J (fun h=>z6 rm.block (by simp [aL]) (List.mem_singleton.1 h).symm);have rn:=JV.HW oD vT;have aaL:b4 v.ec k=v.ec.take (eK v.ec k)++v.ec.drop (eK v.ec k+1):=by have j0:=Gx ax aR;rw [Ui] at j0;exact j0
 rw [← aaL] at rn;have jP:(b4 v.ec k).length=v.ec.length-1:=by rw [aaL,List.length_append,List.length_take,List.length_drop];omega
 refine ao (au cw rfl) (ea eg bq rfl rfl rfl (by simp) fun lL nH=>?_);replace ai:=ai.ne nH.mod cc;replace E:=E.own nH.mod dA;replace BH:=BH.put nH.mod KK;replace bq:aD lL g3 _ [_,_,_,_,_,_]:=nH.aA;refine R a7 (ae fun ca=>ao (a8 (vs:=[_,_,_,_,_,_]) aK rfl rfl (bq.cs rfl)) (bd (vs:=[_,_,_,_,_,_]) aK ai rfl rfl rfl (by simp [Value.oneCell']) (by simp) fun iy k1=>?_));replace bq:=bq.ne k1.mod (Ne.symm cc);replace E:=E.own k1.mod cp;replace BH:=BH.put k1.mod agw;replace ai:aD iy g2 _ [_,_,_,_,_,_]:=k1.aA;exact R ca (bg (kr (vs:=[_,_,_,_,_,_]) rfl aK rfl rfl (ai.cs rfl) ⟨_,rfl,JV.oE jP (Own.vR BH (rn.bE E) jP (fun x ab h=>by have:=Uj x ab;have:=du x h;omega)),E⟩))
end Go.Proofs.YtnihidkbkhcfoaaGreatDoor.V
namespace Go.Proofs.YtnihidkbkhcfoaaGreatDoor.V
open Go
end Go.Proofs.YtnihidkbkhcfoaaGreatDoor.V
set_option maxRecDepth 10000
namespace Go.Proofs.YtnihidkbkhcfoaaGreatDoor.V
open Go Go.Proofs
theorem Uk:aP Tryz.prog 34:=aP.of Tryz.func34 (by kernel_rfl) (by kernel_rfl)
set_option maxRecDepth 10000
theorem lk:ho Tryz.prog 103 0 0 6=true:=by kernel_rfl
theorem ek:ho Tryz.prog 103 1 6 1=true:=by kernel_rfl
/-- a taker in memory -/
def mM (A:List Nat) (w:World) (g:Nat) (t:kO):Prop:=∃ al cl am cm,aD w g 103 [.int .i64 t.rest.kind,.bool t.rest.is,.int .i64 t.rest.num,S t.rest.str,.slice al t.rest.list.length cl,.slice am t.rest.map.length cm,.bool t.bad]∧aS A w (.iW 6 (t.rest.list.map JV.D)) (.slice al t.rest.list.length cl)∧aS A w (.iW 7 (t.rest.map.map JV.hG)) (.slice am t.rest.map.length cm)
theorem mM.I {A:List Nat} {w w':World} {g:Nat} {t:kO} (h:mM A w g t) (k:Mod [] w w'):mM A w' g t:=by
 obtain⟨al,cl,am,cm,h1,aj,aF⟩:=h;exact⟨al,cl,am,cm,h1.I k,aj.bE k,aF.bE k⟩
theorem mM.mod {A M:List Nat} {w w':World} {g:Nat} {t:kO} (h:mM A w g t) (k:Mod M w w') (eb:∀ x∈M,x∈A) (cN:g∉M):mM A w' g t:=by
 obtain⟨al,cl,am,cm,h1,aj,aF⟩:=h;exact⟨al,cl,am,cm,h1.mod k cN,aj.toM k eb,aF.toM k eb⟩
theorem mM.lt {A:List Nat} {w:World} {g:Nat} {t:kO} (h:mM A w g t):g<w.heap.size:=by
 obtain⟨_,_,_,_,h1,_⟩:=h;exact h1.lt
theorem im (A:List Nat) (w:World) (g:Nat) (t:kO) (H:mM A w g t) (cN:g∈A) (du:∀ a∈A,a<w.heap.size) (bQ:t.fit) (k:U) (kind:Int):Calls Tryz.prog 90 [.pointer (some ⟨g,0,none⟩),S k,.int .i64 kind].toArray w (bI fun u w'=>∃ us,u = .agg us.toArray∧ak A w' (cG t k kind).1.D us∧mM A w' g (cG t k kind).2∧Mod [g] w w'):=by
 refine enter Tryz.func90 rfl rfl rfl (l:=[(0,_),(1,_),(2,_)]) ⟨rfl,rfl,rfl,trivial⟩ ?_;have E:=Mod.refl [g] w;have s8:=Mod.refl [] w;obtain⟨al,cl,am,cm,B,kq,jh⟩:=H;refine ae fun aX=>bl cK rfl fun g1 aE bO=>?_;have bR:=bO.le E;have adl:=bO.le s8;have jv:=bO.ne B;replace B:=B.I bO.mod;replace E:=E.then bO.mod;replace s8:=s8.then bO.mod;have aa:=bO.aA;refine R aX (ae fun aM=>aq 2 rfl (ao (au lk rfl) (ao (a8 (vs:=[_,_,_,_,_,_]) aK rfl rfl (B.cs rfl)) (aQ rfl (fP (bt EH rfl) (Ac A _ _ s8 t.rest _ (JV.b6 (v:=t.rest) kq jh) k bQ.1 (by have:=bQ.2.1;omega)) rfl fun cC cY aB=>?_)))));obtain⟨Xr,rfl,aaD,J⟩:=aB;replace B:=B.I J;replace aa:=aa.I J;replace E:=E.then J;replace s8:=s8.then J;obtain⟨Rh,Ri,Xs,Xt,rfl,C7,Jz⟩:=JV.bc aaD;replace aaD:=JV.b6 C7 Jz;have xE:=Mod.refl [] cY;refine aq 3 rfl (bl cK rfl fun g2 gv cU=>?_);have cp:=cU.le E;have Nx:=cU.le s8;have JC:=cU.le xE;have rV:=cU.ne B;have cb:=cU.ne aa;replace B:=B.I cU.mod;replace aa:=aa.I cU.mod;replace E:=E.then cU.mod;replace s8:=s8.then cU.mod;replace xE:=xE.then cU.mod;have ai:=cU.aA;refine bd (vs:=[_,_,_,_,_,_]) aK ai rfl rfl rfl (by simp [Value.oneCell']) (by simp) fun iH lX=>?_;replace B:=B.ne lX.mod rV;replace aa:=aa.ne lX.mod cb;replace E:=E.own lX.mod cp;replace s8:=s8.own lX.mod Nx;replace xE:=xE.own lX.mod JC;replace ai:aD iH g2 _ [_,_,_,_,_,_]:=lX.aA;refine bb rfl (R aM (ay fun a7=>ae fun bC=>aQ rfl ?_));refine vX (fun wb:((t.rest.get k).isSome)=true=>?_) (fun wb=>?_);rotate_left
 ·have ab:t.rest.get k=none:=by cases h:t.rest.get k with | none=>rfl | some x=>rw [h] at wb;cases wb
  refine aq 7 rfl (R bC (aO rfl (ae fun db=>aq 2 rfl (ao (au ek rfl) (ea jQ B rfl rfl rfl (by simp) fun iy k1=>?_)))));replace aa:=aa.ne k1.mod (Ne.symm jv);replace ai:=ai.ne k1.mod (Ne.symm rV);replace E:=E.trans k1.mod;replace B:aD iy g _ [_,_,_,_,_,_,_]:=k1.aA;refine R db (ae fun cq=>ao (bj (cs:=[_,_,_,_,_,_]) iI cK rfl rfl) (bd (vs:=[_,_,_,_,_,_]) aK aa rfl rfl rfl (by simp [Value.oneCell']) (by simp) fun j1 eh=>?_));replace B:=B.ne eh.mod jv;replace ai:=ai.ne eh.mod (Ne.symm cb);replace E:=E.own eh.mod bR;replace aa:aD j1 g1 _ [_,_,_,_,_,_]:=eh.aA;exact R cq (bg (a1 (by simp) (kr (vs:=[_,_,_,_,_,_]) rfl aK rfl rfl (aa.cs rfl) ⟨_,rfl,by rw [mh ab];exact JV.gp,by rw [mh ab];exact⟨al,cl,am,cm,B,kq.toM E (fun a ax=>by rw [List.mem_singleton.1 ax];exact cN),jh.toM E (fun a ax=>by rw [List.mem_singleton.1 ax];exact cN)⟩,E⟩)))
 obtain⟨x,ab⟩:=Option.isSome_iff_exists.1 wb;simp only [ab,Option.getD_some] at aaD ai ⊢;refine aq 2 rfl (aw (au jj rfl) (aw (bh dY rfl (ai.cell rfl)) (aq 2 rfl ?_)));refine dR (fun hk:x.kind≠kind=>?_) (fun hk=>?_)
 ·refine ao (ky rfl rfl rfl) (R bC (aO rfl (ae fun bU=>aq 2 rfl (ao (au ek rfl) (ea jQ B rfl rfl rfl (by simp) fun jO hl=>?_)))));replace aa:=aa.ne hl.mod (Ne.symm jv);replace ai:=ai.ne hl.mod (Ne.symm rV);replace E:=E.trans hl.mod;replace B:aD jO g _ [_,_,_,_,_,_,_]:=hl.aA;refine R bU (ae fun ca=>ao (bj (cs:=[_,_,_,_,_,_]) iI cK rfl rfl) (bd (vs:=[_,_,_,_,_,_]) aK aa rfl rfl rfl (by simp [Value.oneCell']) (by simp) fun jV ni=>?_));replace B:=B.ne ni.mod jv;replace ai:=ai.ne ni.mod (Ne.symm cb);replace E:=E.own ni.mod bR;replace aa:aD jV g1 _ [_,_,_,_,_,_]:=ni.aA;exact R ca (bg (a1 (by simp) (kr (vs:=[_,_,_,_,_,_]) rfl aK rfl rfl (aa.cs rfl) ⟨_,rfl,by rw [mg ab hk];exact JV.gp,by rw [mg ab hk];exact⟨al,cl,am,cm,B,kq.toM E (fun a ax=>by rw [List.mem_singleton.1 ax];exact cN),jh.toM E (fun a ax=>by rw [List.mem_singleton.1 ax];exact cN)⟩,E⟩)))
 refine ao (ky rfl rfl rfl) (R bC (aJ rfl (cJ (az a7 (ay fun cA=>?_)))));have adm:∀ a∈g1::A,a∈A∨w.heap.size≤a:=fun a ax=>by rcases List.mem_cons.1 ax with rfl | ax;exact .inr bR;exact .inl ax
 refine b8 (aq 3 rfl (ao (au lk rfl) (ao (a8 (vs:=[_,_,_,_,_,_]) aK rfl rfl (B.cs rfl)) (aQ rfl (fP (bt Uk rfl) (KF (g1::A) _ (fun a ax=>by rcases List.mem_cons.1 ax with rfl | ax;exact aa.lt;exact Nat.lt_of_lt_of_le (du a ax) E.size) t.rest _ ((JV.b6 (v:=t.rest) (kq.more (A':=g1::A) adm) (jh.more (A':=g1::A) adm)).bE s8) k (kO.xF bQ).1 (by have:=(kO.xF bQ).2;omega)) rfl fun cC ix aB=>?_)))));obtain⟨anO,rfl,Rd,J⟩:=aB;replace B:=B.I J;replace aa:=aa.I J;replace ai:=ai.I J;replace E:=E.then J;replace s8:=s8.then J;replace xE:=xE.then J;obtain⟨anP,anQ,anR,anS,rfl,JD,JE⟩:=JV.bc Rd;replace Rd:=JV.b6 JD JE;have alJ:=Mod.refl [] ix;refine ao (dx rfl) (ao (au lk rfl) (bd (vs:=[_,_,_,_,_,_]) aK B rfl rfl rfl (by simp [Value.oneCell']) (by simp) fun pD pv=>?_));replace aa:=aa.ne pv.mod (Ne.symm jv);replace ai:=ai.ne pv.mod (Ne.symm rV);replace E:=E.trans pv.mod;replace B:aD pD g _ [_,_,_,_,_,_,_]:=pv.aA;replace JD:=JD.toM pv.mod (fun a ax=>by rw [List.mem_singleton.1 ax];exact List.mem_cons_of_mem _ cN);replace JE:=JE.toM pv.mod (fun a ax=>by rw [List.mem_singleton.1 ax];exact List.mem_cons_of_mem _ cN);refine R cA (ae fun cM=>ao (a8 (vs:=[_,_,_,_,_,_]) aK rfl rfl (ai.cs rfl)) (bd (vs:=[_,_,_,_,_,_]) aK aa rfl rfl rfl (by simp [Value.oneCell']) (by simp) fun lL nH=>?_));replace B:=B.ne nH.mod jv;replace ai:=ai.ne nH.mod (Ne.symm cb);replace E:=E.own nH.mod bR;replace aa:aD lL g1 _ [_,_,_,_,_,_]:=nH.aA;replace JD:=JD.toM nH.mod (fun a ax=>by simp [List.mem_singleton.1 ax]);replace JE:=JE.toM nH.mod (fun a ax=>by simp [List.mem_singleton.1 ax]);exact R cM (bg (kr (vs:=[_,_,_,_,_,_]) rfl aK rfl rfl (aa.cs rfl) ⟨_,rfl,by rw [kP ab (Classical.not_not.1 hk)];exact aaD.toM E (fun a ax=>by rw [List.mem_singleton.1 ax];exact cN),by rw [kP ab (Classical.not_not.1 hk)];exact⟨_,_,_,_,B,JD.fN (fun a ax=>List.mem_cons_of_mem _ ax),JE.fN (fun a ax=>List.mem_cons_of_mem _ ax)⟩,E⟩))
set_option maxRecDepth 10000
theorem Ny:Jp Tryz.prog 25 4 4=true:=by kernel_rfl
theorem mN:aP Tryz.prog 90:=aP.of Tryz.func90 (by kernel_rfl) (by kernel_rfl)
theorem xG (A:List Nat) (w:World) (g:Nat) (t:kO) (H:mM A w g t) (cN:g∈A) (du:∀ a∈A,a<w.heap.size) (bQ:t.fit) (k:U):Calls Tryz.prog 91 [.pointer (some ⟨g,0,none⟩),S k].toArray w (bI fun u w'=>Own w' 9 1 u (A7 t k).1.length (((A7 t k).1.map fun s=>[S s]).flatten)∧(∀ y∈aL u,w.heap.size≤y)∧mM A w' g (A7 t k).2∧Mod [g] w w'):=by
 refine enter Tryz.func91 rfl rfl rfl (l:=[(0,_),(1,_)]) ⟨rfl,rfl,trivial⟩ ?_;have E:=Mod.refl [g] w;have aiC:∀ x∈[g],x∈A:=fun x ab=>by rw [List.mem_singleton.1 ab];exact cN
 refine ae fun aX=>bb rfl (R aX (ae fun aM=>bb rfl (R aM (ay fun a7=>ay fun bC=>?_))))
 skip
 refine b8 (aq 2 rfl (fP (bt mN rfl) (im A _ g t H cN du bQ k 4) rfl fun cC aE aB=>?_));obtain⟨Xr,rfl,aix,hn,J⟩:=aB;replace E:=E.trans J;obtain⟨Xu,aiD⟩:∃ x,x=aE:=⟨_,rfl⟩;subst aiD;obtain⟨Rh,Ri,Xs,Xt,rfl,C7,Jz⟩:=JV.bc aix;obtain⟨aiE,aiF,aiG,aiH,B,aiI,aiJ⟩:=hn;have F:=Mod.refl [g] Xu;have anT:=B.lt;obtain⟨anU,_,_⟩:=kO.C8 bQ k 4;have Rj:w.heap.size≤Xu.heap.size:=E.size;refine ao ((o3 Ny rfl rfl)) (ao (bx Tryz.underlying22 rfl) (aQ rfl (R bC (fU (cz (σ:=Nat×Value) (fun⟨j,v⟩=>[(0,.pointer (some ⟨g,0,none⟩)),(5,v),(11,.slice Rh (cG t k 4).1.list.length Ri),(12,.int .i64 (cG t k 4).1.list.length),(13,.int .i64 (j:Int))]) (fun⟨j,v⟩ aE=>j≤(cG t k 4).1.list.length∧Own aE 9 1 v j ((((cG t k 4).1.list.take j).map fun x=>[S x.str]).flatten)∧(∀ y∈aL v,Xu.heap.size≤y)∧aD aE g 103 [.int .i64 (cG t k 4).2.rest.kind,.bool (cG t k 4).2.rest.is,.int .i64 (cG t k 4).2.rest.num,S (cG t k 4).2.rest.str,.slice aiE (cG t k 4).2.rest.list.length aiF,.slice aiG (cG t k 4).2.rest.map.length aiH,.bool ((cG t k 4).2.bad||((cG t k 4).1.list.take j).any fun x=>decide (x.kind≠3))]∧Mod [g] Xu aE∧Mod [g] w aE) (fun⟨j,v⟩=>(cG t k 4).1.list.length-j) (⟨0,.slice none 0 0⟩) ⟨rfl,rfl,rfl,rfl,rfl,trivial⟩ (⟨by omega,Own.nil _ _ _,by simp [aL],by simpa using B,F,E⟩) ?_)))));rintro⟨j,v⟩ cY ⟨dG,fR,vQ,B,F,E⟩;have aiK:∀ x∈aL v,x≠g:=fun x ab e=>by have:=vQ x ab;omega
 refine ae fun bU=>ao (dK rfl rfl) (R bU (ay fun ca=>?_));refine bm rfl (fun pw=>?_) (fun pw=>?_);rotate_left
 ·have Xw:j=(cG t k 4).1.list.length:=by omega
  subst Xw;exact bV (a1 (by simp) (a1 (by simp) (cr (az a7 (ae fun cq=>aq 2 rfl (R cq (bg (ar rfl rfl ⟨fR.same (by unfold A7;simp) (by unfold A7;simp [Function.comp_def]),fun y aR=>Nat.le_trans Rj (vQ y aR),by rw [List.take_length] at B;exact⟨_,_,_,_,B,aiI.toM F aiC,aiJ.toM F aiC⟩,E⟩))))))))
 obtain⟨x,b'⟩:∃ x,(cG t k 4).1.list[j]? = some x:=⟨_,List.getElem?_eq_getElem (by omega)⟩;obtain⟨mn,pe,fc,eV,dv⟩:=JV.BI (C7.toM F aiC) b';obtain⟨mo,mq,k4,jC,rfl,pf,pK⟩:=JV.bc eV;obtain rfl:=fc;have pL:=JV.rp C7;have nf:(cG t k 4).1.list.take (j+1)=(cG t k 4).1.list.take j ++ [x]:=by rw [List.take_succ_eq_append_getElem (by omega),(List.getElem?_eq_some_iff.1 b').2]
 refine cJ (az ca (ay fun cA=>fU (ae fun cM=>ao (cf ks rfl rfl (by omega)) (ao (a8 aK rfl rfl dv) (bl cK rfl fun g1 gv bO=>?_)))));have bR:=bO.le E;have Xv:=bO.le F;have jv:=bO.ne B;have Rk:=bO.cd fR;replace B:=B.I bO.mod;replace E:=E.then bO.mod;replace F:=F.then bO.mod;replace fR:=fR.I bO.mod;have aa:=bO.aA;refine bd (vs:=[_,_,_,_,_,_]) aK aa rfl rfl rfl (by simp [Value.oneCell']) (by simp) fun iH lX=>?_;replace B:=B.ne lX.mod jv;replace E:=E.own lX.mod bR;replace F:=F.own lX.mod Xv;replace fR:=fR.put lX.mod Rk;replace aa:aD iH g1 _ [_,_,_,_,_,_]:=lX.aA;refine R cM (ae fun db=>aq 3 rfl (ao (au ek rfl) (ao (bh jQ rfl (B.cell rfl)) ?_)));refine vX (fun aH:(((cG t k 4).2.bad||((cG t k 4).1.list.take j).any fun x=>decide (x.kind≠3)))=true=>?_) (fun aH=>?_)
 ·have tM:((cG t k 4).2.bad||((cG t k 4).1.list.take (j+1)).any fun x=>decide (x.kind≠3))=true:=by rw [nf,List.any_append,← Bool.or_assoc,aH];simp
  refine aq 6 rfl (ao (au ek rfl) (ea jQ B rfl rfl rfl (by simp) fun jO hl=>?_));replace aa:=aa.ne hl.mod (Ne.symm jv);replace E:=E.trans hl.mod;replace F:=F.trans hl.mod;replace fR:=fR.put hl.mod aiK;replace B:aD jO g _ [_,_,_,_,_,_,_]:=hl.aA;refine R db (b8 (aQ rfl (ao (au j2 rfl) (ao (bh bH rfl (aa.cell rfl)) (cF (cs:=[_]) j4 Fo rfl rfl rfl (by decide) rfl fun g2 jV cU=>?_)))));have cp:=cU.le E;have aiL:=cU.le F;have rV:=cU.ne B;have cb:=cU.ne aa;have afT:=cU.cd fR;replace B:=B.I cU.mod;replace aa:=aa.I cU.mod;replace E:=E.then cU.mod;replace F:=F.then cU.mod;replace fR:=fR.I cU.mod;have ai:=cU.aA;refine cV j4 rfl rfl fR (Src.own Tryz.underlying26 (Own.all (cs:=[_]) ai rfl (by omega)) (by simp [Value.oneCell'])) (by decide) (by omega) (by omega) rfl fun v1 ix gi=>?_;have gG:Own ix 9 1 v1 (j+1) ((((cG t k 4).1.list.take (j+1)).map fun x=>[S x.str]).flatten):=gi.own.same (by omega) (by rw [nf];simp);have pI:∀ y∈aL v1,Xu.heap.size≤y:=fun y aR=>(gi.kn y aR).elim (vQ y) (fun h=>Nat.le_trans F.size h);replace B:=B.mod gi.mod (fun h=>by have:=vQ _ h;omega);replace E:=E.trans' gi.mod (fun y aR=>.inr (Nat.le_trans Rj (vQ y aR)));replace F:=F.trans' gi.mod (fun y aR=>.inr (vQ y aR));exact bb rfl (eG (b5 (by simp) (az cA (b8 (ao (bT rfl rfl (by omega)) (aQ rfl (eG (jW (σ:=Nat×Value) (s:=⟨j,v⟩) (⟨j+1,v1⟩) ⟨rfl,rfl,rfl,rfl,rfl,trivial⟩ ⟨by omega,gG,pI,by rw [tM];exact B,F,E⟩ (by dsimp only;omega)))))))))
 refine aQ rfl (aw (au jj rfl) (aw (bh dY rfl (aa.cell rfl)) (aw (fE rfl rfl) ?_)));refine dR (fun hk:x.kind≠3=>?_) (fun hk=>?_);rotate_left
 ·have tM:((cG t k 4).2.bad||((cG t k 4).1.list.take (j+1)).any fun x=>decide (x.kind≠3))=false:=by rw [nf,List.any_append,← Bool.or_assoc,aH];simp [Classical.not_not.1 hk]
  refine aq 2 rfl (ao (au ek rfl) (ea jQ B rfl rfl rfl (by simp) fun j1 eh=>?_));replace aa:=aa.ne eh.mod (Ne.symm jv);replace E:=E.trans eh.mod;replace F:=F.trans eh.mod;replace fR:=fR.put eh.mod aiK;replace B:aD j1 g _ [_,_,_,_,_,_,_]:=eh.aA;refine R db (b8 (aQ rfl (ao (au j2 rfl) (ao (bh bH rfl (aa.cell rfl)) (cF (cs:=[_]) j4 Fo rfl rfl rfl (by decide) rfl fun g4 rv N4=>?_)))));have fu:=N4.le E;have mO:=N4.le F;have Wf:=N4.ne B;have gd:=N4.ne aa;have afV:=N4.cd fR;replace B:=B.I N4.mod;replace aa:=aa.I N4.mod;replace E:=E.then N4.mod;replace F:=F.then N4.mod;replace fR:=fR.I N4.mod;have aW:=N4.aA;refine cV j4 rfl rfl fR (Src.own Tryz.underlying26 (Own.all (cs:=[_]) aW rfl (by omega)) (by simp [Value.oneCell'])) (by decide) (by omega) (by omega) rfl fun v1 pP gi=>?_;have gG:Own pP 9 1 v1 (j+1) ((((cG t k 4).1.list.take (j+1)).map fun x=>[S x.str]).flatten):=gi.own.same (by omega) (by rw [nf];simp);have pI:∀ y∈aL v1,Xu.heap.size≤y:=fun y aR=>(gi.kn y aR).elim (vQ y) (fun h=>Nat.le_trans F.size h);replace B:=B.mod gi.mod (fun h=>by have:=vQ _ h;omega);replace E:=E.trans' gi.mod (fun y aR=>.inr (Nat.le_trans Rj (vQ y aR)));replace F:=F.trans' gi.mod (fun y aR=>.inr (vQ y aR));exact bb rfl (eG (b5 (by simp) (az cA (b8 (ao (bT rfl rfl (by omega)) (aQ rfl (eG (jW (σ:=Nat×Value) (s:=⟨j,v⟩) (⟨j+1,v1⟩) ⟨rfl,rfl,rfl,rfl,rfl,trivial⟩ ⟨by omega,gG,pI,by rw [tM];exact B,F,E⟩ (by dsimp only;omega)))))))))
 have tM:((cG t k 4).2.bad||((cG t k 4).1.list.take (j+1)).any fun x=>decide (x.kind≠3))=true:=by rw [nf,List.any_append,← Bool.or_assoc,aH];simp [hk]
 refine aq 2 rfl (ao (au ek rfl) (ea jQ B rfl rfl rfl (by simp) fun pD pv=>?_));replace aa:=aa.ne pv.mod (Ne.symm jv);replace E:=E.trans pv.mod;replace F:=F.trans pv.mod;replace fR:=fR.put pv.mod aiK;replace B:aD pD g _ [_,_,_,_,_,_,_]:=pv.aA;refine R db (b8 (aQ rfl (ao (au j2 rfl) (ao (bh bH rfl (aa.cell rfl)) (cF (cs:=[_]) j4 Fo rfl rfl rfl (by decide) rfl fun g3 lL eT=>?_)))));have dA:=eT.le E;have aiM:=eT.le F;have We:=eT.ne B;have eJ:=eT.ne aa;have afU:=eT.cd fR;replace B:=B.I eT.mod;replace aa:=aa.I eT.mod;replace E:=E.then eT.mod;replace F:=F.then eT.mod;replace fR:=fR.I eT.mod;have bq:=eT.aA;refine cV j4 rfl rfl fR (Src.own Tryz.underlying26 (Own.all (cs:=[_]) bq rfl (by omega)) (by simp [Value.oneCell'])) (by decide) (by omega) (by omega) rfl fun v1 iy gi=>?_;have gG:Own iy 9 1 v1 (j+1) ((((cG t k 4).1.list.take (j+1)).map fun x=>[S x.str]).flatten):=gi.own.same (by omega) (by rw [nf];simp);have pI:∀ y∈aL v1,Xu.heap.size≤y:=fun y aR=>(gi.kn y aR).elim (vQ y) (fun h=>Nat.le_trans F.size h);replace B:=B.mod gi.mod (fun h=>by have:=vQ _ h;omega);replace E:=E.trans' gi.mod (fun y aR=>.inr (Nat.le_trans Rj (vQ y aR)));replace F:=F.trans' gi.mod (fun y aR=>.inr (vQ y aR));exact bb rfl (eG (b5 (by simp) (az cA (b8 (ao (bT rfl rfl (by omega)) (aQ rfl (eG (jW (σ:=Nat×Value) (s:=⟨j,v⟩) (⟨j+1,v1⟩) ⟨rfl,rfl,rfl,rfl,rfl,trivial⟩ ⟨by omega,gG,pI,by rw [tM];exact B,F,E⟩ (by dsimp only;omega)))))))))
end Go.Proofs.YtnihidkbkhcfoaaGreatDoor.V
namespace Go.Proofs.YtnihidkbkhcfoaaGreatDoor.V
open Go
namespace JV
end JV
namespace EV
open JV
theorem HT {e:EV} (a6:e.o8=0) {T:U} (h:e.val.wr 0 [] = .ok T):e.fW=0:=by
 unfold EV.fW;rw [if_neg (by simp [a6]),h];rfl
end EV
end Go.Proofs.YtnihidkbkhcfoaaGreatDoor.V
namespace Go.Proofs.YtnihidkbkhcfoaaGreatDoor.V
open Go
theorem mU:∀ s:U,(∀ c∈s,c.toNat<128)→ck s=true
 | [],_=>np
 | c::r,h=>by
  have h1:aC (c::r)=(c.toNat,1):=fG (h c (by simp))
  rw [kE (by simp) (by rw [h1];simp),h1]
  exact mU r fun x ab=>h x (by simp [ab])
namespace JV
theorem HU {s:U} (bw:ck s=true) (bM:s.length≤65536):∀ c:U,(c++b7 s).length≤65536→gC c s = .ok (c++b7 s):=fun c a6=>by
 rw [gC,if_neg (by omega),if_pos bw,eS a6]
theorem x3 {s:U} {deep:Nat} (bw:ck s=true) (bM:s.length≤65536):Fit (aY s) deep (b7 s):=fun c a6=>by
 have aH:¬ bare (aY s)=false:=by simp [bare,aY,kind,is,num,str,list,map]
 have pV:(aY s).kind=3:=rfl;rw [dZ,if_neg aH,if_neg (by rw [pV];decide),if_neg (by rw [pV];decide),if_neg (by rw [pV];decide),if_pos pV];exact HU bw bM c a6
theorem DX {n:Int} {deep:Nat} (bD : -9007199254740991≤n) (h1:n≤9007199254740991):Fit (fs n) deep (Lib.itoa n):=fun c a6=>by
 have aH:¬ bare (fs n)=false:=by
  have:bare (fs n)=true:=by unfold bare fs;simp [kind,is,num,str,list,map,bD,h1]
  rw [this];simp
 have iP:(fs n).kind=2:=rfl;rw [dZ,if_neg aH,if_neg (by rw [iP];decide),if_neg (by rw [iP];decide),if_pos iP];exact eS a6
theorem Ks {deep:Nat} (bL:deep≠32):Fit (fw []) deep [91,93]:=fun c a6=>by
 have aH:¬ bare (fw [])=false:=by simp [bare,fw,kind,is,num,str,list,map]
 have rG:(fw []).kind=4:=rfl;rw [dZ,if_neg aH,if_neg (by rw [rG];decide),if_neg (by rw [rG];decide),if_neg (by rw [rG];decide),if_neg (by rw [rG];decide),if_neg bL,if_pos rG,eS (by simp only [List.length_append,List.length_cons,List.length_nil] at a6 ⊢;omega)];show(h9 [] deep true (c ++ [91])).bind _=_;rw [h9];show dw (c ++ [91] ++ [93])=_;rw [eS (by simp only [List.length_append,List.length_cons,List.length_nil] at a6 ⊢;omega)];simp
theorem tt {deep:Nat} {prev:Option U}:rk [] deep prev []:=fun b _=>by rw [fk];simp
theorem tu {k:U} {v:JV} {r:List (U×JV)} {deep:Nat} {prev:Option U} {t1 t2:U} (bw:∀ c∈k,c.toNat<128) (bM:k.length≤1000) (eE:∀ q,prev=some q→fA q k=true) (h1:Fit v (deep+1) t1) (aj:rk r deep (some k) t2) :
  rk ((k,v)::r) deep prev (comma prev++b7 k ++ [58]++t1++t2):=DT (p:=(k,v)) eE (HU (mU k bw) (by simp only;omega)) h1 aj
theorem x4 {deep:Nat}:∀ (l:List JV) (fst:Bool) (b eA:U),h9 l deep fst b = .ok eA→∀ x∈l,∃ c c',wr x (deep+1) c = .ok c'
 | [],_,_,_,_,x,ab=>by cases ab
 | y::l,fst,b,eA,h,x,ab=>by
  rw [jr] at h
  obtain⟨ev,h1,h⟩:=cB h
  obtain⟨eW,aj,h⟩:=cB h
  rcases List.mem_cons.1 ab with rfl | ab
  ·exact⟨_,_,aj⟩
  exact x4 l _ _ _ h x ab
theorem x5 {deep:Nat}:∀ (m:List (U×JV)) (prev:Option U) (b eA:U),fk m deep prev b = .ok eA→∀ p∈m,∃ c c',wr p.2 (deep+1) c = .ok c'
 | [],_,_,_,_,x,ab=>by cases ab
 | y::m,prev,b,eA,h,x,ab=>by
  obtain⟨_,eW,aj,aF,_,_⟩:=sv h
  rcases List.mem_cons.1 ab with rfl | ab
  ·exact⟨_,_,aj⟩
  exact x5 m _ _ _ aF x ab
theorem tv:∀ (N:Nat) (v:JV) (deep:Nat) (b eA:U),v.sz≤N→wr v deep b = .ok eA→v.fZ
 | 0,v,_,_,_,h,_=>absurd (nI v) (by omega)
 | N+1,v,deep,b,eA,hj,h=>by
  have dh:=tv N
  rw [lg]
  have bD:=h
  rw [dZ] at h
  split at h
  ·cases h
  rename_i aH
  have aH:v.bare=true:=by simpa using aH
  have hk:=@oT v aH
  have Eg:v.kind=4∨v.list = []:=by
   unfold bare at aH
   simp only [Bool.and_eq_true,Bool.or_eq_true,decide_eq_true_eq] at aH
   exact aH.1.1.2.imp id List.eq_nil_of_length_eq_zero
  have Ck:v.kind=5∨v.map = []:=by
   unfold bare at aH
   simp only [Bool.and_eq_true,Bool.or_eq_true,decide_eq_true_eq] at aH
   exact aH.1.2.imp id List.eq_nil_of_length_eq_zero
  by_cases rG:v.kind=4
  ·have hm:v.map = []:=Ck.resolve_left (by omega)
   rw [if_neg (by omega),if_neg (by omega),if_neg (by omega),if_neg (by omega)] at h
   split at h
   ·cases h
   obtain⟨ev,h1,aF⟩:=cB h
   obtain⟨eW,aj,bn⟩:=cB aF
   rw [hm]
   refine⟨List.Pairwise.nil,fun x ab=>?_,by simp⟩
   obtain⟨c,c',a6⟩:=x4 _ _ _ _ aj x ab
   exact dh x _ _ _ (by have:=hv ab;omega) a6
  have bM:v.list = []:=Eg.resolve_left rG
  by_cases q4:v.kind=5
  ·obtain⟨_,eW,aj,_,_⟩:=HS q4 bD
   rw [bM]
   refine⟨(sw _ _ _ _ _ aj).1,by simp,fun p bJ=>?_⟩
   obtain⟨c,c',a6⟩:=x5 _ _ _ _ aj p bJ
   exact dh p.2 _ _ _ (by have:=gI bJ;omega) a6
  rw [bM,Ck.resolve_left q4]
  exact⟨List.Pairwise.nil,by simp,by simp⟩
theorem Dk {v:JV} {deep:Nat} {b eA:U} (h:wr v deep b = .ok eA):v.fZ:=tv v.sz v deep b eA (Nat.le_refl _) h
end JV
namespace EV
open JV
theorem Kt (e:EV):cZ e.kx:=by rw [← Ps];exact pQ _ _
end EV
end Go.Proofs.YtnihidkbkhcfoaaGreatDoor.V
namespace Go.Proofs.YtnihidkbkhcfoaaGreatDoor.V
open Go
namespace JV
mutual
def nh:JV→Nat
 | .mk k b n s l m=>1+s.length+pb l+iV m
def pb:List JV→Nat
 | []=>0
 | v::r=>nh v+pb r
def iV:List (List UInt8×JV)→Nat
 | []=>0
 | p::r=>p.1.length+nh p.2+iV r
end
theorem hh (v:JV):v.nh=1+v.str.length+pb v.list+iV v.map:=by cases v;simp [nh,str,list,map]
theorem DY (s:U):s.length≤(cW s).length:=by
 induction s with
 | nil=>simp
 | cons c r dh=>
  have:=y0 c;simp only [cW,List.map_cons,List.flatten_cons,List.length_append,List.length_cons] at dh ⊢;omega
theorem HV:∀ N:Nat,∀ (v:JV) (deep:Nat) (b eA:U),v.sz≤N→wr v deep b = .ok eA→b.length+v.nh≤eA.length
 | 0,v,_,_,_,h,_=>absurd (nI v) (by omega)
 | N+1,v,deep,b,eA,hj,h=>by
  have dh:=HV N
  have Pp:∀ (l:List JV),(∀ x∈l,x.sz≤N)→∀ (fst:Bool) (b eA:U),h9 l deep fst b = .ok eA→b.length+pb l≤eA.length:=by
   intro l
   induction l with
   | nil=>
    intro _ fst b eA h
    rw [h9] at h
    injection h with h
    subst h
    simp [pb]
   | cons x r ZU=>
    intro ab fst b eA h
    rw [jr] at h
    obtain⟨ev,h1,h⟩:=cB h
    obtain⟨eW,aj,aF⟩:=cB h
    have aaC:b.length≤ev.length:=by
     cases fst with
     | true=>injection h1 with h1;rw [h1];exact Nat.le_refl _
     | false=>obtain⟨rfl,_⟩:=eM h1;simp
    have KB:=dh x (deep+1) ev eW (ab x (List.mem_cons_self ..)) aj
    have aoy:=ZU (fun y aR=>ab y (List.mem_cons_of_mem _ aR)) false eW eA aF
    rw [pb]
    omega
  have Pq:∀ (m:List (U×JV)),(∀ x∈m,x.2.sz≤N)→∀ (prev:Option U) (b eA:U),fk m deep prev b = .ok eA→b.length+iV m≤eA.length:=by
   intro m
   induction m with
   | nil=>
    intro _ prev b eA h
    rw [fk] at h
    injection h with h
    subst h
    simp [iV]
   | cons x r ZV=>
    intro ab prev b eA h
    obtain⟨_,eW,aj,aF,_⟩:=sv h
    have KB:=dh x.2 (deep+1) _ eW (ab x (List.mem_cons_self ..)) aj
    have aoy:=ZV (fun y aR=>ab y (List.mem_cons_of_mem _ aR)) _ eW eA aF
    have aoz:=DY x.1
    simp only [List.length_append,b7,List.length_cons,List.length_nil] at KB
    rw [iV]
    omega
  have cO:=hh v
  have amM:1≤(Lib.itoa v.num).length:=List.length_pos_iff.2 (LL _)
  rw [dZ] at h
  split at h
  ·cases h
  rename_i aH
  obtain⟨ET,Ef,GS,Eg,Ck⟩:=jI (by simpa using aH)
  split at h
  ·rename_i pj
   obtain⟨rfl,_⟩:=eM h
   rw [cO,GS.resolve_left (by omega),Eg.resolve_left (by omega),Ck.resolve_left (by omega)]
   simp [pb,iV]
  split at h
  ·rename_i pj
   obtain⟨rfl,_⟩:=eM h
   rw [cO,GS.resolve_left (by omega),Eg.resolve_left (by omega),Ck.resolve_left (by omega)]
   cases v.is <;> simp [pb,iV]
  split at h
  ·rename_i pj
   obtain⟨rfl,_⟩:=eM h
   rw [cO,GS.resolve_left (by omega),Eg.resolve_left (by omega),Ck.resolve_left (by omega)]
   simp only [pb,iV,List.length_append,List.length_nil]
   omega
  split at h
  ·rename_i pj
   obtain⟨t,rfl,rfl,_⟩:=x0 h
   have aoz:=DY v.str
   rw [cO,Eg.resolve_left (by omega),Ck.resolve_left (by omega)]
   simp only [pb,iV,List.length_append,b7,List.length_cons,List.length_nil]
   omega
  split at h
  ·cases h
  split at h
  ·rename_i rG
   obtain⟨ev,h1,fb⟩:=cB h
   obtain⟨eW,aj,Kr⟩:=cB fb
   obtain⟨rfl,_⟩:=eM h1
   obtain⟨rfl,_⟩:=eM Kr
   have:=Pp v.list (fun x ab=>by have:=hv ab;omega) _ _ _ aj
   rw [cO,GS.resolve_left (by omega),Ck.resolve_left (by omega)]
   simp only [iV,List.length_append,List.length_cons,List.length_nil] at this ⊢
   omega
  rename_i rG
  have hk:=oT (v:=v) (by simpa using aH)
  obtain⟨ev,h1,fb⟩:=cB h
  obtain⟨eW,aj,Kr⟩:=cB fb
  obtain⟨rfl,_⟩:=eM h1
  obtain⟨rfl,_⟩:=eM Kr
  have:=Pq v.map (fun x ab=>by have:=gI ab;omega) _ _ _ aj
  rw [cO,GS.resolve_left (by omega),Eg.resolve_left rG]
  simp only [pb,List.length_append,List.length_cons,List.length_nil] at this ⊢
  omega
theorem qm:∀ l:List JV,l.length≤pb l
 | []=>by simp [pb]
 | x::r=>by
  have:=qm r
  have:=hh x
  simp only [List.length_cons,pb]
  omega
theorem mV:∀ m:List (U×JV),m.length≤iV m
 | []=>by simp [iV]
 | x::r=>by
  have:=mV r
  have:=hh x.2
  simp only [List.length_cons,iV]
  omega
theorem x6:∀ {l:List JV} {x:JV},x∈l→x.nh≤pb l
 | y::r,x,h=>by
  rw [pb]
  rcases List.mem_cons.1 h with rfl | h
  ·omega
  have:=x6 h;omega
theorem mW:∀ {m:List (U×JV)} {p:U×JV},p∈m→p.1.length+p.2.nh≤iV m
 | y::r,x,h=>by
  rw [iV]
  rcases List.mem_cons.1 h with rfl | h
  ·omega
  have:=mW h;omega
theorem Gt:∀ (N:Nat) (v:JV),v.sz≤N→v.nh≤65536→v.ok
 | 0,v,h,_=>absurd (nI v) (by omega)
 | N+1,v,h,aN=>by
  have e:=hh v
  have h1:=qm v.list
  have aj:=mV v.map
  exact(ok_eq v).2 ⟨by omega,by omega,by omega,fun x ab=>Gt N x (by have:=hv ab;omega) (by have:=x6 ab;omega),fun p bJ=>⟨by have:=mW bJ;omega,Gt N p.2 (by have:=gI bJ;omega) (by have:=mW bJ;omega)⟩⟩
theorem F' {v:JV} {t:U} (h:v.wr 0 [] = .ok t):v.nh≤65536:=by
 have h1:=HV v.sz v 0 [] t (Nat.le_refl _) h;have aj:t.length≤65536:=(fit h).elim fun t bQ=>bQ.2.1;simp only [List.length_nil] at h1;omega
end JV
theorem Ro {v:JV} {t:U} (h:v.wr 0 [] = .ok t):(⟨v,false⟩:kO).fit:=by
 have h1:=JV.F' h;have cO:=JV.hh v;have hm:=JV.mV v.map;obtain⟨Kz,_,aaF⟩:=(JV.lg v).1 (JV.Dk h);refine⟨Kz,(by omega:v.map.length≤1000000),fun p bJ=>?_⟩;have aN:p.1.length+p.2.nh≤JV.iV v.map:=JV.mW bJ;have rq:=JV.hh p.2;have nb:=JV.qm p.2.list;have Mg:=JV.mV p.2.map;exact⟨by omega,((JV.lg p.2).1 (aaF p bJ)).1,by omega⟩
def dO (v:JV):=cG ⟨v,false⟩ gm 5
def fS (v:JV):=A7 (dO v).2 eu
def gN (v:JV):=A7 (fS v).2 eC
def nO (v:JV):=cG (gN v).2 hf 3
def nP (v:JV):=cG (nO v).2 eQ 3
def nQ (v:JV):=cG (nP v).2 h2 3
def nR (v:JV):=cG (nQ v).2 gE 2
def jS (v:JV):=cG (nR v).2 lS 2
def ll (v:JV):Bool:=((jS v).2.rest.get dk).isSome
def iS (v:JV):JV×kO:=if ll v then cG (jS v).2 dk 3 else (JV.fQ,(jS v).2)
def bz (v:JV):=cG (iS v).2 iq 5
def l5 (p:U×JV):Bool:=decide (p.2.map.length=0)||p.2.map.any fun q=>decide (q.2.kind≠3)
def qd (v:JV):Bool:=(bz v).2.bad||(bz v).1.map.any l5
def ng (v:JV):=cG ⟨(bz v).2.rest,qd v⟩ eP 5
def pB (v:JV):=cG ⟨(ng v).1,false⟩ hB 3
def en (p:U×JV):List cX:=p.2.map.map fun q=>⟨p.1,q.1,q.2.str⟩
def bp (m:List (U×JV)):List cX:=(m.map en).flatten
def ey (v:JV):EV:=⟨(nO v).1.str,(nP v).1.str,(nQ v).1.str,ll v,(iS v).1.str,(dO v).1,(fS v).1,(gN v).1,(nR v).1.num,(jS v).1.num,(pB v).1.str,bp (bz v).1.map⟩
def A8 (v:JV):Bool:=(ng v).2.bad||((pB v).2.bad||decide ((ng v).2.rest.map.length+(pB v).2.rest.map.length > 0))
noncomputable def ja (v:JV):Int:=if fW (v.wr 0 [])≠0∨v.kind≠5 then 21 else if A8 v=true then 21 else (ey v).o8
section
variable {v:JV} (h:(⟨v,false⟩:kO).fit)
include h
theorem TK:(dO v).2.fit:=kO.gu h _ _
theorem TL:(fS v).2.fit:=kO.gu (TK h) eu 4
theorem TM:(gN v).2.fit:=kO.gu (TL h) eC 4
theorem TN:(nO v).2.fit:=kO.gu (TM h) _ _
theorem TO:(nP v).2.fit:=kO.gu (TN h) _ _
theorem TP:(nQ v).2.fit:=kO.gu (TO h) _ _
theorem TQ:(nR v).2.fit:=kO.gu (TP h) _ _
theorem Ds:(jS v).2.fit:=kO.gu (TQ h) _ _
theorem NK:(iS v).2.fit:=by
 unfold iS
 split
 ·exact kO.gu (Ds h) _ _
 exact Ds h
theorem TJ:(bz v).2.fit:=kO.gu (NK h) _ _
end
end Go.Proofs.YtnihidkbkhcfoaaGreatDoor.V
namespace Go.Proofs.YtnihidkbkhcfoaaGreatDoor.V
open Go
namespace JV
theorem u6 (q:U×JV→Bool):∀ m:List (U×JV),iV (m.filter q)≤iV m
 | []=>by simp
 | x::r=>by
  have:=u6 q r
  rw [List.filter_cons,iV]
  split
  ·rw [iV];omega
  omega
end JV
theorem hR {t:kO} (h:t.rest.nh≤65536) (k:U) (kind:Int):(cG t k kind).1.nh≤65536∧(cG t k kind).2.rest.nh≤65536:=by
 have bW:JV.fQ.nh≤65536:=by rw [JV.hh];simp [JV.fQ,JV.str,JV.list,JV.map,JV.pb,JV.iV]
 have bf:=JV.hh t.rest;cases cN:t.rest.get k with
 | none=>rw [mh cN];exact⟨bW,h⟩
 | some x=>
  by_cases hk:x.kind=kind
  ·rw [kP cN hk];have hm:=JV.mW (JV.ud cN);refine⟨by simp only at hm ⊢;omega,?_⟩;have dm:=JV.u6 (fun q:U×JV=>decide (q.1≠k)) t.rest.ec;have bQ:JV.iV t.rest.ec≤JV.iV t.rest.map:=by
    unfold JV.ec
    split
    ·exact Nat.le_refl _
    simp [JV.iV]
   show(JV.obj (b4 t.rest.ec k)).nh≤65536;rw [JV.hh];simp only [JV.obj,JV.str,JV.list,JV.map,JV.pb,List.length_nil];unfold b4;omega
  rw [mg cN hk];exact⟨bW,h⟩
theorem zT:JV.fQ.fZ:=(JV.lg _).2 ⟨List.Pairwise.nil,by simp [JV.fQ,JV.list],by simp [JV.fQ,JV.map]⟩
theorem gb {t:kO} (h:t.rest.fZ) (k:U) (kind:Int):(cG t k kind).1.fZ∧(cG t k kind).2.rest.fZ:=by
 obtain⟨Kz,apr,aaF⟩:=(JV.lg _).1 h;cases cN:t.rest.get k with
 | none=>rw [mh cN];exact⟨zT,h⟩
 | some x=>
  by_cases hk:x.kind=kind
  ·rw [kP cN hk];refine⟨aaF _ (JV.ud cN),(JV.lg _).2 ⟨?_,by simp [JV.obj,JV.list],fun p bJ=>?_⟩⟩
   ·show cZ (b4 t.rest.ec k);refine List.Pairwise.filter _ ?_;unfold JV.ec
    split
    ·exact Kz
    exact List.Pairwise.nil
   have rY:p∈t.rest.ec:=(List.mem_filter.1 (show p∈b4 t.rest.ec k from bJ)).1;unfold JV.ec at rY
   split at rY
   ·exact aaF p rY
   cases rY
  rw [mg cN hk];exact⟨zT,h⟩
theorem zA {x:JV} (b:Bool) (h:x.fZ) (aN:x.nh≤65536):(⟨x,b⟩:kO).fit:=by
 obtain⟨Kz,_,aaF⟩:=(JV.lg x).1 h;have e:=JV.hh x;have hm:=JV.mV x.map;refine⟨Kz,(by omega:x.map.length≤1000000),fun p bJ=>?_⟩;have aN:p.1.length+p.2.nh≤JV.iV x.map:=JV.mW bJ;have rq:=JV.hh p.2;have nb:=JV.qm p.2.list;have Mg:=JV.mV p.2.map;exact⟨by omega,((JV.lg p.2).1 (aaF p bJ)).1,by omega⟩
section
variable {v:JV} (h:v.fZ)
include h
theorem akA:(dO v).1.fZ∧(dO v).2.rest.fZ:=gb h _ _
theorem akB:(fS v).2.rest.fZ:=(gb (akA h).2 eu 4).2
theorem akC:(gN v).2.rest.fZ:=(gb (akB h) eC 4).2
theorem akD:(nO v).2.rest.fZ:=(gb (akC h) _ _).2
theorem akE:(nP v).2.rest.fZ:=(gb (akD h) _ _).2
theorem akF:(nQ v).2.rest.fZ:=(gb (akE h) _ _).2
theorem akG:(nR v).2.rest.fZ:=(gb (akF h) _ _).2
theorem aeX:(jS v).2.rest.fZ:=(gb (akG h) _ _).2
theorem akH:(iS v).2.rest.fZ:=by
 unfold iS
 split
 ·exact(gb (aeX h) _ _).2
 exact aeX h
theorem akI:(bz v).2.rest.fZ:=(gb (akH h) _ _).2
theorem ado:(ng v).1.fZ∧(ng v).2.rest.fZ:=gb (t:=⟨(bz v).2.rest,qd v⟩) (akI h) _ _
end
theorem qV:∀ m:List (U×JV),(bp m).length≤JV.iV m∧∀ s∈bp m,s.cP.length≤JV.iV m∧s.key.length≤JV.iV m∧s.sig.length≤JV.iV m
 | []=>by simp [bp,JV.iV]
 | p::r=>by
  obtain⟨h1,aj⟩:=qV r
  have e:bp (p::r)=en p++bp r:=by simp [bp]
  have bJ:=JV.hh p.2
  have bM:=JV.mV p.2.map
  have aN:(en p).length=p.2.map.length:=by simp [en]
  rw [e,JV.iV,List.length_append,aN]
  refine⟨by omega,fun s aN=>?_⟩
  rcases List.mem_append.1 aN with aN | aN
  ·unfold en at aN
   obtain⟨q,eE,rfl⟩:=List.mem_map.1 aN
   have:=JV.mW eE
   have:=JV.hh q.2
   simp only
   omega
  obtain⟨a,b,c⟩:=aj s aN
  omega
section
variable {v:JV} (h:v.nh≤65536)
include h
theorem aeY:(dO v).1.nh≤65536∧(dO v).2.rest.nh≤65536:=hR h _ _
theorem ZX:(cG (dO v).2 eu 4).1.nh≤65536∧(fS v).2.rest.nh≤65536:=hR (aeY h).2 eu 4
theorem ZY:(cG (fS v).2 eC 4).1.nh≤65536∧(gN v).2.rest.nh≤65536:=hR (ZX h).2 eC 4
theorem ZZ:(nO v).1.nh≤65536∧(nO v).2.rest.nh≤65536:=hR (ZY h).2 _ _
theorem Z0:(nP v).1.nh≤65536∧(nP v).2.rest.nh≤65536:=hR (ZZ h).2 _ _
theorem aeZ:(nQ v).1.nh≤65536∧(nQ v).2.rest.nh≤65536:=hR (Z0 h).2 _ _
theorem akJ:(nR v).1.nh≤65536∧(nR v).2.rest.nh≤65536:=hR (aeZ h).2 _ _
theorem ae0:(jS v).1.nh≤65536∧(jS v).2.rest.nh≤65536:=hR (akJ h).2 _ _
theorem ae1:(iS v).1.nh≤65536∧(iS v).2.rest.nh≤65536:=by
 unfold iS
 split
 ·exact hR (ae0 h).2 _ _
 exact⟨by rw [JV.hh];simp [JV.fQ,JV.str,JV.list,JV.map,JV.pb,JV.iV],(ae0 h).2⟩
theorem SL:(bz v).1.nh≤65536∧(bz v).2.rest.nh≤65536:=hR (ae1 h).2 _ _
theorem Xx:(ng v).1.nh≤65536∧(ng v).2.rest.nh≤65536:=hR (t:=⟨(bz v).2.rest,qd v⟩) (SL h).2 _ _
theorem akK:(pB v).1.nh≤65536∧(pB v).2.rest.nh≤65536:=hR (t:=⟨(ng v).1,false⟩) (Xx h).1 _ _
omit h in
theorem pc (x:JV) (ab:x.nh≤65536):x.str.length≤65536:=by have:=JV.hh x;omega
omit h in
theorem tw (x:JV) (ab:x.nh≤65536):(x.list.map JV.str).length≤65536∧∀ s∈x.list.map JV.str,s.length≤65536:=by
 have:=JV.hh x;have:=JV.qm x.list;refine⟨by rw [List.length_map];omega,fun s aN=>?_⟩;obtain⟨y,aR,rfl⟩:=List.mem_map.1 aN;have:=JV.x6 aR;have:=JV.hh y;omega
theorem zB:(ey v).lens:=by
 have cN:=JV.hh (bz v).1;have h1:=SL h;obtain⟨_,aj⟩:=qV (bz v).1.map;exact⟨Nat.lt_of_le_of_lt (pc _ (ZZ h).1) (by decide),Nat.lt_of_le_of_lt (pc _ (Z0 h).1) (by decide),fun s aN=>by have:=(aj s aN).1;omega⟩
theorem ui:(ey v).sigs.length≤65536:=by
 have cN:=JV.hh (bz v).1;have h1:=SL h;have:=(qV (bz v).1.map).1;show(bp (bz v).1.map).length≤65536;omega
theorem Ht:(ey v).ok:=by
 have b:∀ n:Nat,n≤65536→n≤140737488351232:=fun n bW=>by omega
 have cN:=JV.hh (bz v).1;have h1:=(SL h).1;obtain⟨aF,aj⟩:=qV (bz v).1.map;obtain⟨ET,Ef⟩:=tw _ (ZX h).1;obtain⟨sa,a2⟩:=tw _ (ZY h).1;exact⟨b _ (pc _ (ZZ h).1),b _ (pc _ (Z0 h).1),b _ (pc _ (aeZ h).1),b _ (pc _ (ae1 h).1),JV.Gt _ _ (Nat.le_refl _) (aeY h).1,fun s aN=>b _ (Ef s aN),b _ ET,fun s aN=>b _ (a2 s aN),b _ sa,b _ (pc _ (akK h).1),fun s aN=>by obtain⟨pT,pn,uW⟩:=aj s aN;exact⟨b _ (by omega),b _ (by omega),b _ (by omega)⟩,b _ (ui h)⟩
theorem N9:(ey v).Bi:=by
 obtain⟨ET,Ef⟩:=tw _ (ZX h).1;obtain⟨sa,a2⟩:=tw _ (ZY h).1;exact⟨Nat.le_trans (ui h) (by decide),Nat.le_trans ET (by decide),Nat.le_trans sa (by decide)⟩
end
end Go.Proofs.YtnihidkbkhcfoaaGreatDoor.V
