/-
  A part of the proof: members by rising keys: found, put, in plain Lean; JSON values in memory: their cells, the rows of their lists and maps; how much a JSON value weighs, whether its keys rise, whether two are the same, in plain Lean; members put into a map: rows of seven cells; runes, texts between quotes, canonical texts of JSON values, as the document tells them, in plain Lean; runes, step by step; the model's reading of a rune, and the document's: the same; the rest of a slice of the call's own is cleared; a drawn region's end with two slots of which something is known; a text between quotes, byte by byte; errors' numbers; bytes that grow behind one another while a JSON value is read: what is kept from step to step; panics that go through a call; a range over a string; bits of bytes; the letter behind a backslash; a text between quotes, rune by rune; the operations that make the bytes of a rune; a text between quotes, rune by rune: what each round adds; a writer in memory: what its functions leave, whether they return or panic; the writing of lists and maps, step by step; a deferred function that recovers; what a function with one leaves. No condition of its own.
-/
import Derived.Test.YtnihidkbkhcfoaaGreatDoorM1
import Derived.Lib.ItoaLen
import Derived.Laws.RangeString
import Derived.WalkSmall
import Derived.Recover
import Derived.WideLaws
set_option linter.unusedVariables false
set_option linter.unusedSimpArgs false
namespace Go.Proofs.YtnihidkbkhcfoaaGreatDoor.V
open Go
theorem vN:∀ a b:aa,Lib.compareBytes a b=p1 a b
 | [],[]=>rfl
 | [],_::_=>by simp [Lib.compareBytes,p1,eQ,Op.bytesLess]
 | _::_,[]=>by simp [Lib.compareBytes,p1,eQ,Op.bytesLess]
 | x::a,y::b=>by
  have dF:=vN a b
  simp only [Lib.compareBytes]
  unfold p1 at dF ⊢
  by_cases h:x<y
  ·simp [h,eQ,Op.bytesLess]
  by_cases fh:y<x
  ·have bY:x≠y:=fun e=>by subst e;exact h fh
   simp [h,fh,eQ,Op.bytesLess,bY]
  have alA:x=y:=UInt8.le_antisymm (UInt8.not_lt.1 fh) (UInt8.not_lt.1 h)
  subst alA
  simp [eQ,Op.bytesLess]
  rw [dF]
section
variable {β:Type}
def en (m:List (aa×β)):Prop:=m.Pairwise fun a b=>eQ a.1 b.1=true
def look:List (aa×β)→aa→Option β
 | [],_=>none
 | p::r,k=>if p.1=k then some p.2 else look r k
def fi (m:List (aa×β)) (k:aa):Nat:=(m.filter fun p=>eQ p.1 k).length
def dA (m:List (aa×β)) (k:aa) (x:β):List (aa×β):=m.filter (fun p=>eQ p.1 k) ++ [(k,x)]++m.filter (fun p=>eQ k p.1)
variable {m gr:List (aa×β)} {k:aa} {x:β}
theorem yC:fi m k≤m.length:=List.length_filter_le _ _
theorem yv {i:Nat} (hi:i≤m.length) (h:∀ (j:Nat) (y:aa×β),j<i→m[j]? = some y→eQ y.1 k=true) (fh:∀ (j:Nat) (y:aa×β),i≤j→m[j]? = some y→eQ y.1 k=false):fi m k=i:=by
 rw [fi,lI (i:=i) h fh,List.length_take];omega
theorem rI {i j:Nat} {a b:aa×β} (h:en m) (ay:m[i]? = some a) (aQ:m[j]? = some b) (xx:i<j):eQ a.1 b.1=true:=by
 obtain⟨h1,rfl⟩:=List.getElem?_eq_some_iff.1 ay;obtain⟨aq,rfl⟩:=List.getElem?_eq_some_iff.1 aQ;exact List.pairwise_iff_getElem.1 h i j h1 aq xx
theorem hQ (h:∀ (j:Nat) (y:aa×β),m[j]? = some y→y.1≠k):look m k=none:=by
 induction m with
 | nil=>rfl
 | cons p r dF=>
  rw [look,if_neg (h 0 p rfl)];exact dF fun j y aZ=>h (j+1) y (by simpa using aZ)
theorem Bv {i:Nat} {y:aa×β} (h:∀ (j:Nat) (z:aa×β),j<i→m[j]? = some z→z.1≠k) (aZ:m[i]? = some y) (hk:y.1=k):look m k=some y.2:=by
 induction m generalizing i with
 | nil=>simp at aZ
 | cons p r dF=>
  cases i with
  | zero=>simp at aZ;subst aZ;rw [look,if_pos hk]
  | succ i=>
   rw [look,if_neg (h 0 p (by omega) rfl)];exact dF (i:=i) (fun j z dY di=>h (j+1) z (by omega) (by simpa using di)) (by simpa using aZ)
theorem B9 (h:en m):(∀ j y,j<fi m k→m[j]? = some y→eQ y.1 k=true)∧(∀ j y,fi m k≤j→m[j]? = some y→eQ y.1 k=false):=by
 induction m with
 | nil=>simp
 | cons p r dF=>
  obtain⟨h1,aq⟩:=dF (List.Pairwise.of_cons h)
  by_cases ae:eQ p.1 k=true
  ·have cn:fi (p::r) k=fi r k+1:=by simp [fi,ae]
   rw [cn];refine⟨fun j y dY aZ=>?_,fun j y dY aZ=>?_⟩
   ·cases j with
    | zero=>simp at aZ;subst aZ;exact ae
    | succ j=>exact h1 j y (by omega) (by simpa using aZ)
   cases j with
   | zero=>omega
   | succ j=>exact aq j y (by omega) (by simpa using aZ)
  have kk:∀ (j:Nat) (y:aa×β),(p::r)[j]? = some y→eQ y.1 k=false:=fun j y aZ=>by
   cases EK:eQ y.1 k with
   | false=>rfl
   | true=>
    cases j with
    | zero=>simp at aZ;subst aZ;exact absurd EK ae
    | succ j=>exact absurd (gi (rI h (i:=0) rfl aZ (by omega)) EK) ae
  have cn:fi (p::r) k=0:=yv (by omega) (fun j y dY=>by omega) (fun j y _ aZ=>kk j y aZ);rw [cn];exact⟨fun j y dY=>by omega,fun j y _ aZ=>kk j y aZ⟩
theorem x7 {y:aa×β} (h:en m) (aZ:m[fi m k]? = some y) (cn:y.1=k):look m k=some y.2∧∀ x,dA m k x=m.set (fi m k) (k,x):=by
 obtain⟨h1,aq⟩:=B9 (k:=k) h;have bH:=(List.getElem?_eq_some_iff.1 aZ).1;refine⟨Bv (fun j z dY di e=>?_) aZ cn,fun x=>?_⟩
 ·have:=h1 j z dY di;rw [e,dc] at this;cases this
 rw [dA,lI h1 aq,nW (i:=fi m k+1),List.set_eq_take_append_cons_drop,if_pos bH]
 ·simp
 ·intro j z dY di;rcases Nat.lt_succ_iff_lt_or_eq.1 dY with dY | dY
  ·exact ji (h1 j z dY di)
  subst dY;rw [aZ] at di;injection di with di
  subst di;rw [cn,dc]
 intro j z dY di;rw [← cn];exact rI h aZ di (by omega)
theorem I1 (h:en m) (cj:∀ y:aa×β,m[fi m k]? = some y→y.1≠k):look m k=none∧∀ x,dA m k x=m.take (fi m k) ++ [(k,x)]++m.drop (fi m k):=by
 obtain⟨h1,aq⟩:=B9 (k:=k) h;have aT:∀ j z,fi m k≤j→m[j]? = some z→eQ k z.1=true:=fun j z dY di=>by
  have bH:=(List.getElem?_eq_some_iff.1 di).1;obtain⟨y,aZ⟩:∃ y,m[fi m k]? = some y:=⟨_,List.getElem?_eq_getElem (by omega)⟩;have EK:eQ k y.1=true:=by
   rcases mb k y.1 with fh | fh | fh
   ·exact fh
   ·exact absurd fh.symm (cj y aZ)
   rw [aq _ y (Nat.le_refl _) aZ] at fh;cases fh
  rcases Nat.lt_or_ge (fi m k) j with uW | uW
  ·exact gi EK (rI h aZ di uW)
  have:j=fi m k:=by omega
  subst this;rw [aZ] at di;injection di with di
  subst di;exact EK
 refine⟨hQ fun j z di e=>?_,fun x=>?_⟩
 ·rcases Nat.lt_or_ge j (fi m k)with dY | dY
  ·have:=h1 j z dY di;rw [e,dc] at this;cases this
  have:=aT j z dY di;rw [e,dc] at this;cases this
 rw [dA,lI h1 aq,nW (fun j z dY di=>ji (h1 j z dY di)) aT]
theorem afo {i:Nat} (h:en m) (hi:fi m k=i) {y:aa×β} (aZ:m[i]? = some y):(look m k).isSome=decide (p1 y.1 k=0):=by
 subst hi
 by_cases cn:y.1=k
 ·rw [(x7 h aZ cn).1,decide_eq_true (zB.2 cn)];rfl
 rw [(I1 h fun z di=>by rw [aZ] at di;injection di with di;subst di;exact cn).1,decide_eq_false (fun e=>cn (zB.1 e))];rfl
theorem EM (h:en m) (hi:m.length≤fi m k):(look m k).isSome=false:=by
 rw [(I1 h fun z di=>by rw [List.getElem?_eq_none hi] at di;cases di).1];rfl
theorem ss (h:en m) (bb:(look m k).isSome=true):∃ y:aa×β,m[fi m k]? = some y∧y.1=k∧look m k=some y.2:=by
 rcases Nat.lt_or_ge (fi m k) m.length with bH | eG
 ·obtain⟨y,aZ⟩:∃ y,m[fi m k]? = some y:=⟨_,List.getElem?_eq_getElem bH⟩;rw [afo h rfl aZ] at bb;have cn:=zB.1 (of_decide_eq_true bb);exact⟨y,aZ,cn,(x7 h aZ cn).1⟩
 rw [EM h eG] at bb;cases bb
theorem Nb (h:en m) (bb:(look m k).isSome=false):∀ y:aa×β,m[fi m k]? = some y→y.1≠k:=fun y aZ cn=>by
 rw [(x7 h aZ cn).1] at bb;cases bb
theorem k2:∀ {m:List (aa×β)} {x:β},look m k=some x→(k,x)∈m
 | p::r,x,h=>by
  rw [look] at h
  by_cases cn:p.1=k
  ·rw [if_pos cn] at h
   injection h with h
   subst cn;subst h
   exact List.mem_cons_self ..
  rw [if_neg cn] at h
  exact List.mem_cons_of_mem _ (k2 h)
theorem oa:∀ {m:List (aa×β)} {p:aa×β},en m→p∈m→look m p.1=some p.2
 | q::r,p,h,cn=>by
  rcases List.mem_cons.1 cn with rfl | cn
  ·rw [look,if_pos rfl]
  have:=List.rel_of_pairwise_cons h cn
  rw [look,if_neg (fun e=>by rw [e,dc] at this;cases this)]
  exact oa (List.Pairwise.of_cons h) cn
theorem tT:∀ {m:List (aa×β)},look m k=none→∀ p∈m,p.1≠k
 | q::r,h,p,cn=>by
  rw [look] at h
  by_cases e2:q.1=k
  ·rw [if_pos e2] at h;cases h
  rw [if_neg e2] at h
  rcases List.mem_cons.1 cn with rfl | cn
  ·exact e2
  exact tT h p cn
theorem B':∀ {m gr:List (aa×β)},en m→en gr→(∀ k,look m k=look gr k)→m=gr
 | [],[],_,_,_=>rfl
 | [],p::r,_,fh,e=>by have:=e p.1;rw [oa fh (List.mem_cons_self ..)] at this;cases this
 | p::r,[],h,_,e=>by have:=e p.1;rw [oa h (List.mem_cons_self ..)] at this;cases this
 | p::r,Nc::Mn,h,fh,e=>by
  have h1:=k2 ((e p.1).symm.trans (oa h (List.mem_cons_self ..)))
  have aq:=k2 ((e Nc.1).trans (oa fh (List.mem_cons_self ..)))
  have hk:p.1=Nc.1:=by
   rcases List.mem_cons.1 h1 with aT | aT
   ·rw [← aT]
   rcases List.mem_cons.1 aq with bL | bL
   ·rw [← bL]
   have a:=List.rel_of_pairwise_cons fh aT
   have b:=List.rel_of_pairwise_cons h bL
   have:=gi a b
   rw [dc] at this
   cases this
  have tO:p=Nc:=by
   have BP:=e p.1
   rw [look,if_pos rfl,look,if_pos hk.symm] at BP
   injection BP with BP
   exact Prod.ext hk BP
  subst tO
  congr 1
  refine B' (List.Pairwise.of_cons h) (List.Pairwise.of_cons fh) fun k=>?_
  by_cases PZ:p.1=k
  ·subst PZ
   have rB:∀ {r:List (aa×β)},en (p::r)→look r p.1=none:=fun bl=>hQ fun j y aZ e=>by
    have:=List.rel_of_pairwise_cons bl (List.mem_of_getElem? aZ)
    rw [e,dc] at this
    cases this
   rw [rB h,rB fh]
  have BP:=e k
  rwa [look,if_neg PZ,look,if_neg PZ] at BP
theorem uX {q:aa×β→Bool} (h:en m):en (m.filter q):=List.Pairwise.filter q h
theorem qd (h:en m):en (dA m k x):=by
 unfold dA en;rw [List.append_assoc,List.pairwise_append];refine⟨uX h,?_,?_⟩
 ·rw [List.pairwise_append];refine⟨by simp,uX h,?_⟩;intro a ay b aQ;simp at ay;subst ay;simpa using (List.mem_filter.1 aQ).2
 intro a ay b aQ;have h1:eQ a.1 k=true:=by simpa using (List.mem_filter.1 ay).2
 rcases List.mem_append.1 aQ with aQ | aQ
 ·simp at aQ;subst aQ;exact h1
 exact gi h1 (by simpa using (List.mem_filter.1 aQ).2)
theorem nX:∀ {a b:List (aa×β)},look (a++b) k=(look a k).or (look b k)
 | [],b=>by simp [look]
 | p::r,b=>by
  simp only [List.cons_append,look]
  by_cases cn:p.1=k
  ·simp [cn]
  simp [cn,nX (a:=r) (b:=b)]
theorem lJ {q:aa×β→Bool} {b:Bool} (e2:∀ p∈m,p.1=k→q p=b):look (m.filter q) k=if b then look m k else none:=by
 induction m with
 | nil=>simp [look]
 | cons p r dF=>
  have dF:=dF fun Nc tU=>e2 Nc (List.mem_cons_of_mem _ tU);have cn:=e2 p (List.mem_cons_self ..)
  by_cases hk:p.1=k
  ·have:=cn hk;cases b
   ·rw [List.filter_cons_of_neg (by simp [this]),dF];rfl
   rw [List.filter_cons_of_pos this,look,if_pos hk,if_pos rfl,look,if_pos hk]
  by_cases Wf:q p=true
  ·rw [List.filter_cons_of_pos Wf,look,if_neg hk,dF,look,if_neg hk]
  rw [List.filter_cons_of_neg Wf,dF,look,if_neg hk]
theorem BX {iA:aa}:look (dA m k x) iA=if iA=k then some x else look m iA:=by
 unfold dA;rw [nX,nX]
 by_cases h:iA=k
 ·subst h;rw [lJ (b:=false) (fun p _ e=>by rw [e,dc])];simp [look]
 rw [if_neg h];have h1:look [(k,x)] iA=none:=by simp [look,Ne.symm h]
 rw [h1,Option.or_none];rcases mb iA k with aq | aq | aq
 ·rw [lJ (b:=true) (fun p _ e=>by rw [e];exact aq),lJ (b:=false) (fun p _ e=>by rw [e];exact ji aq)];simp
 ·exact absurd aq h
 rw [lJ (b:=false) (fun p _ e=>by rw [e];exact ji aq),lJ (b:=true) (fun p _ e=>by rw [e];exact aq)];simp
end
section
variable {A:List Nat} {w w':World}
theorem Addr.Bw (a:Addr) (i j:Nat):(a.add i).add j=a.add (i+j):=by
 unfold Addr.add
 by_cases h:i=0 <;> by_cases fh:j=0 <;> simp [h,fh,Nat.add_assoc]
theorem q7.tr {a:Addr} {v:Value} {vs:List Value} (h:q7 w a (v::vs)):q7 w (a.add 1) vs:=fun j u hu=>by
 have:=h (j+1) u (by simpa using hu)
 rwa [Addr.Bw,Nat.add_comm 1 j]
theorem JV.a' {v:JV} {us:List Value} (arZ:ao A w v.D us):∃ al cl am cm,us = [.int .i64 v.kind,.bool v.is,.int .i64 v.num,S v.str,.slice al v.list.length cl,.slice am v.map.length cm]∧
  a8 A w (.ia 6 (v.list.map JV.D)) (.slice al v.list.length cl)∧a8 A w (.ia 7 (v.map.map JV.hP)) (.slice am v.map.length cm):=by
 rw [JV.Gb] at arZ
 obtain⟨_,_,rfl,h1,arZ⟩:=arZ
 obtain⟨_,_,rfl,aq,arZ⟩:=arZ
 obtain⟨_,_,rfl,aT,arZ⟩:=arZ
 obtain⟨_,_,rfl,bL,arZ⟩:=arZ
 obtain⟨_,_,rfl,cN,arZ⟩:=arZ
 obtain⟨_,_,rfl,eU,arZ⟩:=arZ
 obtain rfl:=arZ
 obtain rfl:=h1.l3
 obtain rfl:=aq.l3
 obtain rfl:=aT.l3
 obtain rfl:=bL.l3
 obtain⟨al,cl,rfl,_⟩:=cN.uj
 obtain⟨am,cm,rfl,_⟩:=eU.uj
 rw [List.length_map] at cN eU ⊢
 rw [List.length_map]
 exact⟨al,cl,am,cm,rfl,cN,eU⟩
theorem JV.cz {v:JV} {al am:Option Addr} {cl cm:Nat} (kP:a8 A w (.ia 6 (v.list.map JV.D)) (.slice al v.list.length cl)) (jF:a8 A w (.ia 7 (v.map.map JV.hP)) (.slice am v.map.length cm)) :
  ao A w v.D [.int .i64 v.kind,.bool v.is,.int .i64 v.num,S v.str,.slice al v.list.length cl,.slice am v.map.length cm]:=by
 rw [JV.Gb]
 exact ao.gJ (a8.cK rfl) (ao.gJ (a8.cK rfl) (ao.gJ (a8.cK rfl) (ao.gJ (a8.cK rfl) (ao.gJ kP (ao.gJ jF ao.mL)))))
theorem JV.pM {l:List JV} {ad:Option Addr} {n c:Nat} (arZ:a8 A w (.ia 6 (l.map JV.D)) (.slice ad n c)):l.length=n∧n≤c∧c≤9223372036854775807:=by
 obtain⟨rK,c',h1,aq,aT⟩:=arZ.uj;injection h1 with bL cN eU
 rw [List.length_map] at cN aq;omega
theorem JV.ho {m:List (aa×JV)} {ad:Option Addr} {n c:Nat} (arZ:a8 A w (.ia 7 (m.map JV.hP)) (.slice ad n c)):m.length=n∧n≤c∧c≤9223372036854775807:=by
 obtain⟨rK,c',h1,aq,aT⟩:=arZ.uj;injection h1 with bL cN eU
 rw [List.length_map] at cN aq;omega
theorem JV.yp {l:List JV} {x:JV} {ad:Option Addr} {n c i:Nat} (arZ:a8 A w (.ia 6 (l.map JV.D)) (.slice ad n c)) (h:l[i]? = some x):∃ a us,ad=some a∧ao A w x.D us∧q7 w (a.add (i*6)) us:=by
 obtain⟨a,us,h1,aq,_,aT,_⟩:=a8.at_ (i:=i) (r:=x.D) arZ (by simp [h]);exact⟨a,us,h1,aq,aT⟩
theorem JV.kf {m:List (aa×JV)} {p:aa×JV} {ad:Option Addr} {n c i:Nat} (arZ:a8 A w (.ia 7 (m.map JV.hP)) (.slice ad n c)) (h:m[i]? = some p):∃ a us,ad=some a∧ao A w p.2.D us∧q7 w (a.add (i*7)) (S p.1::us):=by
 obtain⟨a,us,h1,aq,_,aT,_⟩:=a8.at_ (i:=i) (r:=JV.hP p) arZ (by simp [h]);obtain⟨u,gd,rfl,bL,cN⟩:=aq;obtain rfl:=bL.l3;exact⟨a,gd,h1,cN,aT⟩
def JV.gN:JV:=.mk 0 false 0 [] [] []
theorem JV.gO:ao A w JV.gN.D [.int .i64 0,.bool false,.int .i64 0,S [],.slice none 0 0,.slice none 0 0]:=by
 have:=JV.cz (A:=A) (w:=w) (v:=JV.gN) (al:=none) (am:=none) (cl:=0) (cm:=0) a8.ej a8.ej;exact this
theorem JV.cells_one {v:JV} {us:List Value} (arZ:ao A w v.D us):us.length=6∧∀ u∈us,u.oneCell'=true:=⟨by rw [arZ.length,JV.rS],arZ.one⟩
theorem JV.qP (m:List (aa×JV)):∀ r∈m.map JV.hP,r.length=7:=by
 intro r bl;obtain⟨p,_,rfl⟩:=List.mem_map.1 bl;exact JV.xY p
theorem JV.du {p:aa×JV} {us:List Value} (arZ:ao A w p.2.D us):ao A w (JV.hP p) (S p.1::us):=ao.gJ (a8.cK rfl) arZ
theorem r4 {sz:Nat}:∀ {rows:List (List D)},(∀ r∈rows,r.length=sz)→rows.flatten.length=rows.length*sz
 | [],_=>by simp
 | r::rs,h=>by
  rw [List.flatten_cons,List.length_append,h r (by simp),r4 fun Mn oE=>h Mn (by simp [oE]),List.length_cons,Nat.add_mul]
  omega
theorem ao.r5 {sz i:Nat} {rows:List (List D)} {vs:List Value} (cg:∀ r∈rows,r.length=sz) (hi:i≤rows.length) (h:ao A w rows.flatten vs) :
  ao A w (rows.take i).flatten (vs.take (i*sz))∧ao A w (rows.drop i).flatten (vs.drop (i*sz)):=by
 have e:rows.flatten=(rows.take i).flatten++(rows.drop i).flatten:=by rw [← List.flatten_append,List.take_append_drop]
 rw [e] at h
 have:=h.cut
 rwa [r4 fun r bl=>cg r (List.mem_of_mem_take bl),List.length_take,Nat.min_eq_left hi] at this
theorem JV.L3 {m:List (aa×JV)} {p:aa×JV} {vs us:List Value} {i:Nat} (h:ao A w (m.map JV.hP).flatten vs) (hi:i≤m.length) (cn:ao A w (JV.hP p) us) :
  ao A w ((m.take i ++ [p]++m.drop i).map JV.hP).flatten (vs.take (i*7)++us++vs.drop (i*7)):=by
 obtain⟨h1,aq⟩:=ao.r5 (i:=i) (JV.qP m) (by simpa using hi) h
 rw [List.map_append,List.map_append,List.flatten_append,List.flatten_append,List.map_take,List.map_drop]
 refine(h1.append ?_).append aq
 simpa using cn
theorem JV.Nd {m:List (aa×JV)} {p:aa×JV} {vs us:List Value} {i:Nat} (h:ao A w (m.map JV.hP).flatten vs) (hi:i<m.length) (cn:ao A w (JV.hP p) us) :
  ao A w ((m.set i p).map JV.hP).flatten (vs.take (i*7)++us++vs.drop ((i+1)*7)):=by
 obtain⟨h1,_⟩:=ao.r5 (i:=i) (JV.qP m) (by simpa using Nat.le_of_lt hi) h
 obtain⟨_,aq⟩:=ao.r5 (i:=i+1) (JV.qP m) (by rw [List.length_map];omega) h
 rw [List.set_eq_take_append_cons_drop,if_pos hi,List.map_append,List.map_cons,List.flatten_append,List.flatten_cons,List.map_take,List.map_drop,List.append_assoc]
 exact h1.append (cn.append aq)
theorem JV.ow {m:List (aa×JV)} {p:aa×JV} {vs us:List Value} (h:ao A w (m.map JV.hP).flatten vs) (cn:ao A w (JV.hP p) us):ao A w ((m ++ [p]).map JV.hP).flatten (vs++us):=by
 rw [List.map_append,List.flatten_append];refine h.append ?_;simpa using cn
theorem Own.s' {e:Nat} {v:Value} {m:List (aa×JV)} {n:Nat} {vs:List Value} (O:Own w e 7 v n vs) (h:ao A w (m.map JV.hP).flatten vs) (cj:m.length=n) (dD:∀ x∈aY v,x∉A):a8 A w (.ia 7 (m.map JV.hP)) v:=
 O.rep h (JV.qP m) (by simpa using cj) dD
variable {P:Program} {ops:Array Oper} {Q:Exit→Act→World→Prop} {n:Nat} {ds:List Deferred} {l:List (Nat×Value)}
variable {rest:List Oper} {ty:TypeId} {pos:String} {af:Array Edge} {x y:Operand}
theorem L1 {e sz N c p k:Nat} {ad:Addr} {vs us:List Value} {T:TypeId} (cc:rF P T k=true) (O:Own w e sz (.slice (some ad) N c) N vs) (ae:a6 l x=some (.pointer (some (ad.add p)))) (aZ:a6 l y=some (.agg us.toArray)) (cg:us.length=k) (wz:∀ u∈us,u.oneCell'=true) (hi:p+k≤N*sz)
  (h:∀ w',Own w' e sz (.slice (some ad) N c) N (vs.take p++us++vs.drop (p+k))→Mod [ad.block] w w'→w'.heap.size=w.heap.size→ga P ops Q rest n ds l w') :
  ga P ops Q (⟨none,.store T x y,ty,pos,af,none⟩::rest) n ds l w:=by
 rcases O.2 with⟨b3,_⟩ | ⟨g,o,cap,cs,bK,ef,fA,gB,rY,pQ⟩
 ·cases b3
 injection bK with bk bZ kO
 injection bk with bk
 subst bk;subst kO
 have Ca:N*sz≤c*sz:=Nat.mul_le_mul_right _ fA
 have nq:=O.1
 rw [Addr.add_lit] at ae
 refine bm (vs:=us) cc ef ae aZ cg wz (by omega) fun w' cn=>?_
 refine h w' ⟨?_,.inr ⟨g,o,c,_,rfl,cn.aA,fA,gB,by simp [splice];omega,?_⟩⟩ cn.mod cn.size
 ·simp only [List.length_append,List.length_take,List.length_drop,cg,nq]
  omega
 subst pQ
 apply List.ext_getElem?
 intro j
 simp only [splice,cg]
 simp only [List.getElem?_take,List.getElem?_drop,List.getElem?_append,List.length_append,List.length_take,List.length_drop,cg]
 repeat' split
 all_goals first
  | omega
  | rfl
  | (congr 1;omega)
  | skip
end
abbrev j5 (z:Int):Int:=IntKind.i64.wrap z
namespace JV
mutual
def jm:JV→Int→Int→Int
 | .mk _ _ _ s l m,left,deep=>if deep=0 then -1 else jv m (ju l (j5 (j5 (left-1)-s.length)) (j5 (deep-1))) (j5 (deep-1))
def ju:List JV→Int→Int→Int
 | [],left,_=>left
 | v::r,left,d=>if left<0 then left else ju r (v.jm left d) d
def jv:List (List UInt8×JV)→Int→Int→Int
 | [],left,_=>left
 | p::r,left,d=>if left<0 then left else jv r (p.2.jm (j5 (left-p.1.length)) d) d
end
theorem Bu (v:JV) (left deep:Int):v.jm left deep=if deep=0 then -1 else jv v.map (ju v.list (j5 (j5 (left-1)-v.str.length)) (j5 (deep-1))) (j5 (deep-1)):=by
 cases v;simp only [jm,map,list,str]
theorem EG {l:List JV} {z d:Int} (h:z<0):ju l z d=z:=by
 cases l <;> simp [ju,h]
theorem wZ {l:List (List UInt8×JV)} {z d:Int} (h:z<0):jv l z d=z:=by
 cases l <;> simp [jv,h]
theorem HU {l:List JV} {k:Nat} {x:JV} {z d:Int} (ae:l[k]? = some x) (h:¬ z<0):ju (l.drop k) z d=ju (l.drop (k+1)) (x.jm z d) d:=by
 obtain⟨hk,rfl⟩:=List.getElem?_eq_some_iff.1 ae;rw [List.drop_eq_getElem_cons hk,ju,if_neg h]
theorem yr {l:List (List UInt8×JV)} {k:Nat} {x:List UInt8×JV} {z d:Int} (ae:l[k]? = some x) (h:¬ z<0):jv (l.drop k) z d=jv (l.drop (k+1)) (x.2.jm (j5 (z-x.1.length)) d) d:=by
 obtain⟨hk,rfl⟩:=List.getElem?_eq_some_iff.1 ae;rw [List.drop_eq_getElem_cons hk,jv,if_neg h]
theorem EH {l:List JV} {k:Nat} {z d:Int} (h:l.length≤k):ju (l.drop k) z d=z:=by
 rw [List.drop_eq_nil_of_le h,ju]
theorem w1 {l:List (List UInt8×JV)} {k:Nat} {z d:Int} (h:l.length≤k):jv (l.drop k) z d=z:=by
 rw [List.drop_eq_nil_of_le h,jv]
mutual
def gX:JV→Prop
 | .mk _ _ _ _ l m=>en m∧zC l∧zD m
def zC:List JV→Prop
 | []=>True
 | v::r=>v.gX∧zC r
def zD:List (List UInt8×JV)→Prop
 | []=>True
 | p::r=>p.2.gX∧zD r
end
theorem zE:∀ {l:List JV},zC l↔∀ v∈l,v.gX
 | []=>by simp [zC]
 | v::r=>by simp [zC,zE (l:=r)]
theorem zF:∀ {l:List (List UInt8×JV)},zD l↔∀ p∈l,p.2.gX
 | []=>by simp [zD]
 | v::r=>by simp [zD,zF (l:=r)]
theorem mZ (v:JV):v.gX↔en v.map∧(∀ x∈v.list,x.gX)∧∀ p∈v.map,p.2.gX:=by
 cases v;simp only [gX,map,list,zE,zF]
open Classical in
noncomputable def rises (v:JV):Bool:=decide v.gX
open Classical in
noncomputable def p0 (a b:JV):Bool:=decide (a=b)
theorem ui {a b:JV}:p0 a b=true↔a=b:=by simp [p0]
theorem su (a:JV):p0 a a=true:=by simp [p0]
theorem nM {a b:JV} (h:a≠b):p0 a b=false:=by simp [p0,h]
theorem ZR {a b:JV} (h1:a.kind=b.kind) (aq:a.is=b.is) (aT:a.num=b.num) (bL:a.str=b.str) (cN:a.list=b.list) (eU:a.map=b.map):a=b:=by
 rw [eta a,eta b,h1,aq,aT,bL,cN,eU]
theorem yu {α:Type} {a b:List α} (cg:a.length=b.length) (h:∀ (i:Nat) (x y:α),i<a.length→a[i]? = some x→b[i]? = some y→x=y):a=b:=by
 apply List.ext_getElem cg;intro i h1 aq;exact h i _ _ h1 (List.getElem?_eq_getElem h1) (List.getElem?_eq_getElem aq)
end JV
theorem HZ {n i:Nat} {vs news fv:List Value} (bK:vs.length=n*7) (cj:news.length=(n+1-i)*7) (bb:fv.length=7) (hi:i≤n) :
  ((vs.take (i*7)++news).take (i*7)++fv++(vs.take (i*7)++news).drop ((i+1)*7)).take ((i+1)*7)++(vs.drop (i*7)).take ((n-i)*7)++((vs.take (i*7)++news).take (i*7)++fv++(vs.take (i*7)++news).drop ((i+1)*7)).drop ((i+1+(n-i))*7)=vs.take (i*7)++fv++vs.drop (i*7):=by
 have h1:(vs.take (i*7)).length=i*7:=by rw [List.length_take];omega
 have aq:(vs.take (i*7)++news).take (i*7)=vs.take (i*7):=List.take_left' h1
 have aT:(vs.take (i*7)++fv).length=(i+1)*7:=by rw [List.length_append,h1,bb];omega
 rw [aq]
 have bL:((vs.take (i*7)++fv)++(vs.take (i*7)++news).drop ((i+1)*7)).take ((i+1)*7)=vs.take (i*7)++fv:=by rw [← aT];exact List.take_left
 have cN:((vs.take (i*7)++fv)++(vs.take (i*7)++news).drop ((i+1)*7)).drop ((i+1+(n-i))*7) = []:=List.drop_eq_nil_of_le (by rw [List.length_append,aT,List.length_drop,List.length_append,h1,cj];omega)
 have eU:(vs.drop (i*7)).take ((n-i)*7)=vs.drop (i*7):=List.take_of_length_le (by rw [List.length_drop];omega)
 rw [bL,cN,eU,List.append_nil]
theorem H0 {n i:Nat} {vs jB fv:List Value} (bK:vs.length=n*7) (qc:jB.length=(n+1)*7) (cc:jB.take (n*7)=vs) (bb:fv.length=7) (hi:i≤n) :
  (jB.take ((i+1)*7)++(jB.drop (i*7)).take ((n-i)*7)++jB.drop ((i+1+(n-i))*7)).take (i*7)++fv++(jB.take ((i+1)*7)++(jB.drop (i*7)).take ((n-i)*7)++jB.drop ((i+1+(n-i))*7)).drop ((i+1)*7)=vs.take (i*7)++fv++vs.drop (i*7):=by
 have h1:(jB.take ((i+1)*7)).length=(i+1)*7:=by rw [List.length_take];omega
 have aq:jB.drop ((i+1+(n-i))*7) = []:=List.drop_eq_nil_of_le (by omega)
 rw [aq,List.append_nil]
 congr 1
 ·congr 1
  rw [List.take_append_of_le_length (by omega),List.take_take,← cc,List.take_take]
  congr 1
  omega
 rw [List.drop_left' h1,← cc,List.drop_take]
 congr 1
 omega
theorem JV.CT {A:List Nat} {w:World} {m:List (aa×JV)} {n c:Nat} (arZ:a8 A w (.ia 7 (m.map JV.hP)) (.slice none n c)):m = []:=by
 cases m with
 | nil=>rfl
 | cons p r=>
  obtain⟨a,us,h,_⟩:=JV.kf (i:=0) (p:=p) arZ rfl;cases h
namespace JV
def get (v:JV) (k:aa):Option JV:=if v.kind=5 then look v.map k else none
def eS (v:JV):List (aa×JV):=if v.kind=5 then v.map else []
def obj (m:List (aa×JV)):JV:=.mk 5 false 0 [] [] m
theorem sx {A:List Nat} {w:World} {m:List (aa×JV)} {am:Option Addr} {cm:Nat} (arZ:a8 A w (.ia 7 (m.map hP)) (.slice am m.length cm)):ao A w (obj m).D [.int .i64 5,.bool false,.int .i64 0,S [],.slice none 0 0,.slice am m.length cm]:=
 cz (v:=obj m) (al:=none) (cl:=0) a8.ej arZ
end JV
theorem L0 {m:List (aa×JV)} {k:aa} {x:JV} (h:en m):(look m k).isSome=true→dA m k x=m.set (fi m k) (k,x):=fun bb=>by
 obtain⟨y,aZ,hk,_⟩:=ss h bb;exact(x7 h aZ hk).2 x
theorem L2 {m:List (aa×JV)} {k:aa} {x:JV} (h:en m):(look m k).isSome=false→dA m k x=m.take (fi m k) ++ [(k,x)]++m.drop (fi m k):=fun bb=>(I1 h (Nb h bb)).2 x
def hp:List UInt8→Nat→Option Nat
 | [],c=>some c
 | b::r,c=>if b.toNat<128∨192≤b.toNat then none else hp r (c*64+b.toNat % 64)
def eh (c:Nat):Nat×Nat×Nat:=
 if 192≤c∧c<224 then (2,128,c % 32)else if 224≤c∧c<240 then (3,2048,c % 16)else if 240≤c∧c<248 then (4,65536,c % 8)else (0,0,c)
def aI (s:aa):Nat×Nat:=match s with
 | []=>(0,0)
 | b::r=>if b.toNat<128 then (b.toNat,1)else
  if (eh b.toNat).1=0∨s.length<(eh b.toNat).1 then (0,0)else
   match hp (r.take ((eh b.toNat).1-1)) (eh b.toNat).2.2 with
   | none=>(0,0)
   | some c=>if c<(eh b.toNat).2.1∨1114111<c∨(55296≤c∧c≤57343)then (0,0)else (c,(eh b.toNat).1)
theorem j8 (s:aa):(aI s).2≤s.length:=by
 unfold aI
 split
 ·simp
 rename_i b r
 split
 ·simp
 split
 ·simp
 rename_i h
 split
 ·simp
 split
 ·simp
 simp only;omega
def ck (s:aa):Bool:=
 if h:s = [] then true else if b3:(aI s).2=0 then false else ck (s.drop (aI s).2)
termination_by s.length
decreasing_by
 have:=j8 s;rw [List.length_drop];have:s.length≠0:=fun e=>h (List.eq_nil_of_length_eq_zero e);omega
theorem mO:ck []=true:=by rw [ck];simp
theorem tw {s:aa} (h:s≠[]) (b3:(aI s).2=0):ck s=false:=by rw [ck];simp [h,b3]
theorem kT {s:aa} (h:s≠[]) (b3:(aI s).2≠0):ck s=ck (s.drop (aI s).2):=by
 rw [ck];simp [h,b3]
abbrev iH:aa:=[48,49,50,51,52,53,54,55,56,57,97,98,99,100,101,102]
def iK (c:UInt8):aa:=
 if c=34∨c=92 then [92,c] else if c=8 then [92,98] else if c=9 then [92,116] else if c=10 then [92,110] else if c=12 then [92,102] else if c=13 then [92,114]
 else if c.toNat<32 then [92,117,48,48,iH.getD (c.toNat / 16) 0,iH.getD (c.toNat % 16) 0] else [c]
def c7 (s:aa):aa:=(s.map iK).flatten
def cv (s:aa):aa:=34::c7 s ++ [34]
theorem Mm (c:UInt8):(iK c).length≤6:=by
 unfold iK
 repeat' split
 all_goals simp
theorem l8:∀ s:aa,(c7 s).length≤6*s.length
 | []=>by simp [c7]
 | c::s=>by
  have h1:=l8 s
  have aq:=Mm c
  simp only [c7,List.map_cons,List.flatten_cons,List.length_append,List.length_cons] at h1 ⊢
  omega
theorem er {s:aa} {k:Nat} {c:UInt8} (h:s[k]? = some c):c7 (s.take (k+1))=c7 (s.take k)++iK c:=by
 have bH:=(List.getElem?_eq_some_iff.1 h).1;rw [List.take_succ_eq_append_getElem bH,(List.getElem?_eq_some_iff.1 h).2];simp [c7]
def ct (b:aa):Except Int aa:=if 65536<b.length then .error 3 else .ok b
def e8 (b s:aa):Except Int aa:=if 65536<s.length then .error 3 else if ck s then ct (b++cv s)else .error 1
theorem fk {b fb:aa} (h:ct b = .ok fb):fb=b∧b.length≤65536:=by
 unfold ct at h
 split at h
 ·cases h
 injection h with h;exact⟨h.symm,by omega⟩
namespace JV
def bare (v:JV):Bool:=decide (0≤v.kind∧v.kind≤5)&&(decide (v.kind=1) || !v.is)&&(decide (v.kind=2)||decide (v.num=0))&&(decide (v.kind=3)||decide (v.str = []))&&(decide (v.kind=4)||decide (v.list.length=0))&&(decide (v.kind=5)||decide (v.map.length=0))&&(!decide (v.kind=2)||decide (-9007199254740991≤v.num∧v.num≤9007199254740991))
abbrev jS:aa:=[110,117,108,108]
abbrev iT:aa:=[116,114,117,101]
abbrev gE:aa:=[102,97,108,115,101]
mutual
def wr:JV→Nat→aa→Except Int aa
 | .mk k is n s l m,deep,b=>
  if bare (.mk k is n s l m)=false then .error 1 else
  if k=0 then ct (b++jS)else
  if k=1 then ct (b++if is then iT else gE)else
  if k=2 then ct (b++Lib.itoa n)else
  if k=3 then e8 b s else
  if deep=32 then .error 5 else
  if k=4 then (ct (b ++ [91])).bind fun b=>(hJ l deep true b).bind fun b=>ct (b ++ [93])
  else (ct (b ++ [123])).bind fun b=>(ff m deep none b).bind fun b=>ct (b ++ [125])
def hJ:List JV→Nat→Bool→aa→Except Int aa
 | [],_,_,b=>.ok b
 | v::r,deep,fst,b=>(if fst then Except.ok b else ct (b ++ [44])).bind fun b=>(wr v (deep+1) b).bind fun b=>hJ r deep false b
def ff:List (List UInt8×JV)→Nat→Option aa→aa→Except Int aa
 | [],_,_,b=>.ok b
 | p::r,deep,prev,b=>(match prev with
   | none=>Except.ok b
   | some q=>(ct (b ++ [44])).bind fun b=>if eQ q p.1 then .ok b else .error 1).bind fun b=>
  (e8 b p.1).bind fun b=>(ct (b ++ [58])).bind fun b=>(wr p.2 (deep+1) b).bind fun b=>ff r deep (some p.1) b
end
theorem dI (v:JV) (deep:Nat) (b:aa):wr v deep b = 
  if bare v=false then .error 1 else
  if v.kind=0 then ct (b++jS)else
  if v.kind=1 then ct (b++if v.is then iT else gE)else
  if v.kind=2 then ct (b++Lib.itoa v.num)else
  if v.kind=3 then e8 b v.str else
  if deep=32 then .error 5 else
  if v.kind=4 then (ct (b ++ [91])).bind fun b=>(hJ v.list deep true b).bind fun b=>ct (b ++ [93])
  else (ct (b ++ [123])).bind fun b=>(ff v.map deep none b).bind fun b=>ct (b ++ [125]):=by
 cases v
 rw [wr]
 rfl
end JV
section
variable {P:Program} {l:List (Nat×Value)} {w:World} {ty:TypeId} {pos:String} {af:Array Edge} {dd:Option Nat} {gg:Option (Nat×Bool)} {x y lo:Operand} {t:TypeId}
theorem cE {u:List UInt8} {n:Nat} (cc:P.underlying t=some .string) (ae:a6 l x=some (S u)) (cg:a6 l lo=some (.int .i64 (n:Int))) (aQ:n≤u.length):bF P l ⟨dd,.slice t x (some lo) none none,ty,pos,af,gg⟩ w (S (u.drop n)) w:=
 (yZ (pl:=some (.i64,(n:Int))) (ph:=none) cc ae (by simp [tE,cg]) rfl (by simp only [hU,iz];omega)).to (by
  simp only [hU,iz,Int.toNat_natCast]
  rw [List.take_of_length_le (by simp)])
end
theorem Bx {l:List UInt8} {j d:Nat} {b:UInt8} (h:l[j]? = some b) (aQ:b.toNat<128∨192≤b.toNat):hp (l.drop j) d=none:=by
 obtain⟨dY,rfl⟩:=List.getElem?_eq_some_iff.1 h;rw [List.drop_eq_getElem_cons dY,hp,if_pos aQ]
theorem L5 {l:List UInt8} {j d:Nat} {b:UInt8} (h:l[j]? = some b) (aQ:¬ (b.toNat<128∨192≤b.toNat)):hp (l.drop j) d=hp (l.drop (j+1)) (d*64+b.toNat % 64):=by
 obtain⟨dY,rfl⟩:=List.getElem?_eq_some_iff.1 h;rw [List.drop_eq_getElem_cons dY,hp,if_neg aQ]
theorem fW {b0:UInt8} {r:aa} (h:b0.toNat<128):aI (b0::r)=(b0.toNat,1):=by simp [aI,h]
theorem fX {b0:UInt8} {r:aa} {n l c:Nat} (eG:¬ b0.toNat<128) (hH:eh b0.toNat=(n,l,c)) (h:n=0∨(b0::r).length<n):aI (b0::r)=(0,0):=by
 unfold aI;simp only [if_neg eG,hH];rw [if_pos h]
theorem n1 {b0:UInt8} {r:aa} {n l c:Nat} (eG:¬ b0.toNat<128) (hH:eh b0.toNat=(n,l,c)) (h:¬ (n=0∨(b0::r).length<n)) :
  aI (b0::r)=match hp (r.take (n-1)) c with | none=>(0,0) | some c=>if c<l∨1114111<c∨(55296≤c∧c≤57343)then (0,0)else (c,n):=by
 show(if b0.toNat<128 then (b0.toNat,1)else if (eh b0.toNat).1=0∨(b0::r).length<(eh b0.toNat).1 then (0,0)else _)=_
 rw [if_neg eG,hH,if_neg h] <;> rfl
theorem iG {b0:UInt8} {r:aa} {n l c:Nat} (eG:¬ b0.toNat<128) (hH:eh b0.toNat=(n,l,c)) (h:¬ (n=0∨(b0::r).length<n)) (bh:hp (r.take (n-1)) c=none):aI (b0::r)=(0,0):=by rw [n1 eG hH h,bh]
theorem l7 {b0:UInt8} {r:aa} {n l c d:Nat} (eG:¬ b0.toNat<128) (hH:eh b0.toNat=(n,l,c)) (h:¬ (n=0∨(b0::r).length<n)) (bh:hp (r.take (n-1)) c=some d) (aQ:d<l∨1114111<d∨(55296≤d∧d≤57343)):aI (b0::r)=(0,0):=by
 rw [n1 eG hH h,bh];exact if_pos aQ
theorem k' {b0:UInt8} {r:aa} {n l c d:Nat} (eG:¬ b0.toNat<128) (hH:eh b0.toNat=(n,l,c)) (h:¬ (n=0∨(b0::r).length<n)) (bh:hp (r.take (n-1)) c=some d) (aQ:¬ (d<l∨1114111<d∨(55296≤d∧d≤57343))):aI (b0::r)=(d,n):=by
 rw [n1 eG hH h,bh];exact if_neg aQ
def gR (l:aa) (k:Nat):Nat:=(l.getD k 0).toNat
def gw (l:aa) (k:Nat):Bool:=decide (k<l.length)&&gR l k / 64 == 2
def nd (l:aa):Nat×Nat:=
 if gR l 0<0x80 then (gR l 0,1)
 else if gR l 0 / 32 == 6&&gw l 1 then
  if (gR l 0 % 32)*64+gR l 1 % 64≥0x80 then ((gR l 0 % 32)*64+gR l 1 % 64,2)else (65533,1)
 else if gR l 0 / 16 == 14&&gw l 1&&gw l 2 then
  if (gR l 0 % 16)*4096+(gR l 1 % 64)*64+gR l 2 % 64≥0x800&&Utf8.valid ((gR l 0 % 16)*4096+(gR l 1 % 64)*64+gR l 2 % 64:Nat)then ((gR l 0 % 16)*4096+(gR l 1 % 64)*64+gR l 2 % 64,3)else (65533,1)
 else if gR l 0 / 8 == 30&&gw l 1&&gw l 2&&gw l 3 then
  if (gR l 0 % 8)*262144+(gR l 1 % 64)*4096+(gR l 2 % 64)*64+gR l 3 % 64≥0x10000&&Utf8.valid ((gR l 0 % 8)*262144+(gR l 1 % 64)*4096+(gR l 2 % 64)*64+gR l 3 % 64:Nat)then ((gR l 0 % 8)*262144+(gR l 1 % 64)*4096+(gR l 2 % 64)*64+gR l 3 % 64,4)else (65533,1)
 else (65533,1)
theorem get_at (s:aa) (i k:Nat):((⟨⟨s⟩⟩:ByteArray).get! (i+k)).toNat=gR (s.drop i) k:=by
 show((⟨s⟩:Array UInt8)[i+k]!).toNat=_;unfold gR
 congr 1
 rw [List.getD_eq_getElem?_getD,List.getElem?_drop]
 by_cases h:i+k<s.length
 ·rw [getElem!_pos (⟨s⟩:Array UInt8) (i+k) h];simp [h]
 rw [getElem!_neg (⟨s⟩:Array UInt8) (i+k) h,List.getElem?_eq_none (by omega)];rfl
theorem Td (s:aa) (i k:Nat):(decide (i+k<(⟨⟨s⟩⟩:ByteArray).size)&&gR (s.drop i) k / 64 == 2)=gw (s.drop i) k:=by
 unfold gw;have bb:(⟨⟨s⟩⟩:ByteArray).size=s.length:=rfl;rw [bb,List.length_drop]
 congr 1
 by_cases h:i+k<s.length
 ·rw [decide_eq_true h,decide_eq_true (by omega)]
 rw [decide_eq_false h,decide_eq_false (by omega)]
theorem oX (s:aa) (i:Nat):Utf8.decode ⟨⟨s⟩⟩ i=nd (s.drop i):=by
 unfold Utf8.decode;simp only [get_at,Td,Utf8.runeError];rfl
theorem ua (c:Nat):Utf8.valid (c:Int)=decide (c<55296∨(57344≤c∧c≤1114111)):=by
 unfold Utf8.valid;rw [Bool.eq_iff_iff];simp only [Bool.or_eq_true,Bool.and_eq_true,decide_eq_true_eq];omega
def fe (c:Nat):List Nat:=
 if c<128 then [c] else if c<2048 then [192+c / 64,128+c % 64] else if c<65536 then [224+c / 4096,128+c / 64 % 64,128+c % 64] else [240+c / 262144,128+c / 4096 % 64,128+c / 64 % 64,128+c % 64]
def NU (l:aa):Prop:=((aI l).2=0∧nd l=(65533,1))∨((aI l).2≠0∧nd l=aI l∧(l.take (aI l).2).map UInt8.toNat=fe (aI l).1∧(aI l).1≤1114111∧¬ (55296≤(aI l).1∧(aI l).1≤57343)∧(aI l).2≤4)
theorem sN {l:aa} (b3:¬ gR l 0<128) (h1:(gR l 0 / 32 == 6&&gw l 1)=false) (aq:(gR l 0 / 16 == 14&&gw l 1&&gw l 2)=false) (aT:(gR l 0 / 8 == 30&&gw l 1&&gw l 2&&gw l 3)=false):nd l=(65533,1):=by
 unfold nd;rw [if_neg b3,h1,aq,aT];rfl
theorem nY {a b:Nat} (h:a≠b):(a == b)=false:=by simp [h]
theorem ok_one {b0:UInt8} {r:aa} (h:b0.toNat<128):NU (b0::r):=by
 refine .inr ?_;have bV:nd (b0::r)=(b0.toNat,1):=by unfold nd;rw [if_pos (by simpa [gR] using h)];rfl
 rw [fW h,bV];refine⟨by simp,rfl,by simp [fe,h],by dsimp only;omega,by dsimp only;omega,by simp⟩
theorem ok_none {b0:UInt8} {r:aa} (h:128≤b0.toNat) (fh:b0.toNat<192∨248≤b0.toNat):NU (b0::r):=by
 have aQ:=b0.toNat_lt;have ay:gR (b0::r) 0=b0.toNat:=rfl;have hH:eh b0.toNat=(0,0,b0.toNat):=by unfold eh;rw [if_neg (by omega),if_neg (by omega),if_neg (by omega)]
 refine .inl ⟨by rw [fX (by omega) hH (.inl rfl)],sN (by omega) ?_ ?_ ?_⟩
 ·rw [ay,nY (by omega)];rfl
 ·rw [ay,nY (by omega)];rfl
 rw [ay,nY (by omega)];rfl
theorem og {l:aa} {k:Nat} {b:UInt8} (h:l[k]? = some b):gw l k=decide (128≤b.toNat∧b.toNat<192)∧gR l k=b.toNat:=by
 obtain⟨hk,rfl⟩:=List.getElem?_eq_some_iff.1 h;have ay:gR l k=(l[k]).toNat:=by simp [gR,hk]
 refine⟨?_,ay⟩;unfold gw;rw [ay,decide_eq_true hk,Bool.eq_iff_iff];simp only [Bool.true_and,beq_iff_eq,decide_eq_true_eq];omega
theorem qv {l:aa} {k:Nat} (h:l.length≤k):gw l k=false:=by
 unfold gw;rw [decide_eq_false (by omega)];rfl
theorem mq {b:UInt8} {r:aa} {c:Nat} (h:¬ (128≤b.toNat∧b.toNat<192)):hp (b::r) c=none:=by rw [hp,if_pos (by omega)]
theorem jj {b:UInt8} {r:aa} {c:Nat} (h:128≤b.toNat∧b.toNat<192):hp (b::r) c=hp r (c*64+b.toNat % 64):=by rw [hp,if_neg (by omega)]
theorem ok_two {b0:UInt8} {r:aa} (h:192≤b0.toNat) (fh:b0.toNat<224):NU (b0::r):=by
 have ay:gR (b0::r) 0=b0.toNat:=rfl;have hH:eh b0.toNat=(2,128,b0.toNat % 32):=by unfold eh;rw [if_pos (by omega)]
 have bk:(b0.toNat / 32 == 6)=true:=by simp;omega
 have bZ:(b0.toNat / 16 == 14)=false:=nY (by omega);have kO:(b0.toNat / 8 == 30)=false:=nY (by omega);have dK:gw (b0::r) 1=false→nd (b0::r)=(65533,1):=fun bh=>sN (by omega) (by rw [bh,Bool.and_false]) (by rw [ay,bZ];rfl) (by rw [ay,kO];rfl);cases r with
 | nil=>exact .inl ⟨by rw [fX (by omega) hH (.inr (by simp))],dK (qv (by simp))⟩
 | cons dm r=>
  obtain⟨fA,Je⟩:=og (l:=b0::dm::r) (k:=1) (b:=dm) rfl;have oy:¬ (2=0∨(b0::dm::r).length<2):=by simp
  have mP:(dm::r).take (2-1) = [dm]:=rfl
  by_cases aQ:128≤dm.toNat∧dm.toNat<192
  ·have Hb:hp ((dm::r).take (2-1)) (b0.toNat % 32)=some (b0.toNat % 32*64+dm.toNat % 64):=by rw [mP,jj aQ];rfl
   have bV:nd (b0::dm::r)=if b0.toNat % 32*64+dm.toNat % 64≥128 then (b0.toNat % 32*64+dm.toNat % 64,2)else (65533,1):=by
    unfold nd;rw [if_neg (by omega),ay,Je,bk,fA,decide_eq_true aQ];rfl
   by_cases bK:b0.toNat % 32*64+dm.toNat % 64≥128
   ·have iQ:=k' (by omega) hH oy Hb (by omega);refine .inr ?_;rw [iQ,bV,if_pos bK];refine⟨by simp,rfl,?_,by dsimp only;omega,by dsimp only;omega,by simp⟩;unfold fe;rw [if_neg (by dsimp only;omega),if_pos (by dsimp only;omega)];simp only [List.take_succ_cons,List.take_zero,List.map_cons,List.map_nil,List.cons.injEq,and_true];omega
   exact .inl ⟨by rw [l7 (by omega) hH oy Hb (by omega)],by rw [bV,if_neg bK]⟩
  exact .inl ⟨by rw [iG (by omega) hH oy (by rw [mP,mq aQ])],dK (by rw [fA,decide_eq_false aQ])⟩
theorem ok_three {b0:UInt8} {r:aa} (h:224≤b0.toNat) (fh:b0.toNat<240):NU (b0::r):=by
 have ay:gR (b0::r) 0=b0.toNat:=rfl;have hH:eh b0.toNat=(3,2048,b0.toNat % 16):=by unfold eh;rw [if_neg (by omega),if_pos (by omega)]
 have bk:(b0.toNat / 32 == 6)=false:=nY (by omega);have bZ:(b0.toNat / 16 == 14)=true:=by simp;omega
 have kO:(b0.toNat / 8 == 30)=false:=nY (by omega);have dK:(gw (b0::r) 1&&gw (b0::r) 2)=false→nd (b0::r)=(65533,1):=fun bh=>sN (by omega) (by rw [ay,bk];rfl) (by rw [Bool.and_assoc,bh,Bool.and_false]) (by rw [ay,kO];rfl)
 match r with
 | []=>exact .inl ⟨by rw [fX (by omega) hH (.inr (by simp))],dK (by rw [qv (by simp)];rfl)⟩
 | [dm]=>exact .inl ⟨by rw [fX (by omega) hH (.inr (by simp))],dK (by rw [qv (k:=2) (by simp),Bool.and_false])⟩
 | dm::eI::r=>
  obtain⟨fA,Je⟩:=og (l:=b0::dm::eI::r) (k:=1) (b:=dm) rfl;obtain⟨gB,Gw⟩:=og (l:=b0::dm::eI::r) (k:=2) (b:=eI) rfl;have oy:¬ (3=0∨(b0::dm::eI::r).length<3):=by simp
  have mP:(dm::eI::r).take (3-1) = [dm,eI]:=rfl
  by_cases aQ:128≤dm.toNat∧dm.toNat<192
  rotate_left
  ·exact .inl ⟨by rw [iG (by omega) hH oy (by rw [mP,mq aQ])],dK (by rw [fA,decide_eq_false aQ];rfl)⟩
  by_cases gP:128≤eI.toNat∧eI.toNat<192
  rotate_left
  ·exact .inl ⟨by rw [iG (by omega) hH oy (by rw [mP,jj aQ,mq gP])],dK (by rw [gB,decide_eq_false gP,Bool.and_false])⟩
  have Hb:hp ((dm::eI::r).take (3-1)) (b0.toNat % 16)=some ((b0.toNat % 16*64+dm.toNat % 64)*64+eI.toNat % 64):=by rw [mP,jj aQ,jj gP];rfl
  have bV:nd (b0::dm::eI::r)=if (b0.toNat % 16*4096+dm.toNat % 64*64+eI.toNat % 64≥2048&&Utf8.valid (b0.toNat % 16*4096+dm.toNat % 64*64+eI.toNat % 64:Nat))=true then (b0.toNat % 16*4096+dm.toNat % 64*64+eI.toNat % 64,3)else (65533,1):=by
   unfold nd;rw [if_neg (by omega),ay,Je,Gw,bk,bZ,fA,gB,decide_eq_true aQ,decide_eq_true gP];rfl
  rw [ua] at bV
  by_cases bK:(b0.toNat % 16*64+dm.toNat % 64)*64+eI.toNat % 64<2048∨1114111<(b0.toNat % 16*64+dm.toNat % 64)*64+eI.toNat % 64∨(55296≤(b0.toNat % 16*64+dm.toNat % 64)*64+eI.toNat % 64∧(b0.toNat % 16*64+dm.toNat % 64)*64+eI.toNat % 64≤57343)
  ·refine .inl ⟨by rw [l7 (by omega) hH oy Hb bK],?_⟩;rw [bV,if_neg];simp only [Bool.and_eq_true,decide_eq_true_eq];omega
  have iQ:=k' (by omega) hH oy Hb bK;refine .inr ?_;rw [iQ,bV,if_pos (by simp only [Bool.and_eq_true,decide_eq_true_eq];omega)];refine⟨by simp,by simp only [Prod.mk.injEq,and_true];omega,?_,by dsimp only;omega,by dsimp only;omega,by simp⟩;unfold fe;rw [if_neg (by dsimp only;omega),if_neg (by dsimp only;omega),if_pos (by dsimp only;omega)];simp only [List.take_succ_cons,List.take_zero,List.map_cons,List.map_nil,List.cons.injEq,and_true];omega
theorem Te {b0:UInt8} {r:aa} (h:240≤b0.toNat) (fh:b0.toNat<248):NU (b0::r):=by
 have ay:gR (b0::r) 0=b0.toNat:=rfl;have hH:eh b0.toNat=(4,65536,b0.toNat % 8):=by unfold eh;rw [if_neg (by omega),if_neg (by omega),if_pos (by omega)]
 have bk:(b0.toNat / 32 == 6)=false:=nY (by omega);have bZ:(b0.toNat / 16 == 14)=false:=nY (by omega);have kO:(b0.toNat / 8 == 30)=true:=by simp;omega
 have dK:(gw (b0::r) 1&&gw (b0::r) 2&&gw (b0::r) 3)=false→nd (b0::r)=(65533,1):=fun bh=>sN (by omega) (by rw [ay,bk];rfl) (by rw [ay,bZ];rfl) (by rw [Bool.and_assoc,Bool.and_assoc,← Bool.and_assoc (gw (b0::r) 1),bh,Bool.and_false])
 match r with
 | []=>exact .inl ⟨by rw [fX (by omega) hH (.inr (by simp))],dK (by rw [qv (by simp)];rfl)⟩
 | [dm]=>exact .inl ⟨by rw [fX (by omega) hH (.inr (by simp))],dK (by rw [qv (k:=2) (by simp),Bool.and_false];rfl)⟩
 | [dm,eI]=>exact .inl ⟨by rw [fX (by omega) hH (.inr (by simp))],dK (by rw [qv (k:=3) (by simp),Bool.and_false])⟩
 | dm::eI::lq::r=>
  obtain⟨fA,Je⟩:=og (l:=b0::dm::eI::lq::r) (k:=1) (b:=dm) rfl;obtain⟨gB,Gw⟩:=og (l:=b0::dm::eI::lq::r) (k:=2) (b:=eI) rfl;obtain⟨rY,anC⟩:=og (l:=b0::dm::eI::lq::r) (k:=3) (b:=lq) rfl;have oy:¬ (4=0∨(b0::dm::eI::lq::r).length<4):=by simp
  have mP:(dm::eI::lq::r).take (4-1) = [dm,eI,lq]:=rfl
  by_cases aQ:128≤dm.toNat∧dm.toNat<192
  rotate_left
  ·exact .inl ⟨by rw [iG (by omega) hH oy (by rw [mP,mq aQ])],dK (by rw [fA,decide_eq_false aQ];rfl)⟩
  by_cases gP:128≤eI.toNat∧eI.toNat<192
  rotate_left
  ·exact .inl ⟨by rw [iG (by omega) hH oy (by rw [mP,jj aQ,mq gP])],dK (by rw [gB,decide_eq_false gP,Bool.and_false];rfl)⟩
  by_cases uA:128≤lq.toNat∧lq.toNat<192
  rotate_left
  ·exact .inl ⟨by rw [iG (by omega) hH oy (by rw [mP,jj aQ,jj gP,mq uA])],dK (by rw [rY,decide_eq_false uA,Bool.and_false])⟩
  have Hb:hp ((dm::eI::lq::r).take (4-1)) (b0.toNat % 8)=some (((b0.toNat % 8*64+dm.toNat % 64)*64+eI.toNat % 64)*64+lq.toNat % 64):=by rw [mP,jj aQ,jj gP,jj uA];rfl
  have bV:nd (b0::dm::eI::lq::r)=if (b0.toNat % 8*262144+dm.toNat % 64*4096+eI.toNat % 64*64+lq.toNat % 64≥65536&&Utf8.valid (b0.toNat % 8*262144+dm.toNat % 64*4096+eI.toNat % 64*64+lq.toNat % 64:Nat))=true then (b0.toNat % 8*262144+dm.toNat % 64*4096+eI.toNat % 64*64+lq.toNat % 64,4)else (65533,1):=by
   unfold nd;rw [if_neg (by omega),ay,Je,Gw,anC,bk,bZ,kO,fA,gB,rY,decide_eq_true aQ,decide_eq_true gP,decide_eq_true uA];rfl
  rw [ua] at bV
  by_cases bK:((b0.toNat % 8*64+dm.toNat % 64)*64+eI.toNat % 64)*64+lq.toNat % 64<65536∨1114111<((b0.toNat % 8*64+dm.toNat % 64)*64+eI.toNat % 64)*64+lq.toNat % 64∨(55296≤((b0.toNat % 8*64+dm.toNat % 64)*64+eI.toNat % 64)*64+lq.toNat % 64∧((b0.toNat % 8*64+dm.toNat % 64)*64+eI.toNat % 64)*64+lq.toNat % 64≤57343)
  ·refine .inl ⟨by rw [l7 (by omega) hH oy Hb bK],?_⟩;rw [bV,if_neg];simp only [Bool.and_eq_true,decide_eq_true_eq];omega
  have iQ:=k' (by omega) hH oy Hb bK;refine .inr ?_;rw [iQ,bV,if_pos (by simp only [Bool.and_eq_true,decide_eq_true_eq];omega)];refine⟨by simp,by simp only [Prod.mk.injEq,and_true];omega,?_,by dsimp only;omega,by dsimp only;omega,by simp⟩;unfold fe;rw [if_neg (by dsimp only;omega),if_neg (by dsimp only;omega),if_neg (by dsimp only;omega)];simp only [List.take_succ_cons,List.take_zero,List.map_cons,List.map_nil,List.cons.injEq,and_true];omega
theorem pJ {l:aa} (h:l≠[]):NU l:=by
 cases l with
 | nil=>exact absurd rfl h
 | cons b0 r=>
  have aQ:=b0.toNat_lt;rcases Nat.lt_or_ge b0.toNat 128 with h1 | h1
  ·exact ok_one h1
  rcases Nat.lt_or_ge b0.toNat 192 with aq | aq
  ·exact ok_none h1 (.inl aq)
  rcases Nat.lt_or_ge b0.toNat 224 with aT | aT
  ·exact ok_two aq aT
  rcases Nat.lt_or_ge b0.toNat 240 with bL | bL
  ·exact ok_three aT bL
  rcases Nat.lt_or_ge b0.toNat 248 with cN | cN
  ·exact Te bL cN
  exact ok_none h1 (.inr cN)
section
variable {P:Program} {ops:Array Oper} {Q:Exit→Act→World→Prop} {ajA:Nat} {ds:List Deferred} {l:List (Nat×Value)} {w w':World}
variable {rest:List Oper} {ty:TypeId} {pos:String} {af:Array Edge} {x y:Operand} {t:TypeId}
theorem Nt {gC:Array Value} {n:Nat} (h:∀ u∈gC,u.oneCell'=true) (bb:0<gC.size):∀ u∈(Builtin.zeroCells gC n).toList,u.oneCell'=true:=by
 intro u hu;unfold Builtin.zeroCells at hu;rw [Array.toList_map] at hu;obtain⟨i,_,rfl⟩:=List.mem_map.1 hu;have:i % gC.size<gC.size:=Nat.mod_lt _ bb;rw [getElem!_pos gC _ this];exact h _ (Array.getElem_mem this)
theorem ahz {op:Op} {v:Value} (bl:bF P l ⟨none,op,ty,pos,af,none⟩ w v w') (h:ga P ops Q rest ajA ds l w') :
  ga P ops Q (⟨none,op,ty,pos,af,none⟩::rest) ajA ds l w:=by
 intro a ay
 refine wpList_plain rfl fun K pY=>?_
 have:=bl a.eval (fun x u ae=>ay.ru ae)
 simp only [Oper.wp,this,Oper.upon]
 exact pY _ _ (h _ (by simpa [Act.put] using ay))
theorem Oz {e sz fZ n c k:Nat} {ad:Addr} {vs gC:List Value} (cc:ly P t e sz fZ=true) (di:hD P e gC) (jl:gC.length=sz) (ij:0<sz) (wz:∀ u∈gC,u.oneCell'=true) (O:Own w e sz (.slice (some ad) n c) n vs) (hk:k≤n)
  (ae:a6 l x=some (.slice (lY (some ad) c k sz) (n-k) (c-k)))
  (h:∀ w',Own w' e sz (.slice (some ad) k c) k (vs.take (k*sz))→Mod [ad.block] w w'→w'.heap.size=w.heap.size→ga P ops Q rest ajA ds l w') :
  ga P ops Q (⟨none,.call {callee:=.builtin .clear,args:=#[x],argTypes:=#[t]},ty,pos,af,none⟩::rest) ajA ds l w:=by
 obtain⟨i,z,h1,aq,aT,bL,cN,eU⟩:=il cc
 obtain⟨td,DT,kB,kt,k9⟩:=oc di
 rcases Nat.eq_or_lt_of_le hk with rfl | bH
 ·have bl:bF P l ⟨none,.call {callee:=.builtin .clear,args:=#[x],argTypes:=#[t]},ty,pos,af,none⟩ w (.tuple #[]) w:=fun ρ fc=>by
   have bK:=fc _ _ ae
   rw [Nat.sub_self] at bK
   simp only [execOp,resolve,invoke,builtin,Builtin.clear_]
   cases bh:lY (some ad) c k sz <;> rw [bh] at bK <;> simp [bK,run_underlying h1]
  exact ahz bl (h w (O.take (Nat.le_refl _)) (Mod.refl _ w) rfl)
 rcases O.2 with⟨b3,_⟩ | ⟨g,o,cap,cs,bK,ef,fA,gB,rY,pQ⟩
 ·cases b3
 injection bK with bk bZ kO
 injection bk with bk
 subst bk;subst kO
 have ac4:(Builtin.zeroCells DT.cells (n-k)).size=(n-k)*sz:=by
  simp [Builtin.zeroCells,k9,jl]
 have nq:=O.1
 have hle:k*sz+(n-k)*sz=n*sz:=by rw [← Nat.add_mul];congr 1;omega
 have Ca:n*sz≤c*sz:=Nat.mul_le_mul_right _ fA
 obtain⟨aB,hG,cn⟩:=hv (P:=P) ef (o:=o+k*sz) (vs:=(Builtin.zeroCells DT.cells (n-k)).toList) (by rw [Array.length_toList,ac4];omega)
  (Nt (by rw [k9];simpa using wz) (by rw [k9];simp [jl];omega))
 have alU:lY (some ⟨g,o,none⟩) c k sz=some ⟨g,o+k*sz,none⟩:=by
  unfold lY
  rw [if_neg (by omega)]
  simp [Addr.add_lit]
 rw [alU] at ae
 have bl:bF P l ⟨none,.call {callee:=.builtin .clear,args:=#[x],argTypes:=#[t]},ty,pos,af,none⟩ w (.tuple #[]) aB:=fun ρ fc=>by
  have tS:¬ n-k=0:=by omega
  obtain⟨m,hm⟩:∃ m,n-k=m+1:=⟨n-k-1,by omega⟩
  have bK:=fc _ _ ae
  rw [hm] at bK hG
  simp [execOp,resolve,invoke,builtin,Builtin.clear_,bK,run_underlying h1,zeroValue,typeInfo,kB,kt,hG]
 refine ahz bl (h aB ⟨by rw [List.length_take,nq];omega,.inr ⟨g,o,c,_,rfl,cn.aA,by omega,gB,by simp [splice,ac4];omega,?_⟩⟩ cn.mod cn.size)
 subst pQ
 apply List.ext_getElem?
 intro j
 simp only [splice]
 simp only [List.getElem?_take,List.getElem?_drop,List.getElem?_append,List.length_append,List.length_take,List.length_drop,Array.length_toList,ac4]
 repeat' split
 all_goals first
  | omega
  | rfl
  | (congr 1;omega)
  | skip
end
section
variable {P:Program} {ops:Array Oper} {Q:Exit→Act→World→Prop} {n:Nat} {ds:List Deferred} {l:List (Nat×Value)} {M:List (Nat×(Value→World→Prop))} {w:World}
end
abbrev uw (c:UInt8):List Value:=[j2 c]
theorem dh (b:List UInt8):(b.map uw).flatten=b.map j2:=by
 induction b with
 | nil=>rfl
 | cons c b dF=>simp [dF]
theorem dt {c d:UInt8} (h:(c.toNat:Int)=d.toNat):c=d:=UInt8.toNat_inj.1 (by omega)
theorem C8 {c:UInt8} (h:(c.toNat:Int)=34∨(c.toNat:Int)=92):iK c = [92,c]:=by
 unfold iK;rw [if_pos (h.imp (fun h=>dt h) (fun h=>dt h))]
theorem OS {c:UInt8} (h:(c.toNat:Int)=8):iK c = [92,98]:=by obtain rfl:c=8:=dt h;rfl
theorem OT {c:UInt8} (h:(c.toNat:Int)=9):iK c = [92,116]:=by obtain rfl:c=9:=dt h;rfl
theorem OU {c:UInt8} (h:(c.toNat:Int)=10):iK c = [92,110]:=by obtain rfl:c=10:=dt h;rfl
theorem OV {c:UInt8} (h:(c.toNat:Int)=12):iK c = [92,102]:=by obtain rfl:c=12:=dt h;rfl
theorem OX {c:UInt8} (h:(c.toNat:Int)=13):iK c = [92,114]:=by obtain rfl:c=13:=dt h;rfl
theorem tF {c d:UInt8} (h:¬ (c.toNat:Int)=d.toNat):c≠d:=fun e=>h (by rw [e])
theorem H9 {c:UInt8} (h1:¬ (c.toNat:Int)=34) (aq:¬ (c.toNat:Int)=92) (aT:¬ (c.toNat:Int)=8) (bL:¬ (c.toNat:Int)=9) (cN:¬ (c.toNat:Int)=10) (eU:¬ (c.toNat:Int)=12) (kB:¬ (c.toNat:Int)=13) :
  iK c=if c.toNat<32 then [92,117,48,48,iH.getD (c.toNat / 16) 0,iH.getD (c.toNat % 16) 0] else [c]:=by
 unfold iK
 rw [if_neg (fun h=>h.elim (tF (d:=34) h1) (tF (d:=92) aq)),if_neg (tF (d:=8) aT),if_neg (tF (d:=9) bL),if_neg (tF (d:=10) cN),if_neg (tF (d:=12) eU),if_neg (tF (d:=13) kB)]
theorem xT {i:Nat} (h:i<16):iH[i]? = some (iH.getD i 0):=by
 have:∀ j:Fin 16,iH[j.val]? = some (iH.getD j.val 0):=by decide
 exact this ⟨i,h⟩
def iy:Except Int aa→aa
 | .ok b=>b
 | .error _=>[]
def fM:Except Int aa→Int
 | .ok _=>0
 | .error e=>if e=0 then 1 else e
theorem iU {r:Except Int aa} (h:fM r=0):∃ b,r = .ok b:=by
 cases r with
 | ok b=>exact⟨b,rfl⟩
 | error e=>
  exfalso
  by_cases b3:e=0 <;> simp [fM,b3] at h
theorem nS {r:Except Int aa} (h:¬ fM r=0):∃ e,r = .error e:=by
 cases r with
 | ok b=>exact absurd rfl h
 | error e=>exact⟨e,rfl⟩
theorem p9 {r:Except Int aa} (h:¬ fM r=0) (f:aa→Except Int aa):r.bind f=r:=by
 obtain⟨e,rfl⟩:=nS h;rfl
theorem PW (b:aa):(ct b = .ok b∧b.length≤65536)∨(ct b = .error 3∧65536<b.length):=by
 unfold ct
 by_cases h:65536<b.length
 ·exact .inr ⟨if_pos h,h⟩
 exact .inl ⟨if_neg h,by omega⟩
theorem Fz (b:aa):(iy (ct b)).length≤65536:=by
 rcases PW b with⟨h,aq⟩ | ⟨h,_⟩
 ·rw [h];exact aq
 rw [h];simp [iy]
section
variable {w0 w Ip w':World} {hR u gj jw res:Value} {b t:aa} {r:Except Int aa}
abbrev hI (w:World) (u:Value) (b:aa):Prop:=Own w 5 1 u b.length ((b.map uw).flatten)
def xD (w0 w:World) (hR:Value) (r:Except Int aa) (res:Value):Prop:=
 ∃ u,res = .tuple #[u,.int .i64 (fM r)]∧hI w u (iy r)∧(∀ x∈aY u,x∈aY hR∨w0.heap.size≤x)∧Mod (aY hR) w0 w∧(iy r).length≤65536
theorem BK (h:jw=gj∧iy (ct b)=b∨jw = .slice none 0 0∧iy (ct b) = []) (O:hI w gj b):hI w jw (iy (ct b))∧∀ x∈aY jw,x∈aY gj:=by
 rcases h with⟨rfl,h⟩ | ⟨rfl,h⟩
 ·rw [h];exact⟨O,fun x ae=>ae⟩
 rw [h];exact⟨Own.nil w 5 1,by simp [aY]⟩
theorem xD.ig {n:Nat} {vs:List Value} (E:Mod [] w0 w) (ez:App w Ip 5 1 hR gj n vs) (eR:hI Ip gj (b++t)) (h:jw=gj∧iy (ct (b++t))=b++t∨jw = .slice none 0 0∧iy (ct (b++t)) = []) (R:Mod [] Ip w') (bl:r=ct (b++t)) :
  xD w0 w' hR r (.tuple #[jw,.int .i64 (fM (ct (b++t)))]):=by
 subst bl
 obtain⟨h1,aq⟩:=BK h (eR.I R)
 exact⟨jw,rfl,h1,fun x ae=>(ez.lX x (aq x ae)).imp id (fun h=>Nat.le_trans E.size h),((E.mono (by simp)).trans ez.mod).trans (R.mono (by simp)),Fz _⟩
theorem xD.err {e:Int} (E:Mod [] w0 w) (he:e≠0) (bl:r = .error e):xD w0 w hR r (.tuple #[.slice none 0 0,.int .i64 e]):=by
 subst bl;exact⟨_,by simp [fM,he],Own.nil w 5 1,by simp [aY],E.mono (by simp),by simp [iy]⟩
structure xE (w0 w:World) (hR:Value) (g V:Nat) (cells:List Value) (v:JV) (al am:Option Addr) (cl cm:Nat) (u:Value) (b:aa):Prop where
 own:hI w u b
 len:b.length≤65536
 iV:∀ x∈aY u,x∈aY hR∨w0.heap.size≤x
 mod:Mod (aY hR) w0 w
 aA:aE w g V cells
 FA:∀ x∈aY u,x≠g
 UG:a8 (aY u) w (.ia 6 (v.list.map JV.D)) (.slice al v.list.length cl)
 Ey:a8 (aY u) w (.ia 7 (v.map.map JV.hP)) (.slice am v.map.length cm)
variable {g V:Nat} {cells:List Value} {v:JV} {al am:Option Addr} {cl cm:Nat}
theorem xE.step (H:xE w0 w hR g V cells v al am cl cm u b) {fb:aa} {kV:Value} (k:Mod (aY u) w w') (O:hI w' kV fb) (et:∀ x∈aY kV,x∈aY u∨w.heap.size≤x) (cg:fb.length≤65536):xE w0 w' hR g V cells v al am cl cm kV fb where
 own:=O
 len:=cg
 iV:=fun x ae=>(et x ae).elim (H.iV x) (fun h=>.inr (Nat.le_trans H.mod.size h))
 mod:=H.mod.trans' k H.iV
 aA:=H.aA.mod k (fun ae=>H.FA _ ae rfl)
 FA:=fun x ae=>(et x ae).elim (H.FA x) (fun h e=>by have:=H.aA.lt;omega)
 UG:=a8.to k (fun x ae=>ae) et _ _ H.UG
 Ey:=a8.to k (fun x ae=>ae) et _ _ H.Ey
theorem xE.I (H:xE w0 w hR g V cells v al am cl cm u b) (k:Mod [] w w'):xE w0 w' hR g V cells v al am cl cm u b:=
 H.step (k.mono (by simp)) (H.own.I k) (fun x ae=>.inl ae) H.len
theorem xE.ig {n:Nat} {vs:List Value} (H:xE w0 w hR g V cells v al am cl cm u b) (ez:App w Ip 5 1 u gj n vs) (eR:hI Ip gj (b++t)) (h:jw=gj∧iy (ct (b++t))=b++t∨jw = .slice none 0 0∧iy (ct (b++t)) = []) (R:Mod [] Ip w') :
  xE w0 w' hR g V cells v al am cl cm jw (iy (ct (b++t))):=by
 obtain⟨h1,aq⟩:=BK h (eR.I R)
 exact H.step (ez.mod.trans (R.mono (by simp))) h1 (fun x ae=>ez.lX x (aq x ae)) (Fz _)
theorem xE.wr (H:xE w0 w hR g V cells v al am cl cm u b) (h:xD w w' u r res):∃ kV,res = .tuple #[kV,.int .i64 (fM r)]∧xE w0 w' hR g V cells v al am cl cm kV (iy r):=by
 obtain⟨kV,h1,aq,aT,bL,cN⟩:=h;exact⟨kV,h1,H.step bL aq aT cN⟩
theorem xE.err (H:xE w0 w hR g V cells v al am cl cm u b) (bl:¬ fM r=0):xD w0 w hR r (.tuple #[.slice none 0 0,.int .i64 (fM r)]):=by
 obtain⟨e,rfl⟩:=nS bl;exact⟨_,rfl,Own.nil w 5 1,by simp [aY],H.mod,by simp [iy]⟩
theorem xE.fin {n:Nat} {vs:List Value} (H:xE w0 w hR g V cells v al am cl cm u b) (ez:App w Ip 5 1 u gj n vs) (eR:hI Ip gj (b++t)) (h:jw=gj∧iy (ct (b++t))=b++t∨jw = .slice none 0 0∧iy (ct (b++t)) = []) (R:Mod [] Ip w') (bl:r=ct (b++t)) :
  xD w0 w' hR r (.tuple #[jw,.int .i64 (fM (ct (b++t)))]):=by
 subst bl
 have ajr:=H.ig ez eR h R
 exact⟨jw,rfl,ajr.own,ajr.iV,ajr.mod,ajr.len⟩
theorem xE.ok (H:xE w0 w hR g V cells v al am cl cm u (iy (.ok b))):xE w0 w hR g V cells v al am cl cm u b:=H
end
theorem xD.from_ {w0 w w':World} {hR res:Value} {r Mn:Except Int aa} (E:Mod [] w0 w) (h:xD w w' hR r res) (bl:Mn=r):xD w0 w' hR Mn res:=by
 subst bl;obtain⟨u,h1,aq,aT,bL,cN⟩:=h;exact⟨u,h1,aq,fun x ae=>(aT x ae).imp id (fun h=>Nat.le_trans E.size h),(E.mono (by simp)).trans bL,cN⟩
theorem xE.init {w0 w:World} {hR:Value} {b:aa} {g V:Nat} {cells:List Value} {v:JV} {al am:Option Addr} {cl cm:Nat} (E:Mod [] w0 w) (O:hI w0 hR b) (aQ:b.length≤65536) (B:aE w g V cells) (dv:w0.heap.size≤g)
  (kP:a8 (aY hR) w0 (.ia 6 (v.list.map JV.D)) (.slice al v.list.length cl)) (jF:a8 (aY hR) w0 (.ia 7 (v.map.map JV.hP)) (.slice am v.map.length cm)):xE w0 w hR g V cells v al am cl cm hR b where
 own:=O.I E
 len:=aQ
 iV:=fun x ae=>.inl ae
 mod:=E.mono (by simp)
 aA:=B
 FA:=fun x ae e=>by have:=O.lt x ae;omega
 UG:=kP.bG E
 Ey:=jF.bG E
theorem vU {v:JV} (h:v.bare=true) (aq:v.kind=2) : -9007199254740991≤v.num∧v.num≤9007199254740991:=by
 simp only [JV.bare,aq] at h;simp at h;omega
theorem tB {f:aa→Except Int aa} {b:aa} {W:Except Int aa} (h:(Except.ok b:Except Int aa).bind f=W):f b=W:=h
theorem yO (r:Except Int aa):(r.bind fun b=>Except.ok b)=r:=by cases r <;> rfl
theorem abt {a b:aa} (h:¬ (eQ a b||a == b)=true):eQ b a=true:=by
 rcases mb b a with h1 | h1 | h1
 ·exact h1
 ·subst h1;exact absurd (by simp) h
 exact absurd (by simp [h1]) h
theorem abr {a b:aa} (h:(eQ a b||a == b)=true):eQ b a=false:=by
 rcases Bool.or_eq_true_iff.1 h with h | h
 ·exact ji h
 have:=eq_of_beq h;subst this;exact dc a
def hS (m:List (aa×JV)) (k:Nat):Option aa:=if k=0 then none else (m[k-1]?).map (·.1)
theorem Kx {l:List JV} {k:Nat} {x:JV} {deep:Nat} {fst:Bool} {b:aa} (h:l[k]? = some x):JV.hJ (l.drop k) deep fst b=(if fst then Except.ok b else ct (b ++ [44])).bind fun b=>(JV.wr x (deep+1) b).bind fun b=>JV.hJ (l.drop (k+1)) deep false b:=by
 obtain⟨hk,rfl⟩:=List.getElem?_eq_some_iff.1 h;rw [List.drop_eq_getElem_cons hk,JV.hJ]
theorem Fh {l:List JV} {k deep:Nat} {fst:Bool} {b:aa} (h:l.length≤k):JV.hJ (l.drop k) deep fst b = .ok b:=by
 rw [List.drop_eq_nil_of_le h,JV.hJ]
theorem Mo (p:List UInt8×JV) (r:List (List UInt8×JV)) (deep:Nat) (b:aa):JV.ff (p::r) deep none b=(e8 b p.1).bind fun b=>(ct (b ++ [58])).bind fun b=>(JV.wr p.2 (deep+1) b).bind fun b=>JV.ff r deep (some p.1) b:=by
 rw [JV.ff.eq_def];rfl
theorem Mp (p:List UInt8×JV) (q:aa) (r:List (List UInt8×JV)) (deep:Nat) (b:aa):JV.ff (p::r) deep (some q) b=((ct (b ++ [44])).bind fun b=>if eQ q p.1 then .ok b else .error 1).bind fun b=>(e8 b p.1).bind fun b=>(ct (b ++ [58])).bind fun b=>(JV.wr p.2 (deep+1) b).bind fun b=>JV.ff r deep (some p.1) b:=by
 rw [JV.ff.eq_def]
theorem Fm {m:List (aa×JV)} {k deep:Nat} {p:Option aa} {b:aa} (h:m.length≤k):JV.ff (m.drop k) deep p b = .ok b:=by
 rw [List.drop_eq_nil_of_le h,JV.ff]
theorem w7 {m:List (aa×JV)} {k:Nat} {p:aa×JV} (h:m[k]? = some p):hS m (k+1)=some p.1:=by
 simp [hS,h]
theorem PX {m:List (aa×JV)} {p:aa×JV} {deep:Nat} {b:aa} (h:m[0]? = some p):JV.ff (m.drop 0) deep (hS m 0) b=(e8 b p.1).bind fun b=>(ct (b ++ [58])).bind fun b=>(JV.wr p.2 (deep+1) b).bind fun b=>JV.ff (m.drop (0+1)) deep (hS m (0+1)) b:=by
 rw [w7 h];obtain⟨hk,rfl⟩:=List.getElem?_eq_some_iff.1 h;rw [List.drop_eq_getElem_cons hk];exact Mo _ _ _ _
theorem WA {m:List (aa×JV)} {k:Nat} {p q:aa×JV} {deep:Nat} {b:aa} (h:m[k]? = some p) (e2:m[k-1]? = some q) (b3:0<k):JV.ff (m.drop k) deep (hS m k) b=((ct (b ++ [44])).bind fun b=>if eQ q.1 p.1 then .ok b else .error 1).bind fun b=>(e8 b p.1).bind fun b=>(ct (b ++ [58])).bind fun b=>(JV.wr p.2 (deep+1) b).bind fun b=>JV.ff (m.drop (k+1)) deep (hS m (k+1)) b:=by
 rw [w7 h];have cn:hS m k=some q.1:=by simp [hS,e2];omega
 obtain⟨hk,rfl⟩:=List.getElem?_eq_some_iff.1 h;rw [List.drop_eq_getElem_cons hk,cn];exact Mp _ _ _ _ _
theorem BC {l:List JV} {k deep:Nat} {x:JV} {dm:aa} {W r1:Except Int aa} (ae:l[k]? = some x) (hinv:((Except.ok dm:Except Int aa).bind fun b=>JV.hJ (l.drop k) deep (decide (k=0)) b)=W) (h1:(if decide (k=0)then Except.ok dm else ct (dm ++ [44]))=r1) :
  (r1.bind fun b=>(JV.wr x (deep+1) b).bind fun b=>JV.hJ (l.drop (k+1)) deep (decide (k+1=0)) b)=W:=by
 have aq:JV.hJ (l.drop k) deep (decide (k=0)) dm=W:=hinv
 rw [Kx ae,h1] at aq
 rw [show decide (k+1=0)=false by simp]
 exact aq
theorem yP {m:List (aa×JV)} {k deep:Nat} {x:aa×JV} {dm:aa} {W:Except Int aa} (ae:m[k]? = some x) (b3:k=0) (hinv:((Except.ok dm:Except Int aa).bind fun b=>JV.ff (m.drop k) deep (hS m k) b)=W) :
  ((e8 dm x.1).bind fun b=>(ct (b ++ [58])).bind fun b=>(JV.wr x.2 (deep+1) b).bind fun b=>JV.ff (m.drop (k+1)) deep (hS m (k+1)) b)=W:=by
 subst b3
 have aq:JV.ff (m.drop 0) deep (hS m 0) dm=W:=hinv
 rwa [PX ae] at aq
theorem BD {m:List (aa×JV)} {k deep:Nat} {x q:aa×JV} {dm:aa} {W:Except Int aa} (ae:m[k]? = some x) (e2:m[k-1]? = some q) (b3:0<k) (hinv:((Except.ok dm:Except Int aa).bind fun b=>JV.ff (m.drop k) deep (hS m k) b)=W) :
  (((ct (dm ++ [44])).bind fun b=>if eQ q.1 x.1 then .ok b else .error 1).bind fun b=>(e8 b x.1).bind fun b=>(ct (b ++ [58])).bind fun b=>(JV.wr x.2 (deep+1) b).bind fun b=>JV.ff (m.drop (k+1)) deep (hS m (k+1)) b)=W:=by
 have aq:JV.ff (m.drop k) deep (hS m k) dm=W:=hinv
 rwa [WA ae e2 b3] at aq
section
variable {P:Program} {ops:Array Oper} {Q:Exit→Act→World→Prop} {n:Nat} {ds:List Deferred} {l:List (Nat×Value)} {w w':World} {a:Act}
variable {rest:List Oper} {d:Nat} {op:Op} {ty:TypeId} {pos:String} {af:Array Edge} {x y:Operand} {t:TypeId}
theorem fP {f:FuncId} {args:Array Value} {arZ:Ending→World→Prop} (bl:lK P l ⟨some d,op,ty,pos,af,none⟩ w f args) (bh:Calls P f args w arZ) (bV:Nat.blt d n=true) (et:∀ w',¬ arZ .outgrown w')
  (cn:∀ c w',arZ (.panicked c) w'→fB Q (.panic c) n ds l w') (h:∀ v w',arZ (.returned v) w'→ga P ops Q rest n ds ((d,v)::l) w') :
  ga P ops Q (⟨some d,op,ty,pos,af,none⟩::rest) n ds l w:=by
 intro a ay
 refine wpList_plain rfl fun K pY=>?_
 have:=bl a.eval (fun x u ae=>ay.ru ae)
 simp only [Oper.wp,this,Oper.upon]
 refine bh.mono fun e w' he=>?_
 cases e with
 | returned v=>exact pY _ _ (h v w' he _ (ay.put bV v))
 | panicked c=>exact cn c w' he a ay
 | outgrown=>exact absurd he (et w')
theorem RP {T:TypeId} {v:Value} (ae:a6 l x=some (.iface T v)) (h:fB Q (.panic [{v:=.iface T v,recovered:=false}]) n ds l w) :
  ga P ops Q (⟨none,.panic x,ty,pos,af,none⟩::rest) n ds l w:=by
 intro a ay
 refine wpList_plain rfl fun K pY=>?_
 simp only [Oper.wp,execOp,ay.ru ae,Sem.run_bind,run_panic_iface,Oper.upon]
 exact h a ay
variable {fn:Func} {arZ:Ending→World→Prop}
theorem ea {c:List PanicEntry} (h:arZ (.panicked c) w):fB (bodyPost P fn arZ) (.panic c) n [] l w:=fun a ay=>⟨ay.defers,h⟩
theorem kp (bl:fn.results = #[]) (h:arZ (.returned (.tuple #[])) w):fB (bodyPost P fn arZ) .normal n [] l w:=fun a ay=>⟨ay.defers,_,results_none bl _ _ _,h⟩
/-! ### a range over a string -/
def A9 (w:World) (g:Nat) (s:aa) (p:Nat):Prop:=w.heap[g]? = some (.stringIter ⟨⟨s⟩⟩ p)
theorem A9.lt {g:Nat} {s:aa} {p:Nat} (h:A9 w g s p):g<w.heap.size:=(Array.getElem?_eq_some_iff.1 h).1
theorem A9.mod {M:List Nat} {g:Nat} {s:aa} {p:Nat} (h:A9 w g s p) (k:Mod M w w') (dv:g∉M):A9 w' g s p:=(k.block g h.lt dv).trans h
theorem A9.I {g:Nat} {s:aa} {p:Nat} (h:A9 w g s p) (k:Mod [] w w'):A9 w' g s p:=h.mod k (by simp)
theorem qg {u:aa} (cc:P.underlying t=some .string) (ae:a6 l x=some (S u)) (bV:Nat.blt d n=true)
  (h:∀ g w',A9 w' g u 0→g=w.heap.size→Mod [] w w'→ga P ops Q rest n ds ((d,.pointer (some ⟨g,0,none⟩))::l) w') :
  ga P ops Q (⟨some d,.range t x,ty,pos,af,none⟩::rest) n ds l w:=by
 refine fN (v:=.pointer (some ⟨w.heap.size,0,none⟩)) (w':=w.iter ⟨⟨u⟩⟩ 0) (fun ρ fc=>?_) bV (h _ _ (World.iter_heap _ _ _) rfl ⟨rfl,rfl,rfl,?_,fun i hi _=>?_⟩)
 ·simp [execOp,fc _ _ ae,run_range_string _ _ _ cc]
 ·show w.heap.size≤(w.heap.push _).size
  simp
 show(w.heap.push _)[i]? = _
 rw [Array.getElem?_push_lt hi,Array.getElem?_eq_getElem hi]
theorem lk {g p:Nat} {u:aa} (ae:a6 l x=some (.pointer (some ⟨g,0,none⟩))) (ar1:A9 w g u p) (cn:¬ p<u.length) (bV:Nat.blt d n=true)
  (h:ga P ops Q rest n ds ((d,.tuple #[.bool false])::l) w):ga P ops Q (⟨some d,.next x true,ty,pos,af,none⟩::rest) n ds l w:=by
 refine fN (v:=.tuple #[.bool false]) (w':=w) (fun ρ fc=>?_) bV h
 have bb:(⟨⟨u⟩⟩:ByteArray).size=u.length:=rfl
 unfold A9 at ar1
 simp [execOp,fc _ _ ae,Instr.next,getObj,Sem.run,ar1,Result.andThen,bb,cn]
theorem mD {g p c m:Nat} {u:aa} (ae:a6 l x=some (.pointer (some ⟨g,0,none⟩))) (ar1:A9 w g u p) (cn:p<u.length) (zi:Utf8.decode ⟨⟨u⟩⟩ p=(c,m)) (bV:Nat.blt d n=true)
  (h:∀ w',A9 w' g u (p+m)→Mod [g] w w'→w'.heap.size=w.heap.size→ga P ops Q rest n ds ((d,.tuple #[.bool true,.int .i64 (p:Int),.int .i32 (c:Int)])::l) w') :
  ga P ops Q (⟨some d,.next x true,ty,pos,af,none⟩::rest) n ds l w:=by
 have bb:(⟨⟨u⟩⟩:ByteArray).size=u.length:=rfl
 have bH:=ar1.lt
 refine fN (v:=.tuple #[.bool true,.int .i64 (p:Int),.int .i32 (c:Int)]) (w':={w with heap:=w.heap.setIfInBounds g (.stringIter ⟨⟨u⟩⟩ (p+m))}) (fun ρ fc=>?_) bV (h _ ?_ ⟨rfl,rfl,rfl,by simp,fun i hi eW=>?_⟩ (by simp))
 ·unfold A9 at ar1
  simp [execOp,fc _ _ ae,Instr.next,getObj,setObj,Sem.run,ar1,Result.andThen,bb,cn,zi,goInt]
 ·show(w.heap.setIfInBounds g _)[g]? = _
  simp [bH]
 show(w.heap.setIfInBounds g _)[i]? = _
 have:g≠i:=fun e=>eW (by simp [e])
 simp [Array.getElem?_setIfInBounds_ne this]
theorem App.ac5 {e sz c g p:Nat} {s:aa} {v v':Value} {vs:List Value} (h:App w w' e sz v v' c vs) (D:∀ x∈aY v,x≠g) (B:A9 w g s p):∀ x∈aY v',x≠g:=fun x ae=>by
 rcases h.lX x ae with h1 | h1
 ·exact D x h1
 have:=B.lt;omega
end
section
variable {P:Program} {l:List (Nat×Value)} {w:World} {ty:TypeId} {pos:String} {af:Array Edge} {dd:Option Nat} {gg:Option (Nat×Bool)} {x y hi:Operand} {t:TypeId}
theorem x3 {u:List UInt8} {n:Nat} (cc:P.underlying t=some .string) (ae:a6 l x=some (S u)) (ik:a6 l hi=some (.int .i64 (n:Int))) (aQ:n≤u.length):bF P l ⟨dd,.slice t x none (some hi) none,ty,pos,af,gg⟩ w (S (u.take n)) w:=
 (yZ (pl:=none) (ph:=some (.i64,(n:Int))) cc ae rfl (by simp [tE,ik]) (by simp only [hU,iz];omega)).to (by
  simp only [hU,iz,Int.toNat_natCast]
  simp)
end
theorem aea {m:Nat} (h:m<32):IntKind.u8.wrap (BitVec.ofInt IntKind.u8.bits 192 ||| BitVec.ofInt IntKind.u8.bits (m:Int)).toNat=((192+m:Nat):Int):=by
 have:∀ m:Fin 32,IntKind.u8.wrap (BitVec.ofInt IntKind.u8.bits 192 ||| BitVec.ofInt IntKind.u8.bits (m.val:Int)).toNat=((192+m.val:Nat):Int):=by decide +kernel
 exact this ⟨m,h⟩
theorem aeb {m:Nat} (h:m<16):IntKind.u8.wrap (BitVec.ofInt IntKind.u8.bits 224 ||| BitVec.ofInt IntKind.u8.bits (m:Int)).toNat=((224+m:Nat):Int):=by
 have:∀ m:Fin 16,IntKind.u8.wrap (BitVec.ofInt IntKind.u8.bits 224 ||| BitVec.ofInt IntKind.u8.bits (m.val:Int)).toNat=((224+m.val:Nat):Int):=by decide +kernel
 exact this ⟨m,h⟩
theorem aec {m:Nat} (h:m<8):IntKind.u8.wrap (BitVec.ofInt IntKind.u8.bits 240 ||| BitVec.ofInt IntKind.u8.bits (m:Int)).toNat=((240+m:Nat):Int):=by
 have:∀ m:Fin 8,IntKind.u8.wrap (BitVec.ofInt IntKind.u8.bits 240 ||| BitVec.ofInt IntKind.u8.bits (m.val:Int)).toNat=((240+m.val:Nat):Int):=by decide +kernel
 exact this ⟨m,h⟩
theorem aed {m:Nat} (h:m<64):IntKind.u8.wrap (BitVec.ofInt IntKind.u8.bits 128 ||| BitVec.ofInt IntKind.u8.bits (m:Int)).toNat=((128+m:Nat):Int):=by
 have:∀ m:Fin 64,IntKind.u8.wrap (BitVec.ofInt IntKind.u8.bits 128 ||| BitVec.ofInt IntKind.u8.bits (m.val:Int)).toNat=((128+m.val:Nat):Int):=by decide +kernel
 exact this ⟨m,h⟩
theorem aee {m:Nat} (h:m<256):IntKind.u8.wrap (BitVec.ofInt IntKind.u8.bits (m:Int) &&& BitVec.ofInt IntKind.u8.bits 63).toNat=((m % 64:Nat):Int):=by
 have:∀ m:Fin 256,IntKind.u8.wrap (BitVec.ofInt IntKind.u8.bits (m.val:Int) &&& BitVec.ofInt IntKind.u8.bits 63).toNat=((m.val % 64:Nat):Int):=by decide +kernel
 exact this ⟨m,h⟩
theorem aef {m:Nat} (h:m<32):IntKind.i32.wrap (BitVec.ofInt IntKind.i32.bits (m:Int) &&& BitVec.ofInt IntKind.i32.bits 15).toNat=((m % 16:Nat):Int):=by
 have:∀ m:Fin 32,IntKind.i32.wrap (BitVec.ofInt IntKind.i32.bits (m.val:Int) &&& BitVec.ofInt IntKind.i32.bits 15).toNat=((m.val % 16:Nat):Int):=by decide +kernel
 exact this ⟨m,h⟩
theorem aiu {c e:Nat} (he:e≤31):(c:Int).fdiv (2 ^ (min (e:Int).toNat IntKind.i32.bits))=((c / 2 ^ e:Nat):Int):=by
 have h1:min (e:Int).toNat IntKind.i32.bits=e:=by
  show min e 32=e;omega
 rw [h1,Int.fdiv_eq_ediv_of_nonneg _ (by exact_mod_cast Nat.zero_le (2 ^ e)),Int.natCast_ediv]
 norm_cast
theorem Y' (m:Nat):IntKind.u8.wrap (m:Int)=((m % 256:Nat):Int):=by
 have:((m % 256:Nat):Int)=(m:Int) % 256:=Int.natCast_emod ..;rw [this];rfl
theorem Ta {m:Nat} (h:m<4294967296):IntKind.u32.wrap (m:Int)=(m:Int):=by
 show(m:Int) % 4294967296=m;exact Int.emod_eq_of_lt (by omega) (by omega)
def l0 (c:Nat):Nat:=if c=34 then 34 else if c=92 then 92 else if c=8 then 98 else if c=9 then 116 else if c=10 then 110 else if c=12 then 102 else if c=13 then 114 else 0
theorem G' {c:Nat} (h:128≤c):l0 c=0:=by
 unfold l0;rw [if_neg (by omega),if_neg (by omega),if_neg (by omega),if_neg (by omega),if_neg (by omega),if_neg (by omega),if_neg (by omega)]
theorem Tb {c:UInt8} (h:l0 c.toNat≠0):(iK c).map j2 = [.int .u8 92,.int .u8 (l0 c.toNat:Int)]:=by
 unfold l0 at h ⊢
 repeat' split at h
 ·rename_i e;rw [if_pos e,C8 (by omega)];simp [j2];omega
 ·rename_i BP e;rw [if_neg BP,if_pos e,C8 (by omega)];simp [j2];omega
 ·rename_i BP bk e;rw [if_neg BP,if_neg bk,if_pos e,OS (by omega)];simp [j2]
 ·rename_i BP bk bZ e;rw [if_neg BP,if_neg bk,if_neg bZ,if_pos e,OT (by omega)];simp [j2]
 ·rename_i BP bk bZ kO e;rw [if_neg BP,if_neg bk,if_neg bZ,if_neg kO,if_pos e,OU (by omega)];simp [j2]
 ·rename_i BP bk bZ kO HP e;rw [if_neg BP,if_neg bk,if_neg bZ,if_neg kO,if_neg HP,if_pos e,OV (by omega)];simp [j2]
 ·rename_i BP bk bZ kO HP ae4 e;rw [if_neg BP,if_neg bk,if_neg bZ,if_neg kO,if_neg HP,if_neg ae4,if_pos e,OX (by omega)];simp [j2]
 exact absurd rfl h
theorem wP {c:UInt8} (h:¬ l0 c.toNat≠0):iK c=if c.toNat<32 then [92,117,48,48,iH.getD (c.toNat / 16) 0,iH.getD (c.toNat % 16) 0] else [c]:=by
 have h:=Classical.not_not.1 h;unfold l0 at h
 repeat' split at h
 all_goals first | (exact absurd h (by decide)) | skip
 exact H9 (by omega) (by omega) (by omega) (by omega) (by omega) (by omega) (by omega)
theorem BR {l:aa} (h:∀ b∈l,128≤b.toNat):c7 l=l:=by
 induction l with
 | nil=>rfl
 | cons b r dF=>
  have aQ:=h b (by simp);have h1:iK b = [b]:=by rw [wP (by rw [G' aQ];simp),if_neg (by omega)]
  have aq:=dF fun x ae=>h x (by simp [ae]);simp only [c7,List.map_cons,List.flatten_cons,h1] at aq ⊢;rw [aq];rfl
theorem wQ {s:aa} {p m:Nat}:c7 (s.take (p+m))=c7 (s.take p)++c7 ((s.drop p).take m):=by
 have:s.take (p+m)=s.take p++(s.drop p).take m:=by
  rw [List.take_add]
 rw [this];simp [c7]
theorem Cz {c:Nat} (h:128≤c) (aq:c≤1114111):∀ m∈fe c,128≤m∧m<256:=by
 intro m hm;unfold fe at hm;rw [if_neg (by omega)] at hm
 split at hm
 ·simp at hm;omega
 split at hm
 ·simp at hm;omega
 simp at hm;omega
theorem NT (c:Nat):(fe c).length≤4:=by
 unfold fe
 repeat' split
 all_goals simp
theorem we {l:aa} (h:l≠[]) (b3:(aI l).2≠0):Utf8.decode ⟨⟨l⟩⟩ 0=aI l∧(l.take (aI l).2).map j2=(fe (aI l).1).map (fun m:Nat=>Value.int .u8 (m:Int))∧(aI l).1≤1114111∧¬ (55296≤(aI l).1∧(aI l).1≤57343):=by
 rcases pJ h with⟨h1,_⟩ | ⟨_,aq,aT,bL,cN,_⟩
 ·exact absurd h1 b3
 refine⟨by rw [oX];exact aq,?_,bL,cN⟩;rw [← aT,List.map_map];rfl
theorem mc {l:aa} (h:l≠[]) (b3:(aI l).2≠0) (bh:(aI l).1<128):∃ b,l.take (aI l).2 = [b]∧b.toNat=(aI l).1:=by
 rcases pJ h with⟨h1,_⟩ | ⟨_,aq,aT,bL,cN,_⟩
 ·exact absurd h1 b3
 unfold fe at aT;rw [if_pos bh] at aT
 match cg:l.take (aI l).2,aT with
 | [b],aT=>exact⟨b,rfl,by simpa using aT⟩
 | [],aT=>simp at aT
 | _::_::_,aT=>simp at aT
theorem xa {l:aa} (h:l≠[]) (b3:(aI l).2≠0) (bh:128≤(aI l).1):∀ b∈l.take (aI l).2,128≤b.toNat:=by
 rcases pJ h with⟨h1,_⟩ | ⟨_,aq,aT,bL,cN,_⟩
 ·exact absurd h1 b3
 intro b aQ;have:b.toNat∈fe (aI l).1:=by rw [← aT];exact List.mem_map_of_mem aQ
 exact(Cz bh bL _ this).1
theorem Yn {l:aa} (b3:(aI l).2=0):¬ (3≤l.length∧l.take 3 = [239,191,189]):=by
 rintro⟨h1,aq⟩
 match l,h1,aq with
 | b0::dm::eI::r,_,aq=>
  simp only [List.take_succ_cons,List.take_zero,List.cons.injEq,and_true] at aq;obtain⟨rfl,rfl,rfl⟩:=aq;have:aI (239::191::189::r)=(65533,3):=k' (n:=3) (l:=2048) (c:=15) (d:=65533) (by decide) (by decide) (by simp) rfl (by decide);rw [this] at b3;cases b3
theorem Yo {l:aa} (h:l≠[]) (b3:(aI l).2≠0) (bh:(aI l).1=65533):3≤l.length∧l.take 3 = [239,191,189]:=by
 rcases pJ h with⟨h1,_⟩ | ⟨_,aq,aT,bL,cN,_⟩
 ·exact absurd h1 b3
 rw [bh] at aT;have e:fe 65533 = [239,191,189]:=by decide
 rw [e] at aT;have cg:=congrArg List.length aT;simp only [List.length_map,List.length_take,List.length_cons,List.length_nil] at cg;have hle:=j8 l;have hm:(aI l).2=3:=by omega
 rw [hm] at aT;refine⟨by omega,?_⟩
 match l,aT with
 | b0::dm::eI::r,aT=>
  simp only [List.take_succ_cons,List.take_zero,List.map_cons,List.map_nil,List.cons.injEq,and_true] at aT ⊢;obtain⟨h1,aq,aT⟩:=aT;exact⟨UInt8.toNat_inj.1 h1,UInt8.toNat_inj.1 aq,UInt8.toNat_inj.1 aT⟩
 | [],aT=>simp at aT
 | [_],aT=>simp at aT
 | [_,_],aT=>simp at aT
theorem h' {s:aa} {p:Nat} (h:p<s.length):s.drop p≠[]:=fun e=>by have:=congrArg List.length e;simp at this;omega
theorem x1 {s:aa} {p:Nat} (h:p<s.length) (b3:(aI (s.drop p)).2≠0):Utf8.decode ⟨⟨s⟩⟩ p=((aI (s.drop p)).1,(aI (s.drop p)).2):=by
 rcases pJ (h' h)with⟨h1,_⟩ | ⟨_,aq,_⟩
 ·exact absurd h1 b3
 rw [oX,aq]
theorem ze {s:aa} {p:Nat} (h:p<s.length) (b3:(aI (s.drop p)).2=0):Utf8.decode ⟨⟨s⟩⟩ p=(65533,1):=by
 rcases pJ (h' h)with⟨_,aq⟩ | ⟨h1,_⟩
 ·rw [oX,aq]
 exact absurd b3 h1
theorem y' {l:aa} (h:l≠[]) (bK:ck l=true):(aI l).2≠0:=fun b3=>by rw [tw h b3] at bK;cases bK
section
variable {P:Program} {l:List (Nat×Value)} {w w':World} {ty:TypeId} {pos:String} {af:Array Edge} {dd:Option Nat} {gg:Option (Nat×Bool)} {x y:Operand} {t t':TypeId}
theorem qZ {c:Nat} (e d:Nat) (ae:a6 l x=some (.int .i32 (c:Int))) (aZ:a6 l y=some (.int .u64 (e:Int))) (he:e≤31) (bV:2 ^ e=d):bF P l ⟨dd,.binOp .shr t x y t',ty,pos,af,gg⟩ w (.int .i32 ((c / d:Nat):Int)) w:=
 (tW ae aZ (by omega)).to (by rw [aiu he,bV])
theorem mo {m:Nat} {d0:TypeDesc} (bb:P.underlying t=some d0) (cc:P.underlying t'=some (.int .u8)) (ae:a6 l x=some (.int .i32 (m:Int))):bF P l ⟨dd,.convert t t' x,ty,pos,af,gg⟩ w (.int .u8 ((m % 256:Nat):Int)) w:=
 (sB bb cc ae).to (by rw [Y'])
theorem sd {m:Nat} (ae:a6 l x=some (.int .u8 ((m % 256:Nat):Int))) (aZ:a6 l y=some (.int .u8 63)):bF P l ⟨dd,.binOp .and t x y t',ty,pos,af,gg⟩ w (.int .u8 ((m % 64:Nat):Int)) w:=
 (zG ae aZ).to (by rw [aee (Nat.mod_lt _ (by decide)),show m % 256 % 64=m % 64 by omega])
theorem pH {m:Nat} (ae:a6 l x=some (.int .u8 128)) (aZ:a6 l y=some (.int .u8 ((m % 64:Nat):Int))):bF P l ⟨dd,.binOp .or t x y t',ty,pos,af,gg⟩ w (.int .u8 ((128+m % 64:Nat):Int)) w:=
 (pw ae aZ).to (by rw [aed (Nat.mod_lt _ (by decide))])
theorem Yr {m:Nat} (ae:a6 l x=some (.int .u8 192)) (aZ:a6 l y=some (.int .u8 ((m % 256:Nat):Int))) (h:m<32):bF P l ⟨dd,.binOp .or t x y t',ty,pos,af,gg⟩ w (.int .u8 ((192+m:Nat):Int)) w:=
 (pw ae aZ).to (by rw [show m % 256=m by omega,aea h])
theorem Lm {m:Nat} (ae:a6 l x=some (.int .u8 224)) (aZ:a6 l y=some (.int .u8 ((m % 256:Nat):Int))) (h:m<16):bF P l ⟨dd,.binOp .or t x y t',ty,pos,af,gg⟩ w (.int .u8 ((224+m:Nat):Int)) w:=
 (pw ae aZ).to (by rw [show m % 256=m by omega,aeb h])
theorem Ys {m:Nat} (ae:a6 l x=some (.int .u8 240)) (aZ:a6 l y=some (.int .u8 ((m % 256:Nat):Int))) (h:m<8):bF P l ⟨dd,.binOp .or t x y t',ty,pos,af,gg⟩ w (.int .u8 ((240+m:Nat):Int)) w:=
 (pw ae aZ).to (by rw [show m % 256=m by omega,aec h])
theorem Ll {m:Nat} {d0:TypeDesc} (bb:P.underlying t=some d0) (cc:P.underlying t'=some (.int .u32)) (ae:a6 l x=some (.int .i32 (m:Int))) (h:m≤1114111):bF P l ⟨dd,.convert t t' x,ty,pos,af,gg⟩ w (.int .u32 (m:Int)) w:=
 jX bb cc ae (Ta (by omega))
end
theorem Tc {c:Nat} (aq:c≤1114111):∀ m∈fe c,m<256:=by
 intro m hm
 by_cases h:128≤c
 ·exact(Cz h aq m hm).2
 unfold fe at hm;rw [if_pos (by omega)] at hm;simp at hm;omega
def jf (c:Nat):aa:=(fe c).map UInt8.ofNat
theorem Ha {c:Nat} (aq:c≤1114111):(jf c).map j2=(fe c).map (fun m:Nat=>Value.int .u8 (m:Int)):=by
 unfold jf;rw [List.map_map];refine List.map_congr_left fun m hm=>?_;have:=Tc aq m hm;simp only [Function.comp,j2];rw [UInt8.toNat_ofNat_of_lt' (by simpa using this)]
theorem se {w:World} {v:Value} {b:aa} {n c:Nat} {vs:List Value} (bh:c≤1114111) (h:Own w 5 1 v n vs) (cj:n=b.length+(fe c).length) (bK:vs=(b.map uw).flatten++(fe c).map (fun m:Nat=>Value.int .u8 (m:Int))):hI w v (b++jf c):=
 h.same (by rw [cj,List.length_append];simp [jf]) (by rw [bK,List.map_append,List.flatten_append,dh (jf c),Ha bh])
theorem MI (c:Nat):(jf c).length≤4:=by
 have:=NT c;simpa [jf] using this
theorem qH {l:aa} (h:l≠[]) (b3:(aI l).2≠0):jf (aI l).1=l.take (aI l).2:=by
 rcases pJ h with⟨h1,_⟩ | ⟨_,aq,aT,bL,cN,_⟩
 ·exact absurd h1 b3
 unfold jf;rw [← aT,List.map_map];refine(List.map_congr_left fun b aQ=>?_).trans (List.map_id _);simp [Function.comp]
section
variable {P:Program} {l:List (Nat×Value)} {w w':World} {ty:TypeId} {pos:String} {af:Array Edge} {dd:Option Nat} {gg:Option (Nat×Bool)} {x y:Operand} {t t':TypeId}
theorem ad3 {m:Nat} (ae:a6 l x=some (.int .i32 (m:Int))) (aZ:a6 l y=some (.int .i32 15)) (h:m<32):bF P l ⟨dd,.binOp .and t x y t',ty,pos,af,gg⟩ w (.int .i32 ((m % 16:Nat):Int)) w:=
 (zG ae aZ).to (by rw [aef h])
end
section
variable {s:aa} {p:Nat}
theorem wL (h:p<s.length) (b3:(aI (s.drop p)).2≠0) (bK:ck (s.drop p)=true):ck (s.drop (p+(aI (s.drop p)).2))=true:=by
 rw [← List.drop_drop,← kT (h' h) b3];exact bK
theorem Yv (h:p<s.length) (b3:(aI (s.drop p)).2≠0) (e2:(l0 (aI (s.drop p)).1:Int)≠0):∃ t,c7 (s.take (p+(aI (s.drop p)).2))=c7 (s.take p)++t∧t.map j2 = [.int .u8 92,.int .u8 (l0 (aI (s.drop p)).1:Int)]∧t.length=2:=by
 have bh:(aI (s.drop p)).1<128:=by
  rcases Nat.lt_or_ge (aI (s.drop p)).1 128 with h1 | h1
  ·exact h1
  rw [G' h1] at e2;exact absurd rfl e2
 obtain⟨b,aQ,Jv⟩:=mc (h' h) b3 bh;have hm:=Tb (c:=b) (by rw [Jv];omega);rw [Jv] at hm;refine⟨iK b,by rw [wQ,aQ];simp [c7],hm,?_⟩;have:=congrArg List.length hm;simpa using this
theorem Yw (h:p<s.length) (b3:(aI (s.drop p)).2≠0) (e2:¬ (l0 (aI (s.drop p)).1:Int)≠0) (bh:((aI (s.drop p)).1:Int)<32):c7 (s.take (p+(aI (s.drop p)).2))=c7 (s.take p) ++ [92,117,48,48,iH.getD ((aI (s.drop p)).1 / 16) 0,iH.getD ((aI (s.drop p)).1 % 16) 0]:=by
 obtain⟨b,aQ,Jv⟩:=mc (h' h) b3 (by omega);have hm:=wP (c:=b) (by rw [Jv];omega);rw [if_pos (by omega),Jv] at hm;rw [wQ,aQ];simp only [c7,List.map_cons,List.map_nil,List.flatten_cons,List.flatten_nil,hm];rfl
theorem Yx (h:p<s.length) (b3:(aI (s.drop p)).2≠0) (e2:¬ (l0 (aI (s.drop p)).1:Int)≠0) (bh:¬ ((aI (s.drop p)).1:Int)<32):c7 (s.take (p+(aI (s.drop p)).2))=c7 (s.take p)++jf (aI (s.drop p)).1:=by
 rw [wQ,qH (h' h) b3]
 congr 1
 rcases Nat.lt_or_ge (aI (s.drop p)).1 128 with h1 | h1
 ·obtain⟨b,aQ,Jv⟩:=mc (h' h) b3 h1;have hm:=wP (c:=b) (by rw [Jv];omega);rw [if_neg (by omega)] at hm;rw [aQ];simp only [c7,List.map_cons,List.map_nil,List.flatten_cons,List.flatten_nil,hm];rfl
 exact BR (xa (h' h) b3 h1)
theorem G4 {w:World} {v:Value} {n q:Nat} {vs:List Value} {t:aa} (O:Own w 5 1 v n vs) (cc:c7 (s.take q)=c7 (s.take p)++t) (cj:n=(34::c7 (s.take p)).length+t.length) (lW:vs=((34::c7 (s.take p)).map uw).flatten++t.map j2):hI w v (34::c7 (s.take q)):=by
 refine O.same (by rw [cj,cc];simp;omega) ?_;rw [lW,cc];simp [dh]
end
def BW (T:TypeId) (e:Int):List PanicEntry:=[{v:=.iface T (.agg #[.int .i64 e]),recovered:=false}]
def anr (T:TypeId) (e:Int) (w:World):Ending→World→Prop
 | .panicked c,w'=>c=BW T e∧w'=w
 | _,_=>False
structure vq (w:World) (g V:Nat) (u:Value) (b:aa):Prop where
 aA:aE w g V [u]
 own:hI w u b
 ne:∀ x∈aY u,x≠g
 len:b.length≤65536
def Ag (w:World) (g V T:Nat) (u:Value) (r:Except Int aa):Ending→World→Prop
 | .returned _,w'=>∃ kV b,r = .ok b∧vq w' g V kV b∧Mod (g::aY u) w w'∧∀ x∈aY kV,x∈aY u∨w.heap.size≤x
 | .panicked c,w'=>∃ e,r = .error e∧e≠0∧c=BW T e∧Mod (g::aY u) w w'
 | .outgrown,_=>False
structure kJ (w0 w:World) (hR:Value) (g V:Nat) (u:Value) (b:aa):Prop where
 s5:vq w g V u b
 iV:∀ x∈aY u,x∈aY hR∨w0.heap.size≤x
 mod:Mod (g::aY hR) w0 w
section
variable {w0 w Ip w':World} {hR u gj x:Value} {g V T:Nat} {b t:aa} {r r1:Except Int aa} {c:List PanicEntry} {e:Int}
theorem vq.I (H:vq w g V u b) (k:Mod [] w w'):vq w' g V u b:=⟨H.aA.I k,H.own.I k,H.ne,H.len⟩
theorem kJ.init (H:vq w g V u b):kJ w w u g V u b:=⟨H,fun x ae=>.inl ae,Mod.refl _ _⟩
theorem kJ.I (H:kJ w0 w hR g V u b) (k:Mod [] w w'):kJ w0 w' hR g V u b:=⟨H.s5.I k,H.iV,H.mod.then k⟩
theorem kJ.zT (H:kJ w0 w hR g V u b):∀ x∈g::aY u,x∈g::aY hR∨w0.heap.size≤x:=fun x ae=>by
 rcases List.mem_cons.1 ae with rfl | h
 ·exact .inl (by simp)
 exact(H.iV x h).imp (fun h=>by simp [h]) id
theorem kJ.rep {d:D} {v:Value} (H:kJ w0 w hR g V u b) (arZ:a8 (g::aY hR) w0 d v):a8 (g::aY u) w d v:=a8.to H.mod (fun x ae=>ae) H.zT d v arZ
theorem kJ.KE {d:List D} {v:List Value} (H:kJ w0 w hR g V u b) (arZ:ao (g::aY hR) w0 d v):ao (g::aY u) w d v:=ao.to H.mod (fun x ae=>ae) H.zT d v arZ
theorem kJ.ret (H:kJ w0 w hR g V u b) (h:Ag w g V T u r1 (.returned x) w'):∃ kV fb,r1 = .ok fb∧kJ w0 w' hR g V kV fb∧Mod (g::aY u) w w'∧∀ x∈aY kV,x∈aY u∨w.heap.size≤x:=by
 obtain⟨kV,fb,h1,aq,aT,bL⟩:=h;exact⟨kV,fb,h1,⟨aq,fun x ae=>(bL x ae).elim (H.iV x) (fun h=>.inr (Nat.le_trans H.mod.size h)),H.mod.trans' aT H.zT⟩,aT,bL⟩
theorem kJ.panic (H:kJ w0 w hR g V u b) (h:Ag w g V T u r1 (.panicked c) w') (bl:∀ e,r1 = .error e→r = .error e):Ag w0 g V T hR r (.panicked c) w':=by
 obtain⟨e,h1,b3,aq,aT⟩:=h;exact⟨e,bl e h1,b3,aq,H.mod.trans' aT H.zT⟩
theorem kJ.fail (H:kJ w0 w hR g V u b) (bl:r = .error e) (b3:e≠0:=by decide):Ag w0 g V T hR r (.panicked (BW T e)) w:=⟨e,bl,b3,rfl,H.mod⟩
theorem kJ.fin (H:kJ w0 w hR g V u b) (bl:r = .ok b):Ag w0 g V T hR r (.returned x) w:=⟨u,b,bl,H.s5,H.mod,H.iV⟩
theorem kJ.app {n:Nat} {vs:List Value} (H:kJ w0 w hR g V u b) (ez:App w Ip 5 1 u gj n vs) (k:Mod [g] Ip w'):Mod (g::aY hR) w0 w':=
 (H.mod.trans' ez.mod (fun x ae=>H.zT x (by simp [ae]))).trans' k (fun x ae=>.inl (by simp at ae;simp [ae]))
theorem kJ.aio {n:Nat} {vs:List Value} (H:kJ w0 w hR g V u b) (ez:App w Ip 5 1 u gj n vs) (eR:hI Ip gj (b++t)) (k:Mod [g] Ip w') (B:aE w' g V [gj]) (cg:(b++t).length≤65536):kJ w0 w' hR g V gj (b++t):=by
 have bY:∀ x∈aY gj,x≠g:=fun x ae=>(ez.lX x ae).elim (H.s5.ne x) (fun h e=>by have:=H.s5.aA.lt;omega);refine⟨⟨B,eR.mod k (fun x ae hm=>bY x ae (by simpa using hm)),bY,cg⟩,fun x ae=>?_,H.app ez k⟩;exact(ez.lX x ae).elim (H.iV x) (fun h=>.inr (Nat.le_trans H.mod.size h))
structure vr (w:World) (g:Nat) (u:Value) (h W:Nat) (cells:List Value):Prop where
 aA:aE w h W cells
 ne:h≠g
 FA:∀ x∈aY u,x≠h
variable {h W:Nat} {cells:List Value}
theorem vr.I (K:vr w g u h W cells) (k:Mod [] w w'):vr w' g u h W cells:=⟨K.aA.I k,K.ne,K.FA⟩
theorem vr.step (K:vr w g u h W cells) (k:Mod (g::aY u) w w') (et:∀ x∈aY gj,x∈aY u∨w.heap.size≤x):vr w' g gj h W cells:=
 ⟨K.aA.mod k (fun ae=>by
  rcases List.mem_cons.1 ae with h1 | h1
  ·exact K.ne h1
  exact K.FA _ h1 rfl),K.ne,fun x ae=>(et x ae).elim (K.FA x) (fun h e=>by have:=K.aA.lt;omega)⟩
theorem vr.PD (H:vq w g V u b) (B:aE w' h W cells) (ik:w.heap.size≤h):vr w' g u h W cells:=
 ⟨B,fun e=>by have:=H.aA.lt;omega,fun x ae e=>by have:=H.own.lt x ae;omega⟩
end
def JV.plain (v:JV):Bool:=decide (0≤v.kind∧v.kind≤5)&&(decide (v.kind=1) || !v.is)&&(decide (v.kind=2)||decide (v.num=0))&&(decide (v.kind=3)||decide (v.str = []))&&(decide (v.kind=4)||decide (v.list.length=0))&&(decide (v.kind=5)||decide (v.map.length=0))
theorem JV.pI (v:JV):v.bare=(v.plain&&decide (-9007199254740991≤v.num∧v.num≤9007199254740991)):=by
 unfold JV.bare JV.plain;rw [Bool.eq_iff_iff];simp only [Bool.and_eq_true,Bool.or_eq_true,Bool.not_eq_true',decide_eq_true_eq,decide_eq_false_iff_not];constructor
 ·rintro⟨⟨⟨⟨⟨⟨h1,aq⟩,aT⟩,bL⟩,cN⟩,eU⟩,kB⟩;refine⟨⟨⟨⟨⟨⟨h1,aq⟩,aT⟩,bL⟩,cN⟩,eU⟩,?_⟩;rcases kB with kB | kB
  ·rcases aT with aT | aT
   ·exact absurd aT kB
   omega
  exact kB
 rintro⟨⟨⟨⟨⟨⟨h1,aq⟩,aT⟩,bL⟩,cN⟩,eU⟩,kB⟩;exact⟨⟨⟨⟨⟨⟨h1,aq⟩,aT⟩,bL⟩,cN⟩,eU⟩,.inr kB⟩
section
variable {w w':World} {g:Nat} {u gj:Value} {ds:List D} {us:List Value} {A:List Nat}
theorem ao.I (arZ:ao A w ds us) (k:Mod [] w w'):ao A w' ds us:=arZ.bG k
theorem ao.wM (arZ:ao (g::aY u) w ds us) (k:Mod (g::aY u) w w') (et:∀ x∈aY gj,x∈aY u∨w.heap.size≤x):ao (g::aY gj) w' ds us:=
 ao.to k (fun x ae=>ae) (fun x ae=>by
  rcases List.mem_cons.1 ae with rfl | h
  ·exact .inl (by simp)
  exact(et x h).imp (fun h=>by simp [h]) id) ds us arZ
end
theorem aaL {l:List JV} {k deep:Nat} {x:JV} {b:aa} {W:Except Int aa} (ae:l[k]? = some x) (hinv:JV.hJ (l.drop k) deep (decide (k=0)) b=W) :
  ((if k=0 then Except.ok b else ct (b ++ [44])).bind fun b=>(JV.wr x (deep+1) b).bind fun b=>JV.hJ (l.drop (k+1)) deep (decide (k+1=0)) b)=W:=by
 rw [Kx ae] at hinv
 rw [show decide (k+1=0)=false by simp,← hinv]
 by_cases h:k=0 <;> simp [h]
def wN (m:List (aa×JV)) (k:Nat) (x:aa×JV):Bool:=match hS m k with
 | none=>true
 | some q=>eQ q x.1
theorem G9 {m:List (aa×JV)} {k:Nat} {x:aa×JV} (h:k=0):wN m k x=true:=by subst h;rfl
theorem wO {m:List (aa×JV)} {k:Nat} {x q:aa×JV} (e2:m[k-1]? = some q) (b3:0<k):wN m k x=eQ q.1 x.1:=by
 unfold wN hS;rw [if_neg (by omega),e2];rfl
theorem aaM {m:List (aa×JV)} {k deep:Nat} {x:aa×JV} {b:aa} {W:Except Int aa} (ae:m[k]? = some x) (hinv:JV.ff (m.drop k) deep (hS m k) b=W) :
  ((if k=0 then Except.ok b else ct (b ++ [44])).bind fun b=>(if wN m k x then Except.ok b else Except.error 1).bind fun b=>(e8 b x.1).bind fun b=>(ct (b ++ [58])).bind fun b=>(JV.wr x.2 (deep+1) b).bind fun b=>JV.ff (m.drop (k+1)) deep (hS m (k+1)) b)=W:=by
 by_cases h:k=0
 ·rw [G9 h,if_pos h]
  exact yP ae h hinv
 obtain⟨q,e2⟩:∃ q,m[k-1]? = some q:=⟨_,List.getElem?_eq_getElem (by have:=(List.getElem?_eq_some_iff.1 ae).1;omega)⟩
 have:=BD ae e2 (by omega) hinv
 rw [wO e2 (by omega),if_neg h,← this]
 cases ct (b ++ [44]) <;> rfl
theorem JV.qI {v:JV} (h:v.bare=true):0≤v.kind∧v.kind≤5:=by
 unfold JV.bare at h;simp only [Bool.and_eq_true,decide_eq_true_eq] at h;omega
section
variable {P:Program} {ops:Array Oper} {Q:Exit→Act→World→Prop} {n:Nat} {ds:List Deferred} {l:List (Nat×Value)} {w w':World}
variable {rest:List Oper} {d:Nat} {op:Op} {ty:TypeId} {pos:String} {af:Array Edge} {x y:Operand} {t t':TypeId} {dd:Option Nat} {gg:Option (Nat×Bool)}
theorem ad9 (hi:P.underlying t=some (.interface (P.methodsAt t))) (ae:a6 l x=some .nilIface):bF P l ⟨dd,.binOp .eql t x (.const .nilIface) t',ty,pos,af,gg⟩ w (.bool true) w:=fun ρ h=>by
 have h1:ρ (.const .nilIface) = .nilIface:=h _ _ rfl;have dv:eqGuard .eql t x (.const .nilIface) .nilIface .nilIface=pure ():=by cases x <;> rfl
 simp [execOp,h _ _ ae,h1,binOp,dv,run_equal_nil_nil w t hi]
theorem ad' {T:TypeId} {v:Value} (hi:P.underlying t=some (.interface (P.methodsAt t))) (ae:a6 l x=some (.iface T v)):bF P l ⟨dd,.binOp .eql t x (.const .nilIface) t',ty,pos,af,gg⟩ w (.bool false) w:=fun ρ h=>by
 have h1:ρ (.const .nilIface) = .nilIface:=h _ _ rfl;have dv:eqGuard .eql t x (.const .nilIface) (.iface T v) .nilIface=pure ():=by rfl
 simp [execOp,h _ _ ae,h1,binOp,dv,run_equal_held_nil w t _ _ hi]
theorem KY {T t0:TypeId} {v:Value} {d0:TypeDesc} (jR:P.underlying T=some d0) (cj:(match d0 with | .interface _=>false | _=>true)=true) (ae:a6 l x=some (.iface T v)):bF P l ⟨dd,.typeAssert x t0 T true,ty,pos,af,gg⟩ w (.tuple #[v,.bool true]) w:=fun ρ h=>by
 cases d0 <;> first | (simp at cj;done) | simp [execOp,Instr.typeAssert,h _ _ ae,run_underlying jR]
theorem F9 {fn:Fn} {us vs:Array Value} {gS:Array TypeId} (ae:a6 l x=some (.func fn us vs)) (h:ga P ops Q rest n ({target:=.fn fn vs,args:=us}::ds) l w) :
  ga P ops Q (⟨none,.defer {callee:=.value x,args:=#[],argTypes:=gS},ty,pos,af,none⟩::rest) n ds l w:=by
 intro a ay
 refine wpList_plain rfl fun K pY=>?_
 have bl:(execOp a.eval ⟨none,.defer {callee:=.value x,args:=#[],argTypes:=gS},ty,pos,af,none⟩).run P w = .ok (.defer {target:=.fn fn vs,args:=us}) w:=by
  simp [execOp,resolve,ay.ru ae,Deferred.ofValue]
 simp only [Oper.wp,bl,Oper.upon]
 exact pY _ _ (h _ ⟨ay.size,by simp [Act.put,ay.defers],ay.get⟩)
theorem La {f:FuncId} {fn:Func} {c:Code} {vs:List Value} {arZ:Ending→World→Prop} (dK:P.funcs[f]? = some fn) (aQ:fn.body=some c) (cj:fn.ntmps=n) (hle:Nat.ble vs.length n=true) (bb:Sub (tg 0 vs) l)
  (h:pW P c (bodyPostD P fn arZ) n [] l w):Calls P f vs.toArray w arZ:=by
 have aas:vs.length≤n:=by simpa using hle
 have ay:Has n [] (tg 0 vs) {tmps:=vs.toArray++Array.replicate (fn.ntmps-vs.toArray.size) undef,defers:=[]}:=by
  refine⟨by rw [Array.size_append,Array.size_replicate,List.size_toArray,cj];omega,rfl,fun t v bK=>?_⟩
  obtain⟨_,aq⟩:=sJ vs 0 t v bK
  rw [Nat.sub_zero] at aq
  have bH:=(List.getElem?_eq_some_iff.1 aq).1
  dsimp only
  rw [Array.getElem?_append_left (by simpa using bH)]
  simpa using aq
 exact calls_of_wp_defers dK aQ (h _ (ay.sub bb))
theorem tk {apx:Exit→Act→List Frame→World→Prop} {cs:List Frame} (ku:¬ LetsOut Q) (e2:∀ e a w,Q e a w→apx e a cs w) :
  ∀ (m:List Oper) (k:Nat),(∀ j,m[j]? = ops[k+j]?)→∀ a w,wpList P ops Q m a w→wpOpsS P ops apx (List.range' k m.length) a cs w
 | [],k,_,a,w,h=>e2 _ _ _ h
 | o::m,k,dY,a,w,h=>by
  have dF:=tk ku e2 m (k+1) (fun j=>by have:=dY (j+1);simpa [Nat.add_assoc,Nat.add_comm 1 j] using this)
  have b3:ops[k]? = some o:=by simpa using (dY 0).symm
  simp only [List.length_cons,List.range'_succ,wpOpsS,b3]
  simp only [wpList] at h
  by_cases hw:Region.wanted o (yielded ops a.tmps)=true
  rotate_left
  ·simp only [hw,if_false,Bool.false_eq_true] at h ⊢
   exact dF _ _ h
  simp only [hw,if_true] at h ⊢
  rcases h with h | h
  rotate_left
  ·exact absurd h.2 ku
  simp only [Oper.wp] at h
  generalize bl:(execOp a.eval o).run P w=r at h
  split
  ·rename_i aB
   simp only [Oper.upon] at h
  rename_i Mn bY
  match r,h with
  | .ok (.value v) aB,h=>exact dF _ _ h
  | .ok .skip aB,h=>exact dF _ _ h
  | .ok (.defer dd) aB,h=>exact dF _ _ h
  | .ok (.enter f args) aB,h=>
   refine Calls.mono h fun e cO he=>?_
   cases e with
   | returned v=>exact dF _ _ he
   | panicked c=>exact e2 _ _ _ he
   | outgrown=>exact absurd he ku
  | .ok (.row rw args) aB,h=>exact Rows.mono h fun v cO he=>dF _ _ he
  | .halt (.panic v) aB,h=>exact e2 _ _ _ h
def aeg (u:FrameMode) (v:Value) (gj:FrameMode):Prop:=
 (u = .returning∧v = .nilIface∧gj = .returning)∨(u = .panicking [{v:=v,recovered:=false}]∧gj = .panicking [{v:=v,recovered:=true}])
theorem qO {f:FuncId} {fn:Func} {id:Nat} {y:Code} {vs:List Value} {u gj:FrameMode} {v:Value} {arZ:Ending→FrameMode→World→Prop}
  (dK:P.funcs[f]? = some fn) (aQ:fn.body=some (.seq (.region id ops false) y)) (cj:fn.ntmps=n) (hle:Nat.ble vs.length n=true) (bb:Sub (tg 0 vs) l)
  (et:ops.toList=⟨some d,.call {callee:=.builtin .recover,args:=#[],argTypes:=#[]},ty,pos,af,none⟩::rest) (bV:Nat.blt d n=true) (hu:aeg u v gj) (aaN:∀ u w,¬ arZ .outgrown u w)
  (h:∀ K:Act→World→Prop,(∀ n ds l w,pW P y (bodyPost P fn fun e w=>arZ e gj w) n ds l w→∀ a,Has n ds l a→K a w)→ga P ops (Exit.then K (bodyPost P fn fun e w=>arZ e gj w)) rest n [] ((d,v)::l) w):CallsD P f vs.toArray u w arZ:=by
 have aas:vs.length≤n:=by simpa using hle
 have ay:Has n [] (tg 0 vs) {tmps:=vs.toArray++Array.replicate (fn.ntmps-vs.toArray.size) undef,defers:=[]}:=by
  refine⟨by rw [Array.size_append,Array.size_replicate,List.size_toArray,cj];omega,rfl,fun t v bK=>?_⟩
  obtain⟨_,aq⟩:=sJ vs 0 t v bK
  rw [Nat.sub_zero] at aq
  have bH:=(List.getElem?_eq_some_iff.1 aq).1
  dsimp only
  rw [Array.getElem?_append_left (by simpa using bH)]
  simpa using aq
 refine callsD_of_wpS dK aQ fun Aj cs bh=>wpS_seq (wpS_region ?_)
 have ij:ops.size=rest.length+1:=by rw [← Array.length_toList,et];rfl
 have b3:ops[0]? = some ⟨some d,.call {callee:=.builtin .recover,args:=#[],argTypes:=#[]},ty,pos,af,none⟩:=by rw [← Array.getElem?_toList,et];rfl
 have hm:∃ cs',cs' = {Aj with mode:=gj}::cs∧((recoverD (Aj::cs)=some (v,cs'))∨(recoverD (Aj::cs)=none∧v = .nilIface∧cs'=Aj::cs)):=by
  refine⟨_,rfl,?_⟩
  rcases hu with⟨h1,aq,aT⟩ | ⟨h1,aq⟩
  ·refine .inr ⟨by simp [recoverD,bh,h1],aq,?_⟩
   rw [aT,← h1,← bh]
  exact .inl (by subst aq;simp [recoverD,bh,h1])
 obtain⟨cs',tC,hm⟩:=hm
 have key:=h (fun a w=>y.wp P (bodyPost P fn fun e w=>arZ e gj w) a w) (fun n ds l w aZ a ay=>aZ a ay) _ ((ay.sub bb).put bV v)
 have ku:¬ LetsOut (Exit.then (fun a w=>y.wp P (bodyPost P fn fun e w=>arZ e gj w) a w) (bodyPost P fn fun e w=>arZ e gj w)):=by
  rintro⟨a,w,h⟩
  exact aaN _ _ h
 have Ck:∀ e a w,bodyPost P fn (fun e w=>arZ e gj w) e a w→bodyPostS P fn Aj cs arZ e a cs' w:=by
  intro e a w e2
  cases e with
  | normal=>obtain⟨h1,v,aq,aT⟩:=e2;exact⟨h1,gj,tC,v,aq,aT⟩
  | ret=>obtain⟨h1,v,aq,aT⟩:=e2;exact⟨h1,gj,tC,v,aq,aT⟩
  | panic c=>obtain⟨h1,aT⟩:=e2;exact⟨h1,gj,tC,aT⟩
  | outgrown=>exact absurd e2 (aaN _ _)
  | exit i=>exact e2.elim
  | goto i=>exact e2.elim
 have yB:∀ e a w,Exit.then (fun a w=>y.wp P (bodyPost P fn fun e w=>arZ e gj w) a w) (bodyPost P fn fun e w=>arZ e gj w) e a w→Exit.thenS (y.wpS P (bodyPostS P fn Aj cs arZ)) (bodyPostS P fn Aj cs arZ) e a cs' w:=by
  intro e a w e2
  cases e with
  | normal=>exact wpS_of_wp (Code.wp_mono Ck e2)
  | ret=>exact Ck .ret a w e2
  | panic c=>exact Ck (.panic c) a w e2
  | outgrown=>exact Ck .outgrown a w e2
  | exit i=>exact Ck (.exit i) a w e2
  | goto i=>exact Ck (.goto i) a w e2
 have pU:=tk (ops:=ops) ku yB rest 1 (fun j=>by rw [← Array.getElem?_toList,et,Nat.add_comm];rfl) _ _ key
 rw [ij,List.range_eq_range',List.range'_succ]
 simp only [wpOpsS,b3,Region.wanted,if_true]
 have bl:(execOp (Act.eval {tmps:=vs.toArray++Array.replicate (fn.ntmps-vs.toArray.size) undef,defers:=[]}) ⟨some d,.call {callee:=.builtin .recover,args:=#[],argTypes:=#[]},ty,pos,af,none⟩).run P w = .ok .recover w:=by
  simp [execOp,resolve,invoke,builtin]
 simp only [bl]
 rcases hm with hm | ⟨hm,bK,zx⟩
 ·rw [hm]
  exact pU
 rw [hm]
 subst bK
 rw [← zx]
 exact pU
variable {fn:Func} {arZ:Ending→World→Prop} {u:FrameMode}
theorem DJ (h:∀ a,Has n ds l a→Leaves P fn a.tmps arZ ds .returning w):fB (bodyPostD P fn arZ) .ret n ds l w:=fun a ay=>by
 show Leaves P fn a.tmps arZ a.defers .returning w;rw [ay.defers];exact h a ay
theorem wy {c:List PanicEntry} (h:∀ a,Has n ds l a→Leaves P fn a.tmps arZ ds (.panicking c) w):fB (bodyPostD P fn arZ) (.panic c) n ds l w:=fun a ay=>by
 show Leaves P fn a.tmps arZ a.defers (.panicking c) w;rw [ay.defers];exact h a ay
theorem r3 {k:FuncId} {cap tmps:Array Value} {DE:Ending→FrameMode→World→Prop} (hu:u≠.run) (e1:aP P k) (bh:CallsD P k cap u w DE)
  (h:∀ e kV w',DE e kV w'→∃ v,e = .returned v∧settle kV = .returning∧∃ r,(results fn tmps).run P w' = .ok r w'∧arZ (.returned r) w'):Leaves P fn tmps arZ [{target:=.fn (.func k) cap,args:=#[]}] u w:=by
 refine leaves_cons hu (f:=k) (args:=cap) ?_ (bh.mono fun e kV w' he=>?_)
 ·have:=e1 cap w
  simpa [invoke] using this
 obtain⟨v,rfl,aq,r,aT,bL⟩:=h e kV w' he
 dsimp only
 rw [aq]
 exact⟨r,aT,bL⟩
theorem xt {a:Act} {t t' T M9:Nat} {ad rK:Addr} {v v':Value} (ay:Has n ds l a) (bl:fn.results = #[.cell t T,.cell t' M9]) (cc:nL P T=true) (DH:nL P M9=true) (bK:iM t l=some (.pointer (some ad))) (qc:iM t' l=some (.pointer (some rK)))
  (bh:w.cell? ad=some v) (zx:w.cell? rK=some v'):(results fn a.tmps).run P w = .ok (.tuple #[v,v']) w:=by
 simp [results,bl,ay.get _ _ bK,ay.get _ _ qc,asAddr,kN cc bh,kN DH zx]
end
end Go.Proofs.YtnihidkbkhcfoaaGreatDoor.V
