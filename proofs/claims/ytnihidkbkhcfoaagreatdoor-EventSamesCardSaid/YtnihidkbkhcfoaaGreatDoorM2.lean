/-
  A part of the proof: members by rising keys: found, put, in plain Lean; JSON values in memory: their cells, the rows of their lists and maps; how much a JSON value weighs, whether its keys rise, whether two are the same, in plain Lean; members put into a map: rows of seven cells; runes, texts between quotes, canonical texts of JSON values, as the document tells them, in plain Lean; runes, step by step; the model's reading of a rune, and the document's: the same; the rest of a slice of the call's own is cleared; a drawn region's end with two slots of which something is known; a text between quotes, byte by byte; errors' numbers; bytes that grow behind one another while a JSON value is read: what is kept from step to step; panics that go through a call; a range over a string; bits of bytes; the letter behind a backslash; a text between quotes, rune by rune; the operations that make the bytes of a rune; a text between quotes, rune by rune: what each round adds; a writer in memory: what its functions leave, whether they return or panic; the writing of lists and maps, step by step; a deferred function that recovers; what a function with one leaves. No condition of its own.
-/
import Derived.Test.YtnihidkbkhcfoaaGreatDoorM1
import Derived.Lib.ItoaLen
import Derived.Laws.RangeString
import Derived.WalkSmall
import Derived.Recover
import Derived.WideLaws
set_option linter.unusedVariables false
set_option linter.unusedSimpArgs false
namespace Go.Proofs.YtnihidkbkhcfoaaGreatDoor.V
open Go
theorem vU:∀ a b:aa,Lib.compareBytes a b=p9 a b
 | [],[]=>rfl
 | [],_::_=>by simp [Lib.compareBytes,p9,eR,Op.bytesLess]
 | _::_,[]=>by simp [Lib.compareBytes,p9,eR,Op.bytesLess]
 | x::a,y::b=>by
  have dK:=vU a b
  simp only [Lib.compareBytes]
  unfold p9 at dK ⊢
  by_cases h:x<y
  ·simp [h,eR,Op.bytesLess]
  by_cases fh:y<x
  ·have b1:x≠y:=fun e=>by subst e;exact h fh
   simp [h,fh,eR,Op.bytesLess,b1]
  have ade:x=y:=UInt8.le_antisymm (UInt8.not_lt.1 fh) (UInt8.not_lt.1 h)
  subst ade
  simp [eR,Op.bytesLess]
  rw [dK]
section
variable {β:Type}
def er (m:List (aa×β)):Prop:=m.Pairwise fun a b=>eR a.1 b.1=true
def look:List (aa×β)→aa→Option β
 | [],_=>none
 | p::r,k=>if p.1=k then some p.2 else look r k
def fo (m:List (aa×β)) (k:aa):Nat:=(m.filter fun p=>eR p.1 k).length
def dC (m:List (aa×β)) (k:aa) (x:β):List (aa×β):=m.filter (fun p=>eR p.1 k) ++ [(k,x)]++m.filter (fun p=>eR k p.1)
variable {m gr:List (aa×β)} {k:aa} {x:β}
theorem yI:fo m k≤m.length:=List.length_filter_le _ _
theorem yB {i:Nat} (hi:i≤m.length) (h:∀ (j:Nat) (y:aa×β),j<i→m[j]? = some y→eR y.1 k=true) (fh:∀ (j:Nat) (y:aa×β),i≤j→m[j]? = some y→eR y.1 k=false):fo m k=i:=by
 rw [fo,lK (i:=i) h fh,List.length_take];omega
theorem rR {i j:Nat} {a b:aa×β} (h:er m) (ay:m[i]? = some a) (aS:m[j]? = some b) (xC:i<j):eR a.1 b.1=true:=by
 obtain⟨h1,rfl⟩:=List.getElem?_eq_some_iff.1 ay;obtain⟨aq,rfl⟩:=List.getElem?_eq_some_iff.1 aS;exact List.pairwise_iff_getElem.1 h i j h1 aq xC
theorem hQ (h:∀ (j:Nat) (y:aa×β),m[j]? = some y→y.1≠k):look m k=none:=by
 induction m with
 | nil=>rfl
 | cons p r dK=>
  rw [look,if_neg (h 0 p rfl)];exact dK fun j y aY=>h (j+1) y (by simpa using aY)
theorem BR {i:Nat} {y:aa×β} (h:∀ (j:Nat) (z:aa×β),j<i→m[j]? = some z→z.1≠k) (aY:m[i]? = some y) (hk:y.1=k):look m k=some y.2:=by
 induction m generalizing i with
 | nil=>simp at aY
 | cons p r dK=>
  cases i with
  | zero=>simp at aY;subst aY;rw [look,if_pos hk]
  | succ i=>
   rw [look,if_neg (h 0 p (by omega) rfl)];exact dK (i:=i) (fun j z d' dk=>h (j+1) z (by omega) (by simpa using dk)) (by simpa using aY)
theorem Cs (h:er m):(∀ j y,j<fo m k→m[j]? = some y→eR y.1 k=true)∧(∀ j y,fo m k≤j→m[j]? = some y→eR y.1 k=false):=by
 induction m with
 | nil=>simp
 | cons p r dK=>
  obtain⟨h1,aq⟩:=dK (List.Pairwise.of_cons h)
  by_cases ae:eR p.1 k=true
  ·have cp:fo (p::r) k=fo r k+1:=by simp [fo,ae]
   rw [cp];refine⟨fun j y d' aY=>?_,fun j y d' aY=>?_⟩
   ·cases j with
    | zero=>simp at aY;subst aY;exact ae
    | succ j=>exact h1 j y (by omega) (by simpa using aY)
   cases j with
   | zero=>omega
   | succ j=>exact aq j y (by omega) (by simpa using aY)
  have kp:∀ (j:Nat) (y:aa×β),(p::r)[j]? = some y→eR y.1 k=false:=fun j y aY=>by
   cases Ff:eR y.1 k with
   | false=>rfl
   | true=>
    cases j with
    | zero=>simp at aY;subst aY;exact absurd Ff ae
    | succ j=>exact absurd (gh (rR h (i:=0) rfl aY (by omega)) Ff) ae
  have cp:fo (p::r) k=0:=yB (by omega) (fun j y d'=>by omega) (fun j y _ aY=>kp j y aY);rw [cp];exact⟨fun j y d'=>by omega,fun j y _ aY=>kp j y aY⟩
theorem yc {y:aa×β} (h:er m) (aY:m[fo m k]? = some y) (cp:y.1=k):look m k=some y.2∧∀ x,dC m k x=m.set (fo m k) (k,x):=by
 obtain⟨h1,aq⟩:=Cs (k:=k) h;have bJ:=(List.getElem?_eq_some_iff.1 aY).1;refine⟨BR (fun j z d' dk e=>?_) aY cp,fun x=>?_⟩
 ·have:=h1 j z d' dk;rw [e,df] at this;cases this
 rw [dC,lK h1 aq,nZ (i:=fo m k+1),List.set_eq_take_append_cons_drop,if_pos bJ]
 ·simp
 ·intro j z d' dk;rcases Nat.lt_succ_iff_lt_or_eq.1 d' with d' | d'
  ·exact jk (h1 j z d' dk)
  subst d';rw [aY] at dk;injection dk with dk
  subst dk;rw [cp,df]
 intro j z d' dk;rw [← cp];exact rR h aY dk (by omega)
theorem Jn (h:er m) (ck:∀ y:aa×β,m[fo m k]? = some y→y.1≠k):look m k=none∧∀ x,dC m k x=m.take (fo m k) ++ [(k,x)]++m.drop (fo m k):=by
 obtain⟨h1,aq⟩:=Cs (k:=k) h;have aU:∀ j z,fo m k≤j→m[j]? = some z→eR k z.1=true:=fun j z d' dk=>by
  have bJ:=(List.getElem?_eq_some_iff.1 dk).1;obtain⟨y,aY⟩:∃ y,m[fo m k]? = some y:=⟨_,List.getElem?_eq_getElem (by omega)⟩;have Ff:eR k y.1=true:=by
   rcases ma k y.1 with fh | fh | fh
   ·exact fh
   ·exact absurd fh.symm (ck y aY)
   rw [aq _ y (Nat.le_refl _) aY] at fh;cases fh
  rcases Nat.lt_or_ge (fo m k) j with u5 | u5
  ·exact gh Ff (rR h aY dk u5)
  have:j=fo m k:=by omega
  subst this;rw [aY] at dk;injection dk with dk
  subst dk;exact Ff
 refine⟨hQ fun j z dk e=>?_,fun x=>?_⟩
 ·rcases Nat.lt_or_ge j (fo m k)with d' | d'
  ·have:=h1 j z d' dk;rw [e,df] at this;cases this
  have:=aU j z d' dk;rw [e,df] at this;cases this
 rw [dC,lK h1 aq,nZ (fun j z d' dk=>jk (h1 j z d' dk)) aU]
theorem afU {i:Nat} (h:er m) (hi:fo m k=i) {y:aa×β} (aY:m[i]? = some y):(look m k).isSome=decide (p9 y.1 k=0):=by
 subst hi
 by_cases cp:y.1=k
 ·rw [(yc h aY cp).1,decide_eq_true (zK.2 cp)];rfl
 rw [(Jn h fun z dk=>by rw [aY] at dk;injection dk with dk;subst dk;exact cp).1,decide_eq_false (fun e=>cp (zK.1 e))];rfl
theorem Fh (h:er m) (hi:m.length≤fo m k):(look m k).isSome=false:=by
 rw [(Jn h fun z dk=>by rw [List.getElem?_eq_none hi] at dk;cases dk).1];rfl
theorem sC (h:er m) (bf:(look m k).isSome=true):∃ y:aa×β,m[fo m k]? = some y∧y.1=k∧look m k=some y.2:=by
 rcases Nat.lt_or_ge (fo m k) m.length with bJ | eI
 ·obtain⟨y,aY⟩:∃ y,m[fo m k]? = some y:=⟨_,List.getElem?_eq_getElem bJ⟩;rw [afU h rfl aY] at bf;have cp:=zK.1 (of_decide_eq_true bf);exact⟨y,aY,cp,(yc h aY cp).1⟩
 rw [Fh h eI] at bf;cases bf
theorem NN (h:er m) (bf:(look m k).isSome=false):∀ y:aa×β,m[fo m k]? = some y→y.1≠k:=fun y aY cp=>by
 rw [(yc h aY cp).1] at bf;cases bf
theorem k8:∀ {m:List (aa×β)} {x:β},look m k=some x→(k,x)∈m
 | p::r,x,h=>by
  rw [look] at h
  by_cases cp:p.1=k
  ·rw [if_pos cp] at h
   injection h with h
   subst cp;subst h
   exact List.mem_cons_self ..
  rw [if_neg cp] at h
  exact List.mem_cons_of_mem _ (k8 h)
theorem oi:∀ {m:List (aa×β)} {p:aa×β},er m→p∈m→look m p.1=some p.2
 | q::r,p,h,cp=>by
  rcases List.mem_cons.1 cp with rfl | cp
  ·rw [look,if_pos rfl]
  have:=List.rel_of_pairwise_cons h cp
  rw [look,if_neg (fun e=>by rw [e,df] at this;cases this)]
  exact oi (List.Pairwise.of_cons h) cp
theorem tZ:∀ {m:List (aa×β)},look m k=none→∀ p∈m,p.1≠k
 | q::r,h,p,cp=>by
  rw [look] at h
  by_cases e5:q.1=k
  ·rw [if_pos e5] at h;cases h
  rw [if_neg e5] at h
  rcases List.mem_cons.1 cp with rfl | cp
  ·exact e5
  exact tZ h p cp
theorem Ct:∀ {m gr:List (aa×β)},er m→er gr→(∀ k,look m k=look gr k)→m=gr
 | [],[],_,_,_=>rfl
 | [],p::r,_,fh,e=>by have:=e p.1;rw [oi fh (List.mem_cons_self ..)] at this;cases this
 | p::r,[],h,_,e=>by have:=e p.1;rw [oi h (List.mem_cons_self ..)] at this;cases this
 | p::r,NO::MV,h,fh,e=>by
  have h1:=k8 ((e p.1).symm.trans (oi h (List.mem_cons_self ..)))
  have aq:=k8 ((e NO.1).trans (oi fh (List.mem_cons_self ..)))
  have hk:p.1=NO.1:=by
   rcases List.mem_cons.1 h1 with aU | aU
   ·rw [← aU]
   rcases List.mem_cons.1 aq with bM | bM
   ·rw [← bM]
   have a:=List.rel_of_pairwise_cons fh aU
   have b:=List.rel_of_pairwise_cons h bM
   have:=gh a b
   rw [df] at this
   cases this
  have tU:p=NO:=by
   have B':=e p.1
   rw [look,if_pos rfl,look,if_pos hk.symm] at B'
   injection B' with B'
   exact Prod.ext hk B'
  subst tU
  congr 1
  refine Ct (List.Pairwise.of_cons h) (List.Pairwise.of_cons fh) fun k=>?_
  by_cases Qz:p.1=k
  ·subst Qz
   have rI:∀ {r:List (aa×β)},er (p::r)→look r p.1=none:=fun bq=>hQ fun j y aY e=>by
    have:=List.rel_of_pairwise_cons bq (List.mem_of_getElem? aY)
    rw [e,df] at this
    cases this
   rw [rI h,rI fh]
  have B':=e k
  rwa [look,if_neg Qz,look,if_neg Qz] at B'
theorem u6 {q:aa×β→Bool} (h:er m):er (m.filter q):=List.Pairwise.filter q h
theorem qk (h:er m):er (dC m k x):=by
 unfold dC er;rw [List.append_assoc,List.pairwise_append];refine⟨u6 h,?_,?_⟩
 ·rw [List.pairwise_append];refine⟨by simp,u6 h,?_⟩;intro a ay b aS;simp at ay;subst ay;simpa using (List.mem_filter.1 aS).2
 intro a ay b aS;have h1:eR a.1 k=true:=by simpa using (List.mem_filter.1 ay).2
 rcases List.mem_append.1 aS with aS | aS
 ·simp at aS;subst aS;exact h1
 exact gh h1 (by simpa using (List.mem_filter.1 aS).2)
theorem n0:∀ {a b:List (aa×β)},look (a++b) k=(look a k).or (look b k)
 | [],b=>by simp [look]
 | p::r,b=>by
  simp only [List.cons_append,look]
  by_cases cp:p.1=k
  ·simp [cp]
  simp [cp,n0 (a:=r) (b:=b)]
theorem lL {q:aa×β→Bool} {b:Bool} (e5:∀ p∈m,p.1=k→q p=b):look (m.filter q) k=if b then look m k else none:=by
 induction m with
 | nil=>simp [look]
 | cons p r dK=>
  have dK:=dK fun NO ua=>e5 NO (List.mem_cons_of_mem _ ua);have cp:=e5 p (List.mem_cons_self ..)
  by_cases hk:p.1=k
  ·have:=cp hk;cases b
   ·rw [List.filter_cons_of_neg (by simp [this]),dK];rfl
   rw [List.filter_cons_of_pos this,look,if_pos hk,if_pos rfl,look,if_pos hk]
  by_cases WK:q p=true
  ·rw [List.filter_cons_of_pos WK,look,if_neg hk,dK,look,if_neg hk]
  rw [List.filter_cons_of_neg WK,dK,look,if_neg hk]
theorem Cg {iC:aa}:look (dC m k x) iC=if iC=k then some x else look m iC:=by
 unfold dC;rw [n0,n0]
 by_cases h:iC=k
 ·subst h;rw [lL (b:=false) (fun p _ e=>by rw [e,df])];simp [look]
 rw [if_neg h];have h1:look [(k,x)] iC=none:=by simp [look,Ne.symm h]
 rw [h1,Option.or_none];rcases ma iC k with aq | aq | aq
 ·rw [lL (b:=true) (fun p _ e=>by rw [e];exact aq),lL (b:=false) (fun p _ e=>by rw [e];exact jk aq)];simp
 ·exact absurd aq h
 rw [lL (b:=false) (fun p _ e=>by rw [e];exact jk aq),lL (b:=true) (fun p _ e=>by rw [e];exact aq)];simp
end
section
variable {A:List Nat} {w w':World}
theorem Addr.BS (a:Addr) (i j:Nat):(a.add i).add j=a.add (i+j):=by
 unfold Addr.add
 by_cases h:i=0 <;> by_cases fh:j=0 <;> simp [h,fh,Nat.add_assoc]
theorem ri.tv {a:Addr} {v:Value} {vs:List Value} (h:ri w a (v::vs)):ri w (a.add 1) vs:=fun j u hu=>by
 have:=h (j+1) u (by simpa using hu)
 rwa [Addr.BS,Nat.add_comm 1 j]
theorem JV.bb {v:JV} {us:List Value} (asp:ao A w v.D us):∃ al cl am cm,us = [.int .i64 v.kind,.bool v.is,.int .i64 v.num,S v.str,.slice al v.list.length cl,.slice am v.map.length cm]∧
  ba A w (.ie 6 (v.list.map JV.D)) (.slice al v.list.length cl)∧ba A w (.ie 7 (v.map.map JV.hP)) (.slice am v.map.length cm):=by
 rw [JV.Gz] at asp
 obtain⟨_,_,rfl,h1,asp⟩:=asp
 obtain⟨_,_,rfl,aq,asp⟩:=asp
 obtain⟨_,_,rfl,aU,asp⟩:=asp
 obtain⟨_,_,rfl,bM,asp⟩:=asp
 obtain⟨_,_,rfl,cL,asp⟩:=asp
 obtain⟨_,_,rfl,eW,asp⟩:=asp
 obtain rfl:=asp
 obtain rfl:=h1.l4
 obtain rfl:=aq.l4
 obtain rfl:=aU.l4
 obtain rfl:=bM.l4
 obtain⟨al,cl,rfl,_⟩:=cL.uu
 obtain⟨am,cm,rfl,_⟩:=eW.uu
 rw [List.length_map] at cL eW ⊢
 rw [List.length_map]
 exact⟨al,cl,am,cm,rfl,cL,eW⟩
theorem JV.cv {v:JV} {al am:Option Addr} {cl cm:Nat} (kW:ba A w (.ie 6 (v.list.map JV.D)) (.slice al v.list.length cl)) (jJ:ba A w (.ie 7 (v.map.map JV.hP)) (.slice am v.map.length cm)) :
  ao A w v.D [.int .i64 v.kind,.bool v.is,.int .i64 v.num,S v.str,.slice al v.list.length cl,.slice am v.map.length cm]:=by
 rw [JV.Gz]
 exact ao.gL (ba.cO rfl) (ao.gL (ba.cO rfl) (ao.gL (ba.cO rfl) (ao.gL (ba.cO rfl) (ao.gL kW (ao.gL jJ ao.mO)))))
theorem JV.pR {l:List JV} {ad:Option Addr} {n c:Nat} (asp:ba A w (.ie 6 (l.map JV.D)) (.slice ad n c)):l.length=n∧n≤c∧c≤9223372036854775807:=by
 obtain⟨rT,c',h1,aq,aU⟩:=asp.uu;injection h1 with bM cL eW
 rw [List.length_map] at cL aq;omega
theorem JV.hq {m:List (aa×JV)} {ad:Option Addr} {n c:Nat} (asp:ba A w (.ie 7 (m.map JV.hP)) (.slice ad n c)):m.length=n∧n≤c∧c≤9223372036854775807:=by
 obtain⟨rT,c',h1,aq,aU⟩:=asp.uu;injection h1 with bM cL eW
 rw [List.length_map] at cL aq;omega
theorem JV.yv {l:List JV} {x:JV} {ad:Option Addr} {n c i:Nat} (asp:ba A w (.ie 6 (l.map JV.D)) (.slice ad n c)) (h:l[i]? = some x):∃ a us,ad=some a∧ao A w x.D us∧ri w (a.add (i*6)) us:=by
 obtain⟨a,us,h1,aq,_,aU,_⟩:=ba.at_ (i:=i) (r:=x.D) asp (by simp [h]);exact⟨a,us,h1,aq,aU⟩
theorem JV.kl {m:List (aa×JV)} {p:aa×JV} {ad:Option Addr} {n c i:Nat} (asp:ba A w (.ie 7 (m.map JV.hP)) (.slice ad n c)) (h:m[i]? = some p):∃ a us,ad=some a∧ao A w p.2.D us∧ri w (a.add (i*7)) (S p.1::us):=by
 obtain⟨a,us,h1,aq,_,aU,_⟩:=ba.at_ (i:=i) (r:=JV.hP p) asp (by simp [h]);obtain⟨u,gb,rfl,bM,cL⟩:=aq;obtain rfl:=bM.l4;exact⟨a,gb,h1,cL,aU⟩
def JV.gQ:JV:=.mk 0 false 0 [] [] []
theorem JV.gR:ao A w JV.gQ.D [.int .i64 0,.bool false,.int .i64 0,S [],.slice none 0 0,.slice none 0 0]:=by
 have:=JV.cv (A:=A) (w:=w) (v:=JV.gQ) (al:=none) (am:=none) (cl:=0) (cm:=0) ba.en ba.en;exact this
theorem JV.cells_one {v:JV} {us:List Value} (asp:ao A w v.D us):us.length=6∧∀ u∈us,u.oneCell'=true:=⟨by rw [asp.length,JV.r0],asp.one⟩
theorem JV.qX (m:List (aa×JV)):∀ r∈m.map JV.hP,r.length=7:=by
 intro r bq;obtain⟨p,_,rfl⟩:=List.mem_map.1 bq;exact JV.x4 p
theorem JV.dw {p:aa×JV} {us:List Value} (asp:ao A w p.2.D us):ao A w (JV.hP p) (S p.1::us):=ao.gL (ba.cO rfl) asp
theorem sb {sz:Nat}:∀ {rows:List (List D)},(∀ r∈rows,r.length=sz)→rows.flatten.length=rows.length*sz
 | [],_=>by simp
 | r::rs,h=>by
  rw [List.flatten_cons,List.length_append,h r (by simp),sb fun MV oK=>h MV (by simp [oK]),List.length_cons,Nat.add_mul]
  omega
theorem ao.sc {sz i:Nat} {rows:List (List D)} {vs:List Value} (cg:∀ r∈rows,r.length=sz) (hi:i≤rows.length) (h:ao A w rows.flatten vs) :
  ao A w (rows.take i).flatten (vs.take (i*sz))∧ao A w (rows.drop i).flatten (vs.drop (i*sz)):=by
 have e:rows.flatten=(rows.take i).flatten++(rows.drop i).flatten:=by rw [← List.flatten_append,List.take_append_drop]
 rw [e] at h
 have:=h.cut
 rwa [sb fun r bq=>cg r (List.mem_of_mem_take bq),List.length_take,Nat.min_eq_left hi] at this
theorem JV.MA {m:List (aa×JV)} {p:aa×JV} {vs us:List Value} {i:Nat} (h:ao A w (m.map JV.hP).flatten vs) (hi:i≤m.length) (cp:ao A w (JV.hP p) us) :
  ao A w ((m.take i ++ [p]++m.drop i).map JV.hP).flatten (vs.take (i*7)++us++vs.drop (i*7)):=by
 obtain⟨h1,aq⟩:=ao.sc (i:=i) (JV.qX m) (by simpa using hi) h
 rw [List.map_append,List.map_append,List.flatten_append,List.flatten_append,List.map_take,List.map_drop]
 refine(h1.append ?_).append aq
 simpa using cp
theorem JV.NP {m:List (aa×JV)} {p:aa×JV} {vs us:List Value} {i:Nat} (h:ao A w (m.map JV.hP).flatten vs) (hi:i<m.length) (cp:ao A w (JV.hP p) us) :
  ao A w ((m.set i p).map JV.hP).flatten (vs.take (i*7)++us++vs.drop ((i+1)*7)):=by
 obtain⟨h1,_⟩:=ao.sc (i:=i) (JV.qX m) (by simpa using Nat.le_of_lt hi) h
 obtain⟨_,aq⟩:=ao.sc (i:=i+1) (JV.qX m) (by rw [List.length_map];omega) h
 rw [List.set_eq_take_append_cons_drop,if_pos hi,List.map_append,List.map_cons,List.flatten_append,List.flatten_cons,List.map_take,List.map_drop,List.append_assoc]
 exact h1.append (cp.append aq)
theorem JV.oD {m:List (aa×JV)} {p:aa×JV} {vs us:List Value} (h:ao A w (m.map JV.hP).flatten vs) (cp:ao A w (JV.hP p) us):ao A w ((m ++ [p]).map JV.hP).flatten (vs++us):=by
 rw [List.map_append,List.flatten_append];refine h.append ?_;simpa using cp
theorem Own.td {e:Nat} {v:Value} {m:List (aa×JV)} {n:Nat} {vs:List Value} (O:Own w e 7 v n vs) (h:ao A w (m.map JV.hP).flatten vs) (ck:m.length=n) (dF:∀ x∈a1 v,x∉A):ba A w (.ie 7 (m.map JV.hP)) v:=
 O.rep h (JV.qX m) (by simpa using ck) dF
variable {P:Program} {ops:Array Oper} {Q:Exit→Act→World→Prop} {n:Nat} {ds:List Deferred} {l:List (Nat×Value)}
variable {rest:List Oper} {ty:TypeId} {pos:String} {af:Array Edge} {x y:Operand}
theorem My {e sz N c p k:Nat} {ad:Addr} {vs us:List Value} {T:TypeId} (cf:rO P T k=true) (O:Own w e sz (.slice (some ad) N c) N vs) (ae:a6 l x=some (.pointer (some (ad.add p)))) (aY:a6 l y=some (.agg us.toArray)) (cg:us.length=k) (wF:∀ u∈us,u.oneCell'=true) (hi:p+k≤N*sz)
  (h:∀ w',Own w' e sz (.slice (some ad) N c) N (vs.take p++us++vs.drop (p+k))→Mod [ad.block] w w'→w'.heap.size=w.heap.size→ga P ops Q rest n ds l w') :
  ga P ops Q (⟨none,.store T x y,ty,pos,af,none⟩::rest) n ds l w:=by
 rcases O.2 with⟨b3,_⟩ | ⟨g,o,cap,cs,bK,eh,fH,gC,r7,pW⟩
 ·cases b3
 injection bK with bk b2 kV
 injection bk with bk
 subst bk;subst kV
 have Cu:N*sz≤c*sz:=Nat.mul_le_mul_right _ fH
 have nr:=O.1
 rw [Addr.add_lit] at ae
 refine bo (vs:=us) cf eh ae aY cg wF (by omega) fun w' cp=>?_
 refine h w' ⟨?_,.inr ⟨g,o,c,_,rfl,cp.az,fH,gC,by simp [splice];omega,?_⟩⟩ cp.mod cp.size
 ·simp only [List.length_append,List.length_take,List.length_drop,cg,nr]
  omega
 subst pW
 apply List.ext_getElem?
 intro j
 simp only [splice,cg]
 simp only [List.getElem?_take,List.getElem?_drop,List.getElem?_append,List.length_append,List.length_take,List.length_drop,cg]
 repeat' split
 all_goals first
  | omega
  | rfl
  | (congr 1;omega)
  | skip
end
abbrev ka (z:Int):Int:=IntKind.i64.wrap z
namespace JV
mutual
def jq:JV→Int→Int→Int
 | .mk _ _ _ s l m,left,deep=>if deep=0 then -1 else jw m (jv l (ka (ka (left-1)-s.length)) (ka (deep-1))) (ka (deep-1))
def jv:List JV→Int→Int→Int
 | [],left,_=>left
 | v::r,left,d=>if left<0 then left else jv r (v.jq left d) d
def jw:List (List UInt8×JV)→Int→Int→Int
 | [],left,_=>left
 | p::r,left,d=>if left<0 then left else jw r (p.2.jq (ka (left-p.1.length)) d) d
end
theorem BP (v:JV) (left deep:Int):v.jq left deep=if deep=0 then -1 else jw v.map (jv v.list (ka (ka (left-1)-v.str.length)) (ka (deep-1))) (ka (deep-1)):=by
 cases v;simp only [jq,map,list,str]
theorem Fa {l:List JV} {z d:Int} (h:z<0):jv l z d=z:=by
 cases l <;> simp [jv,h]
theorem w6 {l:List (List UInt8×JV)} {z d:Int} (h:z<0):jw l z d=z:=by
 cases l <;> simp [jw,h]
theorem Il {l:List JV} {k:Nat} {x:JV} {z d:Int} (ae:l[k]? = some x) (h:¬ z<0):jv (l.drop k) z d=jv (l.drop (k+1)) (x.jq z d) d:=by
 obtain⟨hk,rfl⟩:=List.getElem?_eq_some_iff.1 ae;rw [List.drop_eq_getElem_cons hk,jv,if_neg h]
theorem yx {l:List (List UInt8×JV)} {k:Nat} {x:List UInt8×JV} {z d:Int} (ae:l[k]? = some x) (h:¬ z<0):jw (l.drop k) z d=jw (l.drop (k+1)) (x.2.jq (ka (z-x.1.length)) d) d:=by
 obtain⟨hk,rfl⟩:=List.getElem?_eq_some_iff.1 ae;rw [List.drop_eq_getElem_cons hk,jw,if_neg h]
theorem Fb {l:List JV} {k:Nat} {z d:Int} (h:l.length≤k):jv (l.drop k) z d=z:=by
 rw [List.drop_eq_nil_of_le h,jv]
theorem w7 {l:List (List UInt8×JV)} {k:Nat} {z d:Int} (h:l.length≤k):jw (l.drop k) z d=z:=by
 rw [List.drop_eq_nil_of_le h,jw]
mutual
def g':JV→Prop
 | .mk _ _ _ _ l m=>er m∧zL l∧zM m
def zL:List JV→Prop
 | []=>True
 | v::r=>v.g'∧zL r
def zM:List (List UInt8×JV)→Prop
 | []=>True
 | p::r=>p.2.g'∧zM r
end
theorem zN:∀ {l:List JV},zL l↔∀ v∈l,v.g'
 | []=>by simp [zL]
 | v::r=>by simp [zL,zN (l:=r)]
theorem zO:∀ {l:List (List UInt8×JV)},zM l↔∀ p∈l,p.2.g'
 | []=>by simp [zM]
 | v::r=>by simp [zM,zO (l:=r)]
theorem nb (v:JV):v.g'↔er v.map∧(∀ x∈v.list,x.g')∧∀ p∈v.map,p.2.g':=by
 cases v;simp only [g',map,list,zN,zO]
open Classical in
noncomputable def rises (v:JV):Bool:=decide v.g'
open Classical in
noncomputable def pS (a b:JV):Bool:=decide (a=b)
theorem p8 {a b:JV}:pS a b=true↔a=b:=by simp [pS]
theorem sD (a:JV):pS a a=true:=by simp [pS]
theorem nN {a b:JV} (h:a≠b):pS a b=false:=by simp [pS,h]
theorem KP {a b:JV} (h1:a.kind=b.kind) (aq:a.is=b.is) (aU:a.num=b.num) (bM:a.str=b.str) (cL:a.list=b.list) (eW:a.map=b.map):a=b:=by
 rw [eta a,eta b,h1,aq,aU,bM,cL,eW]
theorem yA {α:Type} {a b:List α} (cg:a.length=b.length) (h:∀ (i:Nat) (x y:α),i<a.length→a[i]? = some x→b[i]? = some y→x=y):a=b:=by
 apply List.ext_getElem cg;intro i h1 aq;exact h i _ _ h1 (List.getElem?_eq_getElem h1) (List.getElem?_eq_getElem aq)
end JV
theorem Is {n i:Nat} {vs news fA:List Value} (bK:vs.length=n*7) (ck:news.length=(n+1-i)*7) (bf:fA.length=7) (hi:i≤n) :
  ((vs.take (i*7)++news).take (i*7)++fA++(vs.take (i*7)++news).drop ((i+1)*7)).take ((i+1)*7)++(vs.drop (i*7)).take ((n-i)*7)++((vs.take (i*7)++news).take (i*7)++fA++(vs.take (i*7)++news).drop ((i+1)*7)).drop ((i+1+(n-i))*7)=vs.take (i*7)++fA++vs.drop (i*7):=by
 have h1:(vs.take (i*7)).length=i*7:=by rw [List.length_take];omega
 have aq:(vs.take (i*7)++news).take (i*7)=vs.take (i*7):=List.take_left' h1
 have aU:(vs.take (i*7)++fA).length=(i+1)*7:=by rw [List.length_append,h1,bf];omega
 rw [aq]
 have bM:((vs.take (i*7)++fA)++(vs.take (i*7)++news).drop ((i+1)*7)).take ((i+1)*7)=vs.take (i*7)++fA:=by rw [← aU];exact List.take_left
 have cL:((vs.take (i*7)++fA)++(vs.take (i*7)++news).drop ((i+1)*7)).drop ((i+1+(n-i))*7) = []:=List.drop_eq_nil_of_le (by rw [List.length_append,aU,List.length_drop,List.length_append,h1,ck];omega)
 have eW:(vs.drop (i*7)).take ((n-i)*7)=vs.drop (i*7):=List.take_of_length_le (by rw [List.length_drop];omega)
 rw [bM,cL,eW,List.append_nil]
theorem It {n i:Nat} {vs jE fA:List Value} (bK:vs.length=n*7) (qj:jE.length=(n+1)*7) (cf:jE.take (n*7)=vs) (bf:fA.length=7) (hi:i≤n) :
  (jE.take ((i+1)*7)++(jE.drop (i*7)).take ((n-i)*7)++jE.drop ((i+1+(n-i))*7)).take (i*7)++fA++(jE.take ((i+1)*7)++(jE.drop (i*7)).take ((n-i)*7)++jE.drop ((i+1+(n-i))*7)).drop ((i+1)*7)=vs.take (i*7)++fA++vs.drop (i*7):=by
 have h1:(jE.take ((i+1)*7)).length=(i+1)*7:=by rw [List.length_take];omega
 have aq:jE.drop ((i+1+(n-i))*7) = []:=List.drop_eq_nil_of_le (by omega)
 rw [aq,List.append_nil]
 congr 1
 ·congr 1
  rw [List.take_append_of_le_length (by omega),List.take_take,← cf,List.take_take]
  congr 1
  omega
 rw [List.drop_left' h1,← cf,List.drop_take]
 congr 1
 omega
theorem JV.Db {A:List Nat} {w:World} {m:List (aa×JV)} {n c:Nat} (asp:ba A w (.ie 7 (m.map JV.hP)) (.slice none n c)):m = []:=by
 cases m with
 | nil=>rfl
 | cons p r=>
  obtain⟨a,us,h,_⟩:=JV.kl (i:=0) (p:=p) asp rfl;cases h
namespace JV
def get (v:JV) (k:aa):Option JV:=if v.kind=5 then look v.map k else none
def eT (v:JV):List (aa×JV):=if v.kind=5 then v.map else []
def obj (m:List (aa×JV)):JV:=.mk 5 false 0 [] [] m
theorem sG {A:List Nat} {w:World} {m:List (aa×JV)} {am:Option Addr} {cm:Nat} (asp:ba A w (.ie 7 (m.map hP)) (.slice am m.length cm)):ao A w (obj m).D [.int .i64 5,.bool false,.int .i64 0,S [],.slice none 0 0,.slice am m.length cm]:=
 cv (v:=obj m) (al:=none) (cl:=0) ba.en asp
end JV
theorem Mx {m:List (aa×JV)} {k:aa} {x:JV} (h:er m):(look m k).isSome=true→dC m k x=m.set (fo m k) (k,x):=fun bf=>by
 obtain⟨y,aY,hk,_⟩:=sC h bf;exact(yc h aY hk).2 x
theorem Mz {m:List (aa×JV)} {k:aa} {x:JV} (h:er m):(look m k).isSome=false→dC m k x=m.take (fo m k) ++ [(k,x)]++m.drop (fo m k):=fun bf=>(Jn h (NN h bf)).2 x
def hr:List UInt8→Nat→Option Nat
 | [],c=>some c
 | b::r,c=>if b.toNat<128∨192≤b.toNat then none else hr r (c*64+b.toNat % 64)
def ej (c:Nat):Nat×Nat×Nat:=
 if 192≤c∧c<224 then (2,128,c % 32)else if 224≤c∧c<240 then (3,2048,c % 16)else if 240≤c∧c<248 then (4,65536,c % 8)else (0,0,c)
def aJ (s:aa):Nat×Nat:=match s with
 | []=>(0,0)
 | b::r=>if b.toNat<128 then (b.toNat,1)else
  if (ej b.toNat).1=0∨s.length<(ej b.toNat).1 then (0,0)else
   match hr (r.take ((ej b.toNat).1-1)) (ej b.toNat).2.2 with
   | none=>(0,0)
   | some c=>if c<(ej b.toNat).2.1∨1114111<c∨(55296≤c∧c≤57343)then (0,0)else (c,(ej b.toNat).1)
theorem kd (s:aa):(aJ s).2≤s.length:=by
 unfold aJ
 split
 ·simp
 rename_i b r
 split
 ·simp
 split
 ·simp
 rename_i h
 split
 ·simp
 split
 ·simp
 simp only;omega
def cn (s:aa):Bool:=
 if h:s = [] then true else if b3:(aJ s).2=0 then false else cn (s.drop (aJ s).2)
termination_by s.length
decreasing_by
 have:=kd s;rw [List.length_drop];have:s.length≠0:=fun e=>h (List.eq_nil_of_length_eq_zero e);omega
theorem mS:cn []=true:=by rw [cn];simp
theorem tC {s:aa} (h:s≠[]) (b3:(aJ s).2=0):cn s=false:=by rw [cn];simp [h,b3]
theorem k1 {s:aa} (h:s≠[]) (b3:(aJ s).2≠0):cn s=cn (s.drop (aJ s).2):=by
 rw [cn];simp [h,b3]
abbrev iI:aa:=[48,49,50,51,52,53,54,55,56,57,97,98,99,100,101,102]
def iL (c:UInt8):aa:=
 if c=34∨c=92 then [92,c] else if c=8 then [92,98] else if c=9 then [92,116] else if c=10 then [92,110] else if c=12 then [92,102] else if c=13 then [92,114]
 else if c.toNat<32 then [92,117,48,48,iI.getD (c.toNat / 16) 0,iI.getD (c.toNat % 16) 0] else [c]
def db (s:aa):aa:=(s.map iL).flatten
def cw (s:aa):aa:=34::db s ++ [34]
theorem MU (c:UInt8):(iL c).length≤6:=by
 unfold iL
 repeat' split
 all_goals simp
theorem l7:∀ s:aa,(db s).length≤6*s.length
 | []=>by simp [db]
 | c::s=>by
  have h1:=l7 s
  have aq:=MU c
  simp only [db,List.map_cons,List.flatten_cons,List.length_append,List.length_cons] at h1 ⊢
  omega
theorem ev {s:aa} {k:Nat} {c:UInt8} (h:s[k]? = some c):db (s.take (k+1))=db (s.take k)++iL c:=by
 have bJ:=(List.getElem?_eq_some_iff.1 h).1;rw [List.take_succ_eq_append_getElem bJ,(List.getElem?_eq_some_iff.1 h).2];simp [db]
def cu (b:aa):Except Int aa:=if 65536<b.length then .error 3 else .ok b
def fb (b s:aa):Except Int aa:=if 65536<s.length then .error 3 else if cn s then cu (b++cw s)else .error 1
theorem fr {b e8:aa} (h:cu b = .ok e8):e8=b∧b.length≤65536:=by
 unfold cu at h
 split at h
 ·cases h
 injection h with h;exact⟨h.symm,by omega⟩
namespace JV
def bare (v:JV):Bool:=decide (0≤v.kind∧v.kind≤5)&&(decide (v.kind=1) || !v.is)&&(decide (v.kind=2)||decide (v.num=0))&&(decide (v.kind=3)||decide (v.str = []))&&(decide (v.kind=4)||decide (v.list.length=0))&&(decide (v.kind=5)||decide (v.map.length=0))&&(!decide (v.kind=2)||decide (-9007199254740991≤v.num∧v.num≤9007199254740991))
abbrev jV:aa:=[110,117,108,108]
abbrev iT:aa:=[116,114,117,101]
abbrev gF:aa:=[102,97,108,115,101]
mutual
def wr:JV→Nat→aa→Except Int aa
 | .mk k is n s l m,deep,b=>
  if bare (.mk k is n s l m)=false then .error 1 else
  if k=0 then cu (b++jV)else
  if k=1 then cu (b++if is then iT else gF)else
  if k=2 then cu (b++Lib.itoa n)else
  if k=3 then fb b s else
  if deep=32 then .error 5 else
  if k=4 then (cu (b ++ [91])).bind fun b=>(hL l deep true b).bind fun b=>cu (b ++ [93])
  else (cu (b ++ [123])).bind fun b=>(fk m deep none b).bind fun b=>cu (b ++ [125])
def hL:List JV→Nat→Bool→aa→Except Int aa
 | [],_,_,b=>.ok b
 | v::r,deep,fst,b=>(if fst then Except.ok b else cu (b ++ [44])).bind fun b=>(wr v (deep+1) b).bind fun b=>hL r deep false b
def fk:List (List UInt8×JV)→Nat→Option aa→aa→Except Int aa
 | [],_,_,b=>.ok b
 | p::r,deep,prev,b=>(match prev with
   | none=>Except.ok b
   | some q=>(cu (b ++ [44])).bind fun b=>if eR q p.1 then .ok b else .error 1).bind fun b=>
  (fb b p.1).bind fun b=>(cu (b ++ [58])).bind fun b=>(wr p.2 (deep+1) b).bind fun b=>fk r deep (some p.1) b
end
theorem dM (v:JV) (deep:Nat) (b:aa):wr v deep b = 
  if bare v=false then .error 1 else
  if v.kind=0 then cu (b++jV)else
  if v.kind=1 then cu (b++if v.is then iT else gF)else
  if v.kind=2 then cu (b++Lib.itoa v.num)else
  if v.kind=3 then fb b v.str else
  if deep=32 then .error 5 else
  if v.kind=4 then (cu (b ++ [91])).bind fun b=>(hL v.list deep true b).bind fun b=>cu (b ++ [93])
  else (cu (b ++ [123])).bind fun b=>(fk v.map deep none b).bind fun b=>cu (b ++ [125]):=by
 cases v
 rw [wr]
 rfl
end JV
section
variable {P:Program} {l:List (Nat×Value)} {w:World} {ty:TypeId} {pos:String} {af:Array Edge} {dd:Option Nat} {gg:Option (Nat×Bool)} {x y lo:Operand} {t:TypeId}
theorem cG {u:List UInt8} {n:Nat} (cf:P.underlying t=some .string) (ae:a6 l x=some (S u)) (cg:a6 l lo=some (.int .i64 (n:Int))) (aS:n≤u.length):bG P l ⟨dd,.slice t x (some lo) none none,ty,pos,af,gg⟩ w (S (u.drop n)) w:=
 (y' (pl:=some (.i64,(n:Int))) (ph:=none) cf ae (by simp [tK,cg]) rfl (by simp only [hU,iB];omega)).to (by
  simp only [hU,iB,Int.toNat_natCast]
  rw [List.take_of_length_le (by simp)])
end
theorem BT {l:List UInt8} {j d:Nat} {b:UInt8} (h:l[j]? = some b) (aS:b.toNat<128∨192≤b.toNat):hr (l.drop j) d=none:=by
 obtain⟨d',rfl⟩:=List.getElem?_eq_some_iff.1 h;rw [List.drop_eq_getElem_cons d',hr,if_pos aS]
theorem MB {l:List UInt8} {j d:Nat} {b:UInt8} (h:l[j]? = some b) (aS:¬ (b.toNat<128∨192≤b.toNat)):hr (l.drop j) d=hr (l.drop (j+1)) (d*64+b.toNat % 64):=by
 obtain⟨d',rfl⟩:=List.getElem?_eq_some_iff.1 h;rw [List.drop_eq_getElem_cons d',hr,if_neg aS]
theorem fW {b0:UInt8} {r:aa} (h:b0.toNat<128):aJ (b0::r)=(b0.toNat,1):=by simp [aJ,h]
theorem fX {b0:UInt8} {r:aa} {n l c:Nat} (eI:¬ b0.toNat<128) (hH:ej b0.toNat=(n,l,c)) (h:n=0∨(b0::r).length<n):aJ (b0::r)=(0,0):=by
 unfold aJ;simp only [if_neg eI,hH];rw [if_pos h]
theorem oc {b0:UInt8} {r:aa} {n l c:Nat} (eI:¬ b0.toNat<128) (hH:ej b0.toNat=(n,l,c)) (h:¬ (n=0∨(b0::r).length<n)) :
  aJ (b0::r)=match hr (r.take (n-1)) c with | none=>(0,0) | some c=>if c<l∨1114111<c∨(55296≤c∧c≤57343)then (0,0)else (c,n):=by
 show(if b0.toNat<128 then (b0.toNat,1)else if (ej b0.toNat).1=0∨(b0::r).length<(ej b0.toNat).1 then (0,0)else _)=_
 rw [if_neg eI,hH,if_neg h] <;> rfl
theorem iH {b0:UInt8} {r:aa} {n l c:Nat} (eI:¬ b0.toNat<128) (hH:ej b0.toNat=(n,l,c)) (h:¬ (n=0∨(b0::r).length<n)) (bj:hr (r.take (n-1)) c=none):aJ (b0::r)=(0,0):=by rw [oc eI hH h,bj]
theorem l6 {b0:UInt8} {r:aa} {n l c d:Nat} (eI:¬ b0.toNat<128) (hH:ej b0.toNat=(n,l,c)) (h:¬ (n=0∨(b0::r).length<n)) (bj:hr (r.take (n-1)) c=some d) (aS:d<l∨1114111<d∨(55296≤d∧d≤57343)):aJ (b0::r)=(0,0):=by
 rw [oc eI hH h,bj];exact if_pos aS
theorem lh {b0:UInt8} {r:aa} {n l c d:Nat} (eI:¬ b0.toNat<128) (hH:ej b0.toNat=(n,l,c)) (h:¬ (n=0∨(b0::r).length<n)) (bj:hr (r.take (n-1)) c=some d) (aS:¬ (d<l∨1114111<d∨(55296≤d∧d≤57343))):aJ (b0::r)=(d,n):=by
 rw [oc eI hH h,bj];exact if_neg aS
def gU (l:aa) (k:Nat):Nat:=(l.getD k 0).toNat
def gx (l:aa) (k:Nat):Bool:=decide (k<l.length)&&gU l k / 64 == 2
def ng (l:aa):Nat×Nat:=
 if gU l 0<0x80 then (gU l 0,1)
 else if gU l 0 / 32 == 6&&gx l 1 then
  if (gU l 0 % 32)*64+gU l 1 % 64≥0x80 then ((gU l 0 % 32)*64+gU l 1 % 64,2)else (65533,1)
 else if gU l 0 / 16 == 14&&gx l 1&&gx l 2 then
  if (gU l 0 % 16)*4096+(gU l 1 % 64)*64+gU l 2 % 64≥0x800&&Utf8.valid ((gU l 0 % 16)*4096+(gU l 1 % 64)*64+gU l 2 % 64:Nat)then ((gU l 0 % 16)*4096+(gU l 1 % 64)*64+gU l 2 % 64,3)else (65533,1)
 else if gU l 0 / 8 == 30&&gx l 1&&gx l 2&&gx l 3 then
  if (gU l 0 % 8)*262144+(gU l 1 % 64)*4096+(gU l 2 % 64)*64+gU l 3 % 64≥0x10000&&Utf8.valid ((gU l 0 % 8)*262144+(gU l 1 % 64)*4096+(gU l 2 % 64)*64+gU l 3 % 64:Nat)then ((gU l 0 % 8)*262144+(gU l 1 % 64)*4096+(gU l 2 % 64)*64+gU l 3 % 64,4)else (65533,1)
 else (65533,1)
theorem get_at (s:aa) (i k:Nat):((⟨⟨s⟩⟩:ByteArray).get! (i+k)).toNat=gU (s.drop i) k:=by
 show((⟨s⟩:Array UInt8)[i+k]!).toNat=_;unfold gU
 congr 1
 rw [List.getD_eq_getElem?_getD,List.getElem?_drop]
 by_cases h:i+k<s.length
 ·rw [getElem!_pos (⟨s⟩:Array UInt8) (i+k) h];simp [h]
 rw [getElem!_neg (⟨s⟩:Array UInt8) (i+k) h,List.getElem?_eq_none (by omega)];rfl
theorem TQ (s:aa) (i k:Nat):(decide (i+k<(⟨⟨s⟩⟩:ByteArray).size)&&gU (s.drop i) k / 64 == 2)=gx (s.drop i) k:=by
 unfold gx;have bf:(⟨⟨s⟩⟩:ByteArray).size=s.length:=rfl;rw [bf,List.length_drop]
 congr 1
 by_cases h:i+k<s.length
 ·rw [decide_eq_true h,decide_eq_true (by omega)]
 rw [decide_eq_false h,decide_eq_false (by omega)]
theorem o2 (s:aa) (i:Nat):Utf8.decode ⟨⟨s⟩⟩ i=ng (s.drop i):=by
 unfold Utf8.decode;simp only [get_at,TQ,Utf8.runeError];rfl
theorem ug (c:Nat):Utf8.valid (c:Int)=decide (c<55296∨(57344≤c∧c≤1114111)):=by
 unfold Utf8.valid;rw [Bool.eq_iff_iff];simp only [Bool.or_eq_true,Bool.and_eq_true,decide_eq_true_eq];omega
def fj (c:Nat):List Nat:=
 if c<128 then [c] else if c<2048 then [192+c / 64,128+c % 64] else if c<65536 then [224+c / 4096,128+c / 64 % 64,128+c % 64] else [240+c / 262144,128+c / 4096 % 64,128+c / 64 % 64,128+c % 64]
def Oz (l:aa):Prop:=((aJ l).2=0∧ng l=(65533,1))∨((aJ l).2≠0∧ng l=aJ l∧(l.take (aJ l).2).map UInt8.toNat=fj (aJ l).1∧(aJ l).1≤1114111∧¬ (55296≤(aJ l).1∧(aJ l).1≤57343)∧(aJ l).2≤4)
theorem sV {l:aa} (b3:¬ gU l 0<128) (h1:(gU l 0 / 32 == 6&&gx l 1)=false) (aq:(gU l 0 / 16 == 14&&gx l 1&&gx l 2)=false) (aU:(gU l 0 / 8 == 30&&gx l 1&&gx l 2&&gx l 3)=false):ng l=(65533,1):=by
 unfold ng;rw [if_neg b3,h1,aq,aU];rfl
theorem n5 {a b:Nat} (h:a≠b):(a == b)=false:=by simp [h]
theorem ok_one {b0:UInt8} {r:aa} (h:b0.toNat<128):Oz (b0::r):=by
 refine .inr ?_;have bY:ng (b0::r)=(b0.toNat,1):=by unfold ng;rw [if_pos (by simpa [gU] using h)];rfl
 rw [fW h,bY];refine⟨by simp,rfl,by simp [fj,h],by dsimp only;omega,by dsimp only;omega,by simp⟩
theorem ok_none {b0:UInt8} {r:aa} (h:128≤b0.toNat) (fh:b0.toNat<192∨248≤b0.toNat):Oz (b0::r):=by
 have aS:=b0.toNat_lt;have ay:gU (b0::r) 0=b0.toNat:=rfl;have hH:ej b0.toNat=(0,0,b0.toNat):=by unfold ej;rw [if_neg (by omega),if_neg (by omega),if_neg (by omega)]
 refine .inl ⟨by rw [fX (by omega) hH (.inl rfl)],sV (by omega) ?_ ?_ ?_⟩
 ·rw [ay,n5 (by omega)];rfl
 ·rw [ay,n5 (by omega)];rfl
 rw [ay,n5 (by omega)];rfl
theorem ou {l:aa} {k:Nat} {b:UInt8} (h:l[k]? = some b):gx l k=decide (128≤b.toNat∧b.toNat<192)∧gU l k=b.toNat:=by
 obtain⟨hk,rfl⟩:=List.getElem?_eq_some_iff.1 h;have ay:gU l k=(l[k]).toNat:=by simp [gU,hk]
 refine⟨?_,ay⟩;unfold gx;rw [ay,decide_eq_true hk,Bool.eq_iff_iff];simp only [Bool.true_and,beq_iff_eq,decide_eq_true_eq];omega
theorem qD {l:aa} {k:Nat} (h:l.length≤k):gx l k=false:=by
 unfold gx;rw [decide_eq_false (by omega)];rfl
theorem mr {b:UInt8} {r:aa} {c:Nat} (h:¬ (128≤b.toNat∧b.toNat<192)):hr (b::r) c=none:=by rw [hr,if_pos (by omega)]
theorem jl {b:UInt8} {r:aa} {c:Nat} (h:128≤b.toNat∧b.toNat<192):hr (b::r) c=hr r (c*64+b.toNat % 64):=by rw [hr,if_neg (by omega)]
theorem ok_two {b0:UInt8} {r:aa} (h:192≤b0.toNat) (fh:b0.toNat<224):Oz (b0::r):=by
 have ay:gU (b0::r) 0=b0.toNat:=rfl;have hH:ej b0.toNat=(2,128,b0.toNat % 32):=by unfold ej;rw [if_pos (by omega)]
 have bk:(b0.toNat / 32 == 6)=true:=by simp;omega
 have b2:(b0.toNat / 16 == 14)=false:=n5 (by omega);have kV:(b0.toNat / 8 == 30)=false:=n5 (by omega);have dI:gx (b0::r) 1=false→ng (b0::r)=(65533,1):=fun bj=>sV (by omega) (by rw [bj,Bool.and_false]) (by rw [ay,b2];rfl) (by rw [ay,kV];rfl);cases r with
 | nil=>exact .inl ⟨by rw [fX (by omega) hH (.inr (by simp))],dI (qD (by simp))⟩
 | cons dn r=>
  obtain⟨fH,JC⟩:=ou (l:=b0::dn::r) (k:=1) (b:=dn) rfl;have oF:¬ (2=0∨(b0::dn::r).length<2):=by simp
  have kG:(dn::r).take (2-1) = [dn]:=rfl
  by_cases aS:128≤dn.toNat∧dn.toNat<192
  ·have Hz:hr ((dn::r).take (2-1)) (b0.toNat % 32)=some (b0.toNat % 32*64+dn.toNat % 64):=by rw [kG,jl aS];rfl
   have bY:ng (b0::dn::r)=if b0.toNat % 32*64+dn.toNat % 64≥128 then (b0.toNat % 32*64+dn.toNat % 64,2)else (65533,1):=by
    unfold ng;rw [if_neg (by omega),ay,JC,bk,fH,decide_eq_true aS];rfl
   by_cases bK:b0.toNat % 32*64+dn.toNat % 64≥128
   ·have iQ:=lh (by omega) hH oF Hz (by omega);refine .inr ?_;rw [iQ,bY,if_pos bK];refine⟨by simp,rfl,?_,by dsimp only;omega,by dsimp only;omega,by simp⟩;unfold fj;rw [if_neg (by dsimp only;omega),if_pos (by dsimp only;omega)];simp only [List.take_succ_cons,List.take_zero,List.map_cons,List.map_nil,List.cons.injEq,and_true];omega
   exact .inl ⟨by rw [l6 (by omega) hH oF Hz (by omega)],by rw [bY,if_neg bK]⟩
  exact .inl ⟨by rw [iH (by omega) hH oF (by rw [kG,mr aS])],dI (by rw [fH,decide_eq_false aS])⟩
theorem ok_three {b0:UInt8} {r:aa} (h:224≤b0.toNat) (fh:b0.toNat<240):Oz (b0::r):=by
 have ay:gU (b0::r) 0=b0.toNat:=rfl;have hH:ej b0.toNat=(3,2048,b0.toNat % 16):=by unfold ej;rw [if_neg (by omega),if_pos (by omega)]
 have bk:(b0.toNat / 32 == 6)=false:=n5 (by omega);have b2:(b0.toNat / 16 == 14)=true:=by simp;omega
 have kV:(b0.toNat / 8 == 30)=false:=n5 (by omega);have dI:(gx (b0::r) 1&&gx (b0::r) 2)=false→ng (b0::r)=(65533,1):=fun bj=>sV (by omega) (by rw [ay,bk];rfl) (by rw [Bool.and_assoc,bj,Bool.and_false]) (by rw [ay,kV];rfl)
 match r with
 | []=>exact .inl ⟨by rw [fX (by omega) hH (.inr (by simp))],dI (by rw [qD (by simp)];rfl)⟩
 | [dn]=>exact .inl ⟨by rw [fX (by omega) hH (.inr (by simp))],dI (by rw [qD (k:=2) (by simp),Bool.and_false])⟩
 | dn::eJ::r=>
  obtain⟨fH,JC⟩:=ou (l:=b0::dn::eJ::r) (k:=1) (b:=dn) rfl;obtain⟨gC,GV⟩:=ou (l:=b0::dn::eJ::r) (k:=2) (b:=eJ) rfl;have oF:¬ (3=0∨(b0::dn::eJ::r).length<3):=by simp
  have kG:(dn::eJ::r).take (3-1) = [dn,eJ]:=rfl
  by_cases aS:128≤dn.toNat∧dn.toNat<192
  rotate_left
  ·exact .inl ⟨by rw [iH (by omega) hH oF (by rw [kG,mr aS])],dI (by rw [fH,decide_eq_false aS];rfl)⟩
  by_cases gS:128≤eJ.toNat∧eJ.toNat<192
  rotate_left
  ·exact .inl ⟨by rw [iH (by omega) hH oF (by rw [kG,jl aS,mr gS])],dI (by rw [gC,decide_eq_false gS,Bool.and_false])⟩
  have Hz:hr ((dn::eJ::r).take (3-1)) (b0.toNat % 16)=some ((b0.toNat % 16*64+dn.toNat % 64)*64+eJ.toNat % 64):=by rw [kG,jl aS,jl gS];rfl
  have bY:ng (b0::dn::eJ::r)=if (b0.toNat % 16*4096+dn.toNat % 64*64+eJ.toNat % 64≥2048&&Utf8.valid (b0.toNat % 16*4096+dn.toNat % 64*64+eJ.toNat % 64:Nat))=true then (b0.toNat % 16*4096+dn.toNat % 64*64+eJ.toNat % 64,3)else (65533,1):=by
   unfold ng;rw [if_neg (by omega),ay,JC,GV,bk,b2,fH,gC,decide_eq_true aS,decide_eq_true gS];rfl
  rw [ug] at bY
  by_cases bK:(b0.toNat % 16*64+dn.toNat % 64)*64+eJ.toNat % 64<2048∨1114111<(b0.toNat % 16*64+dn.toNat % 64)*64+eJ.toNat % 64∨(55296≤(b0.toNat % 16*64+dn.toNat % 64)*64+eJ.toNat % 64∧(b0.toNat % 16*64+dn.toNat % 64)*64+eJ.toNat % 64≤57343)
  ·refine .inl ⟨by rw [l6 (by omega) hH oF Hz bK],?_⟩;rw [bY,if_neg];simp only [Bool.and_eq_true,decide_eq_true_eq];omega
  have iQ:=lh (by omega) hH oF Hz bK;refine .inr ?_;rw [iQ,bY,if_pos (by simp only [Bool.and_eq_true,decide_eq_true_eq];omega)];refine⟨by simp,by simp only [Prod.mk.injEq,and_true];omega,?_,by dsimp only;omega,by dsimp only;omega,by simp⟩;unfold fj;rw [if_neg (by dsimp only;omega),if_neg (by dsimp only;omega),if_pos (by dsimp only;omega)];simp only [List.take_succ_cons,List.take_zero,List.map_cons,List.map_nil,List.cons.injEq,and_true];omega
theorem TR {b0:UInt8} {r:aa} (h:240≤b0.toNat) (fh:b0.toNat<248):Oz (b0::r):=by
 have ay:gU (b0::r) 0=b0.toNat:=rfl;have hH:ej b0.toNat=(4,65536,b0.toNat % 8):=by unfold ej;rw [if_neg (by omega),if_neg (by omega),if_pos (by omega)]
 have bk:(b0.toNat / 32 == 6)=false:=n5 (by omega);have b2:(b0.toNat / 16 == 14)=false:=n5 (by omega);have kV:(b0.toNat / 8 == 30)=true:=by simp;omega
 have dI:(gx (b0::r) 1&&gx (b0::r) 2&&gx (b0::r) 3)=false→ng (b0::r)=(65533,1):=fun bj=>sV (by omega) (by rw [ay,bk];rfl) (by rw [ay,b2];rfl) (by rw [Bool.and_assoc,Bool.and_assoc,← Bool.and_assoc (gx (b0::r) 1),bj,Bool.and_false])
 match r with
 | []=>exact .inl ⟨by rw [fX (by omega) hH (.inr (by simp))],dI (by rw [qD (by simp)];rfl)⟩
 | [dn]=>exact .inl ⟨by rw [fX (by omega) hH (.inr (by simp))],dI (by rw [qD (k:=2) (by simp),Bool.and_false];rfl)⟩
 | [dn,eJ]=>exact .inl ⟨by rw [fX (by omega) hH (.inr (by simp))],dI (by rw [qD (k:=3) (by simp),Bool.and_false])⟩
 | dn::eJ::lx::r=>
  obtain⟨fH,JC⟩:=ou (l:=b0::dn::eJ::lx::r) (k:=1) (b:=dn) rfl;obtain⟨gC,GV⟩:=ou (l:=b0::dn::eJ::lx::r) (k:=2) (b:=eJ) rfl;obtain⟨r7,an9⟩:=ou (l:=b0::dn::eJ::lx::r) (k:=3) (b:=lx) rfl;have oF:¬ (4=0∨(b0::dn::eJ::lx::r).length<4):=by simp
  have kG:(dn::eJ::lx::r).take (4-1) = [dn,eJ,lx]:=rfl
  by_cases aS:128≤dn.toNat∧dn.toNat<192
  rotate_left
  ·exact .inl ⟨by rw [iH (by omega) hH oF (by rw [kG,mr aS])],dI (by rw [fH,decide_eq_false aS];rfl)⟩
  by_cases gS:128≤eJ.toNat∧eJ.toNat<192
  rotate_left
  ·exact .inl ⟨by rw [iH (by omega) hH oF (by rw [kG,jl aS,mr gS])],dI (by rw [gC,decide_eq_false gS,Bool.and_false];rfl)⟩
  by_cases uI:128≤lx.toNat∧lx.toNat<192
  rotate_left
  ·exact .inl ⟨by rw [iH (by omega) hH oF (by rw [kG,jl aS,jl gS,mr uI])],dI (by rw [r7,decide_eq_false uI,Bool.and_false])⟩
  have Hz:hr ((dn::eJ::lx::r).take (4-1)) (b0.toNat % 8)=some (((b0.toNat % 8*64+dn.toNat % 64)*64+eJ.toNat % 64)*64+lx.toNat % 64):=by rw [kG,jl aS,jl gS,jl uI];rfl
  have bY:ng (b0::dn::eJ::lx::r)=if (b0.toNat % 8*262144+dn.toNat % 64*4096+eJ.toNat % 64*64+lx.toNat % 64≥65536&&Utf8.valid (b0.toNat % 8*262144+dn.toNat % 64*4096+eJ.toNat % 64*64+lx.toNat % 64:Nat))=true then (b0.toNat % 8*262144+dn.toNat % 64*4096+eJ.toNat % 64*64+lx.toNat % 64,4)else (65533,1):=by
   unfold ng;rw [if_neg (by omega),ay,JC,GV,an9,bk,b2,kV,fH,gC,r7,decide_eq_true aS,decide_eq_true gS,decide_eq_true uI];rfl
  rw [ug] at bY
  by_cases bK:((b0.toNat % 8*64+dn.toNat % 64)*64+eJ.toNat % 64)*64+lx.toNat % 64<65536∨1114111<((b0.toNat % 8*64+dn.toNat % 64)*64+eJ.toNat % 64)*64+lx.toNat % 64∨(55296≤((b0.toNat % 8*64+dn.toNat % 64)*64+eJ.toNat % 64)*64+lx.toNat % 64∧((b0.toNat % 8*64+dn.toNat % 64)*64+eJ.toNat % 64)*64+lx.toNat % 64≤57343)
  ·refine .inl ⟨by rw [l6 (by omega) hH oF Hz bK],?_⟩;rw [bY,if_neg];simp only [Bool.and_eq_true,decide_eq_true_eq];omega
  have iQ:=lh (by omega) hH oF Hz bK;refine .inr ?_;rw [iQ,bY,if_pos (by simp only [Bool.and_eq_true,decide_eq_true_eq];omega)];refine⟨by simp,by simp only [Prod.mk.injEq,and_true];omega,?_,by dsimp only;omega,by dsimp only;omega,by simp⟩;unfold fj;rw [if_neg (by dsimp only;omega),if_neg (by dsimp only;omega),if_neg (by dsimp only;omega)];simp only [List.take_succ_cons,List.take_zero,List.map_cons,List.map_nil,List.cons.injEq,and_true];omega
theorem pO {l:aa} (h:l≠[]):Oz l:=by
 cases l with
 | nil=>exact absurd rfl h
 | cons b0 r=>
  have aS:=b0.toNat_lt;rcases Nat.lt_or_ge b0.toNat 128 with h1 | h1
  ·exact ok_one h1
  rcases Nat.lt_or_ge b0.toNat 192 with aq | aq
  ·exact ok_none h1 (.inl aq)
  rcases Nat.lt_or_ge b0.toNat 224 with aU | aU
  ·exact ok_two aq aU
  rcases Nat.lt_or_ge b0.toNat 240 with bM | bM
  ·exact ok_three aU bM
  rcases Nat.lt_or_ge b0.toNat 248 with cL | cL
  ·exact TR bM cL
  exact ok_none h1 (.inr cL)
section
variable {P:Program} {ops:Array Oper} {Q:Exit→Act→World→Prop} {aj3:Nat} {ds:List Deferred} {l:List (Nat×Value)} {w w':World}
variable {rest:List Oper} {ty:TypeId} {pos:String} {af:Array Edge} {x y:Operand} {t:TypeId}
theorem N3 {gD:Array Value} {n:Nat} (h:∀ u∈gD,u.oneCell'=true) (bf:0<gD.size):∀ u∈(Builtin.zeroCells gD n).toList,u.oneCell'=true:=by
 intro u hu;unfold Builtin.zeroCells at hu;rw [Array.toList_map] at hu;obtain⟨i,_,rfl⟩:=List.mem_map.1 hu;have:i % gD.size<gD.size:=Nat.mod_lt _ bf;rw [getElem!_pos gD _ this];exact h _ (Array.getElem_mem this)
theorem ah7 {op:Op} {v:Value} (bq:bG P l ⟨none,op,ty,pos,af,none⟩ w v w') (h:ga P ops Q rest aj3 ds l w') :
  ga P ops Q (⟨none,op,ty,pos,af,none⟩::rest) aj3 ds l w:=by
 intro a ay
 refine wpList_plain rfl fun K p5=>?_
 have:=bq a.eval (fun x u ae=>ay.rD ae)
 simp only [Oper.wp,this,Oper.upon]
 exact p5 _ _ (h _ (by simpa [Act.put] using ay))
theorem O8 {e sz fZ n c k:Nat} {ad:Addr} {vs gD:List Value} (cf:lC P t e sz fZ=true) (dk:hG P e gD) (jo:gD.length=sz) (im:0<sz) (wF:∀ u∈gD,u.oneCell'=true) (O:Own w e sz (.slice (some ad) n c) n vs) (hk:k≤n)
  (ae:a6 l x=some (.slice (l1 (some ad) c k sz) (n-k) (c-k)))
  (h:∀ w',Own w' e sz (.slice (some ad) k c) k (vs.take (k*sz))→Mod [ad.block] w w'→w'.heap.size=w.heap.size→ga P ops Q rest aj3 ds l w') :
  ga P ops Q (⟨none,.call {callee:=.builtin .clear,args:=#[x],argTypes:=#[t]},ty,pos,af,none⟩::rest) aj3 ds l w:=by
 obtain⟨i,z,h1,aq,aU,bM,cL,eW⟩:=ir cf
 obtain⟨th,Eh,kz,kq,k0⟩:=om dk
 rcases Nat.eq_or_lt_of_le hk with rfl | bJ
 ·have bq:bG P l ⟨none,.call {callee:=.builtin .clear,args:=#[x],argTypes:=#[t]},ty,pos,af,none⟩ w (.tuple #[]) w:=fun ρ fg=>by
   have bK:=fg _ _ ae
   rw [Nat.sub_self] at bK
   simp only [execOp,resolve,invoke,builtin,Builtin.clear_]
   cases bj:l1 (some ad) c k sz <;> rw [bj] at bK <;> simp [bK,run_underlying h1]
  exact ah7 bq (h w (O.take (Nat.le_refl _)) (Mod.refl _ w) rfl)
 rcases O.2 with⟨b3,_⟩ | ⟨g,o,cap,cs,bK,eh,fH,gC,r7,pW⟩
 ·cases b3
 injection bK with bk b2 kV
 injection bk with bk
 subst bk;subst kV
 have ady:(Builtin.zeroCells Eh.cells (n-k)).size=(n-k)*sz:=by
  simp [Builtin.zeroCells,k0,jo]
 have nr:=O.1
 have hle:k*sz+(n-k)*sz=n*sz:=by rw [← Nat.add_mul];congr 1;omega
 have Cu:n*sz≤c*sz:=Nat.mul_le_mul_right _ fH
 obtain⟨aB,hJ,cp⟩:=hz (P:=P) eh (o:=o+k*sz) (vs:=(Builtin.zeroCells Eh.cells (n-k)).toList) (by rw [Array.length_toList,ady];omega)
  (N3 (by rw [k0];simpa using wF) (by rw [k0];simp [jo];omega))
 have amm:l1 (some ⟨g,o,none⟩) c k sz=some ⟨g,o+k*sz,none⟩:=by
  unfold l1
  rw [if_neg (by omega)]
  simp [Addr.add_lit]
 rw [amm] at ae
 have bq:bG P l ⟨none,.call {callee:=.builtin .clear,args:=#[x],argTypes:=#[t]},ty,pos,af,none⟩ w (.tuple #[]) aB:=fun ρ fg=>by
  have tY:¬ n-k=0:=by omega
  obtain⟨m,hm⟩:∃ m,n-k=m+1:=⟨n-k-1,by omega⟩
  have bK:=fg _ _ ae
  rw [hm] at bK hJ
  simp [execOp,resolve,invoke,builtin,Builtin.clear_,bK,run_underlying h1,zeroValue,typeInfo,kz,kq,hJ]
 refine ah7 bq (h aB ⟨by rw [List.length_take,nr];omega,.inr ⟨g,o,c,_,rfl,cp.az,by omega,gC,by simp [splice,ady];omega,?_⟩⟩ cp.mod cp.size)
 subst pW
 apply List.ext_getElem?
 intro j
 simp only [splice]
 simp only [List.getElem?_take,List.getElem?_drop,List.getElem?_append,List.length_append,List.length_take,List.length_drop,Array.length_toList,ady]
 repeat' split
 all_goals first
  | omega
  | rfl
  | (congr 1;omega)
  | skip
end
section
variable {P:Program} {ops:Array Oper} {Q:Exit→Act→World→Prop} {n:Nat} {ds:List Deferred} {l:List (Nat×Value)} {M:List (Nat×(Value→World→Prop))} {w:World}
end
abbrev uD (c:UInt8):List Value:=[j8 c]
theorem dj (b:List UInt8):(b.map uD).flatten=b.map j8:=by
 induction b with
 | nil=>rfl
 | cons c b dK=>simp [dK]
theorem du {c d:UInt8} (h:(c.toNat:Int)=d.toNat):c=d:=UInt8.toNat_inj.1 (by omega)
theorem Ds {c:UInt8} (h:(c.toNat:Int)=34∨(c.toNat:Int)=92):iL c = [92,c]:=by
 unfold iL;rw [if_pos (h.imp (fun h=>du h) (fun h=>du h))]
theorem Ps {c:UInt8} (h:(c.toNat:Int)=8):iL c = [92,98]:=by obtain rfl:c=8:=du h;rfl
theorem Pt {c:UInt8} (h:(c.toNat:Int)=9):iL c = [92,116]:=by obtain rfl:c=9:=du h;rfl
theorem Pu {c:UInt8} (h:(c.toNat:Int)=10):iL c = [92,110]:=by obtain rfl:c=10:=du h;rfl
theorem Pv {c:UInt8} (h:(c.toNat:Int)=12):iL c = [92,102]:=by obtain rfl:c=12:=du h;rfl
theorem Px {c:UInt8} (h:(c.toNat:Int)=13):iL c = [92,114]:=by obtain rfl:c=13:=du h;rfl
theorem tL {c d:UInt8} (h:¬ (c.toNat:Int)=d.toNat):c≠d:=fun e=>h (by rw [e])
theorem IA {c:UInt8} (h1:¬ (c.toNat:Int)=34) (aq:¬ (c.toNat:Int)=92) (aU:¬ (c.toNat:Int)=8) (bM:¬ (c.toNat:Int)=9) (cL:¬ (c.toNat:Int)=10) (eW:¬ (c.toNat:Int)=12) (kz:¬ (c.toNat:Int)=13) :
  iL c=if c.toNat<32 then [92,117,48,48,iI.getD (c.toNat / 16) 0,iI.getD (c.toNat % 16) 0] else [c]:=by
 unfold iL
 rw [if_neg (fun h=>h.elim (tL (d:=34) h1) (tL (d:=92) aq)),if_neg (tL (d:=8) aU),if_neg (tL (d:=9) bM),if_neg (tL (d:=10) cL),if_neg (tL (d:=12) eW),if_neg (tL (d:=13) kz)]
theorem x0 {i:Nat} (h:i<16):iI[i]? = some (iI.getD i 0):=by
 have:∀ j:Fin 16,iI[j.val]? = some (iI.getD j.val 0):=by decide
 exact this ⟨i,h⟩
def iA:Except Int aa→aa
 | .ok b=>b
 | .error _=>[]
def e7:Except Int aa→Int
 | .ok _=>0
 | .error e=>if e=0 then 1 else e
theorem iU {r:Except Int aa} (h:e7 r=0):∃ b,r = .ok b:=by
 cases r with
 | ok b=>exact⟨b,rfl⟩
 | error e=>
  exfalso
  by_cases b3:e=0 <;> simp [e7,b3] at h
theorem nU {r:Except Int aa} (h:¬ e7 r=0):∃ e,r = .error e:=by
 cases r with
 | ok b=>exact absurd rfl h
 | error e=>exact⟨e,rfl⟩
theorem qe {r:Except Int aa} (h:¬ e7 r=0) (f:aa→Except Int aa):r.bind f=r:=by
 obtain⟨e,rfl⟩:=nU h;rfl
theorem Qw (b:aa):(cu b = .ok b∧b.length≤65536)∨(cu b = .error 3∧65536<b.length):=by
 unfold cu
 by_cases h:65536<b.length
 ·exact .inr ⟨if_pos h,h⟩
 exact .inl ⟨if_neg h,by omega⟩
theorem FX (b:aa):(iA (cu b)).length≤65536:=by
 rcases Qw b with⟨h,aq⟩ | ⟨h,_⟩
 ·rw [h];exact aq
 rw [h];simp [iA]
section
variable {w0 w IN w':World} {hR u gi jx res:Value} {b t:aa} {r:Except Int aa}
abbrev hK (w:World) (u:Value) (b:aa):Prop:=Own w 5 1 u b.length ((b.map uD).flatten)
def xI (w0 w:World) (hR:Value) (r:Except Int aa) (res:Value):Prop:=
 ∃ u,res = .tuple #[u,.int .i64 (e7 r)]∧hK w u (iA r)∧(∀ x∈a1 u,x∈a1 hR∨w0.heap.size≤x)∧Mod (a1 hR) w0 w∧(iA r).length≤65536
theorem B5 (h:jx=gi∧iA (cu b)=b∨jx = .slice none 0 0∧iA (cu b) = []) (O:hK w gi b):hK w jx (iA (cu b))∧∀ x∈a1 jx,x∈a1 gi:=by
 rcases h with⟨rfl,h⟩ | ⟨rfl,h⟩
 ·rw [h];exact⟨O,fun x ae=>ae⟩
 rw [h];exact⟨Own.nil w 5 1,by simp [a1]⟩
theorem xI.ik {n:Nat} {vs:List Value} (E:Mod [] w0 w) (eD:App w IN 5 1 hR gi n vs) (eS:hK IN gi (b++t)) (h:jx=gi∧iA (cu (b++t))=b++t∨jx = .slice none 0 0∧iA (cu (b++t)) = []) (R:Mod [] IN w') (bq:r=cu (b++t)) :
  xI w0 w' hR r (.tuple #[jx,.int .i64 (e7 (cu (b++t)))]):=by
 subst bq
 obtain⟨h1,aq⟩:=B5 h (eS.I R)
 exact⟨jx,rfl,h1,fun x ae=>(eD.lZ x (aq x ae)).imp id (fun h=>Nat.le_trans E.size h),((E.mono (by simp)).trans eD.mod).trans (R.mono (by simp)),FX _⟩
theorem xI.err {e:Int} (E:Mod [] w0 w) (he:e≠0) (bq:r = .error e):xI w0 w hR r (.tuple #[.slice none 0 0,.int .i64 e]):=by
 subst bq;exact⟨_,by simp [e7,he],Own.nil w 5 1,by simp [a1],E.mono (by simp),by simp [iA]⟩
structure xJ (w0 w:World) (hR:Value) (g V:Nat) (cells:List Value) (v:JV) (al am:Option Addr) (cl cm:Nat) (u:Value) (b:aa):Prop where
 own:hK w u b
 len:b.length≤65536
 iV:∀ x∈a1 u,x∈a1 hR∨w0.heap.size≤x
 mod:Mod (a1 hR) w0 w
 az:aF w g V cells
 FY:∀ x∈a1 u,x≠g
 Vm:ba (a1 u) w (.ie 6 (v.list.map JV.D)) (.slice al v.list.length cl)
 ET:ba (a1 u) w (.ie 7 (v.map.map JV.hP)) (.slice am v.map.length cm)
variable {g V:Nat} {cells:List Value} {v:JV} {al am:Option Addr} {cl cm:Nat}
theorem xJ.step (H:xJ w0 w hR g V cells v al am cl cm u b) {e8:aa} {mU:Value} (k:Mod (a1 u) w w') (O:hK w' mU e8) (eo:∀ x∈a1 mU,x∈a1 u∨w.heap.size≤x) (cg:e8.length≤65536):xJ w0 w' hR g V cells v al am cl cm mU e8 where
 own:=O
 len:=cg
 iV:=fun x ae=>(eo x ae).elim (H.iV x) (fun h=>.inr (Nat.le_trans H.mod.size h))
 mod:=H.mod.trans' k H.iV
 az:=H.az.mod k (fun ae=>H.FY _ ae rfl)
 FY:=fun x ae=>(eo x ae).elim (H.FY x) (fun h e=>by have:=H.az.lt;omega)
 Vm:=ba.to k (fun x ae=>ae) eo _ _ H.Vm
 ET:=ba.to k (fun x ae=>ae) eo _ _ H.ET
theorem xJ.I (H:xJ w0 w hR g V cells v al am cl cm u b) (k:Mod [] w w'):xJ w0 w' hR g V cells v al am cl cm u b:=
 H.step (k.mono (by simp)) (H.own.I k) (fun x ae=>.inl ae) H.len
theorem xJ.ik {n:Nat} {vs:List Value} (H:xJ w0 w hR g V cells v al am cl cm u b) (eD:App w IN 5 1 u gi n vs) (eS:hK IN gi (b++t)) (h:jx=gi∧iA (cu (b++t))=b++t∨jx = .slice none 0 0∧iA (cu (b++t)) = []) (R:Mod [] IN w') :
  xJ w0 w' hR g V cells v al am cl cm jx (iA (cu (b++t))):=by
 obtain⟨h1,aq⟩:=B5 h (eS.I R)
 exact H.step (eD.mod.trans (R.mono (by simp))) h1 (fun x ae=>eD.lZ x (aq x ae)) (FX _)
theorem xJ.wr (H:xJ w0 w hR g V cells v al am cl cm u b) (h:xI w w' u r res):∃ mU,res = .tuple #[mU,.int .i64 (e7 r)]∧xJ w0 w' hR g V cells v al am cl cm mU (iA r):=by
 obtain⟨mU,h1,aq,aU,bM,cL⟩:=h;exact⟨mU,h1,H.step bM aq aU cL⟩
theorem xJ.err (H:xJ w0 w hR g V cells v al am cl cm u b) (bq:¬ e7 r=0):xI w0 w hR r (.tuple #[.slice none 0 0,.int .i64 (e7 r)]):=by
 obtain⟨e,rfl⟩:=nU bq;exact⟨_,rfl,Own.nil w 5 1,by simp [a1],H.mod,by simp [iA]⟩
theorem xJ.fin {n:Nat} {vs:List Value} (H:xJ w0 w hR g V cells v al am cl cm u b) (eD:App w IN 5 1 u gi n vs) (eS:hK IN gi (b++t)) (h:jx=gi∧iA (cu (b++t))=b++t∨jx = .slice none 0 0∧iA (cu (b++t)) = []) (R:Mod [] IN w') (bq:r=cu (b++t)) :
  xI w0 w' hR r (.tuple #[jx,.int .i64 (e7 (cu (b++t)))]):=by
 subst bq
 have ajU:=H.ik eD eS h R
 exact⟨jx,rfl,ajU.own,ajU.iV,ajU.mod,ajU.len⟩
theorem xJ.ok (H:xJ w0 w hR g V cells v al am cl cm u (iA (.ok b))):xJ w0 w hR g V cells v al am cl cm u b:=H
end
theorem xI.from_ {w0 w w':World} {hR res:Value} {r MV:Except Int aa} (E:Mod [] w0 w) (h:xI w w' hR r res) (bq:MV=r):xI w0 w' hR MV res:=by
 subst bq;obtain⟨u,h1,aq,aU,bM,cL⟩:=h;exact⟨u,h1,aq,fun x ae=>(aU x ae).imp id (fun h=>Nat.le_trans E.size h),(E.mono (by simp)).trans bM,cL⟩
theorem xJ.init {w0 w:World} {hR:Value} {b:aa} {g V:Nat} {cells:List Value} {v:JV} {al am:Option Addr} {cl cm:Nat} (E:Mod [] w0 w) (O:hK w0 hR b) (aS:b.length≤65536) (B:aF w g V cells) (dA:w0.heap.size≤g)
  (kW:ba (a1 hR) w0 (.ie 6 (v.list.map JV.D)) (.slice al v.list.length cl)) (jJ:ba (a1 hR) w0 (.ie 7 (v.map.map JV.hP)) (.slice am v.map.length cm)):xJ w0 w hR g V cells v al am cl cm hR b where
 own:=O.I E
 len:=aS
 iV:=fun x ae=>.inl ae
 mod:=E.mono (by simp)
 az:=B
 FY:=fun x ae e=>by have:=O.lt x ae;omega
 Vm:=kW.bB E
 ET:=jJ.bB E
theorem v7 {v:JV} (h:v.bare=true) (aq:v.kind=2) : -9007199254740991≤v.num∧v.num≤9007199254740991:=by
 simp only [JV.bare,aq] at h;simp at h;omega
theorem tH {f:aa→Except Int aa} {b:aa} {W:Except Int aa} (h:(Except.ok b:Except Int aa).bind f=W):f b=W:=h
theorem yU (r:Except Int aa):(r.bind fun b=>Except.ok b)=r:=by cases r <;> rfl
theorem abU {a b:aa} (h:¬ (eR a b||a == b)=true):eR b a=true:=by
 rcases ma b a with h1 | h1 | h1
 ·exact h1
 ·subst h1;exact absurd (by simp) h
 exact absurd (by simp [h1]) h
theorem abT {a b:aa} (h:(eR a b||a == b)=true):eR b a=false:=by
 rcases Bool.or_eq_true_iff.1 h with h | h
 ·exact jk h
 have:=eq_of_beq h;subst this;exact df a
def hS (m:List (aa×JV)) (k:Nat):Option aa:=if k=0 then none else (m[k-1]?).map (·.1)
theorem Lf {l:List JV} {k:Nat} {x:JV} {deep:Nat} {fst:Bool} {b:aa} (h:l[k]? = some x):JV.hL (l.drop k) deep fst b=(if fst then Except.ok b else cu (b ++ [44])).bind fun b=>(JV.wr x (deep+1) b).bind fun b=>JV.hL (l.drop (k+1)) deep false b:=by
 obtain⟨hk,rfl⟩:=List.getElem?_eq_some_iff.1 h;rw [List.drop_eq_getElem_cons hk,JV.hL]
theorem FE {l:List JV} {k deep:Nat} {fst:Bool} {b:aa} (h:l.length≤k):JV.hL (l.drop k) deep fst b = .ok b:=by
 rw [List.drop_eq_nil_of_le h,JV.hL]
theorem MW (p:List UInt8×JV) (r:List (List UInt8×JV)) (deep:Nat) (b:aa):JV.fk (p::r) deep none b=(fb b p.1).bind fun b=>(cu (b ++ [58])).bind fun b=>(JV.wr p.2 (deep+1) b).bind fun b=>JV.fk r deep (some p.1) b:=by
 rw [JV.fk.eq_def];rfl
theorem MX (p:List UInt8×JV) (q:aa) (r:List (List UInt8×JV)) (deep:Nat) (b:aa):JV.fk (p::r) deep (some q) b=((cu (b ++ [44])).bind fun b=>if eR q p.1 then .ok b else .error 1).bind fun b=>(fb b p.1).bind fun b=>(cu (b ++ [58])).bind fun b=>(JV.wr p.2 (deep+1) b).bind fun b=>JV.fk r deep (some p.1) b:=by
 rw [JV.fk.eq_def]
theorem FJ {m:List (aa×JV)} {k deep:Nat} {p:Option aa} {b:aa} (h:m.length≤k):JV.fk (m.drop k) deep p b = .ok b:=by
 rw [List.drop_eq_nil_of_le h,JV.fk]
theorem xf {m:List (aa×JV)} {k:Nat} {p:aa×JV} (h:m[k]? = some p):hS m (k+1)=some p.1:=by
 simp [hS,h]
theorem Qx {m:List (aa×JV)} {p:aa×JV} {deep:Nat} {b:aa} (h:m[0]? = some p):JV.fk (m.drop 0) deep (hS m 0) b=(fb b p.1).bind fun b=>(cu (b ++ [58])).bind fun b=>(JV.wr p.2 (deep+1) b).bind fun b=>JV.fk (m.drop (0+1)) deep (hS m (0+1)) b:=by
 rw [xf h];obtain⟨hk,rfl⟩:=List.getElem?_eq_some_iff.1 h;rw [List.drop_eq_getElem_cons hk];exact MW _ _ _ _
theorem W' {m:List (aa×JV)} {k:Nat} {p q:aa×JV} {deep:Nat} {b:aa} (h:m[k]? = some p) (e5:m[k-1]? = some q) (b3:0<k):JV.fk (m.drop k) deep (hS m k) b=((cu (b ++ [44])).bind fun b=>if eR q.1 p.1 then .ok b else .error 1).bind fun b=>(fb b p.1).bind fun b=>(cu (b ++ [58])).bind fun b=>(JV.wr p.2 (deep+1) b).bind fun b=>JV.fk (m.drop (k+1)) deep (hS m (k+1)) b:=by
 rw [xf h];have cp:hS m k=some q.1:=by simp [hS,e5];omega
 obtain⟨hk,rfl⟩:=List.getElem?_eq_some_iff.1 h;rw [List.drop_eq_getElem_cons hk,cp];exact MX _ _ _ _ _
theorem BY {l:List JV} {k deep:Nat} {x:JV} {dn:aa} {W r1:Except Int aa} (ae:l[k]? = some x) (hinv:((Except.ok dn:Except Int aa).bind fun b=>JV.hL (l.drop k) deep (decide (k=0)) b)=W) (h1:(if decide (k=0)then Except.ok dn else cu (dn ++ [44]))=r1) :
  (r1.bind fun b=>(JV.wr x (deep+1) b).bind fun b=>JV.hL (l.drop (k+1)) deep (decide (k+1=0)) b)=W:=by
 have aq:JV.hL (l.drop k) deep (decide (k=0)) dn=W:=hinv
 rw [Lf ae,h1] at aq
 rw [show decide (k+1=0)=false by simp]
 exact aq
theorem yV {m:List (aa×JV)} {k deep:Nat} {x:aa×JV} {dn:aa} {W:Except Int aa} (ae:m[k]? = some x) (b3:k=0) (hinv:((Except.ok dn:Except Int aa).bind fun b=>JV.fk (m.drop k) deep (hS m k) b)=W) :
  ((fb dn x.1).bind fun b=>(cu (b ++ [58])).bind fun b=>(JV.wr x.2 (deep+1) b).bind fun b=>JV.fk (m.drop (k+1)) deep (hS m (k+1)) b)=W:=by
 subst b3
 have aq:JV.fk (m.drop 0) deep (hS m 0) dn=W:=hinv
 rwa [Qx ae] at aq
theorem BZ {m:List (aa×JV)} {k deep:Nat} {x q:aa×JV} {dn:aa} {W:Except Int aa} (ae:m[k]? = some x) (e5:m[k-1]? = some q) (b3:0<k) (hinv:((Except.ok dn:Except Int aa).bind fun b=>JV.fk (m.drop k) deep (hS m k) b)=W) :
  (((cu (dn ++ [44])).bind fun b=>if eR q.1 x.1 then .ok b else .error 1).bind fun b=>(fb b x.1).bind fun b=>(cu (b ++ [58])).bind fun b=>(JV.wr x.2 (deep+1) b).bind fun b=>JV.fk (m.drop (k+1)) deep (hS m (k+1)) b)=W:=by
 have aq:JV.fk (m.drop k) deep (hS m k) dn=W:=hinv
 rwa [W' ae e5 b3] at aq
section
variable {P:Program} {ops:Array Oper} {Q:Exit→Act→World→Prop} {n:Nat} {ds:List Deferred} {l:List (Nat×Value)} {w w':World} {a:Act}
variable {rest:List Oper} {d:Nat} {op:Op} {ty:TypeId} {pos:String} {af:Array Edge} {x y:Operand} {t:TypeId}
theorem fQ {f:FuncId} {args:Array Value} {asp:Ending→World→Prop} (bq:mh P l ⟨some d,op,ty,pos,af,none⟩ w f args) (bj:Calls P f args w asp) (bY:Nat.blt d n=true) (eo:∀ w',¬ asp .outgrown w')
  (cp:∀ c w',asp (.panicked c) w'→fI Q (.panic c) n ds l w') (h:∀ v w',asp (.returned v) w'→ga P ops Q rest n ds ((d,v)::l) w') :
  ga P ops Q (⟨some d,op,ty,pos,af,none⟩::rest) n ds l w:=by
 intro a ay
 refine wpList_plain rfl fun K p5=>?_
 have:=bq a.eval (fun x u ae=>ay.rD ae)
 simp only [Oper.wp,this,Oper.upon]
 refine bj.mono fun e w' he=>?_
 cases e with
 | returned v=>exact p5 _ _ (h v w' he _ (ay.put bY v))
 | panicked c=>exact cp c w' he a ay
 | outgrown=>exact absurd he (eo w')
theorem Sm {T:TypeId} {v:Value} (ae:a6 l x=some (.iface T v)) (h:fI Q (.panic [{v:=.iface T v,recovered:=false}]) n ds l w) :
  ga P ops Q (⟨none,.panic x,ty,pos,af,none⟩::rest) n ds l w:=by
 intro a ay
 refine wpList_plain rfl fun K p5=>?_
 simp only [Oper.wp,execOp,ay.rD ae,Sem.run_bind,run_panic_iface,Oper.upon]
 exact h a ay
variable {fn:Func} {asp:Ending→World→Prop}
theorem ed {c:List PanicEntry} (h:asp (.panicked c) w):fI (bodyPost P fn asp) (.panic c) n [] l w:=fun a ay=>⟨ay.defers,h⟩
theorem ku (bq:fn.results = #[]) (h:asp (.returned (.tuple #[])) w):fI (bodyPost P fn asp) .normal n [] l w:=fun a ay=>⟨ay.defers,_,results_none bq _ _ _,h⟩
/-! ### a range over a string -/
def Bu (w:World) (g:Nat) (s:aa) (p:Nat):Prop:=w.heap[g]? = some (.stringIter ⟨⟨s⟩⟩ p)
theorem Bu.lt {g:Nat} {s:aa} {p:Nat} (h:Bu w g s p):g<w.heap.size:=(Array.getElem?_eq_some_iff.1 h).1
theorem Bu.mod {M:List Nat} {g:Nat} {s:aa} {p:Nat} (h:Bu w g s p) (k:Mod M w w') (dA:g∉M):Bu w' g s p:=(k.block g h.lt dA).trans h
theorem Bu.I {g:Nat} {s:aa} {p:Nat} (h:Bu w g s p) (k:Mod [] w w'):Bu w' g s p:=h.mod k (by simp)
theorem qn {u:aa} (cf:P.underlying t=some .string) (ae:a6 l x=some (S u)) (bY:Nat.blt d n=true)
  (h:∀ g w',Bu w' g u 0→g=w.heap.size→Mod [] w w'→ga P ops Q rest n ds ((d,.pointer (some ⟨g,0,none⟩))::l) w') :
  ga P ops Q (⟨some d,.range t x,ty,pos,af,none⟩::rest) n ds l w:=by
 refine fP (v:=.pointer (some ⟨w.heap.size,0,none⟩)) (w':=w.iter ⟨⟨u⟩⟩ 0) (fun ρ fg=>?_) bY (h _ _ (World.iter_heap _ _ _) rfl ⟨rfl,rfl,rfl,?_,fun i hi _=>?_⟩)
 ·simp [execOp,fg _ _ ae,run_range_string _ _ _ cf]
 ·show w.heap.size≤(w.heap.push _).size
  simp
 show(w.heap.push _)[i]? = _
 rw [Array.getElem?_push_lt hi,Array.getElem?_eq_getElem hi]
theorem lr {g p:Nat} {u:aa} (ae:a6 l x=some (.pointer (some ⟨g,0,none⟩))) (asr:Bu w g u p) (cp:¬ p<u.length) (bY:Nat.blt d n=true)
  (h:ga P ops Q rest n ds ((d,.tuple #[.bool false])::l) w):ga P ops Q (⟨some d,.next x true,ty,pos,af,none⟩::rest) n ds l w:=by
 refine fP (v:=.tuple #[.bool false]) (w':=w) (fun ρ fg=>?_) bY h
 have bf:(⟨⟨u⟩⟩:ByteArray).size=u.length:=rfl
 unfold Bu at asr
 simp [execOp,fg _ _ ae,Instr.next,getObj,Sem.run,asr,Result.andThen,bf,cp]
theorem mE {g p c m:Nat} {u:aa} (ae:a6 l x=some (.pointer (some ⟨g,0,none⟩))) (asr:Bu w g u p) (cp:p<u.length) (zq:Utf8.decode ⟨⟨u⟩⟩ p=(c,m)) (bY:Nat.blt d n=true)
  (h:∀ w',Bu w' g u (p+m)→Mod [g] w w'→w'.heap.size=w.heap.size→ga P ops Q rest n ds ((d,.tuple #[.bool true,.int .i64 (p:Int),.int .i32 (c:Int)])::l) w') :
  ga P ops Q (⟨some d,.next x true,ty,pos,af,none⟩::rest) n ds l w:=by
 have bf:(⟨⟨u⟩⟩:ByteArray).size=u.length:=rfl
 have bJ:=asr.lt
 refine fP (v:=.tuple #[.bool true,.int .i64 (p:Int),.int .i32 (c:Int)]) (w':={w with heap:=w.heap.setIfInBounds g (.stringIter ⟨⟨u⟩⟩ (p+m))}) (fun ρ fg=>?_) bY (h _ ?_ ⟨rfl,rfl,rfl,by simp,fun i hi eY=>?_⟩ (by simp))
 ·unfold Bu at asr
  simp [execOp,fg _ _ ae,Instr.next,getObj,setObj,Sem.run,asr,Result.andThen,bf,cp,zq,goInt]
 ·show(w.heap.setIfInBounds g _)[g]? = _
  simp [bJ]
 show(w.heap.setIfInBounds g _)[i]? = _
 have:g≠i:=fun e=>eY (by simp [e])
 simp [Array.getElem?_setIfInBounds_ne this]
theorem App.adz {e sz c g p:Nat} {s:aa} {v v':Value} {vs:List Value} (h:App w w' e sz v v' c vs) (D:∀ x∈a1 v,x≠g) (B:Bu w g s p):∀ x∈a1 v',x≠g:=fun x ae=>by
 rcases h.lZ x ae with h1 | h1
 ·exact D x h1
 have:=B.lt;omega
end
section
variable {P:Program} {l:List (Nat×Value)} {w:World} {ty:TypeId} {pos:String} {af:Array Edge} {dd:Option Nat} {gg:Option (Nat×Bool)} {x y hi:Operand} {t:TypeId}
theorem x9 {u:List UInt8} {n:Nat} (cf:P.underlying t=some .string) (ae:a6 l x=some (S u)) (iq:a6 l hi=some (.int .i64 (n:Int))) (aS:n≤u.length):bG P l ⟨dd,.slice t x none (some hi) none,ty,pos,af,gg⟩ w (S (u.take n)) w:=
 (y' (pl:=none) (ph:=some (.i64,(n:Int))) cf ae rfl (by simp [tK,iq]) (by simp only [hU,iB];omega)).to (by
  simp only [hU,iB,Int.toNat_natCast]
  simp)
end
theorem aeG {m:Nat} (h:m<32):IntKind.u8.wrap (BitVec.ofInt IntKind.u8.bits 192 ||| BitVec.ofInt IntKind.u8.bits (m:Int)).toNat=((192+m:Nat):Int):=by
 have:∀ m:Fin 32,IntKind.u8.wrap (BitVec.ofInt IntKind.u8.bits 192 ||| BitVec.ofInt IntKind.u8.bits (m.val:Int)).toNat=((192+m.val:Nat):Int):=by decide +kernel
 exact this ⟨m,h⟩
theorem aeH {m:Nat} (h:m<16):IntKind.u8.wrap (BitVec.ofInt IntKind.u8.bits 224 ||| BitVec.ofInt IntKind.u8.bits (m:Int)).toNat=((224+m:Nat):Int):=by
 have:∀ m:Fin 16,IntKind.u8.wrap (BitVec.ofInt IntKind.u8.bits 224 ||| BitVec.ofInt IntKind.u8.bits (m.val:Int)).toNat=((224+m.val:Nat):Int):=by decide +kernel
 exact this ⟨m,h⟩
theorem aeI {m:Nat} (h:m<8):IntKind.u8.wrap (BitVec.ofInt IntKind.u8.bits 240 ||| BitVec.ofInt IntKind.u8.bits (m:Int)).toNat=((240+m:Nat):Int):=by
 have:∀ m:Fin 8,IntKind.u8.wrap (BitVec.ofInt IntKind.u8.bits 240 ||| BitVec.ofInt IntKind.u8.bits (m.val:Int)).toNat=((240+m.val:Nat):Int):=by decide +kernel
 exact this ⟨m,h⟩
theorem aeJ {m:Nat} (h:m<64):IntKind.u8.wrap (BitVec.ofInt IntKind.u8.bits 128 ||| BitVec.ofInt IntKind.u8.bits (m:Int)).toNat=((128+m:Nat):Int):=by
 have:∀ m:Fin 64,IntKind.u8.wrap (BitVec.ofInt IntKind.u8.bits 128 ||| BitVec.ofInt IntKind.u8.bits (m.val:Int)).toNat=((128+m.val:Nat):Int):=by decide +kernel
 exact this ⟨m,h⟩
theorem aeK {m:Nat} (h:m<256):IntKind.u8.wrap (BitVec.ofInt IntKind.u8.bits (m:Int) &&& BitVec.ofInt IntKind.u8.bits 63).toNat=((m % 64:Nat):Int):=by
 have:∀ m:Fin 256,IntKind.u8.wrap (BitVec.ofInt IntKind.u8.bits (m.val:Int) &&& BitVec.ofInt IntKind.u8.bits 63).toNat=((m.val % 64:Nat):Int):=by decide +kernel
 exact this ⟨m,h⟩
theorem aeL {m:Nat} (h:m<32):IntKind.i32.wrap (BitVec.ofInt IntKind.i32.bits (m:Int) &&& BitVec.ofInt IntKind.i32.bits 15).toNat=((m % 16:Nat):Int):=by
 have:∀ m:Fin 32,IntKind.i32.wrap (BitVec.ofInt IntKind.i32.bits (m.val:Int) &&& BitVec.ofInt IntKind.i32.bits 15).toNat=((m.val % 16:Nat):Int):=by decide +kernel
 exact this ⟨m,h⟩
theorem ai1 {c e:Nat} (he:e≤31):(c:Int).fdiv (2 ^ (min (e:Int).toNat IntKind.i32.bits))=((c / 2 ^ e:Nat):Int):=by
 have h1:min (e:Int).toNat IntKind.i32.bits=e:=by
  show min e 32=e;omega
 rw [h1,Int.fdiv_eq_ediv_of_nonneg _ (by exact_mod_cast Nat.zero_le (2 ^ e)),Int.natCast_ediv]
 norm_cast
theorem ZF (m:Nat):IntKind.u8.wrap (m:Int)=((m % 256:Nat):Int):=by
 have:((m % 256:Nat):Int)=(m:Int) % 256:=Int.natCast_emod ..;rw [this];rfl
theorem TN {m:Nat} (h:m<4294967296):IntKind.u32.wrap (m:Int)=(m:Int):=by
 show(m:Int) % 4294967296=m;exact Int.emod_eq_of_lt (by omega) (by omega)
def l3 (c:Nat):Nat:=if c=34 then 34 else if c=92 then 92 else if c=8 then 98 else if c=9 then 116 else if c=10 then 110 else if c=12 then 102 else if c=13 then 114 else 0
theorem Hx {c:Nat} (h:128≤c):l3 c=0:=by
 unfold l3;rw [if_neg (by omega),if_neg (by omega),if_neg (by omega),if_neg (by omega),if_neg (by omega),if_neg (by omega),if_neg (by omega)]
theorem TO {c:UInt8} (h:l3 c.toNat≠0):(iL c).map j8 = [.int .u8 92,.int .u8 (l3 c.toNat:Int)]:=by
 unfold l3 at h ⊢
 repeat' split at h
 ·rename_i e;rw [if_pos e,Ds (by omega)];simp [j8];omega
 ·rename_i B' e;rw [if_neg B',if_pos e,Ds (by omega)];simp [j8];omega
 ·rename_i B' bk e;rw [if_neg B',if_neg bk,if_pos e,Ps (by omega)];simp [j8]
 ·rename_i B' bk b2 e;rw [if_neg B',if_neg bk,if_neg b2,if_pos e,Pt (by omega)];simp [j8]
 ·rename_i B' bk b2 kV e;rw [if_neg B',if_neg bk,if_neg b2,if_neg kV,if_pos e,Pu (by omega)];simp [j8]
 ·rename_i B' bk b2 kV Ig e;rw [if_neg B',if_neg bk,if_neg b2,if_neg kV,if_neg Ig,if_pos e,Pv (by omega)];simp [j8]
 ·rename_i B' bk b2 kV Ig afz e;rw [if_neg B',if_neg bk,if_neg b2,if_neg kV,if_neg Ig,if_neg afz,if_pos e,Px (by omega)];simp [j8]
 exact absurd rfl h
theorem wV {c:UInt8} (h:¬ l3 c.toNat≠0):iL c=if c.toNat<32 then [92,117,48,48,iI.getD (c.toNat / 16) 0,iI.getD (c.toNat % 16) 0] else [c]:=by
 have h:=Classical.not_not.1 h;unfold l3 at h
 repeat' split at h
 all_goals first | (exact absurd h (by decide)) | skip
 exact IA (by omega) (by omega) (by omega) (by omega) (by omega) (by omega) (by omega)
theorem Cb {l:aa} (h:∀ b∈l,128≤b.toNat):db l=l:=by
 induction l with
 | nil=>rfl
 | cons b r dK=>
  have aS:=h b (by simp);have h1:iL b = [b]:=by rw [wV (by rw [Hx aS];simp),if_neg (by omega)]
  have aq:=dK fun x ae=>h x (by simp [ae]);simp only [db,List.map_cons,List.flatten_cons,h1] at aq ⊢;rw [aq];rfl
theorem wW {s:aa} {p m:Nat}:db (s.take (p+m))=db (s.take p)++db ((s.drop p).take m):=by
 have:s.take (p+m)=s.take p++(s.drop p).take m:=by
  rw [List.take_add]
 rw [this];simp [db]
theorem CS {c:Nat} (h:128≤c) (aq:c≤1114111):∀ m∈fj c,128≤m∧m<256:=by
 intro m hm;unfold fj at hm;rw [if_neg (by omega)] at hm
 split at hm
 ·simp at hm;omega
 split at hm
 ·simp at hm;omega
 simp at hm;omega
theorem Oy (c:Nat):(fj c).length≤4:=by
 unfold fj
 repeat' split
 all_goals simp
theorem wm {l:aa} (h:l≠[]) (b3:(aJ l).2≠0):Utf8.decode ⟨⟨l⟩⟩ 0=aJ l∧(l.take (aJ l).2).map j8=(fj (aJ l).1).map (fun m:Nat=>Value.int .u8 (m:Int))∧(aJ l).1≤1114111∧¬ (55296≤(aJ l).1∧(aJ l).1≤57343):=by
 rcases pO h with⟨h1,_⟩ | ⟨_,aq,aU,bM,cL,_⟩
 ·exact absurd h1 b3
 refine⟨by rw [o2];exact aq,?_,bM,cL⟩;rw [← aU,List.map_map];rfl
theorem mb {l:aa} (h:l≠[]) (b3:(aJ l).2≠0) (bj:(aJ l).1<128):∃ b,l.take (aJ l).2 = [b]∧b.toNat=(aJ l).1:=by
 rcases pO h with⟨h1,_⟩ | ⟨_,aq,aU,bM,cL,_⟩
 ·exact absurd h1 b3
 unfold fj at aU;rw [if_pos bj] at aU
 match cg:l.take (aJ l).2,aU with
 | [b],aU=>exact⟨b,rfl,by simpa using aU⟩
 | [],aU=>simp at aU
 | _::_::_,aU=>simp at aU
theorem xi {l:aa} (h:l≠[]) (b3:(aJ l).2≠0) (bj:128≤(aJ l).1):∀ b∈l.take (aJ l).2,128≤b.toNat:=by
 rcases pO h with⟨h1,_⟩ | ⟨_,aq,aU,bM,cL,_⟩
 ·exact absurd h1 b3
 intro b aS;have:b.toNat∈fj (aJ l).1:=by rw [← aU];exact List.mem_map_of_mem aS
 exact(CS bj bM _ this).1
theorem Zk {l:aa} (b3:(aJ l).2=0):¬ (3≤l.length∧l.take 3 = [239,191,189]):=by
 rintro⟨h1,aq⟩
 match l,h1,aq with
 | b0::dn::eJ::r,_,aq=>
  simp only [List.take_succ_cons,List.take_zero,List.cons.injEq,and_true] at aq;obtain⟨rfl,rfl,rfl⟩:=aq;have:aJ (239::191::189::r)=(65533,3):=lh (n:=3) (l:=2048) (c:=15) (d:=65533) (by decide) (by decide) (by simp) rfl (by decide);rw [this] at b3;cases b3
theorem Zl {l:aa} (h:l≠[]) (b3:(aJ l).2≠0) (bj:(aJ l).1=65533):3≤l.length∧l.take 3 = [239,191,189]:=by
 rcases pO h with⟨h1,_⟩ | ⟨_,aq,aU,bM,cL,_⟩
 ·exact absurd h1 b3
 rw [bj] at aU;have e:fj 65533 = [239,191,189]:=by decide
 rw [e] at aU;have cg:=congrArg List.length aU;simp only [List.length_map,List.length_take,List.length_cons,List.length_nil] at cg;have hle:=kd l;have hm:(aJ l).2=3:=by omega
 rw [hm] at aU;refine⟨by omega,?_⟩
 match l,aU with
 | b0::dn::eJ::r,aU=>
  simp only [List.take_succ_cons,List.take_zero,List.map_cons,List.map_nil,List.cons.injEq,and_true] at aU ⊢;obtain⟨h1,aq,aU⟩:=aU;exact⟨UInt8.toNat_inj.1 h1,UInt8.toNat_inj.1 aq,UInt8.toNat_inj.1 aU⟩
 | [],aU=>simp at aU
 | [_],aU=>simp at aU
 | [_,_],aU=>simp at aU
theorem ib {s:aa} {p:Nat} (h:p<s.length):s.drop p≠[]:=fun e=>by have:=congrArg List.length e;simp at this;omega
theorem x7 {s:aa} {p:Nat} (h:p<s.length) (b3:(aJ (s.drop p)).2≠0):Utf8.decode ⟨⟨s⟩⟩ p=((aJ (s.drop p)).1,(aJ (s.drop p)).2):=by
 rcases pO (ib h)with⟨h1,_⟩ | ⟨_,aq,_⟩
 ·exact absurd h1 b3
 rw [o2,aq]
theorem zm {s:aa} {p:Nat} (h:p<s.length) (b3:(aJ (s.drop p)).2=0):Utf8.decode ⟨⟨s⟩⟩ p=(65533,1):=by
 rcases pO (ib h)with⟨_,aq⟩ | ⟨h1,_⟩
 ·rw [o2,aq]
 exact absurd b3 h1
theorem zh {l:aa} (h:l≠[]) (bK:cn l=true):(aJ l).2≠0:=fun b3=>by rw [tC h b3] at bK;cases bK
section
variable {P:Program} {l:List (Nat×Value)} {w w':World} {ty:TypeId} {pos:String} {af:Array Edge} {dd:Option Nat} {gg:Option (Nat×Bool)} {x y:Operand} {t t':TypeId}
theorem q7 {c:Nat} (e d:Nat) (ae:a6 l x=some (.int .i32 (c:Int))) (aY:a6 l y=some (.int .u64 (e:Int))) (he:e≤31) (bY:2 ^ e=d):bG P l ⟨dd,.binOp .shr t x y t',ty,pos,af,gg⟩ w (.int .i32 ((c / d:Nat):Int)) w:=
 (uc ae aY (by omega)).to (by rw [ai1 he,bY])
theorem mq {m:Nat} {d0:TypeDesc} (bf:P.underlying t=some d0) (cf:P.underlying t'=some (.int .u8)) (ae:a6 l x=some (.int .i32 (m:Int))):bG P l ⟨dd,.convert t t' x,ty,pos,af,gg⟩ w (.int .u8 ((m % 256:Nat):Int)) w:=
 (sK bf cf ae).to (by rw [ZF])
theorem sn {m:Nat} (ae:a6 l x=some (.int .u8 ((m % 256:Nat):Int))) (aY:a6 l y=some (.int .u8 63)):bG P l ⟨dd,.binOp .and t x y t',ty,pos,af,gg⟩ w (.int .u8 ((m % 64:Nat):Int)) w:=
 (zP ae aY).to (by rw [aeK (Nat.mod_lt _ (by decide)),show m % 256 % 64=m % 64 by omega])
theorem pM {m:Nat} (ae:a6 l x=some (.int .u8 128)) (aY:a6 l y=some (.int .u8 ((m % 64:Nat):Int))):bG P l ⟨dd,.binOp .or t x y t',ty,pos,af,gg⟩ w (.int .u8 ((128+m % 64:Nat):Int)) w:=
 (pC ae aY).to (by rw [aeJ (Nat.mod_lt _ (by decide))])
theorem Zo {m:Nat} (ae:a6 l x=some (.int .u8 192)) (aY:a6 l y=some (.int .u8 ((m % 256:Nat):Int))) (h:m<32):bG P l ⟨dd,.binOp .or t x y t',ty,pos,af,gg⟩ w (.int .u8 ((192+m:Nat):Int)) w:=
 (pC ae aY).to (by rw [show m % 256=m by omega,aeG h])
theorem L0 {m:Nat} (ae:a6 l x=some (.int .u8 224)) (aY:a6 l y=some (.int .u8 ((m % 256:Nat):Int))) (h:m<16):bG P l ⟨dd,.binOp .or t x y t',ty,pos,af,gg⟩ w (.int .u8 ((224+m:Nat):Int)) w:=
 (pC ae aY).to (by rw [show m % 256=m by omega,aeH h])
theorem Zp {m:Nat} (ae:a6 l x=some (.int .u8 240)) (aY:a6 l y=some (.int .u8 ((m % 256:Nat):Int))) (h:m<8):bG P l ⟨dd,.binOp .or t x y t',ty,pos,af,gg⟩ w (.int .u8 ((240+m:Nat):Int)) w:=
 (pC ae aY).to (by rw [show m % 256=m by omega,aeI h])
theorem LZ {m:Nat} {d0:TypeDesc} (bf:P.underlying t=some d0) (cf:P.underlying t'=some (.int .u32)) (ae:a6 l x=some (.int .i32 (m:Int))) (h:m≤1114111):bG P l ⟨dd,.convert t t' x,ty,pos,af,gg⟩ w (.int .u32 (m:Int)) w:=
 j3 bf cf ae (TN (by omega))
end
theorem TP {c:Nat} (aq:c≤1114111):∀ m∈fj c,m<256:=by
 intro m hm
 by_cases h:128≤c
 ·exact(CS h aq m hm).2
 unfold fj at hm;rw [if_pos (by omega)] at hm;simp at hm;omega
def jf (c:Nat):aa:=(fj c).map UInt8.ofNat
theorem Hy {c:Nat} (aq:c≤1114111):(jf c).map j8=(fj c).map (fun m:Nat=>Value.int .u8 (m:Int)):=by
 unfold jf;rw [List.map_map];refine List.map_congr_left fun m hm=>?_;have:=TP aq m hm;simp only [Function.comp,j8];rw [UInt8.toNat_ofNat_of_lt' (by simpa using this)]
theorem sq {w:World} {v:Value} {b:aa} {n c:Nat} {vs:List Value} (bj:c≤1114111) (h:Own w 5 1 v n vs) (ck:n=b.length+(fj c).length) (bK:vs=(b.map uD).flatten++(fj c).map (fun m:Nat=>Value.int .u8 (m:Int))):hK w v (b++jf c):=
 h.same (by rw [ck,List.length_append];simp [jf]) (by rw [bK,List.map_append,List.flatten_append,dj (jf c),Hy bj])
theorem Nh (c:Nat):(jf c).length≤4:=by
 have:=Oy c;simpa [jf] using this
theorem qP {l:aa} (h:l≠[]) (b3:(aJ l).2≠0):jf (aJ l).1=l.take (aJ l).2:=by
 rcases pO h with⟨h1,_⟩ | ⟨_,aq,aU,bM,cL,_⟩
 ·exact absurd h1 b3
 unfold jf;rw [← aU,List.map_map];refine(List.map_congr_left fun b aS=>?_).trans (List.map_id _);simp [Function.comp]
section
variable {P:Program} {l:List (Nat×Value)} {w w':World} {ty:TypeId} {pos:String} {af:Array Edge} {dd:Option Nat} {gg:Option (Nat×Bool)} {x y:Operand} {t t':TypeId}
theorem aey {m:Nat} (ae:a6 l x=some (.int .i32 (m:Int))) (aY:a6 l y=some (.int .i32 15)) (h:m<32):bG P l ⟨dd,.binOp .and t x y t',ty,pos,af,gg⟩ w (.int .i32 ((m % 16:Nat):Int)) w:=
 (zP ae aY).to (by rw [aeL h])
end
section
variable {s:aa} {p:Nat}
theorem wR (h:p<s.length) (b3:(aJ (s.drop p)).2≠0) (bK:cn (s.drop p)=true):cn (s.drop (p+(aJ (s.drop p)).2))=true:=by
 rw [← List.drop_drop,← k1 (ib h) b3];exact bK
theorem Zs (h:p<s.length) (b3:(aJ (s.drop p)).2≠0) (e5:(l3 (aJ (s.drop p)).1:Int)≠0):∃ t,db (s.take (p+(aJ (s.drop p)).2))=db (s.take p)++t∧t.map j8 = [.int .u8 92,.int .u8 (l3 (aJ (s.drop p)).1:Int)]∧t.length=2:=by
 have bj:(aJ (s.drop p)).1<128:=by
  rcases Nat.lt_or_ge (aJ (s.drop p)).1 128 with h1 | h1
  ·exact h1
  rw [Hx h1] at e5;exact absurd rfl e5
 obtain⟨b,aS,Ke⟩:=mb (ib h) b3 bj;have hm:=TO (c:=b) (by rw [Ke];omega);rw [Ke] at hm;refine⟨iL b,by rw [wW,aS];simp [db],hm,?_⟩;have:=congrArg List.length hm;simpa using this
theorem Zt (h:p<s.length) (b3:(aJ (s.drop p)).2≠0) (e5:¬ (l3 (aJ (s.drop p)).1:Int)≠0) (bj:((aJ (s.drop p)).1:Int)<32):db (s.take (p+(aJ (s.drop p)).2))=db (s.take p) ++ [92,117,48,48,iI.getD ((aJ (s.drop p)).1 / 16) 0,iI.getD ((aJ (s.drop p)).1 % 16) 0]:=by
 obtain⟨b,aS,Ke⟩:=mb (ib h) b3 (by omega);have hm:=wV (c:=b) (by rw [Ke];omega);rw [if_pos (by omega),Ke] at hm;rw [wW,aS];simp only [db,List.map_cons,List.map_nil,List.flatten_cons,List.flatten_nil,hm];rfl
theorem Zu (h:p<s.length) (b3:(aJ (s.drop p)).2≠0) (e5:¬ (l3 (aJ (s.drop p)).1:Int)≠0) (bj:¬ ((aJ (s.drop p)).1:Int)<32):db (s.take (p+(aJ (s.drop p)).2))=db (s.take p)++jf (aJ (s.drop p)).1:=by
 rw [wW,qP (ib h) b3]
 congr 1
 rcases Nat.lt_or_ge (aJ (s.drop p)).1 128 with h1 | h1
 ·obtain⟨b,aS,Ke⟩:=mb (ib h) b3 h1;have hm:=wV (c:=b) (by rw [Ke];omega);rw [if_neg (by omega)] at hm;rw [aS];simp only [db,List.map_cons,List.map_nil,List.flatten_cons,List.flatten_nil,hm];rfl
 exact Cb (xi (ib h) b3 h1)
theorem Hr {w:World} {v:Value} {n q:Nat} {vs:List Value} {t:aa} (O:Own w 5 1 v n vs) (cf:db (s.take q)=db (s.take p)++t) (ck:n=(34::db (s.take p)).length+t.length) (lX:vs=((34::db (s.take p)).map uD).flatten++t.map j8):hK w v (34::db (s.take q)):=by
 refine O.same (by rw [ck,cf];simp;omega) ?_;rw [lX,cf];simp [dj]
end
def Cf (T:TypeId) (e:Int):List PanicEntry:=[{v:=.iface T (.agg #[.int .i64 e]),recovered:=false}]
def anZ (T:TypeId) (e:Int) (w:World):Ending→World→Prop
 | .panicked c,w'=>c=Cf T e∧w'=w
 | _,_=>False
structure vz (w:World) (g V:Nat) (u:Value) (b:aa):Prop where
 az:aF w g V [u]
 own:hK w u b
 ne:∀ x∈a1 u,x≠g
 len:b.length≤65536
def AA (w:World) (g V T:Nat) (u:Value) (r:Except Int aa):Ending→World→Prop
 | .returned _,w'=>∃ mU b,r = .ok b∧vz w' g V mU b∧Mod (g::a1 u) w w'∧∀ x∈a1 mU,x∈a1 u∨w.heap.size≤x
 | .panicked c,w'=>∃ e,r = .error e∧e≠0∧c=Cf T e∧Mod (g::a1 u) w w'
 | .outgrown,_=>False
structure kO (w0 w:World) (hR:Value) (g V:Nat) (u:Value) (b:aa):Prop where
 s9:vz w g V u b
 iV:∀ x∈a1 u,x∈a1 hR∨w0.heap.size≤x
 mod:Mod (g::a1 hR) w0 w
section
variable {w0 w IN w':World} {hR u gi x:Value} {g V T:Nat} {b t:aa} {r r1:Except Int aa} {c:List PanicEntry} {e:Int}
theorem vz.I (H:vz w g V u b) (k:Mod [] w w'):vz w' g V u b:=⟨H.az.I k,H.own.I k,H.ne,H.len⟩
theorem kO.init (H:vz w g V u b):kO w w u g V u b:=⟨H,fun x ae=>.inl ae,Mod.refl _ _⟩
theorem kO.I (H:kO w0 w hR g V u b) (k:Mod [] w w'):kO w0 w' hR g V u b:=⟨H.s9.I k,H.iV,H.mod.then k⟩
theorem kO.z8 (H:kO w0 w hR g V u b):∀ x∈g::a1 u,x∈g::a1 hR∨w0.heap.size≤x:=fun x ae=>by
 rcases List.mem_cons.1 ae with rfl | h
 ·exact .inl (by simp)
 exact(H.iV x h).imp (fun h=>by simp [h]) id
theorem kO.rep {d:D} {v:Value} (H:kO w0 w hR g V u b) (asp:ba (g::a1 hR) w0 d v):ba (g::a1 u) w d v:=ba.to H.mod (fun x ae=>ae) H.z8 d v asp
theorem kO.Lm {d:List D} {v:List Value} (H:kO w0 w hR g V u b) (asp:ao (g::a1 hR) w0 d v):ao (g::a1 u) w d v:=ao.to H.mod (fun x ae=>ae) H.z8 d v asp
theorem kO.ret (H:kO w0 w hR g V u b) (h:AA w g V T u r1 (.returned x) w'):∃ mU e8,r1 = .ok e8∧kO w0 w' hR g V mU e8∧Mod (g::a1 u) w w'∧∀ x∈a1 mU,x∈a1 u∨w.heap.size≤x:=by
 obtain⟨mU,e8,h1,aq,aU,bM⟩:=h;exact⟨mU,e8,h1,⟨aq,fun x ae=>(bM x ae).elim (H.iV x) (fun h=>.inr (Nat.le_trans H.mod.size h)),H.mod.trans' aU H.z8⟩,aU,bM⟩
theorem kO.panic (H:kO w0 w hR g V u b) (h:AA w g V T u r1 (.panicked c) w') (bq:∀ e,r1 = .error e→r = .error e):AA w0 g V T hR r (.panicked c) w':=by
 obtain⟨e,h1,b3,aq,aU⟩:=h;exact⟨e,bq e h1,b3,aq,H.mod.trans' aU H.z8⟩
theorem kO.fail (H:kO w0 w hR g V u b) (bq:r = .error e) (b3:e≠0:=by decide):AA w0 g V T hR r (.panicked (Cf T e)) w:=⟨e,bq,b3,rfl,H.mod⟩
theorem kO.fin (H:kO w0 w hR g V u b) (bq:r = .ok b):AA w0 g V T hR r (.returned x) w:=⟨u,b,bq,H.s9,H.mod,H.iV⟩
theorem kO.app {n:Nat} {vs:List Value} (H:kO w0 w hR g V u b) (eD:App w IN 5 1 u gi n vs) (k:Mod [g] IN w'):Mod (g::a1 hR) w0 w':=
 (H.mod.trans' eD.mod (fun x ae=>H.z8 x (by simp [ae]))).trans' k (fun x ae=>.inl (by simp at ae;simp [ae]))
theorem kO.aiV {n:Nat} {vs:List Value} (H:kO w0 w hR g V u b) (eD:App w IN 5 1 u gi n vs) (eS:hK IN gi (b++t)) (k:Mod [g] IN w') (B:aF w' g V [gi]) (cg:(b++t).length≤65536):kO w0 w' hR g V gi (b++t):=by
 have b1:∀ x∈a1 gi,x≠g:=fun x ae=>(eD.lZ x ae).elim (H.s9.ne x) (fun h e=>by have:=H.s9.az.lt;omega);refine⟨⟨B,eS.mod k (fun x ae hm=>b1 x ae (by simpa using hm)),b1,cg⟩,fun x ae=>?_,H.app eD k⟩;exact(eD.lZ x ae).elim (H.iV x) (fun h=>.inr (Nat.le_trans H.mod.size h))
structure vA (w:World) (g:Nat) (u:Value) (h W:Nat) (cells:List Value):Prop where
 az:aF w h W cells
 ne:h≠g
 FY:∀ x∈a1 u,x≠h
variable {h W:Nat} {cells:List Value}
theorem vA.I (K:vA w g u h W cells) (k:Mod [] w w'):vA w' g u h W cells:=⟨K.az.I k,K.ne,K.FY⟩
theorem vA.step (K:vA w g u h W cells) (k:Mod (g::a1 u) w w') (eo:∀ x∈a1 gi,x∈a1 u∨w.heap.size≤x):vA w' g gi h W cells:=
 ⟨K.az.mod k (fun ae=>by
  rcases List.mem_cons.1 ae with h1 | h1
  ·exact K.ne h1
  exact K.FY _ h1 rfl),K.ne,fun x ae=>(eo x ae).elim (K.FY x) (fun h e=>by have:=K.az.lt;omega)⟩
theorem vA.Qd (H:vz w g V u b) (B:aF w' h W cells) (iq:w.heap.size≤h):vA w' g u h W cells:=
 ⟨B,fun e=>by have:=H.az.lt;omega,fun x ae e=>by have:=H.own.lt x ae;omega⟩
end
def JV.plain (v:JV):Bool:=decide (0≤v.kind∧v.kind≤5)&&(decide (v.kind=1) || !v.is)&&(decide (v.kind=2)||decide (v.num=0))&&(decide (v.kind=3)||decide (v.str = []))&&(decide (v.kind=4)||decide (v.list.length=0))&&(decide (v.kind=5)||decide (v.map.length=0))
theorem JV.pN (v:JV):v.bare=(v.plain&&decide (-9007199254740991≤v.num∧v.num≤9007199254740991)):=by
 unfold JV.bare JV.plain;rw [Bool.eq_iff_iff];simp only [Bool.and_eq_true,Bool.or_eq_true,Bool.not_eq_true',decide_eq_true_eq,decide_eq_false_iff_not];constructor
 ·rintro⟨⟨⟨⟨⟨⟨h1,aq⟩,aU⟩,bM⟩,cL⟩,eW⟩,kz⟩;refine⟨⟨⟨⟨⟨⟨h1,aq⟩,aU⟩,bM⟩,cL⟩,eW⟩,?_⟩;rcases kz with kz | kz
  ·rcases aU with aU | aU
   ·exact absurd aU kz
   omega
  exact kz
 rintro⟨⟨⟨⟨⟨⟨h1,aq⟩,aU⟩,bM⟩,cL⟩,eW⟩,kz⟩;exact⟨⟨⟨⟨⟨⟨h1,aq⟩,aU⟩,bM⟩,cL⟩,eW⟩,.inr kz⟩
section
variable {w w':World} {g:Nat} {u gi:Value} {ds:List D} {us:List Value} {A:List Nat}
theorem ao.I (asp:ao A w ds us) (k:Mod [] w w'):ao A w' ds us:=asp.bB k
theorem ao.wS (asp:ao (g::a1 u) w ds us) (k:Mod (g::a1 u) w w') (eo:∀ x∈a1 gi,x∈a1 u∨w.heap.size≤x):ao (g::a1 gi) w' ds us:=
 ao.to k (fun x ae=>ae) (fun x ae=>by
  rcases List.mem_cons.1 ae with rfl | h
  ·exact .inl (by simp)
  exact(eo x h).imp (fun h=>by simp [h]) id) ds us asp
end
theorem abd {l:List JV} {k deep:Nat} {x:JV} {b:aa} {W:Except Int aa} (ae:l[k]? = some x) (hinv:JV.hL (l.drop k) deep (decide (k=0)) b=W) :
  ((if k=0 then Except.ok b else cu (b ++ [44])).bind fun b=>(JV.wr x (deep+1) b).bind fun b=>JV.hL (l.drop (k+1)) deep (decide (k+1=0)) b)=W:=by
 rw [Lf ae] at hinv
 rw [show decide (k+1=0)=false by simp,← hinv]
 by_cases h:k=0 <;> simp [h]
def wT (m:List (aa×JV)) (k:Nat) (x:aa×JV):Bool:=match hS m k with
 | none=>true
 | some q=>eR q x.1
theorem Hw {m:List (aa×JV)} {k:Nat} {x:aa×JV} (h:k=0):wT m k x=true:=by subst h;rfl
theorem wU {m:List (aa×JV)} {k:Nat} {x q:aa×JV} (e5:m[k-1]? = some q) (b3:0<k):wT m k x=eR q.1 x.1:=by
 unfold wT hS;rw [if_neg (by omega),e5];rfl
theorem abe {m:List (aa×JV)} {k deep:Nat} {x:aa×JV} {b:aa} {W:Except Int aa} (ae:m[k]? = some x) (hinv:JV.fk (m.drop k) deep (hS m k) b=W) :
  ((if k=0 then Except.ok b else cu (b ++ [44])).bind fun b=>(if wT m k x then Except.ok b else Except.error 1).bind fun b=>(fb b x.1).bind fun b=>(cu (b ++ [58])).bind fun b=>(JV.wr x.2 (deep+1) b).bind fun b=>JV.fk (m.drop (k+1)) deep (hS m (k+1)) b)=W:=by
 by_cases h:k=0
 ·rw [Hw h,if_pos h]
  exact yV ae h hinv
 obtain⟨q,e5⟩:∃ q,m[k-1]? = some q:=⟨_,List.getElem?_eq_getElem (by have:=(List.getElem?_eq_some_iff.1 ae).1;omega)⟩
 have:=BZ ae e5 (by omega) hinv
 rw [wU e5 (by omega),if_neg h,← this]
 cases cu (b ++ [44]) <;> rfl
theorem JV.qQ {v:JV} (h:v.bare=true):0≤v.kind∧v.kind≤5:=by
 unfold JV.bare at h;simp only [Bool.and_eq_true,decide_eq_true_eq] at h;omega
section
variable {P:Program} {ops:Array Oper} {Q:Exit→Act→World→Prop} {n:Nat} {ds:List Deferred} {l:List (Nat×Value)} {w w':World}
variable {rest:List Oper} {d:Nat} {op:Op} {ty:TypeId} {pos:String} {af:Array Edge} {x y:Operand} {t t':TypeId} {dd:Option Nat} {gg:Option (Nat×Bool)}
theorem aeE (hi:P.underlying t=some (.interface (P.methodsAt t))) (ae:a6 l x=some .nilIface):bG P l ⟨dd,.binOp .eql t x (.const .nilIface) t',ty,pos,af,gg⟩ w (.bool true) w:=fun ρ h=>by
 have h1:ρ (.const .nilIface) = .nilIface:=h _ _ rfl;have dA:eqGuard .eql t x (.const .nilIface) .nilIface .nilIface=pure ():=by cases x <;> rfl
 simp [execOp,h _ _ ae,h1,binOp,dA,run_equal_nil_nil w t hi]
theorem aeF {T:TypeId} {v:Value} (hi:P.underlying t=some (.interface (P.methodsAt t))) (ae:a6 l x=some (.iface T v)):bG P l ⟨dd,.binOp .eql t x (.const .nilIface) t',ty,pos,af,gg⟩ w (.bool false) w:=fun ρ h=>by
 have h1:ρ (.const .nilIface) = .nilIface:=h _ _ rfl;have dA:eqGuard .eql t x (.const .nilIface) (.iface T v) .nilIface=pure ():=by rfl
 simp [execOp,h _ _ ae,h1,binOp,dA,run_equal_held_nil w t _ _ hi]
theorem LC {T t0:TypeId} {v:Value} {d0:TypeDesc} (jG:P.underlying T=some d0) (ck:(match d0 with | .interface _=>false | _=>true)=true) (ae:a6 l x=some (.iface T v)):bG P l ⟨dd,.typeAssert x t0 T true,ty,pos,af,gg⟩ w (.tuple #[v,.bool true]) w:=fun ρ h=>by
 cases d0 <;> first | (simp at ck;done) | simp [execOp,Instr.typeAssert,h _ _ ae,run_underlying jG]
theorem Gw {fn:Fn} {us vs:Array Value} {gV:Array TypeId} (ae:a6 l x=some (.func fn us vs)) (h:ga P ops Q rest n ({target:=.fn fn vs,args:=us}::ds) l w) :
  ga P ops Q (⟨none,.defer {callee:=.value x,args:=#[],argTypes:=gV},ty,pos,af,none⟩::rest) n ds l w:=by
 intro a ay
 refine wpList_plain rfl fun K p5=>?_
 have bq:(execOp a.eval ⟨none,.defer {callee:=.value x,args:=#[],argTypes:=gV},ty,pos,af,none⟩).run P w = .ok (.defer {target:=.fn fn vs,args:=us}) w:=by
  simp [execOp,resolve,ay.rD ae,Deferred.ofValue]
 simp only [Oper.wp,bq,Oper.upon]
 exact p5 _ _ (h _ ⟨ay.size,by simp [Act.put,ay.defers],ay.get⟩)
theorem LK {f:FuncId} {fn:Func} {c:Code} {vs:List Value} {asp:Ending→World→Prop} (dI:P.funcs[f]? = some fn) (aS:fn.body=some c) (ck:fn.ntmps=n) (hle:Nat.ble vs.length n=true) (bf:Sub (tk 0 vs) l)
  (h:p3 P c (bodyPostD P fn asp) n [] l w):Calls P f vs.toArray w asp:=by
 have aaR:vs.length≤n:=by simpa using hle
 have ay:Has n [] (tk 0 vs) {tmps:=vs.toArray++Array.replicate (fn.ntmps-vs.toArray.size) undef,defers:=[]}:=by
  refine⟨by rw [Array.size_append,Array.size_replicate,List.size_toArray,ck];omega,rfl,fun t v bK=>?_⟩
  obtain⟨_,aq⟩:=sR vs 0 t v bK
  rw [Nat.sub_zero] at aq
  have bJ:=(List.getElem?_eq_some_iff.1 aq).1
  dsimp only
  rw [Array.getElem?_append_left (by simpa using bJ)]
  simpa using aq
 exact calls_of_wp_defers dI aS (h _ (ay.sub bf))
theorem tp {ap1:Exit→Act→List Frame→World→Prop} {cs:List Frame} (kA:¬ LetsOut Q) (e5:∀ e a w,Q e a w→ap1 e a cs w) :
  ∀ (m:List Oper) (k:Nat),(∀ j,m[j]? = ops[k+j]?)→∀ a w,wpList P ops Q m a w→wpOpsS P ops ap1 (List.range' k m.length) a cs w
 | [],k,_,a,w,h=>e5 _ _ _ h
 | o::m,k,d',a,w,h=>by
  have dK:=tp kA e5 m (k+1) (fun j=>by have:=d' (j+1);simpa [Nat.add_assoc,Nat.add_comm 1 j] using this)
  have b3:ops[k]? = some o:=by simpa using (d' 0).symm
  simp only [List.length_cons,List.range'_succ,wpOpsS,b3]
  simp only [wpList] at h
  by_cases hw:Region.wanted o (yielded ops a.tmps)=true
  rotate_left
  ·simp only [hw,if_false,Bool.false_eq_true] at h ⊢
   exact dK _ _ h
  simp only [hw,if_true] at h ⊢
  rcases h with h | h
  rotate_left
  ·exact absurd h.2 kA
  simp only [Oper.wp] at h
  generalize bq:(execOp a.eval o).run P w=r at h
  split
  ·rename_i aB
   simp only [Oper.upon] at h
  rename_i MV b1
  match r,h with
  | .ok (.value v) aB,h=>exact dK _ _ h
  | .ok .skip aB,h=>exact dK _ _ h
  | .ok (.defer dd) aB,h=>exact dK _ _ h
  | .ok (.enter f args) aB,h=>
   refine Calls.mono h fun e cN he=>?_
   cases e with
   | returned v=>exact dK _ _ he
   | panicked c=>exact e5 _ _ _ he
   | outgrown=>exact absurd he kA
  | .ok (.row rw args) aB,h=>exact Rows.mono h fun v cN he=>dK _ _ he
  | .halt (.panic v) aB,h=>exact e5 _ _ _ h
def aeM (u:FrameMode) (v:Value) (gi:FrameMode):Prop:=
 (u = .returning∧v = .nilIface∧gi = .returning)∨(u = .panicking [{v:=v,recovered:=false}]∧gi = .panicking [{v:=v,recovered:=true}])
theorem qW {f:FuncId} {fn:Func} {id:Nat} {y:Code} {vs:List Value} {u gi:FrameMode} {v:Value} {asp:Ending→FrameMode→World→Prop}
  (dI:P.funcs[f]? = some fn) (aS:fn.body=some (.seq (.region id ops false) y)) (ck:fn.ntmps=n) (hle:Nat.ble vs.length n=true) (bf:Sub (tk 0 vs) l)
  (eo:ops.toList=⟨some d,.call {callee:=.builtin .recover,args:=#[],argTypes:=#[]},ty,pos,af,none⟩::rest) (bY:Nat.blt d n=true) (hu:aeM u v gi) (abf:∀ u w,¬ asp .outgrown u w)
  (h:∀ K:Act→World→Prop,(∀ n ds l w,p3 P y (bodyPost P fn fun e w=>asp e gi w) n ds l w→∀ a,Has n ds l a→K a w)→ga P ops (Exit.then K (bodyPost P fn fun e w=>asp e gi w)) rest n [] ((d,v)::l) w):CallsD P f vs.toArray u w asp:=by
 have aaR:vs.length≤n:=by simpa using hle
 have ay:Has n [] (tk 0 vs) {tmps:=vs.toArray++Array.replicate (fn.ntmps-vs.toArray.size) undef,defers:=[]}:=by
  refine⟨by rw [Array.size_append,Array.size_replicate,List.size_toArray,ck];omega,rfl,fun t v bK=>?_⟩
  obtain⟨_,aq⟩:=sR vs 0 t v bK
  rw [Nat.sub_zero] at aq
  have bJ:=(List.getElem?_eq_some_iff.1 aq).1
  dsimp only
  rw [Array.getElem?_append_left (by simpa using bJ)]
  simpa using aq
 refine callsD_of_wpS dI aS fun AE cs bj=>wpS_seq (wpS_region ?_)
 have im:ops.size=rest.length+1:=by rw [← Array.length_toList,eo];rfl
 have b3:ops[0]? = some ⟨some d,.call {callee:=.builtin .recover,args:=#[],argTypes:=#[]},ty,pos,af,none⟩:=by rw [← Array.getElem?_toList,eo];rfl
 have hm:∃ cs',cs' = {AE with mode:=gi}::cs∧((recoverD (AE::cs)=some (v,cs'))∨(recoverD (AE::cs)=none∧v = .nilIface∧cs'=AE::cs)):=by
  refine⟨_,rfl,?_⟩
  rcases hu with⟨h1,aq,aU⟩ | ⟨h1,aq⟩
  ·refine .inr ⟨by simp [recoverD,bj,h1],aq,?_⟩
   rw [aU,← h1,← bj]
  exact .inl (by subst aq;simp [recoverD,bj,h1])
 obtain⟨cs',tI,hm⟩:=hm
 have key:=h (fun a w=>y.wp P (bodyPost P fn fun e w=>asp e gi w) a w) (fun n ds l w aY a ay=>aY a ay) _ ((ay.sub bf).put bY v)
 have kA:¬ LetsOut (Exit.then (fun a w=>y.wp P (bodyPost P fn fun e w=>asp e gi w) a w) (bodyPost P fn fun e w=>asp e gi w)):=by
  rintro⟨a,w,h⟩
  exact abf _ _ h
 have CE:∀ e a w,bodyPost P fn (fun e w=>asp e gi w) e a w→bodyPostS P fn AE cs asp e a cs' w:=by
  intro e a w e5
  cases e with
  | normal=>obtain⟨h1,v,aq,aU⟩:=e5;exact⟨h1,gi,tI,v,aq,aU⟩
  | ret=>obtain⟨h1,v,aq,aU⟩:=e5;exact⟨h1,gi,tI,v,aq,aU⟩
  | panic c=>obtain⟨h1,aU⟩:=e5;exact⟨h1,gi,tI,aU⟩
  | outgrown=>exact absurd e5 (abf _ _)
  | exit i=>exact e5.elim
  | goto i=>exact e5.elim
 have yH:∀ e a w,Exit.then (fun a w=>y.wp P (bodyPost P fn fun e w=>asp e gi w) a w) (bodyPost P fn fun e w=>asp e gi w) e a w→Exit.thenS (y.wpS P (bodyPostS P fn AE cs asp)) (bodyPostS P fn AE cs asp) e a cs' w:=by
  intro e a w e5
  cases e with
  | normal=>exact wpS_of_wp (Code.wp_mono CE e5)
  | ret=>exact CE .ret a w e5
  | panic c=>exact CE (.panic c) a w e5
  | outgrown=>exact CE .outgrown a w e5
  | exit i=>exact CE (.exit i) a w e5
  | goto i=>exact CE (.goto i) a w e5
 have p0:=tp (ops:=ops) kA yH rest 1 (fun j=>by rw [← Array.getElem?_toList,eo,Nat.add_comm];rfl) _ _ key
 rw [im,List.range_eq_range',List.range'_succ]
 simp only [wpOpsS,b3,Region.wanted,if_true]
 have bq:(execOp (Act.eval {tmps:=vs.toArray++Array.replicate (fn.ntmps-vs.toArray.size) undef,defers:=[]}) ⟨some d,.call {callee:=.builtin .recover,args:=#[],argTypes:=#[]},ty,pos,af,none⟩).run P w = .ok .recover w:=by
  simp [execOp,resolve,invoke,builtin]
 simp only [bq]
 rcases hm with hm | ⟨hm,bK,zG⟩
 ·rw [hm]
  exact p0
 rw [hm]
 subst bK
 rw [← zG]
 exact p0
variable {fn:Func} {asp:Ending→World→Prop} {u:FrameMode}
theorem D0 (h:∀ a,Has n ds l a→Leaves P fn a.tmps asp ds .returning w):fI (bodyPostD P fn asp) .ret n ds l w:=fun a ay=>by
 show Leaves P fn a.tmps asp a.defers .returning w;rw [ay.defers];exact h a ay
theorem wE {c:List PanicEntry} (h:∀ a,Has n ds l a→Leaves P fn a.tmps asp ds (.panicking c) w):fI (bodyPostD P fn asp) (.panic c) n ds l w:=fun a ay=>by
 show Leaves P fn a.tmps asp a.defers (.panicking c) w;rw [ay.defers];exact h a ay
theorem sa {k:FuncId} {cap tmps:Array Value} {DV:Ending→FrameMode→World→Prop} (hu:u≠.run) (e4:aQ P k) (bj:CallsD P k cap u w DV)
  (h:∀ e mU w',DV e mU w'→∃ v,e = .returned v∧settle mU = .returning∧∃ r,(results fn tmps).run P w' = .ok r w'∧asp (.returned r) w'):Leaves P fn tmps asp [{target:=.fn (.func k) cap,args:=#[]}] u w:=by
 refine leaves_cons hu (f:=k) (args:=cap) ?_ (bj.mono fun e mU w' he=>?_)
 ·have:=e4 cap w
  simpa [invoke] using this
 obtain⟨v,rfl,aq,r,aU,bM⟩:=h e mU w' he
 dsimp only
 rw [aq]
 exact⟨r,aU,bM⟩
theorem xz {a:Act} {t t' T NK:Nat} {ad rT:Addr} {v v':Value} (ay:Has n ds l a) (bq:fn.results = #[.cell t T,.cell t' NK]) (cf:nM P T=true) (DY:nM P NK=true) (bK:i' t l=some (.pointer (some ad))) (qj:i' t' l=some (.pointer (some rT)))
  (bj:w.cell? ad=some v) (zG:w.cell? rT=some v'):(results fn a.tmps).run P w = .ok (.tuple #[v,v']) w:=by
 simp [results,bq,ay.get _ _ bK,ay.get _ _ qj,asAddr,kU cf bj,kU DY zG]
end
end Go.Proofs.YtnihidkbkhcfoaaGreatDoor.V
