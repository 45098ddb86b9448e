/-
  A part of the proof: members by rising keys: found, put, in plain Lean; JSON values in memory: their cells, the rows of their lists and maps; how much a JSON value weighs, whether its keys rise, whether two are the same, in plain Lean; members put into a map: rows of seven cells; runes, texts between quotes, canonical texts of JSON values, as the document tells them, in plain Lean; runes, step by step; the model's reading of a rune, and the document's: the same; the rest of a slice of the call's own is cleared; a drawn region's end with two slots of which something is known; a text between quotes, byte by byte; errors' numbers; bytes that grow behind one another while a JSON value is read: what is kept from step to step; panics that go through a call; a range over a string; bits of bytes; the letter behind a backslash; a text between quotes, rune by rune; the operations that make the bytes of a rune; a text between quotes, rune by rune: what each round adds; a writer in memory: what its functions leave, whether they return or panic; the writing of lists and maps, step by step; a deferred function that recovers; what a function with one leaves. No condition of its own.
-/
import Derived.Test.YtnihidkbkhcfoaaGreatDoorM1
import Derived.Lib.ItoaLen
import Derived.Laws.RangeString
import Derived.WalkSmall
import Derived.Recover
import Derived.WideLaws
set_option linter.unusedVariables false
set_option linter.unusedSimpArgs false
namespace Go.Proofs.YtnihidkbkhcfoaaGreatDoor.V
open Go
theorem tD:∀ a b:U,Lib.compareBytes a b=n1 a b
 | [],[]=>rfl
 | [],_::_=>by simp [Lib.compareBytes,n1,fA,Op.bytesLess]
 | _::_,[]=>by simp [Lib.compareBytes,n1,fA,Op.bytesLess]
 | x::a,y::b=>by
  have dh:=tD a b
  simp only [Lib.compareBytes]
  unfold n1 at dh ⊢
  by_cases h:x<y
  ·simp [h,fA,Op.bytesLess]
  by_cases fb:y<x
  ·have bS:x≠y:=fun e=>by subst e;exact h fb
   simp [h,fb,fA,Op.bytesLess,bS]
  have ah8:x=y:=UInt8.le_antisymm (UInt8.not_lt.1 fb) (UInt8.not_lt.1 h)
  subst ah8
  simp [fA,Op.bytesLess]
  rw [dh]
section
variable {β:Type}
def cZ (m:List (U×β)):Prop:=m.Pairwise fun a b=>fA a.1 b.1=true
def look:List (U×β)→U→Option β
 | [],_=>none
 | p::r,k=>if p.1=k then some p.2 else look r k
def eK (m:List (U×β)) (k:U):Nat:=(m.filter fun p=>fA p.1 k).length
def dJ (m:List (U×β)) (k:U) (x:β):List (U×β):=m.filter (fun p=>fA p.1 k) ++ [(k,x)]++m.filter (fun p=>fA k p.1)
variable {m gR:List (U×β)} {k:U} {x:β}
theorem wi:eK m k≤m.length:=List.length_filter_le _ _
theorem v8 {i:Nat} (hi:i≤m.length) (h:∀ (j:Nat) (y:U×β),j<i→m[j]? = some y→fA y.1 k=true) (fb:∀ (j:Nat) (y:U×β),i≤j→m[j]? = some y→fA y.1 k=false):eK m k=i:=by
 rw [eK,ka (i:=i) h fb,List.length_take];omega
theorem pN {i j:Nat} {a b:U×β} (h:cZ m) (ax:m[i]? = some a) (aH:m[j]? = some b) (u9:i<j):fA a.1 b.1=true:=by
 obtain⟨h1,rfl⟩:=List.getElem?_eq_some_iff.1 ax;obtain⟨aj,rfl⟩:=List.getElem?_eq_some_iff.1 aH;exact List.pairwise_iff_getElem.1 h i j h1 aj u9
theorem hT (h:∀ (j:Nat) (y:U×β),m[j]? = some y→y.1≠k):look m k=none:=by
 induction m with
 | nil=>rfl
 | cons p r dh=>
  rw [look,if_neg (h 0 p rfl)];exact dh fun j y aR=>h (j+1) y (by simpa using aR)
theorem Jg {i:Nat} {y:U×β} (h:∀ (j:Nat) (z:U×β),j<i→m[j]? = some z→z.1≠k) (aR:m[i]? = some y) (hk:y.1=k):look m k=some y.2:=by
 induction m generalizing i with
 | nil=>simp at aR
 | cons p r dh=>
  cases i with
  | zero=>simp at aR;subst aR;rw [look,if_pos hk]
  | succ i=>
   rw [look,if_neg (h 0 p (by omega) rfl)];exact dh (i:=i) (fun j z dG cO=>h (j+1) z (by omega) (by simpa using cO)) (by simpa using aR)
theorem zl (h:cZ m):(∀ j y,j<eK m k→m[j]? = some y→fA y.1 k=true)∧(∀ j y,eK m k≤j→m[j]? = some y→fA y.1 k=false):=by
 induction m with
 | nil=>simp
 | cons p r dh=>
  obtain⟨h1,aj⟩:=dh (List.Pairwise.of_cons h)
  by_cases ab:fA p.1 k=true
  ·have bJ:eK (p::r) k=eK r k+1:=by simp [eK,ab]
   rw [bJ];refine⟨fun j y dG aR=>?_,fun j y dG aR=>?_⟩
   ·cases j with
    | zero=>simp at aR;subst aR;exact ab
    | succ j=>exact h1 j y (by omega) (by simpa using aR)
   cases j with
   | zero=>omega
   | succ j=>exact aj j y (by omega) (by simpa using aR)
  have jK:∀ (j:Nat) (y:U×β),(p::r)[j]? = some y→fA y.1 k=false:=fun j y aR=>by
   cases BM:fA y.1 k with
   | false=>rfl
   | true=>
    cases j with
    | zero=>simp at aR;subst aR;exact absurd BM ab
    | succ j=>exact absurd (fo (pN h (i:=0) rfl aR (by omega)) BM) ab
  have bJ:eK (p::r) k=0:=v8 (by omega) (fun j y dG=>by omega) (fun j y _ aR=>jK j y aR);rw [bJ];exact⟨fun j y dG=>by omega,fun j y _ aR=>jK j y aR⟩
theorem vF {y:U×β} (h:cZ m) (aR:m[eK m k]? = some y) (bJ:y.1=k):look m k=some y.2∧∀ x,dJ m k x=m.set (eK m k) (k,x):=by
 obtain⟨h1,aj⟩:=zl (k:=k) h;have bk:=(List.getElem?_eq_some_iff.1 aR).1;refine⟨Jg (fun j z dG cO e=>?_) aR bJ,fun x=>?_⟩
 ·have:=h1 j z dG cO;rw [e,cS] at this;cases this
 rw [dJ,ka h1 aj,l3 (i:=eK m k+1),List.set_eq_take_append_cons_drop,if_pos bk]
 ·simp
 ·intro j z dG cO;rcases Nat.lt_succ_iff_lt_or_eq.1 dG with dG | dG
  ·exact mb (h1 j z dG cO)
  subst dG;rw [aR] at cO;injection cO with cO
  subst cO;rw [bJ,cS]
 intro j z dG cO;rw [← bJ];exact pN h aR cO (by omega)
theorem FK (h:cZ m) (bW:∀ y:U×β,m[eK m k]? = some y→y.1≠k):look m k=none∧∀ x,dJ m k x=m.take (eK m k) ++ [(k,x)]++m.drop (eK m k):=by
 obtain⟨h1,aj⟩:=zl (k:=k) h;have aF:∀ j z,eK m k≤j→m[j]? = some z→fA k z.1=true:=fun j z dG cO=>by
  have bk:=(List.getElem?_eq_some_iff.1 cO).1;obtain⟨y,aR⟩:∃ y,m[eK m k]? = some y:=⟨_,List.getElem?_eq_getElem (by omega)⟩;have BM:fA k y.1=true:=by
   rcases ou k y.1 with fb | fb | fb
   ·exact fb
   ·exact absurd fb.symm (bW y aR)
   rw [aj _ y (Nat.le_refl _) aR] at fb;cases fb
  rcases Nat.lt_or_ge (eK m k) j with sM | sM
  ·exact fo BM (pN h aR cO sM)
  have:j=eK m k:=by omega
  subst this;rw [aR] at cO;injection cO with cO
  subst cO;exact BM
 refine⟨hT fun j z cO e=>?_,fun x=>?_⟩
 ·rcases Nat.lt_or_ge j (eK m k)with dG | dG
  ·have:=h1 j z dG cO;rw [e,cS] at this;cases this
  have:=aF j z dG cO;rw [e,cS] at this;cases this
 rw [dJ,ka h1 aj,l3 (fun j z dG cO=>mb (h1 j z dG cO)) aF]
theorem aaX {i:Nat} (h:cZ m) (hi:eK m k=i) {y:U×β} (aR:m[i]? = some y):(look m k).isSome=decide (n1 y.1 k=0):=by
 subst hi
 by_cases bJ:y.1=k
 ·rw [(vF h aR bJ).1,decide_eq_true (xb.2 bJ)];rfl
 rw [(FK h fun z cO=>by rw [aR] at cO;injection cO with cO;subst cO;exact bJ).1,decide_eq_false (fun e=>bJ (xb.1 e))];rfl
theorem BO (h:cZ m) (hi:m.length≤eK m k):(look m k).isSome=false:=by
 rw [(FK h fun z cO=>by rw [List.getElem?_eq_none hi] at cO;cases cO).1];rfl
theorem qq (h:cZ m) (aN:(look m k).isSome=true):∃ y:U×β,m[eK m k]? = some y∧y.1=k∧look m k=some y.2:=by
 rcases Nat.lt_or_ge (eK m k) m.length with bk | eH
 ·obtain⟨y,aR⟩:∃ y,m[eK m k]? = some y:=⟨_,List.getElem?_eq_getElem bk⟩;rw [aaX h rfl aR] at aN;have bJ:=xb.1 (of_decide_eq_true aN);exact⟨y,aR,bJ,(vF h aR bJ).1⟩
 rw [BO h eH] at aN;cases aN
theorem Jh (h:cZ m) (aN:(look m k).isSome=false):∀ y:U×β,m[eK m k]? = some y→y.1≠k:=fun y aR bJ=>by
 rw [(vF h aR bJ).1] at aN;cases aN
theorem dF:∀ {m:List (U×β)} {x:β},look m k=some x→(k,x)∈m
 | p::r,x,h=>by
  rw [look] at h
  by_cases bJ:p.1=k
  ·rw [if_pos bJ] at h
   injection h with h
   subst bJ;subst h
   exact List.mem_cons_self ..
  rw [if_neg bJ] at h
  exact List.mem_cons_of_mem _ (dF h)
theorem mc:∀ {m:List (U×β)} {p:U×β},cZ m→p∈m→look m p.1=some p.2
 | q::r,p,h,bJ=>by
  rcases List.mem_cons.1 bJ with rfl | bJ
  ·rw [look,if_pos rfl]
  have:=List.rel_of_pairwise_cons h bJ
  rw [look,if_neg (fun e=>by rw [e,cS] at this;cases this)]
  exact mc (List.Pairwise.of_cons h) bJ
theorem oY:∀ {m:List (U×β)},look m k=none→∀ p∈m,p.1≠k
 | q::r,h,p,bJ=>by
  rw [look] at h
  by_cases eE:q.1=k
  ·rw [if_pos eE] at h;cases h
  rw [if_neg eE] at h
  rcases List.mem_cons.1 bJ with rfl | bJ
  ·exact eE
  exact oY h p bJ
theorem qI:∀ {m gR:List (U×β)},cZ m→cZ gR→(∀ k,look m k=look gR k)→m=gR
 | [],[],_,_,_=>rfl
 | [],p::r,_,fb,e=>by have:=e p.1;rw [mc fb (List.mem_cons_self ..)] at this;cases this
 | p::r,[],h,_,e=>by have:=e p.1;rw [mc h (List.mem_cons_self ..)] at this;cases this
 | p::r,Ji::Vd,h,fb,e=>by
  have h1:=dF ((e p.1).symm.trans (mc h (List.mem_cons_self ..)))
  have aj:=dF ((e Ji.1).trans (mc fb (List.mem_cons_self ..)))
  have hk:p.1=Ji.1:=by
   rcases List.mem_cons.1 h1 with aF | aF
   ·rw [← aF]
   rcases List.mem_cons.1 aj with bn | bn
   ·rw [← bn]
   have a:=List.rel_of_pairwise_cons fb aF
   have b:=List.rel_of_pairwise_cons h bn
   have:=fo a b
   rw [cS] at this
   cases this
  have rS:p=Ji:=by
   have yZ:=e p.1
   rw [look,if_pos rfl,look,if_pos hk.symm] at yZ
   injection yZ with yZ
   exact Prod.ext hk yZ
  subst rS
  congr 1
  refine qI (List.Pairwise.of_cons h) (List.Pairwise.of_cons fb) fun k=>?_
  by_cases LG:p.1=k
  ·subst LG
   have qy:∀ {r:List (U×β)},cZ (p::r)→look r p.1=none:=fun bf=>hT fun j y aR e=>by
    have:=List.rel_of_pairwise_cons bf (List.mem_of_getElem? aR)
    rw [e,cS] at this
    cases this
   rw [qy h,qy fb]
  have yZ:=e k
  rwa [look,if_neg LG,look,if_neg LG] at yZ
theorem sN {q:U×β→Bool} (h:cZ m):cZ (m.filter q):=List.Pairwise.filter q h
theorem oe (h:cZ m):cZ (dJ m k x):=by
 unfold dJ cZ;rw [List.append_assoc,List.pairwise_append];refine⟨sN h,?_,?_⟩
 ·rw [List.pairwise_append];refine⟨by simp,sN h,?_⟩;intro a ax b aH;simp at ax;subst ax;simpa using (List.mem_filter.1 aH).2
 intro a ax b aH;have h1:fA a.1 k=true:=by simpa using (List.mem_filter.1 ax).2
 rcases List.mem_append.1 aH with aH | aH
 ·simp at aH;subst aH;exact h1
 exact fo h1 (by simpa using (List.mem_filter.1 aH).2)
theorem l4:∀ {a b:List (U×β)},look (a++b) k=(look a k).or (look b k)
 | [],b=>by simp [look]
 | p::r,b=>by
  simp only [List.cons_append,look]
  by_cases bJ:p.1=k
  ·simp [bJ]
  simp [bJ,l4 (a:=r) (b:=b)]
theorem hF {q:U×β→Bool} {b:Bool} (eE:∀ p∈m,p.1=k→q p=b):look (m.filter q) k=if b then look m k else none:=by
 induction m with
 | nil=>simp [look]
 | cons p r dh=>
  have dh:=dh fun Ji rY=>eE Ji (List.mem_cons_of_mem _ rY);have bJ:=eE p (List.mem_cons_self ..)
  by_cases hk:p.1=k
  ·have:=bJ hk;cases b
   ·rw [List.filter_cons_of_neg (by simp [this]),dh];rfl
   rw [List.filter_cons_of_pos this,look,if_pos hk,if_pos rfl,look,if_pos hk]
  by_cases WR:q p=true
  ·rw [List.filter_cons_of_pos WR,look,if_neg hk,dh,look,if_neg hk]
  rw [List.filter_cons_of_neg WR,dh,look,if_neg hk]
theorem y' {jH:U}:look (dJ m k x) jH=if jH=k then some x else look m jH:=by
 unfold dJ;rw [l4,l4]
 by_cases h:jH=k
 ·subst h;rw [hF (b:=false) (fun p _ e=>by rw [e,cS])];simp [look]
 rw [if_neg h];have h1:look [(k,x)] jH=none:=by simp [look,Ne.symm h]
 rw [h1,Option.or_none];rcases ou jH k with aj | aj | aj
 ·rw [hF (b:=true) (fun p _ e=>by rw [e];exact aj),hF (b:=false) (fun p _ e=>by rw [e];exact mb aj)];simp
 ·exact absurd aj h
 rw [hF (b:=false) (fun p _ e=>by rw [e];exact mb aj),hF (b:=true) (fun p _ e=>by rw [e];exact aj)];simp
end
section
variable {A:List Nat} {w w':World}
theorem Addr.yM (a:Addr) (i j:Nat):(a.add i).add j=a.add (i+j):=by
 unfold Addr.add
 by_cases h:i=0 <;> by_cases fb:j=0 <;> simp [h,fb,Nat.add_assoc]
theorem pd.vW {a:Addr} {v:Value} {vs:List Value} (h:pd w a (v::vs)):pd w (a.add 1) vs:=fun j u hu=>by
 have:=h (j+1) u (by simpa using hu)
 rwa [Addr.yM,Nat.add_comm 1 j]
theorem JV.bc {v:JV} {us:List Value} (apv:ak A w v.D us):∃ al cl am cm,us = [.int .i64 v.kind,.bool v.is,.int .i64 v.num,S v.str,.slice al v.list.length cl,.slice am v.map.length cm]∧
  aS A w (.iW 6 (v.list.map JV.D)) (.slice al v.list.length cl)∧aS A w (.iW 7 (v.map.map JV.hG)) (.slice am v.map.length cm):=by
 rw [JV.Hi] at apv
 obtain⟨_,_,rfl,h1,apv⟩:=apv
 obtain⟨_,_,rfl,aj,apv⟩:=apv
 obtain⟨_,_,rfl,aF,apv⟩:=apv
 obtain⟨_,_,rfl,bn,apv⟩:=apv
 obtain⟨_,_,rfl,ch,apv⟩:=apv
 obtain⟨_,_,rfl,eB,apv⟩:=apv
 obtain rfl:=apv
 obtain rfl:=h1.ku
 obtain rfl:=aj.ku
 obtain rfl:=aF.ku
 obtain rfl:=bn.ku
 obtain⟨al,cl,rfl,_⟩:=ch.Ab
 obtain⟨am,cm,rfl,_⟩:=eB.Ab
 rw [List.length_map] at ch eB ⊢
 rw [List.length_map]
 exact⟨al,cl,am,cm,rfl,ch,eB⟩
theorem JV.b6 {v:JV} {al am:Option Addr} {cl cm:Nat} (kq:aS A w (.iW 6 (v.list.map JV.D)) (.slice al v.list.length cl)) (jh:aS A w (.iW 7 (v.map.map JV.hG)) (.slice am v.map.length cm)) :
  ak A w v.D [.int .i64 v.kind,.bool v.is,.int .i64 v.num,S v.str,.slice al v.list.length cl,.slice am v.map.length cm]:=by
 rw [JV.Hi]
 exact ak.fL (aS.cC rfl) (ak.fL (aS.cC rfl) (ak.fL (aS.cC rfl) (ak.fL (aS.cC rfl) (ak.fL kq (ak.fL jh ak.lN)))))
theorem JV.rp {l:List JV} {ad:Option Addr} {n c:Nat} (apv:aS A w (.iW 6 (l.map JV.D)) (.slice ad n c)):l.length=n∧n≤c∧c≤9223372036854775807:=by
 obtain⟨we,c',h1,aj,aF⟩:=apv.Ab;injection h1 with bn ch eB
 rw [List.length_map] at ch aj;omega
theorem JV.lv {m:List (U×JV)} {ad:Option Addr} {n c:Nat} (apv:aS A w (.iW 7 (m.map JV.hG)) (.slice ad n c)):m.length=n∧n≤c∧c≤9223372036854775807:=by
 obtain⟨we,c',h1,aj,aF⟩:=apv.Ab;injection h1 with bn ch eB
 rw [List.length_map] at ch aj;omega
theorem JV.BI {l:List JV} {x:JV} {ad:Option Addr} {n c i:Nat} (apv:aS A w (.iW 6 (l.map JV.D)) (.slice ad n c)) (h:l[i]? = some x):∃ a us,ad=some a∧ak A w x.D us∧pd w (a.add (i*6)) us:=by
 obtain⟨a,us,h1,aj,_,aF,_⟩:=aS.at_ (i:=i) (r:=x.D) apv (by simp [h]);exact⟨a,us,h1,aj,aF⟩
theorem JV.nZ {m:List (U×JV)} {p:U×JV} {ad:Option Addr} {n c i:Nat} (apv:aS A w (.iW 7 (m.map JV.hG)) (.slice ad n c)) (h:m[i]? = some p):∃ a us,ad=some a∧ak A w p.2.D us∧pd w (a.add (i*7)) (S p.1::us):=by
 obtain⟨a,us,h1,aj,_,aF,_⟩:=aS.at_ (i:=i) (r:=JV.hG p) apv (by simp [h]);obtain⟨u,gH,rfl,bn,ch⟩:=aj;obtain rfl:=bn.ku;exact⟨a,gH,h1,ch,aF⟩
def JV.fQ:JV:=.mk 0 false 0 [] [] []
theorem JV.gp:ak A w JV.fQ.D [.int .i64 0,.bool false,.int .i64 0,S [],.slice none 0 0,.slice none 0 0]:=by
 have:=JV.b6 (A:=A) (w:=w) (v:=JV.fQ) (al:=none) (am:=none) (cl:=0) (cm:=0) aS.dI aS.dI;exact this
theorem JV.cells_one {v:JV} {us:List Value} (apv:ak A w v.D us):us.length=6∧∀ u∈us,u.oneCell'=true:=⟨by rw [apv.length,JV.rF],apv.one⟩
theorem JV.oZ (m:List (U×JV)):∀ r∈m.map JV.hG,r.length=7:=by
 intro r bf;obtain⟨p,_,rfl⟩:=List.mem_map.1 bf;exact JV.vx p
theorem JV.fB {p:U×JV} {us:List Value} (apv:ak A w p.2.D us):ak A w (JV.hG p) (S p.1::us):=ak.fL (aS.cC rfl) apv
theorem p6 {sz:Nat}:∀ {rows:List (List D)},(∀ r∈rows,r.length=sz)→rows.flatten.length=rows.length*sz
 | [],_=>by simp
 | r::rs,h=>by
  rw [List.flatten_cons,List.length_append,h r (by simp),p6 fun Vd nJ=>h Vd (by simp [nJ]),List.length_cons,Nat.add_mul]
  omega
theorem ak.p7 {sz i:Nat} {rows:List (List D)} {vs:List Value} (bM:∀ r∈rows,r.length=sz) (hi:i≤rows.length) (h:ak A w rows.flatten vs) :
  ak A w (rows.take i).flatten (vs.take (i*sz))∧ak A w (rows.drop i).flatten (vs.drop (i*sz)):=by
 have e:rows.flatten=(rows.take i).flatten++(rows.drop i).flatten:=by rw [← List.flatten_append,List.take_append_drop]
 rw [e] at h
 have:=h.cut
 rwa [p6 fun r bf=>bM r (List.mem_of_mem_take bf),List.length_take,Nat.min_eq_left hi] at this
theorem JV.H9 {m:List (U×JV)} {p:U×JV} {vs us:List Value} {i:Nat} (h:ak A w (m.map JV.hG).flatten vs) (hi:i≤m.length) (bJ:ak A w (JV.hG p) us) :
  ak A w ((m.take i ++ [p]++m.drop i).map JV.hG).flatten (vs.take (i*7)++us++vs.drop (i*7)):=by
 obtain⟨h1,aj⟩:=ak.p7 (i:=i) (JV.oZ m) (by simpa using hi) h
 rw [List.map_append,List.map_append,List.flatten_append,List.flatten_append,List.map_take,List.map_drop]
 refine(h1.append ?_).append aj
 simpa using bJ
theorem JV.Jj {m:List (U×JV)} {p:U×JV} {vs us:List Value} {i:Nat} (h:ak A w (m.map JV.hG).flatten vs) (hi:i<m.length) (bJ:ak A w (JV.hG p) us) :
  ak A w ((m.set i p).map JV.hG).flatten (vs.take (i*7)++us++vs.drop ((i+1)*7)):=by
 obtain⟨h1,_⟩:=ak.p7 (i:=i) (JV.oZ m) (by simpa using Nat.le_of_lt hi) h
 obtain⟨_,aj⟩:=ak.p7 (i:=i+1) (JV.oZ m) (by rw [List.length_map];omega) h
 rw [List.set_eq_take_append_cons_drop,if_pos hi,List.map_append,List.map_cons,List.flatten_append,List.flatten_cons,List.map_take,List.map_drop,List.append_assoc]
 exact h1.append (bJ.append aj)
theorem JV.w3 {m:List (U×JV)} {p:U×JV} {vs us:List Value} (h:ak A w (m.map JV.hG).flatten vs) (bJ:ak A w (JV.hG p) us):ak A w ((m ++ [p]).map JV.hG).flatten (vs++us):=by
 rw [List.map_append,List.flatten_append];refine h.append ?_;simpa using bJ
theorem Own.vR {e:Nat} {v:Value} {m:List (U×JV)} {n:Nat} {vs:List Value} (O:Own w e 7 v n vs) (h:ak A w (m.map JV.hG).flatten vs) (bW:m.length=n) (du:∀ x∈aL v,x∉A):aS A w (.iW 7 (m.map JV.hG)) v:=
 O.rep h (JV.oZ m) (by simpa using bW) du
variable {P:Program} {ops:Array Oper} {Q:Exit→Act→World→Prop} {n:Nat} {ds:List Deferred} {l:List (Nat×Value)}
variable {rest:List Oper} {ty:TypeId} {pos:String} {af:Array Edge} {x y:Operand}
theorem H7 {e sz N c p k:Nat} {ad:Addr} {vs us:List Value} {T:TypeId} (bQ:pJ P T k=true) (O:Own w e sz (.slice (some ad) N c) N vs) (ab:aT l x=some (.pointer (some (ad.add p)))) (aR:aT l y=some (.agg us.toArray)) (bM:us.length=k) (xc:∀ u∈us,u.oneCell'=true) (hi:p+k≤N*sz)
  (h:∀ w',Own w' e sz (.slice (some ad) N c) N (vs.take p++us++vs.drop (p+k))→Mod [ad.block] w w'→w'.heap.size=w.heap.size→fC P ops Q rest n ds l w') :
  fC P ops Q (⟨none,.store T x y,ty,pos,af,none⟩::rest) n ds l w:=by
 rcases O.2 with⟨bD,_⟩ | ⟨g,o,cap,cs,bw,dT,fi,gA,qZ,o0⟩
 ·cases bD
 injection bw with aV bs kk
 injection aV with aV
 subst aV;subst kk
 have zm:N*sz≤c*sz:=Nat.mul_le_mul_right _ fi
 have mv:=O.1
 rw [Addr.add_lit] at ab
 refine bd (vs:=us) bQ dT ab aR bM xc (by omega) fun w' bJ=>?_
 refine h w' ⟨?_,.inr ⟨g,o,c,_,rfl,bJ.aA,fi,gA,by simp [splice];omega,?_⟩⟩ bJ.mod bJ.size
 ·simp only [List.length_append,List.length_take,List.length_drop,bM,mv]
  omega
 subst o0
 apply List.ext_getElem?
 intro j
 simp only [splice,bM]
 simp only [List.getElem?_take,List.getElem?_drop,List.getElem?_append,List.length_append,List.length_take,List.length_drop,bM]
 repeat' split
 all_goals first
  | omega
  | rfl
  | (congr 1;omega)
  | skip
end
abbrev iA (z:Int):Int:=IntKind.i64.wrap z
namespace JV
mutual
def hW:JV→Int→Int→Int
 | .mk _ _ _ s l m,left,deep=>if deep=0 then -1 else h5 m (h4 l (iA (iA (left-1)-s.length)) (iA (deep-1))) (iA (deep-1))
def h4:List JV→Int→Int→Int
 | [],left,_=>left
 | v::r,left,d=>if left<0 then left else h4 r (v.hW left d) d
def h5:List (List UInt8×JV)→Int→Int→Int
 | [],left,_=>left
 | p::r,left,d=>if left<0 then left else h5 r (p.2.hW (iA (left-p.1.length)) d) d
end
theorem yL (v:JV) (left deep:Int):v.hW left deep=if deep=0 then -1 else h5 v.map (h4 v.list (iA (iA (left-1)-v.str.length)) (iA (deep-1))) (iA (deep-1)):=by
 cases v;simp only [hW,map,list,str]
theorem BJ {l:List JV} {z d:Int} (h:z<0):h4 l z d=z:=by
 cases l <;> simp [h4,h]
theorem uD {l:List (List UInt8×JV)} {z d:Int} (h:z<0):h5 l z d=z:=by
 cases l <;> simp [h5,h]
theorem Em {l:List JV} {k:Nat} {x:JV} {z d:Int} (ab:l[k]? = some x) (h:¬ z<0):h4 (l.drop k) z d=h4 (l.drop (k+1)) (x.hW z d) d:=by
 obtain⟨hk,rfl⟩:=List.getElem?_eq_some_iff.1 ab;rw [List.drop_eq_getElem_cons hk,h4,if_neg h]
theorem vV {l:List (List UInt8×JV)} {k:Nat} {x:List UInt8×JV} {z d:Int} (ab:l[k]? = some x) (h:¬ z<0):h5 (l.drop k) z d=h5 (l.drop (k+1)) (x.2.hW (iA (z-x.1.length)) d) d:=by
 obtain⟨hk,rfl⟩:=List.getElem?_eq_some_iff.1 ab;rw [List.drop_eq_getElem_cons hk,h5,if_neg h]
theorem BK {l:List JV} {k:Nat} {z d:Int} (h:l.length≤k):h4 (l.drop k) z d=z:=by
 rw [List.drop_eq_nil_of_le h,h4]
theorem uE {l:List (List UInt8×JV)} {k:Nat} {z d:Int} (h:l.length≤k):h5 (l.drop k) z d=z:=by
 rw [List.drop_eq_nil_of_le h,h5]
mutual
def fZ:JV→Prop
 | .mk _ _ _ _ l m=>cZ m∧xd l∧xe m
def xd:List JV→Prop
 | []=>True
 | v::r=>v.fZ∧xd r
def xe:List (List UInt8×JV)→Prop
 | []=>True
 | p::r=>p.2.fZ∧xe r
end
theorem xf:∀ {l:List JV},xd l↔∀ v∈l,v.fZ
 | []=>by simp [xd]
 | v::r=>by simp [xd,xf (l:=r)]
theorem xg:∀ {l:List (List UInt8×JV)},xe l↔∀ p∈l,p.2.fZ
 | []=>by simp [xe]
 | v::r=>by simp [xe,xg (l:=r)]
theorem lg (v:JV):v.fZ↔cZ v.map∧(∀ x∈v.list,x.fZ)∧∀ p∈v.map,p.2.fZ:=by
 cases v;simp only [fZ,map,list,xf,xg]
open Classical in
noncomputable def rises (v:JV):Bool:=decide v.fZ
open Classical in
noncomputable def n0 (a b:JV):Bool:=decide (a=b)
theorem sc {a b:JV}:n0 a b=true↔a=b:=by simp [n0]
theorem qs (a:JV):n0 a a=true:=by simp [n0]
theorem lW {a b:JV} (h:a≠b):n0 a b=false:=by simp [n0,h]
theorem KT {a b:JV} (h1:a.kind=b.kind) (aj:a.is=b.is) (aF:a.num=b.num) (bn:a.str=b.str) (ch:a.list=b.list) (eB:a.map=b.map):a=b:=by
 rw [eta a,eta b,h1,aj,aF,bn,ch,eB]
theorem v7 {α:Type} {a b:List α} (bM:a.length=b.length) (h:∀ (i:Nat) (x y:α),i<a.length→a[i]? = some x→b[i]? = some y→x=y):a=b:=by
 apply List.ext_getElem bM;intro i h1 aj;exact h i _ _ h1 (List.getElem?_eq_getElem h1) (List.getElem?_eq_getElem aj)
end JV
theorem Ez {n i:Nat} {vs news fP:List Value} (bw:vs.length=n*7) (bW:news.length=(n+1-i)*7) (aN:fP.length=7) (hi:i≤n) :
  ((vs.take (i*7)++news).take (i*7)++fP++(vs.take (i*7)++news).drop ((i+1)*7)).take ((i+1)*7)++(vs.drop (i*7)).take ((n-i)*7)++((vs.take (i*7)++news).take (i*7)++fP++(vs.take (i*7)++news).drop ((i+1)*7)).drop ((i+1+(n-i))*7)=vs.take (i*7)++fP++vs.drop (i*7):=by
 have h1:(vs.take (i*7)).length=i*7:=by rw [List.length_take];omega
 have aj:(vs.take (i*7)++news).take (i*7)=vs.take (i*7):=List.take_left' h1
 have aF:(vs.take (i*7)++fP).length=(i+1)*7:=by rw [List.length_append,h1,aN];omega
 rw [aj]
 have bn:((vs.take (i*7)++fP)++(vs.take (i*7)++news).drop ((i+1)*7)).take ((i+1)*7)=vs.take (i*7)++fP:=by rw [← aF];exact List.take_left
 have ch:((vs.take (i*7)++fP)++(vs.take (i*7)++news).drop ((i+1)*7)).drop ((i+1+(n-i))*7) = []:=List.drop_eq_nil_of_le (by rw [List.length_append,aF,List.length_drop,List.length_append,h1,bW];omega)
 have eB:(vs.drop (i*7)).take ((n-i)*7)=vs.drop (i*7):=List.take_of_length_le (by rw [List.length_drop];omega)
 rw [bn,ch,eB,List.append_nil]
theorem EA {n i:Nat} {vs h8 fP:List Value} (bw:vs.length=n*7) (od:h8.length=(n+1)*7) (bQ:h8.take (n*7)=vs) (aN:fP.length=7) (hi:i≤n) :
  (h8.take ((i+1)*7)++(h8.drop (i*7)).take ((n-i)*7)++h8.drop ((i+1+(n-i))*7)).take (i*7)++fP++(h8.take ((i+1)*7)++(h8.drop (i*7)).take ((n-i)*7)++h8.drop ((i+1+(n-i))*7)).drop ((i+1)*7)=vs.take (i*7)++fP++vs.drop (i*7):=by
 have h1:(h8.take ((i+1)*7)).length=(i+1)*7:=by rw [List.length_take];omega
 have aj:h8.drop ((i+1+(n-i))*7) = []:=List.drop_eq_nil_of_le (by omega)
 rw [aj,List.append_nil]
 congr 1
 ·congr 1
  rw [List.take_append_of_le_length (by omega),List.take_take,← bQ,List.take_take]
  congr 1
  omega
 rw [List.drop_left' h1,← bQ,List.drop_take]
 congr 1
 omega
theorem JV.z7 {A:List Nat} {w:World} {m:List (U×JV)} {n c:Nat} (apv:aS A w (.iW 7 (m.map JV.hG)) (.slice none n c)):m = []:=by
 cases m with
 | nil=>rfl
 | cons p r=>
  obtain⟨a,us,h,_⟩:=JV.nZ (i:=0) (p:=p) apv rfl;cases h
namespace JV
def get (v:JV) (k:U):Option JV:=if v.kind=5 then look v.map k else none
def ec (v:JV):List (U×JV):=if v.kind=5 then v.map else []
def obj (m:List (U×JV)):JV:=.mk 5 false 0 [] [] m
theorem yN {A:List Nat} {w:World} {m:List (U×JV)} {am:Option Addr} {cm:Nat} (apv:aS A w (.iW 7 (m.map hG)) (.slice am m.length cm)):ak A w (obj m).D [.int .i64 5,.bool false,.int .i64 0,S [],.slice none 0 0,.slice am m.length cm]:=
 b6 (v:=obj m) (al:=none) (cl:=0) aS.dI apv
end JV
theorem H6 {m:List (U×JV)} {k:U} {x:JV} (h:cZ m):(look m k).isSome=true→dJ m k x=m.set (eK m k) (k,x):=fun aN=>by
 obtain⟨y,aR,hk,_⟩:=qq h aN;exact(vF h aR hk).2 x
theorem H8 {m:List (U×JV)} {k:U} {x:JV} (h:cZ m):(look m k).isSome=false→dJ m k x=m.take (eK m k) ++ [(k,x)]++m.drop (eK m k):=fun aN=>(FK h (Jh h aN)).2 x
def j6:List UInt8→Nat→Option Nat
 | [],c=>some c
 | b::r,c=>if b.toNat<128∨192≤b.toNat then none else j6 r (c*64+b.toNat % 64)
def gj (c:Nat):Nat×Nat×Nat:=
 if 192≤c∧c<224 then (2,128,c % 32)else if 224≤c∧c<240 then (3,2048,c % 16)else if 240≤c∧c<248 then (4,65536,c % 8)else (0,0,c)
def aC (s:U):Nat×Nat:=match s with
 | []=>(0,0)
 | b::r=>if b.toNat<128 then (b.toNat,1)else
  if (gj b.toNat).1=0∨s.length<(gj b.toNat).1 then (0,0)else
   match j6 (r.take ((gj b.toNat).1-1)) (gj b.toNat).2.2 with
   | none=>(0,0)
   | some c=>if c<(gj b.toNat).2.1∨1114111<c∨(55296≤c∧c≤57343)then (0,0)else (c,(gj b.toNat).1)
theorem kD (s:U):(aC s).2≤s.length:=by
 unfold aC
 split
 ·simp
 rename_i b r
 split
 ·simp
 split
 ·simp
 rename_i h
 split
 ·simp
 split
 ·simp
 simp only;omega
def ck (s:U):Bool:=
 if h:s = [] then true else if bD:(aC s).2=0 then false else ck (s.drop (aC s).2)
termination_by s.length
decreasing_by
 have:=kD s;rw [List.length_drop];have:s.length≠0:=fun e=>h (List.eq_nil_of_length_eq_zero e);omega
theorem np:ck []=true:=by rw [ck];simp
theorem wv {s:U} (h:s≠[]) (bD:(aC s).2=0):ck s=false:=by rw [ck];simp [h,bD]
theorem kE {s:U} (h:s≠[]) (bD:(aC s).2≠0):ck s=ck (s.drop (aC s).2):=by
 rw [ck];simp [h,bD]
abbrev hM:U:=[48,49,50,51,52,53,54,55,56,57,97,98,99,100,101,102]
def hN (c:UInt8):U:=
 if c=34∨c=92 then [92,c] else if c=8 then [92,98] else if c=9 then [92,116] else if c=10 then [92,110] else if c=12 then [92,102] else if c=13 then [92,114]
 else if c.toNat<32 then [92,117,48,48,hM.getD (c.toNat / 16) 0,hM.getD (c.toNat % 16) 0] else [c]
def cW (s:U):U:=(s.map hN).flatten
def b7 (s:U):U:=34::cW s ++ [34]
theorem Ik (c:UInt8):(hN c).length≤6:=by
 unfold hN
 repeat' split
 all_goals simp
theorem qA:∀ s:U,(cW s).length≤6*s.length
 | []=>by simp [cW]
 | c::s=>by
  have h1:=qA s
  have aj:=Ik c
  simp only [cW,List.map_cons,List.flatten_cons,List.length_append,List.length_cons] at h1 ⊢
  omega
def dw (b:U):Except Int U:=if 65536<b.length then .error 3 else .ok b
def gC (b s:U):Except Int U:=if 65536<s.length then .error 3 else if ck s then dw (b++b7 s)else .error 1
theorem eM {b eA:U} (h:dw b = .ok eA):eA=b∧b.length≤65536:=by
 unfold dw at h
 split at h
 ·cases h
 injection h with h;exact⟨h.symm,by omega⟩
namespace JV
def bare (v:JV):Bool:=decide (0≤v.kind∧v.kind≤5)&&(decide (v.kind=1) || !v.is)&&(decide (v.kind=2)||decide (v.num=0))&&(decide (v.kind=3)||decide (v.str = []))&&(decide (v.kind=4)||decide (v.list.length=0))&&(decide (v.kind=5)||decide (v.map.length=0))&&(!decide (v.kind=2)||decide (-9007199254740991≤v.num∧v.num≤9007199254740991))
abbrev kF:U:=[110,117,108,108]
abbrev jo:U:=[116,114,117,101]
abbrev hD:U:=[102,97,108,115,101]
mutual
def wr:JV→Nat→U→Except Int U
 | .mk k is n s l m,deep,b=>
  if bare (.mk k is n s l m)=false then .error 1 else
  if k=0 then dw (b++kF)else
  if k=1 then dw (b++if is then jo else hD)else
  if k=2 then dw (b++Lib.itoa n)else
  if k=3 then gC b s else
  if deep=32 then .error 5 else
  if k=4 then (dw (b ++ [91])).bind fun b=>(h9 l deep true b).bind fun b=>dw (b ++ [93])
  else (dw (b ++ [123])).bind fun b=>(fk m deep none b).bind fun b=>dw (b ++ [125])
def h9:List JV→Nat→Bool→U→Except Int U
 | [],_,_,b=>.ok b
 | v::r,deep,fst,b=>(if fst then Except.ok b else dw (b ++ [44])).bind fun b=>(wr v (deep+1) b).bind fun b=>h9 r deep false b
def fk:List (List UInt8×JV)→Nat→Option U→U→Except Int U
 | [],_,_,b=>.ok b
 | p::r,deep,prev,b=>(match prev with
   | none=>Except.ok b
   | some q=>(dw (b ++ [44])).bind fun b=>if fA q p.1 then .ok b else .error 1).bind fun b=>
  (gC b p.1).bind fun b=>(dw (b ++ [58])).bind fun b=>(wr p.2 (deep+1) b).bind fun b=>fk r deep (some p.1) b
end
theorem dZ (v:JV) (deep:Nat) (b:U):wr v deep b = 
  if bare v=false then .error 1 else
  if v.kind=0 then dw (b++kF)else
  if v.kind=1 then dw (b++if v.is then jo else hD)else
  if v.kind=2 then dw (b++Lib.itoa v.num)else
  if v.kind=3 then gC b v.str else
  if deep=32 then .error 5 else
  if v.kind=4 then (dw (b ++ [91])).bind fun b=>(h9 v.list deep true b).bind fun b=>dw (b ++ [93])
  else (dw (b ++ [123])).bind fun b=>(fk v.map deep none b).bind fun b=>dw (b ++ [125]):=by
 cases v
 rw [wr]
 rfl
end JV
section
variable {P:Program} {l:List (Nat×Value)} {w:World} {ty:TypeId} {pos:String} {af:Array Edge} {dd:Option Nat} {gg:Option (Nat×Bool)} {x y lo:Operand} {t:TypeId}
theorem cv {u:List UInt8} {n:Nat} (bQ:P.underlying t=some .string) (ab:aT l x=some (S u)) (bM:aT l lo=some (.int .i64 (n:Int))) (aH:n≤u.length):bo P l ⟨dd,.slice t x (some lo) none none,ty,pos,af,gg⟩ w (S (u.drop n)) w:=
 (Ar (pl:=some (.i64,(n:Int))) (ph:=none) bQ ab (by simp [tG,bM]) rfl (by simp only [hb,hP];omega)).to (by
  simp only [hb,hP,Int.toNat_natCast]
  rw [List.take_of_length_le (by simp)])
end
theorem fG {dc:UInt8} {r:U} (h:dc.toNat<128):aC (dc::r)=(dc.toNat,1):=by simp [aC,h]
theorem gD {dc:UInt8} {r:U} {n l c:Nat} (eH:¬ dc.toNat<128) (hH:gj dc.toNat=(n,l,c)) (h:n=0∨(dc::r).length<n):aC (dc::r)=(0,0):=by
 unfold aC;simp only [if_neg eH,hH];rw [if_pos h]
theorem l8 {dc:UInt8} {r:U} {n l c:Nat} (eH:¬ dc.toNat<128) (hH:gj dc.toNat=(n,l,c)) (h:¬ (n=0∨(dc::r).length<n)) :
  aC (dc::r)=match j6 (r.take (n-1)) c with | none=>(0,0) | some c=>if c<l∨1114111<c∨(55296≤c∧c≤57343)then (0,0)else (c,n):=by
 show(if dc.toNat<128 then (dc.toNat,1)else if (gj dc.toNat).1=0∨(dc::r).length<(gj dc.toNat).1 then (0,0)else _)=_
 rw [if_neg eH,hH,if_neg h] <;> rfl
theorem jF {dc:UInt8} {r:U} {n l c:Nat} (eH:¬ dc.toNat<128) (hH:gj dc.toNat=(n,l,c)) (h:¬ (n=0∨(dc::r).length<n)) (a6:j6 (r.take (n-1)) c=none):aC (dc::r)=(0,0):=by rw [l8 eH hH h,a6]
theorem rD {dc:UInt8} {r:U} {n l c d:Nat} (eH:¬ dc.toNat<128) (hH:gj dc.toNat=(n,l,c)) (h:¬ (n=0∨(dc::r).length<n)) (a6:j6 (r.take (n-1)) c=some d) (aH:d<l∨1114111<d∨(55296≤d∧d≤57343)):aC (dc::r)=(0,0):=by
 rw [l8 eH hH h,a6];exact if_pos aH
theorem nq {dc:UInt8} {r:U} {n l c d:Nat} (eH:¬ dc.toNat<128) (hH:gj dc.toNat=(n,l,c)) (h:¬ (n=0∨(dc::r).length<n)) (a6:j6 (r.take (n-1)) c=some d) (aH:¬ (d<l∨1114111<d∨(55296≤d∧d≤57343))):aC (dc::r)=(d,n):=by
 rw [l8 eH hH h,a6];exact if_neg aH
def fT (l:U) (k:Nat):Nat:=(l.getD k 0).toNat
def fz (l:U) (k:Nat):Bool:=decide (k<l.length)&&fT l k / 64 == 2
def lp (l:U):Nat×Nat:=
 if fT l 0<0x80 then (fT l 0,1)
 else if fT l 0 / 32 == 6&&fz l 1 then
  if (fT l 0 % 32)*64+fT l 1 % 64≥0x80 then ((fT l 0 % 32)*64+fT l 1 % 64,2)else (65533,1)
 else if fT l 0 / 16 == 14&&fz l 1&&fz l 2 then
  if (fT l 0 % 16)*4096+(fT l 1 % 64)*64+fT l 2 % 64≥0x800&&Utf8.valid ((fT l 0 % 16)*4096+(fT l 1 % 64)*64+fT l 2 % 64:Nat)then ((fT l 0 % 16)*4096+(fT l 1 % 64)*64+fT l 2 % 64,3)else (65533,1)
 else if fT l 0 / 8 == 30&&fz l 1&&fz l 2&&fz l 3 then
  if (fT l 0 % 8)*262144+(fT l 1 % 64)*4096+(fT l 2 % 64)*64+fT l 3 % 64≥0x10000&&Utf8.valid ((fT l 0 % 8)*262144+(fT l 1 % 64)*4096+(fT l 2 % 64)*64+fT l 3 % 64:Nat)then ((fT l 0 % 8)*262144+(fT l 1 % 64)*4096+(fT l 2 % 64)*64+fT l 3 % 64,4)else (65533,1)
 else (65533,1)
theorem get_at (s:U) (i k:Nat):((⟨⟨s⟩⟩:ByteArray).get! (i+k)).toNat=fT (s.drop i) k:=by
 show((⟨s⟩:Array UInt8)[i+k]!).toNat=_;unfold fT
 congr 1
 rw [List.getD_eq_getElem?_getD,List.getElem?_drop]
 by_cases h:i+k<s.length
 ·rw [getElem!_pos (⟨s⟩:Array UInt8) (i+k) h];simp [h]
 rw [getElem!_neg (⟨s⟩:Array UInt8) (i+k) h,List.getElem?_eq_none (by omega)];rfl
theorem O3 (s:U) (i k:Nat):(decide (i+k<(⟨⟨s⟩⟩:ByteArray).size)&&fT (s.drop i) k / 64 == 2)=fz (s.drop i) k:=by
 unfold fz;have aN:(⟨⟨s⟩⟩:ByteArray).size=s.length:=rfl;rw [aN,List.length_drop]
 congr 1
 by_cases h:i+k<s.length
 ·rw [decide_eq_true h,decide_eq_true (by omega)]
 rw [decide_eq_false h,decide_eq_false (by omega)]
theorem mT (s:U) (i:Nat):Utf8.decode ⟨⟨s⟩⟩ i=lp (s.drop i):=by
 unfold Utf8.decode;simp only [get_at,O3,Utf8.runeError];rfl
theorem r4 (c:Nat):Utf8.valid (c:Int)=decide (c<55296∨(57344≤c∧c≤1114111)):=by
 unfold Utf8.valid;rw [Bool.eq_iff_iff];simp only [Bool.or_eq_true,Bool.and_eq_true,decide_eq_true_eq];omega
def eF (c:Nat):List Nat:=
 if c<128 then [c] else if c<2048 then [192+c / 64,128+c % 64] else if c<65536 then [224+c / 4096,128+c / 64 % 64,128+c % 64] else [240+c / 262144,128+c / 4096 % 64,128+c / 64 % 64,128+c % 64]
def Kc (l:U):Prop:=((aC l).2=0∧lp l=(65533,1))∨((aC l).2≠0∧lp l=aC l∧(l.take (aC l).2).map UInt8.toNat=eF (aC l).1∧(aC l).1≤1114111∧¬ (55296≤(aC l).1∧(aC l).1≤57343)∧(aC l).2≤4)
theorem qT {l:U} (bD:¬ fT l 0<128) (h1:(fT l 0 / 32 == 6&&fz l 1)=false) (aj:(fT l 0 / 16 == 14&&fz l 1&&fz l 2)=false) (aF:(fT l 0 / 8 == 30&&fz l 1&&fz l 2&&fz l 3)=false):lp l=(65533,1):=by
 unfold lp;rw [if_neg bD,h1,aj,aF];rfl
theorem l6 {a b:Nat} (h:a≠b):(a == b)=false:=by simp [h]
theorem ok_one {dc:UInt8} {r:U} (h:dc.toNat<128):Kc (dc::r):=by
 refine .inr ?_;have bL:lp (dc::r)=(dc.toNat,1):=by unfold lp;rw [if_pos (by simpa [fT] using h)];rfl
 rw [fG h,bL];refine⟨by simp,rfl,by simp [eF,h],by dsimp only;omega,by dsimp only;omega,by simp⟩
theorem ok_none {dc:UInt8} {r:U} (h:128≤dc.toNat) (fb:dc.toNat<192∨248≤dc.toNat):Kc (dc::r):=by
 have aH:=dc.toNat_lt;have ax:fT (dc::r) 0=dc.toNat:=rfl;have hH:gj dc.toNat=(0,0,dc.toNat):=by unfold gj;rw [if_neg (by omega),if_neg (by omega),if_neg (by omega)]
 refine .inl ⟨by rw [gD (by omega) hH (.inl rfl)],qT (by omega) ?_ ?_ ?_⟩
 ·rw [ax,l6 (by omega)];rfl
 ·rw [ax,l6 (by omega)];rfl
 rw [ax,l6 (by omega)];rfl
theorem mj {l:U} {k:Nat} {b:UInt8} (h:l[k]? = some b):fz l k=decide (128≤b.toNat∧b.toNat<192)∧fT l k=b.toNat:=by
 obtain⟨hk,rfl⟩:=List.getElem?_eq_some_iff.1 h;have ax:fT l k=(l[k]).toNat:=by simp [fT,hk]
 refine⟨?_,ax⟩;unfold fz;rw [ax,decide_eq_true hk,Bool.eq_iff_iff];simp only [Bool.true_and,beq_iff_eq,decide_eq_true_eq];omega
theorem oA {l:U} {k:Nat} (h:l.length≤k):fz l k=false:=by
 unfold fz;rw [decide_eq_false (by omega)];rfl
theorem kR {b:UInt8} {r:U} {c:Nat} (h:¬ (128≤b.toNat∧b.toNat<192)):j6 (b::r) c=none:=by rw [j6,if_pos (by omega)]
theorem hV {b:UInt8} {r:U} {c:Nat} (h:128≤b.toNat∧b.toNat<192):j6 (b::r) c=j6 r (c*64+b.toNat % 64):=by rw [j6,if_neg (by omega)]
theorem ok_two {dc:UInt8} {r:U} (h:192≤dc.toNat) (fb:dc.toNat<224):Kc (dc::r):=by
 have ax:fT (dc::r) 0=dc.toNat:=rfl;have hH:gj dc.toNat=(2,128,dc.toNat % 32):=by unfold gj;rw [if_pos (by omega)]
 have aV:(dc.toNat / 32 == 6)=true:=by simp;omega
 have bs:(dc.toNat / 16 == 14)=false:=l6 (by omega);have kk:(dc.toNat / 8 == 30)=false:=l6 (by omega);have dm:fz (dc::r) 1=false→lp (dc::r)=(65533,1):=fun a6=>qT (by omega) (by rw [a6,Bool.and_false]) (by rw [ax,bs];rfl) (by rw [ax,kk];rfl);cases r with
 | nil=>exact .inl ⟨by rw [gD (by omega) hH (.inr (by simp))],dm (oA (by simp))⟩
 | cons ev r=>
  obtain⟨fi,F0⟩:=mj (l:=dc::ev::r) (k:=1) (b:=ev) rfl;have rW:¬ (2=0∨(dc::ev::r).length<2):=by simp
  have nf:(ev::r).take (2-1) = [ev]:=rfl
  by_cases aH:128≤ev.toNat∧ev.toNat<192
  ·have DG:j6 ((ev::r).take (2-1)) (dc.toNat % 32)=some (dc.toNat % 32*64+ev.toNat % 64):=by rw [nf,hV aH];rfl
   have bL:lp (dc::ev::r)=if dc.toNat % 32*64+ev.toNat % 64≥128 then (dc.toNat % 32*64+ev.toNat % 64,2)else (65533,1):=by
    unfold lp;rw [if_neg (by omega),ax,F0,aV,fi,decide_eq_true aH];rfl
   by_cases bw:dc.toNat % 32*64+ev.toNat % 64≥128
   ·have kX:=nq (by omega) hH rW DG (by omega);refine .inr ?_;rw [kX,bL,if_pos bw];refine⟨by simp,rfl,?_,by dsimp only;omega,by dsimp only;omega,by simp⟩;unfold eF;rw [if_neg (by dsimp only;omega),if_pos (by dsimp only;omega)];simp only [List.take_succ_cons,List.take_zero,List.map_cons,List.map_nil,List.cons.injEq,and_true];omega
   exact .inl ⟨by rw [rD (by omega) hH rW DG (by omega)],by rw [bL,if_neg bw]⟩
  exact .inl ⟨by rw [jF (by omega) hH rW (by rw [nf,kR aH])],dm (by rw [fi,decide_eq_false aH])⟩
theorem ok_three {dc:UInt8} {r:U} (h:224≤dc.toNat) (fb:dc.toNat<240):Kc (dc::r):=by
 have ax:fT (dc::r) 0=dc.toNat:=rfl;have hH:gj dc.toNat=(3,2048,dc.toNat % 16):=by unfold gj;rw [if_neg (by omega),if_pos (by omega)]
 have aV:(dc.toNat / 32 == 6)=false:=l6 (by omega);have bs:(dc.toNat / 16 == 14)=true:=by simp;omega
 have kk:(dc.toNat / 8 == 30)=false:=l6 (by omega);have dm:(fz (dc::r) 1&&fz (dc::r) 2)=false→lp (dc::r)=(65533,1):=fun a6=>qT (by omega) (by rw [ax,aV];rfl) (by rw [Bool.and_assoc,a6,Bool.and_false]) (by rw [ax,kk];rfl)
 match r with
 | []=>exact .inl ⟨by rw [gD (by omega) hH (.inr (by simp))],dm (by rw [oA (by simp)];rfl)⟩
 | [ev]=>exact .inl ⟨by rw [gD (by omega) hH (.inr (by simp))],dm (by rw [oA (k:=2) (by simp),Bool.and_false])⟩
 | ev::eW::r=>
  obtain⟨fi,F0⟩:=mj (l:=dc::ev::eW::r) (k:=1) (b:=ev) rfl;obtain⟨gA,C2⟩:=mj (l:=dc::ev::eW::r) (k:=2) (b:=eW) rfl;have rW:¬ (3=0∨(dc::ev::eW::r).length<3):=by simp
  have nf:(ev::eW::r).take (3-1) = [ev,eW]:=rfl
  by_cases aH:128≤ev.toNat∧ev.toNat<192
  rotate_left
  ·exact .inl ⟨by rw [jF (by omega) hH rW (by rw [nf,kR aH])],dm (by rw [fi,decide_eq_false aH];rfl)⟩
  by_cases iD:128≤eW.toNat∧eW.toNat<192
  rotate_left
  ·exact .inl ⟨by rw [jF (by omega) hH rW (by rw [nf,hV aH,kR iD])],dm (by rw [gA,decide_eq_false iD,Bool.and_false])⟩
  have DG:j6 ((ev::eW::r).take (3-1)) (dc.toNat % 16)=some ((dc.toNat % 16*64+ev.toNat % 64)*64+eW.toNat % 64):=by rw [nf,hV aH,hV iD];rfl
  have bL:lp (dc::ev::eW::r)=if (dc.toNat % 16*4096+ev.toNat % 64*64+eW.toNat % 64≥2048&&Utf8.valid (dc.toNat % 16*4096+ev.toNat % 64*64+eW.toNat % 64:Nat))=true then (dc.toNat % 16*4096+ev.toNat % 64*64+eW.toNat % 64,3)else (65533,1):=by
   unfold lp;rw [if_neg (by omega),ax,F0,C2,aV,bs,fi,gA,decide_eq_true aH,decide_eq_true iD];rfl
  rw [r4] at bL
  by_cases bw:(dc.toNat % 16*64+ev.toNat % 64)*64+eW.toNat % 64<2048∨1114111<(dc.toNat % 16*64+ev.toNat % 64)*64+eW.toNat % 64∨(55296≤(dc.toNat % 16*64+ev.toNat % 64)*64+eW.toNat % 64∧(dc.toNat % 16*64+ev.toNat % 64)*64+eW.toNat % 64≤57343)
  ·refine .inl ⟨by rw [rD (by omega) hH rW DG bw],?_⟩;rw [bL,if_neg];simp only [Bool.and_eq_true,decide_eq_true_eq];omega
  have kX:=nq (by omega) hH rW DG bw;refine .inr ?_;rw [kX,bL,if_pos (by simp only [Bool.and_eq_true,decide_eq_true_eq];omega)];refine⟨by simp,by simp only [Prod.mk.injEq,and_true];omega,?_,by dsimp only;omega,by dsimp only;omega,by simp⟩;unfold eF;rw [if_neg (by dsimp only;omega),if_neg (by dsimp only;omega),if_pos (by dsimp only;omega)];simp only [List.take_succ_cons,List.take_zero,List.map_cons,List.map_nil,List.cons.injEq,and_true];omega
theorem O4 {dc:UInt8} {r:U} (h:240≤dc.toNat) (fb:dc.toNat<248):Kc (dc::r):=by
 have ax:fT (dc::r) 0=dc.toNat:=rfl;have hH:gj dc.toNat=(4,65536,dc.toNat % 8):=by unfold gj;rw [if_neg (by omega),if_neg (by omega),if_pos (by omega)]
 have aV:(dc.toNat / 32 == 6)=false:=l6 (by omega);have bs:(dc.toNat / 16 == 14)=false:=l6 (by omega);have kk:(dc.toNat / 8 == 30)=true:=by simp;omega
 have dm:(fz (dc::r) 1&&fz (dc::r) 2&&fz (dc::r) 3)=false→lp (dc::r)=(65533,1):=fun a6=>qT (by omega) (by rw [ax,aV];rfl) (by rw [ax,bs];rfl) (by rw [Bool.and_assoc,Bool.and_assoc,← Bool.and_assoc (fz (dc::r) 1),a6,Bool.and_false])
 match r with
 | []=>exact .inl ⟨by rw [gD (by omega) hH (.inr (by simp))],dm (by rw [oA (by simp)];rfl)⟩
 | [ev]=>exact .inl ⟨by rw [gD (by omega) hH (.inr (by simp))],dm (by rw [oA (k:=2) (by simp),Bool.and_false];rfl)⟩
 | [ev,eW]=>exact .inl ⟨by rw [gD (by omega) hH (.inr (by simp))],dm (by rw [oA (k:=3) (by simp),Bool.and_false])⟩
 | ev::eW::tz::r=>
  obtain⟨fi,F0⟩:=mj (l:=dc::ev::eW::tz::r) (k:=1) (b:=ev) rfl;obtain⟨gA,C2⟩:=mj (l:=dc::ev::eW::tz::r) (k:=2) (b:=eW) rfl;obtain⟨qZ,akj⟩:=mj (l:=dc::ev::eW::tz::r) (k:=3) (b:=tz) rfl;have rW:¬ (4=0∨(dc::ev::eW::tz::r).length<4):=by simp
  have nf:(ev::eW::tz::r).take (4-1) = [ev,eW,tz]:=rfl
  by_cases aH:128≤ev.toNat∧ev.toNat<192
  rotate_left
  ·exact .inl ⟨by rw [jF (by omega) hH rW (by rw [nf,kR aH])],dm (by rw [fi,decide_eq_false aH];rfl)⟩
  by_cases iD:128≤eW.toNat∧eW.toNat<192
  rotate_left
  ·exact .inl ⟨by rw [jF (by omega) hH rW (by rw [nf,hV aH,kR iD])],dm (by rw [gA,decide_eq_false iD,Bool.and_false];rfl)⟩
  by_cases ys:128≤tz.toNat∧tz.toNat<192
  rotate_left
  ·exact .inl ⟨by rw [jF (by omega) hH rW (by rw [nf,hV aH,hV iD,kR ys])],dm (by rw [qZ,decide_eq_false ys,Bool.and_false])⟩
  have DG:j6 ((ev::eW::tz::r).take (4-1)) (dc.toNat % 8)=some (((dc.toNat % 8*64+ev.toNat % 64)*64+eW.toNat % 64)*64+tz.toNat % 64):=by rw [nf,hV aH,hV iD,hV ys];rfl
  have bL:lp (dc::ev::eW::tz::r)=if (dc.toNat % 8*262144+ev.toNat % 64*4096+eW.toNat % 64*64+tz.toNat % 64≥65536&&Utf8.valid (dc.toNat % 8*262144+ev.toNat % 64*4096+eW.toNat % 64*64+tz.toNat % 64:Nat))=true then (dc.toNat % 8*262144+ev.toNat % 64*4096+eW.toNat % 64*64+tz.toNat % 64,4)else (65533,1):=by
   unfold lp;rw [if_neg (by omega),ax,F0,C2,akj,aV,bs,kk,fi,gA,qZ,decide_eq_true aH,decide_eq_true iD,decide_eq_true ys];rfl
  rw [r4] at bL
  by_cases bw:((dc.toNat % 8*64+ev.toNat % 64)*64+eW.toNat % 64)*64+tz.toNat % 64<65536∨1114111<((dc.toNat % 8*64+ev.toNat % 64)*64+eW.toNat % 64)*64+tz.toNat % 64∨(55296≤((dc.toNat % 8*64+ev.toNat % 64)*64+eW.toNat % 64)*64+tz.toNat % 64∧((dc.toNat % 8*64+ev.toNat % 64)*64+eW.toNat % 64)*64+tz.toNat % 64≤57343)
  ·refine .inl ⟨by rw [rD (by omega) hH rW DG bw],?_⟩;rw [bL,if_neg];simp only [Bool.and_eq_true,decide_eq_true_eq];omega
  have kX:=nq (by omega) hH rW DG bw;refine .inr ?_;rw [kX,bL,if_pos (by simp only [Bool.and_eq_true,decide_eq_true_eq];omega)];refine⟨by simp,by simp only [Prod.mk.injEq,and_true];omega,?_,by dsimp only;omega,by dsimp only;omega,by simp⟩;unfold eF;rw [if_neg (by dsimp only;omega),if_neg (by dsimp only;omega),if_neg (by dsimp only;omega)];simp only [List.take_succ_cons,List.take_zero,List.map_cons,List.map_nil,List.cons.injEq,and_true];omega
theorem nG {l:U} (h:l≠[]):Kc l:=by
 cases l with
 | nil=>exact absurd rfl h
 | cons dc r=>
  have aH:=dc.toNat_lt;rcases Nat.lt_or_ge dc.toNat 128 with h1 | h1
  ·exact ok_one h1
  rcases Nat.lt_or_ge dc.toNat 192 with aj | aj
  ·exact ok_none h1 (.inl aj)
  rcases Nat.lt_or_ge dc.toNat 224 with aF | aF
  ·exact ok_two aj aF
  rcases Nat.lt_or_ge dc.toNat 240 with bn | bn
  ·exact ok_three aF bn
  rcases Nat.lt_or_ge dc.toNat 248 with ch | ch
  ·exact O4 bn ch
  exact ok_none h1 (.inr ch)
section
variable {P:Program} {ops:Array Oper} {Q:Exit→Act→World→Prop} {afS:Nat} {ds:List Deferred} {l:List (Nat×Value)} {w w':World}
variable {rest:List Oper} {ty:TypeId} {pos:String} {af:Array Edge} {x y:Operand} {t:TypeId}
theorem Jv {h6:Array Value} {n:Nat} (h:∀ u∈h6,u.oneCell'=true) (aN:0<h6.size):∀ u∈(Builtin.zeroCells h6 n).toList,u.oneCell'=true:=by
 intro u hu;unfold Builtin.zeroCells at hu;rw [Array.toList_map] at hu;obtain⟨i,_,rfl⟩:=List.mem_map.1 hu;have:i % h6.size<h6.size:=Nat.mod_lt _ aN;rw [getElem!_pos h6 _ this];exact h _ (Array.getElem_mem this)
theorem adb {op:Op} {v:Value} (bf:bo P l ⟨none,op,ty,pos,af,none⟩ w v w') (h:fC P ops Q rest afS ds l w') :
  fC P ops Q (⟨none,op,ty,pos,af,none⟩::rest) afS ds l w:=by
 intro a ax
 refine wpList_plain rfl fun K lT=>?_
 have:=bf a.eval (fun x u ab=>ax.nU ab)
 simp only [Oper.wp,this,Oper.upon]
 exact lT _ _ (h _ (by simpa [Act.put] using ax))
theorem KE {e sz fY n c k:Nat} {ad:Addr} {vs h6:List Value} (bQ:k2 P t e sz fY=true) (cO:hq P e h6) (jP:h6.length=sz) (ha:0<sz) (xc:∀ u∈h6,u.oneCell'=true) (O:Own w e sz (.slice (some ad) n c) n vs) (hk:k≤n)
  (ab:aT l x=some (.slice (ko (some ad) c k sz) (n-k) (c-k)))
  (h:∀ w',Own w' e sz (.slice (some ad) k c) k (vs.take (k*sz))→Mod [ad.block] w w'→w'.heap.size=w.heap.size→fC P ops Q rest afS ds l w') :
  fC P ops Q (⟨none,.call {callee:=.builtin .clear,args:=#[x],argTypes:=#[t]},ty,pos,af,none⟩::rest) afS ds l w:=by
 obtain⟨i,z,h1,aj,aF,bn,ch,eB⟩:=hU bQ
 obtain⟨tA,BC,kv,j0,lQ⟩:=ov cO
 rcases Nat.eq_or_lt_of_le hk with rfl | bk
 ·have bf:bo P l ⟨none,.call {callee:=.builtin .clear,args:=#[x],argTypes:=#[t]},ty,pos,af,none⟩ w (.tuple #[]) w:=fun ρ e2=>by
   have bw:=e2 _ _ ab
   rw [Nat.sub_self] at bw
   simp only [execOp,resolve,invoke,builtin,Builtin.clear_]
   cases a6:ko (some ad) c k sz <;> rw [a6] at bw <;> simp [bw,run_underlying h1]
  exact adb bf (h w (O.take (Nat.le_refl _)) (Mod.refl _ w) rfl)
 rcases O.2 with⟨bD,_⟩ | ⟨g,o,cap,cs,bw,dT,fi,gA,qZ,o0⟩
 ·cases bD
 injection bw with aV bs kk
 injection aV with aV
 subst aV;subst kk
 have Xj:(Builtin.zeroCells BC.cells (n-k)).size=(n-k)*sz:=by
  simp [Builtin.zeroCells,lQ,jP]
 have mv:=O.1
 have hle:k*sz+(n-k)*sz=n*sz:=by rw [← Nat.add_mul];congr 1;omega
 have zm:n*sz≤c*sz:=Nat.mul_le_mul_right _ fi
 obtain⟨aE,hc,bJ⟩:=gr (P:=P) dT (o:=o+k*sz) (vs:=(Builtin.zeroCells BC.cells (n-k)).toList) (by rw [Array.length_toList,Xj];omega)
  (Jv (by rw [lQ];simpa using xc) (by rw [lQ];simp [jP];omega))
 have air:ko (some ⟨g,o,none⟩) c k sz=some ⟨g,o+k*sz,none⟩:=by
  unfold ko
  rw [if_neg (by omega)]
  simp [Addr.add_lit]
 rw [air] at ab
 have bf:bo P l ⟨none,.call {callee:=.builtin .clear,args:=#[x],argTypes:=#[t]},ty,pos,af,none⟩ w (.tuple #[]) aE:=fun ρ e2=>by
  have w4:¬ n-k=0:=by omega
  obtain⟨m,hm⟩:∃ m,n-k=m+1:=⟨n-k-1,by omega⟩
  have bw:=e2 _ _ ab
  rw [hm] at bw hc
  simp [execOp,resolve,invoke,builtin,Builtin.clear_,bw,run_underlying h1,zeroValue,typeInfo,kv,j0,hc]
 refine adb bf (h aE ⟨by rw [List.length_take,mv];omega,.inr ⟨g,o,c,_,rfl,bJ.aA,by omega,gA,by simp [splice,Xj];omega,?_⟩⟩ bJ.mod bJ.size)
 subst o0
 apply List.ext_getElem?
 intro j
 simp only [splice]
 simp only [List.getElem?_take,List.getElem?_drop,List.getElem?_append,List.length_append,List.length_take,List.length_drop,Array.length_toList,Xj]
 repeat' split
 all_goals first
  | omega
  | rfl
  | (congr 1;omega)
  | skip
end
section
variable {P:Program} {ops:Array Oper} {Q:Exit→Act→World→Prop} {n:Nat} {ds:List Deferred} {l:List (Nat×Value)} {M:List (Nat×(Value→World→Prop))} {w:World}
end
abbrev Ly (c:UInt8):List Value:=[qW c]
theorem kG (b:List UInt8):(b.map Ly).flatten=b.map qW:=by
 induction b with
 | nil=>rfl
 | cons c b dh=>simp [dh]
theorem cQ {c d:UInt8} (h:(c.toNat:Int)=d.toNat):c=d:=UInt8.toNat_inj.1 (by omega)
theorem Lz {c:UInt8} (h:(c.toNat:Int)=34∨(c.toNat:Int)=92):hN c = [92,c]:=by
 unfold hN;rw [if_pos (h.imp (fun h=>cQ h) (fun h=>cQ h))]
theorem UR {c:UInt8} (h:(c.toNat:Int)=8):hN c = [92,98]:=by obtain rfl:c=8:=cQ h;rfl
theorem US {c:UInt8} (h:(c.toNat:Int)=9):hN c = [92,116]:=by obtain rfl:c=9:=cQ h;rfl
theorem UT {c:UInt8} (h:(c.toNat:Int)=10):hN c = [92,110]:=by obtain rfl:c=10:=cQ h;rfl
theorem UU {c:UInt8} (h:(c.toNat:Int)=12):hN c = [92,102]:=by obtain rfl:c=12:=cQ h;rfl
theorem UW {c:UInt8} (h:(c.toNat:Int)=13):hN c = [92,114]:=by obtain rfl:c=13:=cQ h;rfl
theorem rE {c d:UInt8} (h:¬ (c.toNat:Int)=d.toNat):c≠d:=fun e=>h (by rw [e])
theorem UX {c:UInt8} (h1:¬ (c.toNat:Int)=34) (aj:¬ (c.toNat:Int)=92) (aF:¬ (c.toNat:Int)=8) (bn:¬ (c.toNat:Int)=9) (ch:¬ (c.toNat:Int)=10) (eB:¬ (c.toNat:Int)=12) (kv:¬ (c.toNat:Int)=13) :
  hN c=if c.toNat<32 then [92,117,48,48,hM.getD (c.toNat / 16) 0,hM.getD (c.toNat % 16) 0] else [c]:=by
 unfold hN
 rw [if_neg (fun h=>h.elim (rE (d:=34) h1) (rE (d:=92) aj)),if_neg (rE (d:=8) aF),if_neg (rE (d:=9) bn),if_neg (rE (d:=10) ch),if_neg (rE (d:=12) eB),if_neg (rE (d:=13) kv)]
theorem GM {i:Nat} (h:i<16):hM[i]? = some (hM.getD i 0):=by
 have:∀ j:Fin 16,hM[j.val]? = some (hM.getD j.val 0):=by decide
 exact this ⟨i,h⟩
def mZ:Except Int U→U
 | .ok b=>b
 | .error _=>[]
def fW:Except Int U→Int
 | .ok _=>0
 | .error e=>if e=0 then 1 else e
theorem As {r:Except Int U} (h:fW r=0):∃ b,r = .ok b:=by
 cases r with
 | ok b=>exact⟨b,rfl⟩
 | error e=>
  exfalso
  by_cases bD:e=0 <;> simp [fW,bD] at h
theorem Qh {r:Except Int U} (h:¬ fW r=0):∃ e,r = .error e:=by
 cases r with
 | ok b=>exact absurd rfl h
 | error e=>exact⟨e,rfl⟩
theorem LA (b:U):(dw b = .ok b∧b.length≤65536)∨(dw b = .error 3∧65536<b.length):=by
 unfold dw
 by_cases h:65536<b.length
 ·exact .inr ⟨if_pos h,h⟩
 exact .inl ⟨if_neg h,by omega⟩
theorem B8 (b:U):(mZ (dw b)).length≤65536:=by
 rcases LA b with⟨h,aj⟩ | ⟨h,_⟩
 ·rw [h];exact aj
 rw [h];simp [mZ]
section
variable {w0 w EW w':World} {k8 u h7 ly res:Value} {b t:U} {r:Except Int U}
abbrev l0 (w:World) (u:Value) (b:U):Prop:=Own w 5 1 u b.length ((b.map Ly).flatten)
def UY (w0 w:World) (k8:Value) (r:Except Int U) (res:Value):Prop:=
 ∃ u,res = .tuple #[u,.int .i64 (fW r)]∧l0 w u (mZ r)∧(∀ x∈aL u,x∈aL k8∨w0.heap.size≤x)∧Mod (aL k8) w0 w∧(mZ r).length≤65536
theorem yT (h:ly=h7∧mZ (dw b)=b∨ly = .slice none 0 0∧mZ (dw b) = []) (O:l0 w h7 b):l0 w ly (mZ (dw b))∧∀ x∈aL ly,x∈aL h7:=by
 rcases h with⟨rfl,h⟩ | ⟨rfl,h⟩
 ·rw [h];exact⟨O,fun x ab=>ab⟩
 rw [h];exact⟨Own.nil w 5 1,by simp [aL]⟩
theorem UY.B9 {n:Nat} {vs:List Value} (E:Mod [] w0 w) (gi:App w EW 5 1 k8 h7 n vs) (gG:l0 EW h7 (b++t)) (h:ly=h7∧mZ (dw (b++t))=b++t∨ly = .slice none 0 0∧mZ (dw (b++t)) = []) (J:Mod [] EW w') (bf:r=dw (b++t)) :
  UY w0 w' k8 r (.tuple #[ly,.int .i64 (fW (dw (b++t)))]):=by
 subst bf
 obtain⟨h1,aj⟩:=yT h (gG.I J)
 exact⟨ly,rfl,h1,fun x ab=>(gi.kn x (aj x ab)).imp id (fun h=>Nat.le_trans E.size h),((E.mono (by simp)).trans gi.mod).trans (J.mono (by simp)),B8 _⟩
theorem UY.err {e:Int} (E:Mod [] w0 w) (he:e≠0) (bf:r = .error e):UY w0 w k8 r (.tuple #[.slice none 0 0,.int .i64 e]):=by
 subst bf;exact⟨_,by simp [fW,he],Own.nil w 5 1,by simp [aL],E.mono (by simp),by simp [mZ]⟩
structure yn (w0 w:World) (k8:Value) (g V:Nat) (cells:List Value) (v:JV) (al am:Option Addr) (cl cm:Nat) (u:Value) (b:U):Prop where
 own:l0 w u b
 len:b.length≤65536
 ig:∀ x∈aL u,x∈aL k8∨w0.heap.size≤x
 mod:Mod (aL k8) w0 w
 aA:aD w g V cells
 B':∀ x∈aL u,x≠g
 ahc:aS (aL u) w (.iW 6 (v.list.map JV.D)) (.slice al v.list.length cl)
 ahd:aS (aL u) w (.iW 7 (v.map.map JV.hG)) (.slice am v.map.length cm)
variable {g V:Nat} {cells:List Value} {v:JV} {al am:Option Addr} {cl cm:Nat}
theorem yn.step (H:yn w0 w k8 g V cells v al am cl cm u b) {eA:U} {m':Value} (k:Mod (aL u) w w') (O:l0 w' m' eA) (dV:∀ x∈aL m',x∈aL u∨w.heap.size≤x) (bM:eA.length≤65536):yn w0 w' k8 g V cells v al am cl cm m' eA where
 own:=O
 len:=bM
 ig:=fun x ab=>(dV x ab).elim (H.ig x) (fun h=>.inr (Nat.le_trans H.mod.size h))
 mod:=H.mod.trans' k H.ig
 aA:=H.aA.mod k (fun ab=>H.B' _ ab rfl)
 B':=fun x ab=>(dV x ab).elim (H.B' x) (fun h e=>by have:=H.aA.lt;omega)
 ahc:=aS.to k (fun x ab=>ab) dV _ _ H.ahc
 ahd:=aS.to k (fun x ab=>ab) dV _ _ H.ahd
theorem yn.I (H:yn w0 w k8 g V cells v al am cl cm u b) (k:Mod [] w w'):yn w0 w' k8 g V cells v al am cl cm u b:=
 H.step (k.mono (by simp)) (H.own.I k) (fun x ab=>.inl ab) H.len
theorem yn.B9 {n:Nat} {vs:List Value} (H:yn w0 w k8 g V cells v al am cl cm u b) (gi:App w EW 5 1 u h7 n vs) (gG:l0 EW h7 (b++t)) (h:ly=h7∧mZ (dw (b++t))=b++t∨ly = .slice none 0 0∧mZ (dw (b++t)) = []) (J:Mod [] EW w') :
  yn w0 w' k8 g V cells v al am cl cm ly (mZ (dw (b++t))):=by
 obtain⟨h1,aj⟩:=yT h (gG.I J)
 exact H.step (gi.mod.trans (J.mono (by simp))) h1 (fun x ab=>gi.kn x (aj x ab)) (B8 _)
theorem yn.wr (H:yn w0 w k8 g V cells v al am cl cm u b) (h:UY w w' u r res):∃ m',res = .tuple #[m',.int .i64 (fW r)]∧yn w0 w' k8 g V cells v al am cl cm m' (mZ r):=by
 obtain⟨m',h1,aj,aF,bn,ch⟩:=h;exact⟨m',h1,H.step bn aj aF ch⟩
theorem yn.err (H:yn w0 w k8 g V cells v al am cl cm u b) (bf:¬ fW r=0):UY w0 w k8 r (.tuple #[.slice none 0 0,.int .i64 (fW r)]):=by
 obtain⟨e,rfl⟩:=Qh bf;exact⟨_,rfl,Own.nil w 5 1,by simp [aL],H.mod,by simp [mZ]⟩
theorem yn.fin {n:Nat} {vs:List Value} (H:yn w0 w k8 g V cells v al am cl cm u b) (gi:App w EW 5 1 u h7 n vs) (gG:l0 EW h7 (b++t)) (h:ly=h7∧mZ (dw (b++t))=b++t∨ly = .slice none 0 0∧mZ (dw (b++t)) = []) (J:Mod [] EW w') (bf:r=dw (b++t)) :
  UY w0 w' k8 r (.tuple #[ly,.int .i64 (fW (dw (b++t)))]):=by
 subst bf
 have afK:=H.B9 gi gG h J
 exact⟨ly,rfl,afK.own,afK.ig,afK.mod,afK.len⟩
theorem yn.ok (H:yn w0 w k8 g V cells v al am cl cm u (mZ (.ok b))):yn w0 w k8 g V cells v al am cl cm u b:=H
end
theorem yn.init {w0 w:World} {k8:Value} {b:U} {g V:Nat} {cells:List Value} {v:JV} {al am:Option Addr} {cl cm:Nat} (E:Mod [] w0 w) (O:l0 w0 k8 b) (aH:b.length≤65536) (B:aD w g V cells) (cN:w0.heap.size≤g)
  (kq:aS (aL k8) w0 (.iW 6 (v.list.map JV.D)) (.slice al v.list.length cl)) (jh:aS (aL k8) w0 (.iW 7 (v.map.map JV.hG)) (.slice am v.map.length cm)):yn w0 w k8 g V cells v al am cl cm k8 b where
 own:=O.I E
 len:=aH
 ig:=fun x ab=>.inl ab
 mod:=E.mono (by simp)
 aA:=B
 B':=fun x ab e=>by have:=O.lt x ab;omega
 ahc:=kq.bE E
 ahd:=jh.bE E
theorem yU {v:JV} (h:v.bare=true) (aj:v.kind=2) : -9007199254740991≤v.num∧v.num≤9007199254740991:=by
 simp only [JV.bare,aj] at h;simp at h;omega
theorem wx {f:U→Except Int U} {b:U} {W:Except Int U} (h:(Except.ok b:Except Int U).bind f=W):f b=W:=h
def hE (m:List (U×JV)) (k:Nat):Option U:=if k=0 then none else (m[k-1]?).map (·.1)
theorem Qi {l:List JV} {k:Nat} {x:JV} {deep:Nat} {fst:Bool} {b:U} (h:l[k]? = some x):JV.h9 (l.drop k) deep fst b=(if fst then Except.ok b else dw (b ++ [44])).bind fun b=>(JV.wr x (deep+1) b).bind fun b=>JV.h9 (l.drop (k+1)) deep false b:=by
 obtain⟨hk,rfl⟩:=List.getElem?_eq_some_iff.1 h;rw [List.drop_eq_getElem_cons hk,JV.h9]
theorem LB {l:List JV} {k deep:Nat} {fst:Bool} {b:U} (h:l.length≤k):JV.h9 (l.drop k) deep fst b = .ok b:=by
 rw [List.drop_eq_nil_of_le h,JV.h9]
theorem Il (p:List UInt8×JV) (r:List (List UInt8×JV)) (deep:Nat) (b:U):JV.fk (p::r) deep none b=(gC b p.1).bind fun b=>(dw (b ++ [58])).bind fun b=>(JV.wr p.2 (deep+1) b).bind fun b=>JV.fk r deep (some p.1) b:=by
 rw [JV.fk.eq_def];rfl
theorem Im (p:List UInt8×JV) (q:U) (r:List (List UInt8×JV)) (deep:Nat) (b:U):JV.fk (p::r) deep (some q) b=((dw (b ++ [44])).bind fun b=>if fA q p.1 then .ok b else .error 1).bind fun b=>(gC b p.1).bind fun b=>(dw (b ++ [58])).bind fun b=>(JV.wr p.2 (deep+1) b).bind fun b=>JV.fk r deep (some p.1) b:=by
 rw [JV.fk.eq_def]
theorem LC {m:List (U×JV)} {k deep:Nat} {p:Option U} {b:U} (h:m.length≤k):JV.fk (m.drop k) deep p b = .ok b:=by
 rw [List.drop_eq_nil_of_le h,JV.fk]
theorem uN {m:List (U×JV)} {k:Nat} {p:U×JV} (h:m[k]? = some p):hE m (k+1)=some p.1:=by
 simp [hE,h]
theorem LD {m:List (U×JV)} {p:U×JV} {deep:Nat} {b:U} (h:m[0]? = some p):JV.fk (m.drop 0) deep (hE m 0) b=(gC b p.1).bind fun b=>(dw (b ++ [58])).bind fun b=>(JV.wr p.2 (deep+1) b).bind fun b=>JV.fk (m.drop (0+1)) deep (hE m (0+1)) b:=by
 rw [uN h];obtain⟨hk,rfl⟩:=List.getElem?_eq_some_iff.1 h;rw [List.drop_eq_getElem_cons hk];exact Il _ _ _ _
theorem Qj {m:List (U×JV)} {k:Nat} {p q:U×JV} {deep:Nat} {b:U} (h:m[k]? = some p) (eE:m[k-1]? = some q) (bD:0<k):JV.fk (m.drop k) deep (hE m k) b=((dw (b ++ [44])).bind fun b=>if fA q.1 p.1 then .ok b else .error 1).bind fun b=>(gC b p.1).bind fun b=>(dw (b ++ [58])).bind fun b=>(JV.wr p.2 (deep+1) b).bind fun b=>JV.fk (m.drop (k+1)) deep (hE m (k+1)) b:=by
 rw [uN h];have bJ:hE m k=some q.1:=by simp [hE,eE];omega
 obtain⟨hk,rfl⟩:=List.getElem?_eq_some_iff.1 h;rw [List.drop_eq_getElem_cons hk,bJ];exact Im _ _ _ _ _
theorem EX {m:List (U×JV)} {k deep:Nat} {x:U×JV} {ev:U} {W:Except Int U} (ab:m[k]? = some x) (bD:k=0) (hinv:((Except.ok ev:Except Int U).bind fun b=>JV.fk (m.drop k) deep (hE m k) b)=W) :
  ((gC ev x.1).bind fun b=>(dw (b ++ [58])).bind fun b=>(JV.wr x.2 (deep+1) b).bind fun b=>JV.fk (m.drop (k+1)) deep (hE m (k+1)) b)=W:=by
 subst bD
 have aj:JV.fk (m.drop 0) deep (hE m 0) ev=W:=hinv
 rwa [LD ab] at aj
theorem Io {m:List (U×JV)} {k deep:Nat} {x q:U×JV} {ev:U} {W:Except Int U} (ab:m[k]? = some x) (eE:m[k-1]? = some q) (bD:0<k) (hinv:((Except.ok ev:Except Int U).bind fun b=>JV.fk (m.drop k) deep (hE m k) b)=W) :
  (((dw (ev ++ [44])).bind fun b=>if fA q.1 x.1 then .ok b else .error 1).bind fun b=>(gC b x.1).bind fun b=>(dw (b ++ [58])).bind fun b=>(JV.wr x.2 (deep+1) b).bind fun b=>JV.fk (m.drop (k+1)) deep (hE m (k+1)) b)=W:=by
 have aj:JV.fk (m.drop k) deep (hE m k) ev=W:=hinv
 rwa [Qj ab eE bD] at aj
section
variable {P:Program} {ops:Array Oper} {Q:Exit→Act→World→Prop} {n:Nat} {ds:List Deferred} {l:List (Nat×Value)} {w w':World} {a:Act}
variable {rest:List Oper} {d:Nat} {op:Op} {ty:TypeId} {pos:String} {af:Array Edge} {x y:Operand} {t:TypeId}
theorem e4 {f:FuncId} {args:Array Value} {apv:Ending→World→Prop} (bf:kL P l ⟨some d,op,ty,pos,af,none⟩ w f args) (a6:Calls P f args w apv) (bL:Nat.blt d n=true) (dV:∀ w',¬ apv .outgrown w')
  (bJ:∀ c w',apv (.panicked c) w'→hd Q (.panic c) n ds l w') (h:∀ v w',apv (.returned v) w'→fC P ops Q rest n ds ((d,v)::l) w') :
  fC P ops Q (⟨some d,op,ty,pos,af,none⟩::rest) n ds l w:=by
 intro a ax
 refine wpList_plain rfl fun K lT=>?_
 have:=bf a.eval (fun x u ab=>ax.nU ab)
 simp only [Oper.wp,this,Oper.upon]
 refine a6.mono fun e w' he=>?_
 cases e with
 | returned v=>exact lT _ _ (h v w' he _ (ax.put bL v))
 | panicked c=>exact bJ c w' he a ax
 | outgrown=>exact absurd he (dV w')
theorem Ns {T:TypeId} {v:Value} (ab:aT l x=some (.iface T v)) (h:hd Q (.panic [{v:=.iface T v,recovered:=false}]) n ds l w) :
  fC P ops Q (⟨none,.panic x,ty,pos,af,none⟩::rest) n ds l w:=by
 intro a ax
 refine wpList_plain rfl fun K lT=>?_
 simp only [Oper.wp,execOp,ax.nU ab,Sem.run_bind,run_panic_iface,Oper.upon]
 exact h a ax
variable {fn:Func} {apv:Ending→World→Prop}
theorem dt {c:List PanicEntry} (h:apv (.panicked c) w):hd (bodyPost P fn apv) (.panic c) n [] l w:=fun a ax=>⟨ax.defers,h⟩
theorem iQ (bf:fn.results = #[]) (h:apv (.returned (.tuple #[])) w):hd (bodyPost P fn apv) .normal n [] l w:=fun a ax=>⟨ax.defers,_,results_none bf _ _ _,h⟩
/-! ### a range over a string -/
def yq (w:World) (g:Nat) (s:U) (p:Nat):Prop:=w.heap[g]? = some (.stringIter ⟨⟨s⟩⟩ p)
theorem yq.lt {g:Nat} {s:U} {p:Nat} (h:yq w g s p):g<w.heap.size:=(Array.getElem?_eq_some_iff.1 h).1
theorem yq.mod {M:List Nat} {g:Nat} {s:U} {p:Nat} (h:yq w g s p) (k:Mod M w w') (cN:g∉M):yq w' g s p:=(k.block g h.lt cN).trans h
theorem yq.I {g:Nat} {s:U} {p:Nat} (h:yq w g s p) (k:Mod [] w w'):yq w' g s p:=h.mod k (by simp)
theorem oh {u:U} (bQ:P.underlying t=some .string) (ab:aT l x=some (S u)) (bL:Nat.blt d n=true)
  (h:∀ g w',yq w' g u 0→g=w.heap.size→Mod [] w w'→fC P ops Q rest n ds ((d,.pointer (some ⟨g,0,none⟩))::l) w') :
  fC P ops Q (⟨some d,.range t x,ty,pos,af,none⟩::rest) n ds l w:=by
 refine e9 (v:=.pointer (some ⟨w.heap.size,0,none⟩)) (w':=w.iter ⟨⟨u⟩⟩ 0) (fun ρ e2=>?_) bL (h _ _ (World.iter_heap _ _ _) rfl ⟨rfl,rfl,rfl,?_,fun i hi _=>?_⟩)
 ·simp [execOp,e2 _ _ ab,run_range_string _ _ _ bQ]
 ·show w.heap.size≤(w.heap.push _).size
  simp
 show(w.heap.push _)[i]? = _
 rw [Array.getElem?_push_lt hi,Array.getElem?_eq_getElem hi]
theorem jJ {g p:Nat} {u:U} (ab:aT l x=some (.pointer (some ⟨g,0,none⟩))) (apx:yq w g u p) (bJ:¬ p<u.length) (bL:Nat.blt d n=true)
  (h:fC P ops Q rest n ds ((d,.tuple #[.bool false])::l) w):fC P ops Q (⟨some d,.next x true,ty,pos,af,none⟩::rest) n ds l w:=by
 refine e9 (v:=.tuple #[.bool false]) (w':=w) (fun ρ e2=>?_) bL h
 have aN:(⟨⟨u⟩⟩:ByteArray).size=u.length:=rfl
 unfold yq at apx
 simp [execOp,e2 _ _ ab,Instr.next,getObj,Sem.run,apx,Result.andThen,aN,bJ]
theorem kY {g p c m:Nat} {u:U} (ab:aT l x=some (.pointer (some ⟨g,0,none⟩))) (apx:yq w g u p) (bJ:p<u.length) (wP:Utf8.decode ⟨⟨u⟩⟩ p=(c,m)) (bL:Nat.blt d n=true)
  (h:∀ w',yq w' g u (p+m)→Mod [g] w w'→w'.heap.size=w.heap.size→fC P ops Q rest n ds ((d,.tuple #[.bool true,.int .i64 (p:Int),.int .i32 (c:Int)])::l) w') :
  fC P ops Q (⟨some d,.next x true,ty,pos,af,none⟩::rest) n ds l w:=by
 have aN:(⟨⟨u⟩⟩:ByteArray).size=u.length:=rfl
 have bk:=apx.lt
 refine e9 (v:=.tuple #[.bool true,.int .i64 (p:Int),.int .i32 (c:Int)]) (w':={w with heap:=w.heap.setIfInBounds g (.stringIter ⟨⟨u⟩⟩ (p+m))}) (fun ρ e2=>?_) bL (h _ ?_ ⟨rfl,rfl,rfl,by simp,fun i hi eb=>?_⟩ (by simp))
 ·unfold yq at apx
  simp [execOp,e2 _ _ ab,Instr.next,getObj,setObj,Sem.run,apx,Result.andThen,aN,bJ,wP,goInt]
 ·show(w.heap.setIfInBounds g _)[g]? = _
  simp [bk]
 show(w.heap.setIfInBounds g _)[i]? = _
 have:g≠i:=fun e=>eb (by simp [e])
 simp [Array.getElem?_setIfInBounds_ne this]
theorem App.Xk {e sz c g p:Nat} {s:U} {v v':Value} {vs:List Value} (h:App w w' e sz v v' c vs) (D:∀ x∈aL v,x≠g) (B:yq w g s p):∀ x∈aL v',x≠g:=fun x ab=>by
 rcases h.kn x ab with h1 | h1
 ·exact D x h1
 have:=B.lt;omega
end
section
variable {P:Program} {l:List (Nat×Value)} {w:World} {ty:TypeId} {pos:String} {af:Array Edge} {dd:Option Nat} {gg:Option (Nat×Bool)} {x y hi:Operand} {t:TypeId}
theorem G2 {u:List UInt8} {n:Nat} (bQ:P.underlying t=some .string) (ab:aT l x=some (S u)) (jE:aT l hi=some (.int .i64 (n:Int))) (aH:n≤u.length):bo P l ⟨dd,.slice t x none (some hi) none,ty,pos,af,gg⟩ w (S (u.take n)) w:=
 (Ar (pl:=none) (ph:=some (.i64,(n:Int))) bQ ab rfl (by simp [tG,jE]) (by simp only [hb,hP];omega)).to (by
  simp only [hb,hP,Int.toNat_natCast]
  simp)
end
theorem Zu {m:Nat} (h:m<32):IntKind.u8.wrap (BitVec.ofInt IntKind.u8.bits 192 ||| BitVec.ofInt IntKind.u8.bits (m:Int)).toNat=((192+m:Nat):Int):=by
 have:∀ m:Fin 32,IntKind.u8.wrap (BitVec.ofInt IntKind.u8.bits 192 ||| BitVec.ofInt IntKind.u8.bits (m.val:Int)).toNat=((192+m.val:Nat):Int):=by decide +kernel
 exact this ⟨m,h⟩
theorem Zv {m:Nat} (h:m<16):IntKind.u8.wrap (BitVec.ofInt IntKind.u8.bits 224 ||| BitVec.ofInt IntKind.u8.bits (m:Int)).toNat=((224+m:Nat):Int):=by
 have:∀ m:Fin 16,IntKind.u8.wrap (BitVec.ofInt IntKind.u8.bits 224 ||| BitVec.ofInt IntKind.u8.bits (m.val:Int)).toNat=((224+m.val:Nat):Int):=by decide +kernel
 exact this ⟨m,h⟩
theorem Zw {m:Nat} (h:m<8):IntKind.u8.wrap (BitVec.ofInt IntKind.u8.bits 240 ||| BitVec.ofInt IntKind.u8.bits (m:Int)).toNat=((240+m:Nat):Int):=by
 have:∀ m:Fin 8,IntKind.u8.wrap (BitVec.ofInt IntKind.u8.bits 240 ||| BitVec.ofInt IntKind.u8.bits (m.val:Int)).toNat=((240+m.val:Nat):Int):=by decide +kernel
 exact this ⟨m,h⟩
theorem Zx {m:Nat} (h:m<64):IntKind.u8.wrap (BitVec.ofInt IntKind.u8.bits 128 ||| BitVec.ofInt IntKind.u8.bits (m:Int)).toNat=((128+m:Nat):Int):=by
 have:∀ m:Fin 64,IntKind.u8.wrap (BitVec.ofInt IntKind.u8.bits 128 ||| BitVec.ofInt IntKind.u8.bits (m.val:Int)).toNat=((128+m.val:Nat):Int):=by decide +kernel
 exact this ⟨m,h⟩
theorem Zy {m:Nat} (h:m<256):IntKind.u8.wrap (BitVec.ofInt IntKind.u8.bits (m:Int) &&& BitVec.ofInt IntKind.u8.bits 63).toNat=((m % 64:Nat):Int):=by
 have:∀ m:Fin 256,IntKind.u8.wrap (BitVec.ofInt IntKind.u8.bits (m.val:Int) &&& BitVec.ofInt IntKind.u8.bits 63).toNat=((m.val % 64:Nat):Int):=by decide +kernel
 exact this ⟨m,h⟩
theorem Zz {m:Nat} (h:m<32):IntKind.i32.wrap (BitVec.ofInt IntKind.i32.bits (m:Int) &&& BitVec.ofInt IntKind.i32.bits 15).toNat=((m % 16:Nat):Int):=by
 have:∀ m:Fin 32,IntKind.i32.wrap (BitVec.ofInt IntKind.i32.bits (m.val:Int) &&& BitVec.ofInt IntKind.i32.bits 15).toNat=((m.val % 16:Nat):Int):=by decide +kernel
 exact this ⟨m,h⟩
theorem aeI {c e:Nat} (he:e≤31):(c:Int).fdiv (2 ^ (min (e:Int).toNat IntKind.i32.bits))=((c / 2 ^ e:Nat):Int):=by
 have h1:min (e:Int).toNat IntKind.i32.bits=e:=by
  show min e 32=e;omega
 rw [h1,Int.fdiv_eq_ediv_of_nonneg _ (by exact_mod_cast Nat.zero_le (2 ^ e)),Int.natCast_ediv]
 norm_cast
theorem Sg (m:Nat):IntKind.u8.wrap (m:Int)=((m % 256:Nat):Int):=by
 have:((m % 256:Nat):Int)=(m:Int) % 256:=Int.natCast_emod ..;rw [this];rfl
theorem O0 {m:Nat} (h:m<4294967296):IntKind.u32.wrap (m:Int)=(m:Int):=by
 show(m:Int) % 4294967296=m;exact Int.emod_eq_of_lt (by omega) (by omega)
def kp (c:Nat):Nat:=if c=34 then 34 else if c=92 then 92 else if c=8 then 98 else if c=9 then 116 else if c=10 then 110 else if c=12 then 102 else if c=13 then 114 else 0
theorem DE {c:Nat} (h:128≤c):kp c=0:=by
 unfold kp;rw [if_neg (by omega),if_neg (by omega),if_neg (by omega),if_neg (by omega),if_neg (by omega),if_neg (by omega),if_neg (by omega)]
theorem O1 {c:UInt8} (h:kp c.toNat≠0):(hN c).map qW = [.int .u8 92,.int .u8 (kp c.toNat:Int)]:=by
 unfold kp at h ⊢
 repeat' split at h
 ·rename_i e;rw [if_pos e,Lz (by omega)];simp [qW];omega
 ·rename_i yZ e;rw [if_neg yZ,if_pos e,Lz (by omega)];simp [qW];omega
 ·rename_i yZ aV e;rw [if_neg yZ,if_neg aV,if_pos e,UR (by omega)];simp [qW]
 ·rename_i yZ aV bs e;rw [if_neg yZ,if_neg aV,if_neg bs,if_pos e,US (by omega)];simp [qW]
 ·rename_i yZ aV bs kk e;rw [if_neg yZ,if_neg aV,if_neg bs,if_neg kk,if_pos e,UT (by omega)];simp [qW]
 ·rename_i yZ aV bs kk GU e;rw [if_neg yZ,if_neg aV,if_neg bs,if_neg kk,if_neg GU,if_pos e,UU (by omega)];simp [qW]
 ·rename_i yZ aV bs kk GU aay e;rw [if_neg yZ,if_neg aV,if_neg bs,if_neg kk,if_neg GU,if_neg aay,if_pos e,UW (by omega)];simp [qW]
 exact absurd rfl h
theorem uy {c:UInt8} (h:¬ kp c.toNat≠0):hN c=if c.toNat<32 then [92,117,48,48,hM.getD (c.toNat / 16) 0,hM.getD (c.toNat % 16) 0] else [c]:=by
 have h:=Classical.not_not.1 h;unfold kp at h
 repeat' split at h
 all_goals first | (exact absurd h (by decide)) | skip
 exact UX (by omega) (by omega) (by omega) (by omega) (by omega) (by omega) (by omega)
theorem y1 {l:U} (h:∀ b∈l,128≤b.toNat):cW l=l:=by
 induction l with
 | nil=>rfl
 | cons b r dh=>
  have aH:=h b (by simp);have h1:hN b = [b]:=by rw [uy (by rw [DE aH];simp),if_neg (by omega)]
  have aj:=dh fun x ab=>h x (by simp [ab]);simp only [cW,List.map_cons,List.flatten_cons,h1] at aj ⊢;rw [aj];rfl
theorem uz {s:U} {p m:Nat}:cW (s.take (p+m))=cW (s.take p)++cW ((s.drop p).take m):=by
 have:s.take (p+m)=s.take p++(s.drop p).take m:=by
  rw [List.take_add]
 rw [this];simp [cW]
theorem zJ {c:Nat} (h:128≤c) (aj:c≤1114111):∀ m∈eF c,128≤m∧m<256:=by
 intro m hm;unfold eF at hm;rw [if_neg (by omega)] at hm
 split at hm
 ·simp at hm;omega
 split at hm
 ·simp at hm;omega
 simp at hm;omega
theorem Kb (c:Nat):(eF c).length≤4:=by
 unfold eF
 repeat' split
 all_goals simp
theorem tO {l:U} (h:l≠[]) (bD:(aC l).2≠0):Utf8.decode ⟨⟨l⟩⟩ 0=aC l∧(l.take (aC l).2).map qW=(eF (aC l).1).map (fun m:Nat=>Value.int .u8 (m:Int))∧(aC l).1≤1114111∧¬ (55296≤(aC l).1∧(aC l).1≤57343):=by
 rcases nG h with⟨h1,_⟩ | ⟨_,aj,aF,bn,ch,_⟩
 ·exact absurd h1 bD
 refine⟨by rw [mT];exact aj,?_,bn,ch⟩;rw [← aF,List.map_map];rfl
theorem kH {l:U} (h:l≠[]) (bD:(aC l).2≠0) (a6:(aC l).1<128):∃ b,l.take (aC l).2 = [b]∧b.toNat=(aC l).1:=by
 rcases nG h with⟨h1,_⟩ | ⟨_,aj,aF,bn,ch,_⟩
 ·exact absurd h1 bD
 unfold eF at aF;rw [if_pos a6] at aF
 match bM:l.take (aC l).2,aF with
 | [b],aF=>exact⟨b,rfl,by simpa using aF⟩
 | [],aF=>simp at aF
 | _::_::_,aF=>simp at aF
theorem uQ {l:U} (h:l≠[]) (bD:(aC l).2≠0) (a6:128≤(aC l).1):∀ b∈l.take (aC l).2,128≤b.toNat:=by
 rcases nG h with⟨h1,_⟩ | ⟨_,aj,aF,bn,ch,_⟩
 ·exact absurd h1 bD
 intro b aH;have:b.toNat∈eF (aC l).1:=by rw [← aF];exact List.mem_map_of_mem aH
 exact(zJ a6 bn _ this).1
theorem R0 {l:U} (bD:(aC l).2=0):¬ (3≤l.length∧l.take 3 = [239,191,189]):=by
 rintro⟨h1,aj⟩
 match l,h1,aj with
 | dc::ev::eW::r,_,aj=>
  simp only [List.take_succ_cons,List.take_zero,List.cons.injEq,and_true] at aj;obtain⟨rfl,rfl,rfl⟩:=aj;have:aC (239::191::189::r)=(65533,3):=nq (n:=3) (l:=2048) (c:=15) (d:=65533) (by decide) (by decide) (by simp) rfl (by decide);rw [this] at bD;cases bD
theorem R1 {l:U} (h:l≠[]) (bD:(aC l).2≠0) (a6:(aC l).1=65533):3≤l.length∧l.take 3 = [239,191,189]:=by
 rcases nG h with⟨h1,_⟩ | ⟨_,aj,aF,bn,ch,_⟩
 ·exact absurd h1 bD
 rw [a6] at aF;have e:eF 65533 = [239,191,189]:=by decide
 rw [e] at aF;have bM:=congrArg List.length aF;simp only [List.length_map,List.length_take,List.length_cons,List.length_nil] at bM;have hle:=kD l;have hm:(aC l).2=3:=by omega
 rw [hm] at aF;refine⟨by omega,?_⟩
 match l,aF with
 | dc::ev::eW::r,aF=>
  simp only [List.take_succ_cons,List.take_zero,List.map_cons,List.map_nil,List.cons.injEq,and_true] at aF ⊢;obtain⟨h1,aj,aF⟩:=aF;exact⟨UInt8.toNat_inj.1 h1,UInt8.toNat_inj.1 aj,UInt8.toNat_inj.1 aF⟩
 | [],aF=>simp at aF
 | [_],aF=>simp at aF
 | [_,_],aF=>simp at aF
theorem gT {s:U} {p:Nat} (h:p<s.length):s.drop p≠[]:=fun e=>by have:=congrArg List.length e;simp at this;omega
theorem vA {s:U} {p:Nat} (h:p<s.length) (bD:(aC (s.drop p)).2≠0):Utf8.decode ⟨⟨s⟩⟩ p=((aC (s.drop p)).1,(aC (s.drop p)).2):=by
 rcases nG (gT h)with⟨h1,_⟩ | ⟨_,aj,_⟩
 ·exact absurd h1 bD
 rw [mT,aj]
theorem wL {s:U} {p:Nat} (h:p<s.length) (bD:(aC (s.drop p)).2=0):Utf8.decode ⟨⟨s⟩⟩ p=(65533,1):=by
 rcases nG (gT h)with⟨_,aj⟩ | ⟨h1,_⟩
 ·rw [mT,aj]
 exact absurd bD h1
theorem wF {l:U} (h:l≠[]) (bw:ck l=true):(aC l).2≠0:=fun bD=>by rw [wv h bD] at bw;cases bw
section
variable {P:Program} {l:List (Nat×Value)} {w w':World} {ty:TypeId} {pos:String} {af:Array Edge} {dd:Option Nat} {gg:Option (Nat×Bool)} {x y:Operand} {t t':TypeId}
theorem o9 {c:Nat} (e d:Nat) (ab:aT l x=some (.int .i32 (c:Int))) (aR:aT l y=some (.int .u64 (e:Int))) (he:e≤31) (bL:2 ^ e=d):bo P l ⟨dd,.binOp .shr t x y t',ty,pos,af,gg⟩ w (.int .i32 ((c / d:Nat):Int)) w:=
 (FQ ab aR (by omega)).to (by rw [aeI he,bL])
theorem kQ {m:Nat} {d0:TypeDesc} (aN:P.underlying t=some d0) (bQ:P.underlying t'=some (.int .u8)) (ab:aT l x=some (.int .i32 (m:Int))):bo P l ⟨dd,.convert t t' x,ty,pos,af,gg⟩ w (.int .u8 ((m % 256:Nat):Int)) w:=
 (qC aN bQ ab).to (by rw [Sg])
theorem qg {m:Nat} (ab:aT l x=some (.int .u8 ((m % 256:Nat):Int))) (aR:aT l y=some (.int .u8 63)):bo P l ⟨dd,.binOp .and t x y t',ty,pos,af,gg⟩ w (.int .u8 ((m % 64:Nat):Int)) w:=
 (FR ab aR).to (by rw [Zy (Nat.mod_lt _ (by decide)),show m % 256 % 64=m % 64 by omega])
theorem nE {m:Nat} (ab:aT l x=some (.int .u8 128)) (aR:aT l y=some (.int .u8 ((m % 64:Nat):Int))):bo P l ⟨dd,.binOp .or t x y t',ty,pos,af,gg⟩ w (.int .u8 ((128+m % 64:Nat):Int)) w:=
 (pk ab aR).to (by rw [Zx (Nat.mod_lt _ (by decide))])
theorem R4 {m:Nat} (ab:aT l x=some (.int .u8 192)) (aR:aT l y=some (.int .u8 ((m % 256:Nat):Int))) (h:m<32):bo P l ⟨dd,.binOp .or t x y t',ty,pos,af,gg⟩ w (.int .u8 ((192+m:Nat):Int)) w:=
 (pk ab aR).to (by rw [show m % 256=m by omega,Zu h])
theorem Hy {m:Nat} (ab:aT l x=some (.int .u8 224)) (aR:aT l y=some (.int .u8 ((m % 256:Nat):Int))) (h:m<16):bo P l ⟨dd,.binOp .or t x y t',ty,pos,af,gg⟩ w (.int .u8 ((224+m:Nat):Int)) w:=
 (pk ab aR).to (by rw [show m % 256=m by omega,Zv h])
theorem R5 {m:Nat} (ab:aT l x=some (.int .u8 240)) (aR:aT l y=some (.int .u8 ((m % 256:Nat):Int))) (h:m<8):bo P l ⟨dd,.binOp .or t x y t',ty,pos,af,gg⟩ w (.int .u8 ((240+m:Nat):Int)) w:=
 (pk ab aR).to (by rw [show m % 256=m by omega,Zw h])
theorem Hx {m:Nat} {d0:TypeDesc} (aN:P.underlying t=some d0) (bQ:P.underlying t'=some (.int .u32)) (ab:aT l x=some (.int .i32 (m:Int))) (h:m≤1114111):bo P l ⟨dd,.convert t t' x,ty,pos,af,gg⟩ w (.int .u32 (m:Int)) w:=
 sP aN bQ ab (O0 (by omega))
end
theorem O2 {c:Nat} (aj:c≤1114111):∀ m∈eF c,m<256:=by
 intro m hm
 by_cases h:128≤c
 ·exact(zJ h aj m hm).2
 unfold eF at hm;rw [if_pos (by omega)] at hm;simp at hm;omega
def hQ (c:Nat):U:=(eF c).map UInt8.ofNat
theorem DF {c:Nat} (aj:c≤1114111):(hQ c).map qW=(eF c).map (fun m:Nat=>Value.int .u8 (m:Int)):=by
 unfold hQ;rw [List.map_map];refine List.map_congr_left fun m hm=>?_;have:=O2 aj m hm;simp only [Function.comp,qW];rw [UInt8.toNat_ofNat_of_lt' (by simpa using this)]
theorem qh {w:World} {v:Value} {b:U} {n c:Nat} {vs:List Value} (a6:c≤1114111) (h:Own w 5 1 v n vs) (bW:n=b.length+(eF c).length) (bw:vs=(b.map Ly).flatten++(eF c).map (fun m:Nat=>Value.int .u8 (m:Int))):l0 w v (b++hQ c):=
 h.same (by rw [bW,List.length_append];simp [hQ]) (by rw [bw,List.map_append,List.flatten_append,kG (hQ c),DF a6])
theorem IH (c:Nat):(hQ c).length≤4:=by
 have:=Kb c;simpa [hQ] using this
theorem oS {l:U} (h:l≠[]) (bD:(aC l).2≠0):hQ (aC l).1=l.take (aC l).2:=by
 rcases nG h with⟨h1,_⟩ | ⟨_,aj,aF,bn,ch,_⟩
 ·exact absurd h1 bD
 unfold hQ;rw [← aF,List.map_map];refine(List.map_congr_left fun b aH=>?_).trans (List.map_id _);simp [Function.comp]
section
variable {P:Program} {l:List (Nat×Value)} {w w':World} {ty:TypeId} {pos:String} {af:Array Edge} {dd:Option Nat} {gg:Option (Nat×Bool)} {x y:Operand} {t t':TypeId}
theorem Zj {m:Nat} (ab:aT l x=some (.int .i32 (m:Int))) (aR:aT l y=some (.int .i32 15)) (h:m<32):bo P l ⟨dd,.binOp .and t x y t',ty,pos,af,gg⟩ w (.int .i32 ((m % 16:Nat):Int)) w:=
 (FR ab aR).to (by rw [Zz h])
end
section
variable {s:U} {p:Nat}
theorem ur (h:p<s.length) (bD:(aC (s.drop p)).2≠0) (bw:ck (s.drop p)=true):ck (s.drop (p+(aC (s.drop p)).2))=true:=by
 rw [← List.drop_drop,← kE (gT h) bD];exact bw
theorem R8 (h:p<s.length) (bD:(aC (s.drop p)).2≠0) (eE:(kp (aC (s.drop p)).1:Int)≠0):∃ t,cW (s.take (p+(aC (s.drop p)).2))=cW (s.take p)++t∧t.map qW = [.int .u8 92,.int .u8 (kp (aC (s.drop p)).1:Int)]∧t.length=2:=by
 have a6:(aC (s.drop p)).1<128:=by
  rcases Nat.lt_or_ge (aC (s.drop p)).1 128 with h1 | h1
  ·exact h1
  rw [DE h1] at eE;exact absurd rfl eE
 obtain⟨b,aH,Gi⟩:=kH (gT h) bD a6;have hm:=O1 (c:=b) (by rw [Gi];omega);rw [Gi] at hm;refine⟨hN b,by rw [uz,aH];simp [cW],hm,?_⟩;have:=congrArg List.length hm;simpa using this
theorem R9 (h:p<s.length) (bD:(aC (s.drop p)).2≠0) (eE:¬ (kp (aC (s.drop p)).1:Int)≠0) (a6:((aC (s.drop p)).1:Int)<32):cW (s.take (p+(aC (s.drop p)).2))=cW (s.take p) ++ [92,117,48,48,hM.getD ((aC (s.drop p)).1 / 16) 0,hM.getD ((aC (s.drop p)).1 % 16) 0]:=by
 obtain⟨b,aH,Gi⟩:=kH (gT h) bD (by omega);have hm:=uy (c:=b) (by rw [Gi];omega);rw [if_pos (by omega),Gi] at hm;rw [uz,aH];simp only [cW,List.map_cons,List.map_nil,List.flatten_cons,List.flatten_nil,hm];rfl
theorem R' (h:p<s.length) (bD:(aC (s.drop p)).2≠0) (eE:¬ (kp (aC (s.drop p)).1:Int)≠0) (a6:¬ ((aC (s.drop p)).1:Int)<32):cW (s.take (p+(aC (s.drop p)).2))=cW (s.take p)++hQ (aC (s.drop p)).1:=by
 rw [uz,oS (gT h) bD]
 congr 1
 rcases Nat.lt_or_ge (aC (s.drop p)).1 128 with h1 | h1
 ·obtain⟨b,aH,Gi⟩:=kH (gT h) bD h1;have hm:=uy (c:=b) (by rw [Gi];omega);rw [if_neg (by omega)] at hm;rw [aH];simp only [cW,List.map_cons,List.map_nil,List.flatten_cons,List.flatten_nil,hm];rfl
 exact y1 (uQ (gT h) bD h1)
theorem Dy {w:World} {v:Value} {n q:Nat} {vs:List Value} {t:U} (O:Own w 5 1 v n vs) (bQ:cW (s.take q)=cW (s.take p)++t) (bW:n=(34::cW (s.take p)).length+t.length) (oD:vs=((34::cW (s.take p)).map Ly).flatten++t.map qW):l0 w v (34::cW (s.take q)):=by
 refine O.same (by rw [bW,bQ];simp;omega) ?_;rw [oD,bQ];simp [kG]
end
def y9 (T:TypeId) (e:Int):List PanicEntry:=[{v:=.iface T (.agg #[.int .i64 e]),recovered:=false}]
def aj8 (T:TypeId) (e:Int) (w:World):Ending→World→Prop
 | .panicked c,w'=>c=y9 T e∧w'=w
 | _,_=>False
structure ti (w:World) (g V:Nat) (u:Value) (b:U):Prop where
 aA:aD w g V [u]
 own:l0 w u b
 ne:∀ x∈aL u,x≠g
 len:b.length≤65536
def xP (w:World) (g V T:Nat) (u:Value) (r:Except Int U):Ending→World→Prop
 | .returned _,w'=>∃ m' b,r = .ok b∧ti w' g V m' b∧Mod (g::aL u) w w'∧∀ x∈aL m',x∈aL u∨w.heap.size≤x
 | .panicked c,w'=>∃ e,r = .error e∧e≠0∧c=y9 T e∧Mod (g::aL u) w w'
 | .outgrown,_=>False
structure jg (w0 w:World) (k8:Value) (g V:Nat) (u:Value) (b:U):Prop where
 q1:ti w g V u b
 ig:∀ x∈aL u,x∈aL k8∨w0.heap.size≤x
 mod:Mod (g::aL k8) w0 w
section
variable {w0 w EW w':World} {k8 u h7 x:Value} {g V T:Nat} {b t:U} {r Kz:Except Int U} {c:List PanicEntry} {e:Int}
theorem ti.I (H:ti w g V u b) (k:Mod [] w w'):ti w' g V u b:=⟨H.aA.I k,H.own.I k,H.ne,H.len⟩
theorem jg.init (H:ti w g V u b):jg w w u g V u b:=⟨H,fun x ab=>.inl ab,Mod.refl _ _⟩
theorem jg.I (H:jg w0 w k8 g V u b) (k:Mod [] w w'):jg w0 w' k8 g V u b:=⟨H.q1.I k,H.ig,H.mod.then k⟩
theorem jg.xw (H:jg w0 w k8 g V u b):∀ x∈g::aL u,x∈g::aL k8∨w0.heap.size≤x:=fun x ab=>by
 rcases List.mem_cons.1 ab with rfl | h
 ·exact .inl (by simp)
 exact(H.ig x h).imp (fun h=>by simp [h]) id
theorem jg.rep {d:D} {v:Value} (H:jg w0 w k8 g V u b) (apv:aS (g::aL k8) w0 d v):aS (g::aL u) w d v:=aS.to H.mod (fun x ab=>ab) H.xw d v apv
theorem jg.Cl {d:List D} {v:List Value} (H:jg w0 w k8 g V u b) (apv:ak (g::aL k8) w0 d v):ak (g::aL u) w d v:=ak.to H.mod (fun x ab=>ab) H.xw d v apv
theorem jg.ret (H:jg w0 w k8 g V u b) (h:xP w g V T u Kz (.returned x) w'):∃ m' eA,Kz = .ok eA∧jg w0 w' k8 g V m' eA∧Mod (g::aL u) w w'∧∀ x∈aL m',x∈aL u∨w.heap.size≤x:=by
 obtain⟨m',eA,h1,aj,aF,bn⟩:=h;exact⟨m',eA,h1,⟨aj,fun x ab=>(bn x ab).elim (H.ig x) (fun h=>.inr (Nat.le_trans H.mod.size h)),H.mod.trans' aF H.xw⟩,aF,bn⟩
theorem jg.panic (H:jg w0 w k8 g V u b) (h:xP w g V T u Kz (.panicked c) w') (bf:∀ e,Kz = .error e→r = .error e):xP w0 g V T k8 r (.panicked c) w':=by
 obtain⟨e,h1,bD,aj,aF⟩:=h;exact⟨e,bf e h1,bD,aj,H.mod.trans' aF H.xw⟩
theorem jg.fail (H:jg w0 w k8 g V u b) (bf:r = .error e) (bD:e≠0:=by decide):xP w0 g V T k8 r (.panicked (y9 T e)) w:=⟨e,bf,bD,rfl,H.mod⟩
theorem jg.fin (H:jg w0 w k8 g V u b) (bf:r = .ok b):xP w0 g V T k8 r (.returned x) w:=⟨u,b,bf,H.q1,H.mod,H.ig⟩
theorem jg.app {n:Nat} {vs:List Value} (H:jg w0 w k8 g V u b) (gi:App w EW 5 1 u h7 n vs) (k:Mod [g] EW w'):Mod (g::aL k8) w0 w':=
 (H.mod.trans' gi.mod (fun x ab=>H.xw x (by simp [ab]))).trans' k (fun x ab=>.inl (by simp at ab;simp [ab]))
theorem jg.aeC {n:Nat} {vs:List Value} (H:jg w0 w k8 g V u b) (gi:App w EW 5 1 u h7 n vs) (gG:l0 EW h7 (b++t)) (k:Mod [g] EW w') (B:aD w' g V [h7]) (bM:(b++t).length≤65536):jg w0 w' k8 g V h7 (b++t):=by
 have bS:∀ x∈aL h7,x≠g:=fun x ab=>(gi.kn x ab).elim (H.q1.ne x) (fun h e=>by have:=H.q1.aA.lt;omega);refine⟨⟨B,gG.mod k (fun x ab hm=>bS x ab (by simpa using hm)),bS,bM⟩,fun x ab=>?_,H.app gi k⟩;exact(gi.kn x ab).elim (H.ig x) (fun h=>.inr (Nat.le_trans H.mod.size h))
structure tj (w:World) (g:Nat) (u:Value) (h W:Nat) (cells:List Value):Prop where
 aA:aD w h W cells
 ne:h≠g
 B':∀ x∈aL u,x≠h
variable {h W:Nat} {cells:List Value}
theorem tj.I (K:tj w g u h W cells) (k:Mod [] w w'):tj w' g u h W cells:=⟨K.aA.I k,K.ne,K.B'⟩
theorem tj.step (K:tj w g u h W cells) (k:Mod (g::aL u) w w') (dV:∀ x∈aL h7,x∈aL u∨w.heap.size≤x):tj w' g h7 h W cells:=
 ⟨K.aA.mod k (fun ab=>by
  rcases List.mem_cons.1 ab with h1 | h1
  ·exact K.ne h1
  exact K.B' _ h1 rfl),K.ne,fun x ab=>(dV x ab).elim (K.B' x) (fun h e=>by have:=K.aA.lt;omega)⟩
theorem tj.Lf (H:ti w g V u b) (B:aD w' h W cells) (jE:w.heap.size≤h):tj w' g u h W cells:=
 ⟨B,fun e=>by have:=H.aA.lt;omega,fun x ab e=>by have:=H.own.lt x ab;omega⟩
end
def JV.plain (v:JV):Bool:=decide (0≤v.kind∧v.kind≤5)&&(decide (v.kind=1) || !v.is)&&(decide (v.kind=2)||decide (v.num=0))&&(decide (v.kind=3)||decide (v.str = []))&&(decide (v.kind=4)||decide (v.list.length=0))&&(decide (v.kind=5)||decide (v.map.length=0))
theorem JV.nF (v:JV):v.bare=(v.plain&&decide (-9007199254740991≤v.num∧v.num≤9007199254740991)):=by
 unfold JV.bare JV.plain;rw [Bool.eq_iff_iff];simp only [Bool.and_eq_true,Bool.or_eq_true,Bool.not_eq_true',decide_eq_true_eq,decide_eq_false_iff_not];constructor
 ·rintro⟨⟨⟨⟨⟨⟨h1,aj⟩,aF⟩,bn⟩,ch⟩,eB⟩,kv⟩;refine⟨⟨⟨⟨⟨⟨h1,aj⟩,aF⟩,bn⟩,ch⟩,eB⟩,?_⟩;rcases kv with kv | kv
  ·rcases aF with aF | aF
   ·exact absurd aF kv
   omega
  exact kv
 rintro⟨⟨⟨⟨⟨⟨h1,aj⟩,aF⟩,bn⟩,ch⟩,eB⟩,kv⟩;exact⟨⟨⟨⟨⟨⟨h1,aj⟩,aF⟩,bn⟩,ch⟩,eB⟩,.inr kv⟩
section
variable {w w':World} {g:Nat} {u h7:Value} {ds:List D} {us:List Value} {A:List Nat}
theorem ak.I (apv:ak A w ds us) (k:Mod [] w w'):ak A w' ds us:=apv.bE k
theorem ak.uv (apv:ak (g::aL u) w ds us) (k:Mod (g::aL u) w w') (dV:∀ x∈aL h7,x∈aL u∨w.heap.size≤x):ak (g::aL h7) w' ds us:=
 ak.to k (fun x ab=>ab) (fun x ab=>by
  rcases List.mem_cons.1 ab with rfl | h
  ·exact .inl (by simp)
  exact(dV x h).imp (fun h=>by simp [h]) id) ds us apv
end
theorem T6 {l:List JV} {k deep:Nat} {x:JV} {b:U} {W:Except Int U} (ab:l[k]? = some x) (hinv:JV.h9 (l.drop k) deep (decide (k=0)) b=W) :
  ((if k=0 then Except.ok b else dw (b ++ [44])).bind fun b=>(JV.wr x (deep+1) b).bind fun b=>JV.h9 (l.drop (k+1)) deep (decide (k+1=0)) b)=W:=by
 rw [Qi ab] at hinv
 rw [show decide (k+1=0)=false by simp,← hinv]
 by_cases h:k=0 <;> simp [h]
def uw (m:List (U×JV)) (k:Nat) (x:U×JV):Bool:=match hE m k with
 | none=>true
 | some q=>fA q x.1
theorem DD {m:List (U×JV)} {k:Nat} {x:U×JV} (h:k=0):uw m k x=true:=by subst h;rfl
theorem ux {m:List (U×JV)} {k:Nat} {x q:U×JV} (eE:m[k-1]? = some q) (bD:0<k):uw m k x=fA q.1 x.1:=by
 unfold uw hE;rw [if_neg (by omega),eE];rfl
theorem T7 {m:List (U×JV)} {k deep:Nat} {x:U×JV} {b:U} {W:Except Int U} (ab:m[k]? = some x) (hinv:JV.fk (m.drop k) deep (hE m k) b=W) :
  ((if k=0 then Except.ok b else dw (b ++ [44])).bind fun b=>(if uw m k x then Except.ok b else Except.error 1).bind fun b=>(gC b x.1).bind fun b=>(dw (b ++ [58])).bind fun b=>(JV.wr x.2 (deep+1) b).bind fun b=>JV.fk (m.drop (k+1)) deep (hE m (k+1)) b)=W:=by
 by_cases h:k=0
 ·rw [DD h,if_pos h]
  exact EX ab h hinv
 obtain⟨q,eE⟩:∃ q,m[k-1]? = some q:=⟨_,List.getElem?_eq_getElem (by have:=(List.getElem?_eq_some_iff.1 ab).1;omega)⟩
 have:=Io ab eE (by omega) hinv
 rw [ux eE (by omega),if_neg h,← this]
 cases dw (b ++ [44]) <;> rfl
theorem JV.oT {v:JV} (h:v.bare=true):0≤v.kind∧v.kind≤5:=by
 unfold JV.bare at h;simp only [Bool.and_eq_true,decide_eq_true_eq] at h;omega
section
variable {P:Program} {ops:Array Oper} {Q:Exit→Act→World→Prop} {n:Nat} {ds:List Deferred} {l:List (Nat×Value)} {w w':World}
variable {rest:List Oper} {d:Nat} {op:Op} {ty:TypeId} {pos:String} {af:Array Edge} {x y:Operand} {t t':TypeId} {dd:Option Nat} {gg:Option (Nat×Bool)}
theorem Zs (hi:P.underlying t=some (.interface (P.methodsAt t))) (ab:aT l x=some .nilIface):bo P l ⟨dd,.binOp .eql t x (.const .nilIface) t',ty,pos,af,gg⟩ w (.bool true) w:=fun ρ h=>by
 have h1:ρ (.const .nilIface) = .nilIface:=h _ _ rfl;have cN:eqGuard .eql t x (.const .nilIface) .nilIface .nilIface=pure ():=by cases x <;> rfl
 simp [execOp,h _ _ ab,h1,binOp,cN,run_equal_nil_nil w t hi]
theorem Zt {T:TypeId} {v:Value} (hi:P.underlying t=some (.interface (P.methodsAt t))) (ab:aT l x=some (.iface T v)):bo P l ⟨dd,.binOp .eql t x (.const .nilIface) t',ty,pos,af,gg⟩ w (.bool false) w:=fun ρ h=>by
 have h1:ρ (.const .nilIface) = .nilIface:=h _ _ rfl;have cN:eqGuard .eql t x (.const .nilIface) (.iface T v) .nilIface=pure ():=by rfl
 simp [execOp,h _ _ ab,h1,binOp,cN,run_equal_held_nil w t _ _ hi]
theorem Hc {T t0:TypeId} {v:Value} {d0:TypeDesc} (jY:P.underlying T=some d0) (bW:(match d0 with | .interface _=>false | _=>true)=true) (ab:aT l x=some (.iface T v)):bo P l ⟨dd,.typeAssert x t0 T true,ty,pos,af,gg⟩ w (.tuple #[v,.bool true]) w:=fun ρ h=>by
 cases d0 <;> first | (simp at bW;done) | simp [execOp,Instr.typeAssert,h _ _ ab,run_underlying jY]
theorem CJ {fn:Fn} {us vs:Array Value} {fV:Array TypeId} (ab:aT l x=some (.func fn us vs)) (h:fC P ops Q rest n ({target:=.fn fn vs,args:=us}::ds) l w) :
  fC P ops Q (⟨none,.defer {callee:=.value x,args:=#[],argTypes:=fV},ty,pos,af,none⟩::rest) n ds l w:=by
 intro a ax
 refine wpList_plain rfl fun K lT=>?_
 have bf:(execOp a.eval ⟨none,.defer {callee:=.value x,args:=#[],argTypes:=fV},ty,pos,af,none⟩).run P w = .ok (.defer {target:=.fn fn vs,args:=us}) w:=by
  simp [execOp,resolve,ax.nU ab,Deferred.ofValue]
 simp only [Oper.wp,bf,Oper.upon]
 exact lT _ _ (h _ ⟨ax.size,by simp [Act.put,ax.defers],ax.get⟩)
theorem Hh {f:FuncId} {fn:Func} {c:Code} {vs:List Value} {apv:Ending→World→Prop} (dm:P.funcs[f]? = some fn) (aH:fn.body=some c) (bW:fn.ntmps=n) (hle:Nat.ble vs.length n=true) (aN:Sub (q8 0 vs) l)
  (h:nV P c (bodyPostD P fn apv) n [] l w):Calls P f vs.toArray w apv:=by
 have Ty:vs.length≤n:=by simpa using hle
 have ax:Has n [] (q8 0 vs) {tmps:=vs.toArray++Array.replicate (fn.ntmps-vs.toArray.size) undef,defers:=[]}:=by
  refine⟨by rw [Array.size_append,Array.size_replicate,List.size_toArray,bW];omega,rfl,fun t v bw=>?_⟩
  obtain⟨_,aj⟩:=qP vs 0 t v bw
  rw [Nat.sub_zero] at aj
  have bk:=(List.getElem?_eq_some_iff.1 aj).1
  dsimp only
  rw [Array.getElem?_append_left (by simpa using bk)]
  simpa using aj
 exact calls_of_wp_defers dm aH (h _ (ax.sub aN))
theorem rf {amI:Exit→Act→List Frame→World→Prop} {cs:List Frame} (kz:¬ LetsOut Q) (eE:∀ e a w,Q e a w→amI e a cs w) :
  ∀ (m:List Oper) (k:Nat),(∀ j,m[j]? = ops[k+j]?)→∀ a w,wpList P ops Q m a w→wpOpsS P ops amI (List.range' k m.length) a cs w
 | [],k,_,a,w,h=>eE _ _ _ h
 | o::m,k,dG,a,w,h=>by
  have dh:=rf kz eE m (k+1) (fun j=>by have:=dG (j+1);simpa [Nat.add_assoc,Nat.add_comm 1 j] using this)
  have bD:ops[k]? = some o:=by simpa using (dG 0).symm
  simp only [List.length_cons,List.range'_succ,wpOpsS,bD]
  simp only [wpList] at h
  by_cases hw:Region.wanted o (yielded ops a.tmps)=true
  rotate_left
  ·simp only [hw,if_false,Bool.false_eq_true] at h ⊢
   exact dh _ _ h
  simp only [hw,if_true] at h ⊢
  rcases h with h | h
  rotate_left
  ·exact absurd h.2 kz
  simp only [Oper.wp] at h
  generalize bf:(execOp a.eval o).run P w=r at h
  split
  ·rename_i aE
   simp only [Oper.upon] at h
  rename_i Vd bS
  match r,h with
  | .ok (.value v) aE,h=>exact dh _ _ h
  | .ok .skip aE,h=>exact dh _ _ h
  | .ok (.defer dd) aE,h=>exact dh _ _ h
  | .ok (.enter f args) aE,h=>
   refine Calls.mono h fun e cY he=>?_
   cases e with
   | returned v=>exact dh _ _ he
   | panicked c=>exact eE _ _ _ he
   | outgrown=>exact absurd he kz
  | .ok (.row rw args) aE,h=>exact Rows.mono h fun v cY he=>dh _ _ he
  | .halt (.panic v) aE,h=>exact eE _ _ _ h
def ZE (u:FrameMode) (v:Value) (h7:FrameMode):Prop:=
 (u = .returning∧v = .nilIface∧h7 = .returning)∨(u = .panicking [{v:=v,recovered:=false}]∧h7 = .panicking [{v:=v,recovered:=true}])
theorem oX {f:FuncId} {fn:Func} {id:Nat} {y:Code} {vs:List Value} {u h7:FrameMode} {v:Value} {apv:Ending→FrameMode→World→Prop}
  (dm:P.funcs[f]? = some fn) (aH:fn.body=some (.seq (.region id ops false) y)) (bW:fn.ntmps=n) (hle:Nat.ble vs.length n=true) (aN:Sub (q8 0 vs) l)
  (dV:ops.toList=⟨some d,.call {callee:=.builtin .recover,args:=#[],argTypes:=#[]},ty,pos,af,none⟩::rest) (bL:Nat.blt d n=true) (hu:ZE u v h7) (T8:∀ u w,¬ apv .outgrown u w)
  (h:∀ K:Act→World→Prop,(∀ n ds l w,nV P y (bodyPost P fn fun e w=>apv e h7 w) n ds l w→∀ a,Has n ds l a→K a w)→fC P ops (Exit.then K (bodyPost P fn fun e w=>apv e h7 w)) rest n [] ((d,v)::l) w):CallsD P f vs.toArray u w apv:=by
 have Ty:vs.length≤n:=by simpa using hle
 have ax:Has n [] (q8 0 vs) {tmps:=vs.toArray++Array.replicate (fn.ntmps-vs.toArray.size) undef,defers:=[]}:=by
  refine⟨by rw [Array.size_append,Array.size_replicate,List.size_toArray,bW];omega,rfl,fun t v bw=>?_⟩
  obtain⟨_,aj⟩:=qP vs 0 t v bw
  rw [Nat.sub_zero] at aj
  have bk:=(List.getElem?_eq_some_iff.1 aj).1
  dsimp only
  rw [Array.getElem?_append_left (by simpa using bk)]
  simpa using aj
 refine callsD_of_wpS dm aH fun xS cs a6=>wpS_seq (wpS_region ?_)
 have ha:ops.size=rest.length+1:=by rw [← Array.length_toList,dV];rfl
 have bD:ops[0]? = some ⟨some d,.call {callee:=.builtin .recover,args:=#[],argTypes:=#[]},ty,pos,af,none⟩:=by rw [← Array.getElem?_toList,dV];rfl
 have hm:∃ cs',cs' = {xS with mode:=h7}::cs∧((recoverD (xS::cs)=some (v,cs'))∨(recoverD (xS::cs)=none∧v = .nilIface∧cs'=xS::cs)):=by
  refine⟨_,rfl,?_⟩
  rcases hu with⟨h1,aj,aF⟩ | ⟨h1,aj⟩
  ·refine .inr ⟨by simp [recoverD,a6,h1],aj,?_⟩
   rw [aF,← h1,← a6]
  exact .inl (by subst aj;simp [recoverD,a6,h1])
 obtain⟨cs',rB,hm⟩:=hm
 have key:=h (fun a w=>y.wp P (bodyPost P fn fun e w=>apv e h7 w) a w) (fun n ds l w aR a ax=>aR a ax) _ ((ax.sub aN).put bL v)
 have kz:¬ LetsOut (Exit.then (fun a w=>y.wp P (bodyPost P fn fun e w=>apv e h7 w) a w) (bodyPost P fn fun e w=>apv e h7 w)):=by
  rintro⟨a,w,h⟩
  exact T8 _ _ h
 have zw:∀ e a w,bodyPost P fn (fun e w=>apv e h7 w) e a w→bodyPostS P fn xS cs apv e a cs' w:=by
  intro e a w eE
  cases e with
  | normal=>obtain⟨h1,v,aj,aF⟩:=eE;exact⟨h1,h7,rB,v,aj,aF⟩
  | ret=>obtain⟨h1,v,aj,aF⟩:=eE;exact⟨h1,h7,rB,v,aj,aF⟩
  | panic c=>obtain⟨h1,aF⟩:=eE;exact⟨h1,h7,rB,aF⟩
  | outgrown=>exact absurd eE (T8 _ _)
  | exit i=>exact eE.elim
  | goto i=>exact eE.elim
 have KV:∀ e a w,Exit.then (fun a w=>y.wp P (bodyPost P fn fun e w=>apv e h7 w) a w) (bodyPost P fn fun e w=>apv e h7 w) e a w→Exit.thenS (y.wpS P (bodyPostS P fn xS cs apv)) (bodyPostS P fn xS cs apv) e a cs' w:=by
  intro e a w eE
  cases e with
  | normal=>exact wpS_of_wp (Code.wp_mono zw eE)
  | ret=>exact zw .ret a w eE
  | panic c=>exact zw (.panic c) a w eE
  | outgrown=>exact zw .outgrown a w eE
  | exit i=>exact zw (.exit i) a w eE
  | goto i=>exact zw (.goto i) a w eE
 have nT:=rf (ops:=ops) kz KV rest 1 (fun j=>by rw [← Array.getElem?_toList,dV,Nat.add_comm];rfl) _ _ key
 rw [ha,List.range_eq_range',List.range'_succ]
 simp only [wpOpsS,bD,Region.wanted,if_true]
 have bf:(execOp (Act.eval {tmps:=vs.toArray++Array.replicate (fn.ntmps-vs.toArray.size) undef,defers:=[]}) ⟨some d,.call {callee:=.builtin .recover,args:=#[],argTypes:=#[]},ty,pos,af,none⟩).run P w = .ok .recover w:=by
  simp [execOp,resolve,invoke,builtin]
 simp only [bf]
 rcases hm with hm | ⟨hm,bw,w7⟩
 ·rw [hm]
  exact nT
 rw [hm]
 subst bw
 rw [← w7]
 exact nT
variable {fn:Func} {apv:Ending→World→Prop} {u:FrameMode}
theorem AM (h:∀ a,Has n ds l a→Leaves P fn a.tmps apv ds .returning w):hd (bodyPostD P fn apv) .ret n ds l w:=fun a ax=>by
 show Leaves P fn a.tmps apv a.defers .returning w;rw [ax.defers];exact h a ax
theorem ua {c:List PanicEntry} (h:∀ a,Has n ds l a→Leaves P fn a.tmps apv ds (.panicking c) w):hd (bodyPostD P fn apv) (.panic c) n ds l w:=fun a ax=>by
 show Leaves P fn a.tmps apv a.defers (.panicking c) w;rw [ax.defers];exact h a ax
theorem p5 {k:FuncId} {cap tmps:Array Value} {AI:Ending→FrameMode→World→Prop} (hu:u≠.run) (ed:aP P k) (a6:CallsD P k cap u w AI)
  (h:∀ e m' w',AI e m' w'→∃ v,e = .returned v∧settle m' = .returning∧∃ r,(results fn tmps).run P w' = .ok r w'∧apv (.returned r) w'):Leaves P fn tmps apv [{target:=.fn (.func k) cap,args:=#[]}] u w:=by
 refine leaves_cons hu (f:=k) (args:=cap) ?_ (a6.mono fun e m' w' he=>?_)
 ·have:=ed cap w
  simpa [invoke] using this
 obtain⟨v,rfl,aj,r,aF,bn⟩:=h e m' w' he
 dsimp only
 rw [aj]
 exact⟨r,aF,bn⟩
theorem u5 {a:Act} {t t' T PO:Nat} {ad we:Addr} {v v':Value} (ax:Has n ds l a) (bf:fn.results = #[.cell t T,.cell t' PO]) (bQ:mY P T=true) (AK:mY P PO=true) (bw:iN t l=some (.pointer (some ad))) (od:iN t' l=some (.pointer (some we)))
  (a6:w.cell? ad=some v) (w7:w.cell? we=some v'):(results fn a.tmps).run P w = .ok (.tuple #[v,v']) w:=by
 simp [results,bf,ax.get _ _ bw,ax.get _ _ od,asAddr,jl bQ a6,jl AK w7]
end
end Go.Proofs.YtnihidkbkhcfoaaGreatDoor.V
