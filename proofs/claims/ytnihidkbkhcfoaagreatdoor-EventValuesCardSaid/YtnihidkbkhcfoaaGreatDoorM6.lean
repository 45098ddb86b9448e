/-
  A part of the proof: the reading of JSON texts, as the document tells it, in plain Lean; the reading of JSON texts: it goes on, it ends; and the same with a stack; regions that draw and end with two operations in either order: one operation that all these wait for, some that touch no memory, then the two; maps with texts as keys: what a block that is one holds, and the operations on it; a map made, written, counted; its entries one by one; a reader in memory: its place, its stack of lists and maps under way; a reader in memory: a map's frame on top; a frame more; a number's text, read; steps of the reading: digits of base 16, escapes, blanks, words of numbers; steps of the reading: runes that are no ASCII, escapes by parts, texts between quotes by rounds. No condition of its own.
-/
import Derived.Test.YtnihidkbkhcfoaaGreatDoorM2
import Derived.Test.YtnihidkbkhcfoaaGreatDoorM5
import Derived.Maps.RangeRun
import Derived.Lib.AtoiAll
import Derived.Test.YtnihidkbkhcfoaaGreatDoorM3
import Derived.Lib.SlTrimSet
set_option linter.unusedVariables false
set_option linter.unusedSimpArgs false
namespace Go.Proofs.YtnihidkbkhcfoaaGreatDoor.V
open Go
def aW (c:UInt8):Bool:=c == 32||c == 9||c == 10||c == 13
def bx (c:UInt8):Bool:=decide (48≤c.toNat)&&decide (c.toNat≤57)
def eJ (c:UInt8):Bool:=bx c||c == 43||c == 45||c == 46||c == 101||c == 69
def ai (p:UInt8→Bool) (s:aa) (k:Nat):Nat:=k+((s.drop k).takeWhile p).length
theorem gk {s:aa} {k:Nat} {c:UInt8} (h:s[k]? = some c):s.drop k=c::s.drop (k+1):=by
 obtain⟨hk,e⟩:=List.getElem?_eq_some_iff.1 h;rw [List.drop_eq_getElem_cons hk,e]
theorem vZ {p:UInt8→Bool} {s:aa} {k:Nat} {c:UInt8} (h:s[k]? = some c) (cn:p c=true):ai p s (k+1)=ai p s k:=by
 unfold ai;rw [gk h,List.takeWhile_cons,if_pos cn];simp only [List.length_cons];omega
theorem lj {p:UInt8→Bool} {s:aa} {k:Nat} {c:UInt8} (h:s[k]? = some c) (cn:p c=false):ai p s k=k:=by
 unfold ai;rw [gk h,List.takeWhile_cons,if_neg (by simp [cn])];rfl
theorem kW {p:UInt8→Bool} {s:aa} {k:Nat} (h:s.length≤k):ai p s k=k:=by
 unfold ai;rw [List.drop_eq_nil_of_le h];rfl
theorem b' (p:UInt8→Bool) (s:aa) (k:Nat):k≤ai p s k:=Nat.le_add_right _ _
theorem Ky (p:UInt8→Bool):∀ l:aa,(l.takeWhile p).length≤l.length
 | []=>Nat.le_refl _
 | c::r=>by
  rw [List.takeWhile_cons]
  split
  ·have:=Ky p r
   simp only [List.length_cons]
   omega
  simp
theorem cw {p:UInt8→Bool} {s:aa} {k:Nat} (h:k≤s.length):ai p s k≤s.length:=by
 unfold ai;have:=Ky p (s.drop k);rw [List.length_drop] at this;omega
def aC (s:aa) (k:Nat) (t:aa):Bool:=t.isPrefixOf (s.drop k)
theorem BL {s t:aa} {k:Nat}:aC s k t=true↔(s.drop k).take t.length=t:=by
 rw [aC,List.isPrefixOf_iff_prefix,List.prefix_iff_eq_take];exact eq_comm
theorem cY {s t:aa} {k:Nat} (h:aC s k t=true) (cc:t≠[]):k+t.length≤s.length:=by
 have:=congrArg List.length (BL.1 h);rw [List.length_take,List.length_drop] at this;have:0<t.length:=List.length_pos_iff.2 cc;omega
theorem gl {s:aa} {k:Nat} {c:UInt8}:aC s k [c]=true↔s[k]? = some c:=by
 rw [aC];cases h:s[k]? with
 | none=>
  rw [List.drop_eq_nil_of_le (by simpa using h)];simp
 | some d=>
  rw [gk h];simp [List.isPrefixOf];exact eq_comm
theorem Iq {s:aa} {k:Nat} {c:UInt8}:aC s k [c]=decide (s[k]? = some c):=by
 rw [Bool.eq_iff_iff,gl,decide_eq_true_eq]
def gF (w:aa):Bool×Bool:=
 let a:=if aC w 0 [45] then 1 else 0
 let e:=ai bx w a
 if e=a∨(a+1<e∧w[a]? = some 48)then (false,false)
 else
  let m:=aC w e [46]
  let k:=ai bx w (e+1)
  if m=true∧k=e+1 then (false,false)
  else
   let bk:=if m then k else e
   if aC w bk [101]||aC w bk [69] then
    let bZ:=if aC w (bk+1) [43]||aC w (bk+1) [45] then bk+2 else bk+1
    let j3:=ai bx w bZ
    if j3=bZ then (false,false)else (decide (j3=w.length),true)
   else (decide (bk=w.length),m)
noncomputable def uG (w:aa):Option Int:=
 open Classical in if h:∃ n:Int,-9007199254740991≤n∧n≤9007199254740991∧Lib.itoa n=w then some h.choose else none
noncomputable def h4 (w:aa):Except Int Int:=
 if (gF w).1=false then .error 4
 else match uG w with
  | none=>.error 7
  | some n=>.ok n
noncomputable def iL (s:aa) (k:Nat):Except Int (JV×Nat):=
 (h4 ((s.drop k).take (ai eJ s k-k))).bind fun n=>.ok (JV.hl n,ai eJ s k)
def kC (c:UInt8):Option Nat:=
 if 48≤c.toNat∧c.toNat≤57 then some (c.toNat-48)
 else if 97≤c.toNat∧c.toNat≤102 then some (c.toNat-87)
 else if 65≤c.toNat∧c.toNat≤70 then some (c.toNat-55)
 else none
def eK:Nat→aa→Nat→Option Nat
 | 0,_,n=>some n
 | _+1,[],_=>none
 | f+1,c::r,n=>match kC c with
  | none=>none
  | some d=>eK f r (16*n+d)
def rT (c:UInt8):Option Nat:=
 if c=34 then some 34 else if c=92 then some 92 else if c=47 then some 47 else if c=98 then some 8 else if c=102 then some 12 else if c=110 then some 10 else if c=114 then some 13 else if c=116 then some 9 else none
def nG (l:aa):Option Nat:=
 match l with
 | 92::117::r=>eK 4 r 0
 | _=>none
def lE (l:aa):Nat×Nat:=
 match l with
 | _::c::_=>
  match rT c with
  | some d=>(d,2)
  | none=>
   match nG l with
   | none=>(0,0)
   | some n=>
    if 56320≤n∧n≤57343 then (0,0)
    else if n<55296∨57343<n then (n,6)
    else match nG (l.drop 6)with
     | none=>(0,0)
     | some m=>if m<56320∨57343<m then (0,0)else (65536+1024*(n-55296)+(m-56320),12)
 | _=>(0,0)
def fU:Nat→aa→Nat→aa→Option (aa×Nat)
 | 0,_,_,_=>none
 | _+1,[],_,_=>none
 | f+1,c::r,i,out=>
  if c=34 then some (out,i+1)
  else
   let x:=if c=92 then lE (c::r)else aI (c::r)
   if x.2=0∨(c≠92∧x.1<32)then none
   else fU f ((c::r).drop x.2) (i+x.2) (out++jf x.1)
def e9 (s:aa) (k:Nat):Option (aa×Nat):=if s[k]? = some 34 then fU (s.length-k) (s.drop (k+1)) (k+1) [] else none
abbrev A6:=Except Int (JV×Nat)
def jT (s:aa) (k:Nat) (m:List (aa×JV)):Except Int (aa×Nat):=
 match e9 s (ai aW s k)with
 | none=>.error 4
 | some (t,dX)=>
  if (look m t).isSome then .error 6
  else if aC s (ai aW s dX) [58] then .ok (t,ai aW s dX+1)else .error 4
mutual
noncomputable def kD:Nat→aa→Nat→Nat→Option A6
 | 0,_,_,_=>none
 | f+1,s,rb,deep=>
  let k:=ai aW s rb
  if aC s k JV.jS then some (.ok (JV.gN,k+4))
  else if aC s k JV.iT then some (.ok (.mk 1 true 0 [] [] [],k+4))
  else if aC s k JV.gE then some (.ok (.mk 1 false 0 [] [] [],k+5))
  else if aC s k [34] then
   match e9 s k with
   | none=>some (.error 4)
   | some (t,dX)=>some (.ok (JV.aN t,dX))
  else if aC s k [91]||aC s k [123] then
   if deep=32 then some (.error 5)
   else
    let dX:=ai aW s (k+1)
    if aC s k [91] then
     if aC s dX [93] then some (.ok (JV.cT [],dX+1))else qE f s dX (deep+1) []
    else
     if aC s dX [125] then some (.ok (JV.obj [],dX+1))else qF f s dX (deep+1) []
  else some (iL s k)
noncomputable def qE:Nat→aa→Nat→Nat→List JV→Option A6
 | 0,_,_,_,_=>none
 | f+1,s,k,deep,acc=>
  match kD f s k deep with
  | none=>none
  | some (.error e)=>some (.error e)
  | some (.ok (x,dX))=>
   let j3:=ai aW s dX
   if aC s j3 [93] then some (.ok (JV.cT (acc ++ [x]),j3+1))
   else if aC s j3 [44] then qE f s (j3+1) deep (acc ++ [x])
   else some (.error 4)
noncomputable def qF:Nat→aa→Nat→Nat→List (aa×JV)→Option A6
 | 0,_,_,_,_=>none
 | f+1,s,k,deep,m=>
  match jT s k m with
  | .error e=>some (.error e)
  | .ok (t,dX)=>
   match kD f s dX deep with
   | none=>none
   | some (.error e)=>some (.error e)
   | some (.ok (x,j3))=>
    let vL:=ai aW s j3
    if aC s vL [125] then some (.ok (JV.obj (dA m t x),vL+1))
    else if aC s vL [44] then qF f s (vL+1) deep (dA m t x)
    else some (.error 4)
end
theorem PY {s:aa} {k:Nat} {m:List (aa×JV)} {t:aa} {dX:Nat} (h:jT s k m = .ok (t,dX)):∃ j3,e9 s (ai aW s k)=some (t,j3)∧(look m t).isSome=false∧aC s (ai aW s j3) [58]=true∧dX=ai aW s j3+1:=by
 unfold jT at h
 split at h
 ·cases h
 rename_i t' j3 aq
 split at h
 ·cases h
 rename_i aT
 split at h
 ·rename_i bL
  injection h with h
  injection h with cN eU
  subst cN;exact⟨j3,aq,by simpa using aT,bL,eU.symm⟩
 cases h
theorem w8:∀ (f:Nat) (l:aa) (i:Nat) (out t:aa) (k:Nat),fU f l i out=some (t,k)→i<k∧k≤i+l.length
 | 0,_,_,_,_,_,h=>by simp [fU] at h
 | _+1,[],_,_,_,_,h=>by simp [fU] at h
 | f+1,c::r,i,out,t,k,h=>by
  rw [fU] at h
  split at h
  ·injection h with h
   injection h with _ h
   subst h
   simp
  dsimp only at h
  generalize (if c=92 then lE (c::r)else aI (c::r))=x at h
  split at h
  ·cases h
  rename_i ae
  have dF:=w8 f _ _ _ _ _ h
  rw [List.length_drop] at dF
  by_cases WB:x.2≤(c::r).length
  ·omega
  rw [List.drop_eq_nil_of_le (by omega)] at h
  cases f <;> simp [fU] at h
theorem pr {s:aa} {k:Nat} {t:aa} {dX:Nat} (h:e9 s k=some (t,dX)):k+1<dX∧dX≤s.length∧s[k]? = some 34:=by
 unfold e9 at h
 split at h
 ·rename_i b3
  have hk:=(List.getElem?_eq_some_iff.1 b3).1;have:=w8 _ _ _ _ _ _ h;rw [List.length_drop] at this;exact⟨this.1,by omega,b3⟩
 cases h
theorem ps {s:aa} {k:Nat} {m:List (aa×JV)} {t:aa} {dX:Nat} (h:jT s k m = .ok (t,dX)):k<dX∧dX≤s.length:=by
 obtain⟨j3,h1,_,aT,rfl⟩:=PY h;obtain⟨bL,cN,_⟩:=pr h1;have:=cY aT (by simp);have:=b' aW s k;have:=b' aW s j3;simp only [List.length_singleton] at *;omega
theorem FB:(gF []).1=false:=by rfl
theorem w9 {s:aa} {k:Nat} {v:JV} {dX:Nat} (h:iL s k = .ok (v,dX)) (hk:k≤s.length):k<dX∧dX≤s.length:=by
 unfold iL at h;cases h1:h4 ((s.drop k).take (ai eJ s k-k))with
 | error e=>rw [h1] at h;cases h
 | ok n=>
  rw [h1] at h;injection h with h
  injection h with _ h
  subst h;refine⟨?_,cw hk⟩;have:=b' eJ s k;rcases Nat.lt_or_ge k (ai eJ s k)with h | h
  ·exact h
  rw [show ai eJ s k-k=0 by omega,List.take_zero] at h1;unfold h4 at h1;rw [if_pos FB] at h1;cases h1
theorem BM (s:aa):∀ f:Nat,(∀ k deep x dX,k≤s.length→kD f s k deep=some (.ok (x,dX))→k<dX∧dX≤s.length)∧
  (∀ k deep acc x dX,k≤s.length→qE f s k deep acc=some (.ok (x,dX))→k<dX∧dX≤s.length)∧
  (∀ k deep m x dX,k≤s.length→qF f s k deep m=some (.ok (x,dX))→k<dX∧dX≤s.length)
 | 0=>⟨fun _ _ _ _ _ h=>by simp [kD] at h,fun _ _ _ _ _ _ h=>by simp [qE] at h,fun _ _ _ _ _ _ h=>by simp [qF] at h⟩
 | f+1=>by
  obtain⟨tG,y0,y1⟩:=BM s f
  refine⟨fun rb deep x dX hk h=>?_,fun k deep acc x dX hk h=>?_,fun k deep m x dX hk h=>?_⟩
  ·rw [kD] at h
   have dv:=b' aW s rb
   generalize PZ:ai aW s rb=k at h dv
   have abH:k≤s.length:=by rw [← PZ];exact cw hk
   dsimp only at h
   split at h
   ·rename_i h1
    have:=cY h1 (by decide)
    injection h with h;injection h with h;injection h with _ h
    simp only [List.length_cons,List.length_nil] at this
    omega
   split at h
   ·rename_i h1
    have:=cY h1 (by decide)
    injection h with h;injection h with h;injection h with _ h
    simp only [List.length_cons,List.length_nil] at this
    omega
   split at h
   ·rename_i h1
    have:=cY h1 (by decide)
    injection h with h;injection h with h;injection h with _ h
    simp only [List.length_cons,List.length_nil] at this
    omega
   split at h
   ·split at h
    ·cases h
    rename_i bb
    injection h with h;injection h with h;injection h with _ h
    have:=pr bb
    omega
   split at h
   rotate_left
   ·injection h with h
    have:=w9 h abH
    omega
   rename_i aQ
   have mR:k+1≤s.length:=by
    rcases Bool.or_eq_true_iff.1 aQ with aQ | aQ <;> exact cY aQ (by decide)
   split at h
   ·cases h
   split at h
   ·split at h
    ·rename_i h1
     have:=cY h1 (by decide)
     have:=b' aW s (k+1)
     injection h with h;injection h with h;injection h with _ h
     simp only [List.length_cons,List.length_nil] at *
     omega
    have:=y0 _ _ _ _ _ (cw mR) h
    have:=b' aW s (k+1)
    omega
   split at h
   ·rename_i h1
    have:=cY h1 (by decide)
    have:=b' aW s (k+1)
    injection h with h;injection h with h;injection h with _ h
    simp only [List.length_cons,List.length_nil] at *
    omega
   have:=y1 _ _ _ _ _ (cw mR) h
   have:=b' aW s (k+1)
   omega
  ·rw [qE] at h
   split at h
   ·cases h
   ·cases h
   rename_i y j3 h1
   obtain⟨aq,aT⟩:=tG _ _ _ _ hk h1
   have:=b' aW s j3
   dsimp only at h
   split at h
   ·rename_i bL
    have:=cY bL (by decide)
    injection h with h;injection h with h;injection h with _ h
    simp only [List.length_cons,List.length_nil] at *
    omega
   split at h
   ·rename_i bL
    have cN:=cY bL (by decide)
    have:=y0 _ _ _ _ _ cN h
    simp only [List.length_cons,List.length_nil] at *
    omega
   cases h
  rw [qF] at h
  split at h
  ·cases h
  rename_i t j3 FC
  obtain⟨cN,eU⟩:=ps FC
  split at h
  ·cases h
  ·cases h
  rename_i y vL h1
  obtain⟨aq,aT⟩:=tG _ _ _ _ eU h1
  have:=b' aW s vL
  dsimp only at h
  split at h
  ·rename_i bL
   have:=cY bL (by decide)
   injection h with h;injection h with h;injection h with _ h
   simp only [List.length_cons,List.length_nil] at *
   omega
  split at h
  ·rename_i bL
   have cN:=cY bL (by decide)
   have:=y1 _ _ _ _ _ cN h
   simp only [List.length_cons,List.length_nil] at *
   omega
  cases h
theorem BN (s:aa):∀ f:Nat,(∀ k deep,k≤s.length→2*(s.length-k)+2≤f→kD f s k deep≠none)∧
  (∀ k deep acc,k≤s.length→2*(s.length-k)+3≤f→qE f s k deep acc≠none)∧
  (∀ k deep m,k≤s.length→2*(s.length-k)+3≤f→qF f s k deep m≠none)
 | 0=>⟨fun _ _ _ h=>by omega,fun _ _ _ _ h=>by omega,fun _ _ _ _ h=>by omega⟩
 | f+1=>by
  obtain⟨tG,y0,y1⟩:=BN s f
  obtain⟨aoK,_,_⟩:=BM s f
  refine⟨fun rb deep hk dK=>?_,fun k deep acc hk dK=>?_,fun k deep m hk dK=>?_⟩
  ·rw [kD]
   have dv:=b' aW s rb
   have abH:ai aW s rb≤s.length:=cw hk
   generalize ai aW s rb=k at dv abH
   dsimp only
   split;· simp
   split;· simp
   split;· simp
   split;· split <;> simp
   split
   ·rename_i aQ
    have mR:k+1≤s.length:=by
     rcases Bool.or_eq_true_iff.1 aQ with aQ | aQ <;> exact cY aQ (by decide)
    have:=b' aW s (k+1)
    split;· simp
    split
    ·split;· simp
     exact y0 _ _ _ (cw mR) (by omega)
    split;· simp
    exact y1 _ _ _ (cw mR) (by omega)
   simp
  ·rw [qE]
   have pa:=tG k deep hk (by omega)
   split
   ·rename_i h;exact absurd h pa
   ·simp
   rename_i y j3 h1
   obtain⟨aq,aT⟩:=aoK _ _ _ _ hk h1
   have:=b' aW s j3
   dsimp only
   split;· simp
   split
   ·rename_i bL
    have cN:=cY bL (by decide)
    simp only [List.length_cons,List.length_nil] at cN
    exact y0 _ _ _ cN (by omega)
   simp
  rw [qF]
  split
  ·simp
  rename_i t j3 FC
  obtain⟨cN,eU⟩:=ps FC
  have pa:=tG j3 deep eU (by omega)
  split
  ·rename_i h;exact absurd h pa
  ·simp
  rename_i y vL h1
  obtain⟨aq,aT⟩:=aoK _ _ _ _ eU h1
  have:=b' aW s vL
  dsimp only
  split;· simp
  split
  ·rename_i bL
   have cN:=cY bL (by decide)
   simp only [List.length_cons,List.length_nil] at cN
   exact y1 _ _ _ cN (by omega)
  simp
def ei (acc:List (aa×JV)):List (aa×JV):=acc.foldl (fun m p=>dA m p.1 p.2) []
theorem mS (acc:List (aa×JV)) (p:aa×JV):ei (acc ++ [p])=dA (ei acc) p.1 p.2:=by simp [ei,List.foldl_append]
inductive lU where
 | L (l:List JV)
 | M (m:List (aa×JV)) (key:aa)
 | A (m:List (aa×JV)) (key:aa)
noncomputable def mT (s:aa) (rb n:Nat):Except Int (Sum (JV×Nat) (lU×Nat)):=
 let k:=ai aW s rb
 if aC s k JV.jS then .ok (.inl (JV.gN,k+4))
 else if aC s k JV.iT then .ok (.inl (.mk 1 true 0 [] [] [],k+4))
 else if aC s k JV.gE then .ok (.inl (.mk 1 false 0 [] [] [],k+5))
 else if aC s k [34] then
  match e9 s k with
  | none=>.error 4
  | some (t,dX)=>.ok (.inl (JV.aN t,dX))
 else if aC s k [91]||aC s k [123] then
  if n=32 then .error 5
  else
   let dX:=ai aW s (k+1)
   if aC s k [91] then
    if aC s dX [93] then .ok (.inl (JV.cT [],dX+1))else .ok (.inr (.L [],dX))
   else
    if aC s dX [125] then .ok (.inl (JV.obj [],dX+1))
    else match jT s dX [] with
     | .error e=>.error e
     | .ok (t,j3)=>.ok (.inr (.M [] t,j3))
 else match iL s k with
  | .error e=>.error e
  | .ok x=>.ok (.inl x)
inductive hV (s:aa):Option JV→Nat→List lU→A6→Prop where
 | err {k:Nat} {st:List lU} {e:Int}:mT s k st.length = .error e→hV s none k st (.error e)
 | whole {k dX:Nat} {st:List lU} {v:JV} {r:A6}:mT s k st.length = .ok (.inl (v,dX))→hV s (some v) dX st r→hV s none k st r
 | push {k dX:Nat} {st:List lU} {x:lU} {r:A6}:mT s k st.length = .ok (.inr (x,dX))→hV s none dX (x::st) r→hV s none k st r
 | done {k:Nat} {v:JV}:hV s (some v) k [] (.ok (v,k))
 | Kz {k:Nat} {v:JV} {acc:List JV} {st:List lU} {r:A6}:aC s (ai aW s k) [93]=true→hV s (some (JV.cT (acc ++ [v]))) (ai aW s k+1) st r→hV s (some v) k (.L acc::st) r
 | y2 {k:Nat} {v:JV} {acc:List JV} {st:List lU} {r:A6}:aC s (ai aW s k) [93]=false→aC s (ai aW s k) [44]=true→hV s none (ai aW s k+1) (.L (acc ++ [v])::st) r→hV s (some v) k (.L acc::st) r
 | KA {k:Nat} {v:JV} {acc:List JV} {st:List lU}:aC s (ai aW s k) [93]=false→aC s (ai aW s k) [44]=false→hV s (some v) k (.L acc::st) (.error 4)
 | FD {k:Nat} {v:JV} {acc:List (aa×JV)} {t:aa} {st:List lU} {r:A6}:aC s (ai aW s k) [125]=true→hV s (some (JV.obj (ei (acc ++ [(t,v)])))) (ai aW s k+1) st r→hV s (some v) k (.M acc t::st) r
 | v7 {k iA:Nat} {v:JV} {acc:List (aa×JV)} {t t':aa} {st:List lU} {r:A6}:aC s (ai aW s k) [125]=false→aC s (ai aW s k) [44]=true→jT s (ai aW s k+1) (ei (acc ++ [(t,v)])) = .ok (t',iA)→hV s none iA (.M (acc ++ [(t,v)]) t'::st) r→hV s (some v) k (.M acc t::st) r
 | FE {k:Nat} {v:JV} {acc:List (aa×JV)} {t:aa} {st:List lU} {e:Int}:aC s (ai aW s k) [125]=false→aC s (ai aW s k) [44]=true→jT s (ai aW s k+1) (ei (acc ++ [(t,v)])) = .error e→hV s (some v) k (.M acc t::st) (.error e)
 | FF {k:Nat} {v:JV} {acc:List (aa×JV)} {t:aa} {st:List lU}:aC s (ai aW s k) [125]=false→aC s (ai aW s k) [44]=false→hV s (some v) k (.M acc t::st) (.error 4)
def P0 (s:aa) (k:Nat) (akH st:List lU) (r:A6):Prop:=(∀ e,r = .error e→hV s none k st (.error e))∧∀ v dX,r = .ok (v,dX)→∀ arZ,hV s (some v) dX akH arZ→hV s none k st arZ
theorem agm (s:aa):∀ f:Nat,(∀ k deep r,kD f s k deep=some r→∀ st,st.length=deep→P0 s k st st r)∧
  (∀ k deep acc r,qE f s k deep acc=some r→∀ st,st.length+1=deep→P0 s k st (.L acc::st) r)∧
  (∀ k deep acc r,qF f s k deep (ei acc)=some r→∀ st,st.length+1=deep→(∀ e,jT s k (ei acc) = .error e→r = .error e)∧∀ t dX,jT s k (ei acc) = .ok (t,dX)→P0 s dX st (.M acc t::st) r)
 | 0=>⟨fun _ _ _ h=>by simp [kD] at h,fun _ _ _ _ h=>by simp [qE] at h,fun _ _ _ _ h=>by simp [qF] at h⟩
 | f+1=>by
  obtain⟨tG,y0,y1⟩:=agm s f
  refine⟨fun rb deep r h st hG=>?_,fun k deep acc r h st hG=>?_,fun k deep acc r h st hG=>?_⟩
  ·subst hG
   have ef:=Eq.refl (mT s rb st.length)
   conv at ef=>rhs;unfold mT
   rw [kD] at h
   generalize ai aW s rb=k at h ef
   dsimp only at h ef
   have lit:∀ v dX,mT s rb st.length = .ok (.inl (v,dX))→r = .ok (v,dX)→P0 s rb st st r:=fun v dX aQ bl=>
    ⟨fun e he=>(by rw [bl] at he;cases he),fun v' iA he arZ iQ=>by
     rw [bl] at he
     injection he with he
     injection he with h1 aq
     subst h1;subst aq
     exact .whole aQ iQ⟩
   have bad:∀ e,mT s rb st.length = .error e→r = .error e→P0 s rb st st r:=fun e aQ bl=>
    ⟨fun w6 he=>by
     rw [bl] at he
     injection he with he
     subst he
     exact .err aQ,fun v' iA he arZ iQ=>by rw [bl] at he;cases he⟩
   split at h
   ·rename_i c1
    rw [if_pos c1] at ef
    injection h with h
    exact lit _ _ ef h.symm
   rename_i c1
   rw [if_neg c1] at ef
   split at h
   ·rename_i c2
    rw [if_pos c2] at ef
    injection h with h
    exact lit _ _ ef h.symm
   rename_i c2
   rw [if_neg c2] at ef
   split at h
   ·rename_i c3
    rw [if_pos c3] at ef
    injection h with h
    exact lit _ _ ef h.symm
   rename_i c3
   rw [if_neg c3] at ef
   split at h
   ·rename_i c4
    rw [if_pos c4] at ef
    split at h
    ·rename_i bb
     rw [bb] at ef
     injection h with h
     exact bad _ ef h.symm
    rename_i t dX bb
    rw [bb] at ef
    injection h with h
    exact lit _ _ ef h.symm
   rename_i c4
   rw [if_neg c4] at ef
   split at h
   rotate_left
   ·rename_i c5
    rw [if_neg c5] at ef
    injection h with h
    cases cj:iL s k with
    | error e=>rw [cj] at ef h;exact bad _ ef h.symm
    | ok x=>obtain⟨v,dX⟩:=x;rw [cj] at ef h;exact lit _ _ ef h.symm
   rename_i c5
   rw [if_pos c5] at ef
   split at h
   ·rename_i af9
    rw [if_pos af9] at ef
    injection h with h
    exact bad _ ef h.symm
   rename_i af9
   rw [if_neg af9] at ef
   split at h
   ·rename_i akI
    rw [if_pos akI] at ef
    split at h
    ·rename_i WC
     rw [if_pos WC] at ef
     injection h with h
     exact lit _ _ ef h.symm
    rename_i WC
    rw [if_neg WC] at ef
    obtain⟨h1,aq⟩:=y0 _ _ _ _ h st rfl
    exact⟨fun e he=>.push ef (h1 e he),fun v dX he arZ iQ=>.push ef (aq v dX he arZ iQ)⟩
   rename_i akI
   rw [if_neg akI] at ef
   split at h
   ·rename_i WC
    rw [if_pos WC] at ef
    injection h with h
    exact lit _ _ ef h.symm
   rename_i WC
   rw [if_neg WC] at ef
   obtain⟨b3,h1⟩:=y1 _ _ [] _ h st rfl
   cases hk:jT s (ai aW s (k+1)) [] with
   | error e=>
    rw [hk] at ef
    exact bad _ ef (b3 e hk)
   | ok p=>
    obtain⟨t,j3⟩:=p
    rw [hk] at ef
    obtain⟨aq,aT⟩:=h1 t j3 hk
    exact⟨fun e he=>.push ef (aq e he),fun v dX he arZ iQ=>.push ef (aT v dX he arZ iQ)⟩
  ·rw [qE] at h
   split at h
   ·cases h
   ·rename_i e bK
    injection h with h
    subst h
    obtain⟨h1,_⟩:=tG _ _ _ bK (.L acc::st) (by simpa using hG)
    exact⟨fun w6 he=>by injection he with he;subst he;exact h1 _ rfl,fun v dX he=>by cases he⟩
   rename_i y j3 bK
   obtain⟨_,aq⟩:=tG _ _ _ bK (.L acc::st) (by simpa using hG)
   have aq:=aq y j3 rfl
   dsimp only at h
   split at h
   ·rename_i c1
    injection h with h
    subst h
    exact⟨fun e he=>(by cases he),fun v dX he arZ iQ=>by
     injection he with he
     injection he with bk bZ
     subst bk;subst bZ
     exact aq arZ (.Kz c1 iQ)⟩
   rename_i c1
   split at h
   ·rename_i c2
    obtain⟨aT,bL⟩:=y0 _ _ _ _ h st hG
    exact⟨fun e he=>aq _ (.y2 (by simpa using c1) c2 (aT e he)),fun v dX he arZ iQ=>aq _ (.y2 (by simpa using c1) c2 (bL v dX he arZ iQ))⟩
   rename_i c2
   injection h with h
   subst h
   exact⟨fun e he=>by injection he with he;subst he;exact aq _ (.KA (by simpa using c1) (by simpa using c2)),fun v dX he=>by cases he⟩
  rw [qF] at h
  refine⟨fun e he=>?_,fun t dX hk=>?_⟩
  ·rw [he] at h
   injection h with h
   exact h.symm
  rw [hk] at h
  dsimp only at h
  split at h
  ·cases h
  ·rename_i e bK
   injection h with h
   subst h
   obtain⟨h1,_⟩:=tG _ _ _ bK (.M acc t::st) (by simpa using hG)
   exact⟨fun w6 he=>by injection he with he;subst he;exact h1 _ rfl,fun v dX he=>by cases he⟩
  rename_i y j3 bK
  obtain⟨_,aq⟩:=tG _ _ _ bK (.M acc t::st) (by simpa using hG)
  have aq:=aq y j3 rfl
  split at h
  ·rename_i c1
   injection h with h
   subst h
   exact⟨fun e he=>(by cases he),fun v dX he arZ iQ=>by
    injection he with he
    injection he with bk bZ
    subst bk;subst bZ
    refine aq arZ (.FD c1 ?_)
    rw [mS]
    exact iQ⟩
  rename_i c1
  split at h
  ·rename_i c2
   have bb:dA (ei acc) t y=ei (acc ++ [(t,y)]):=(mS acc (t,y)).symm
   rw [bb] at h
   obtain⟨aT,bL⟩:=y1 _ _ _ _ h st hG
   cases bD:jT s (ai aW s j3+1) (ei (acc ++ [(t,y)]))with
   | error e=>
    have:=aT e bD
    subst this
    exact⟨fun w6 he=>by injection he with he;subst he;exact aq _ (.FE (by simpa using c1) c2 bD),fun v dX he=>by cases he⟩
   | ok p=>
    obtain⟨t',iA⟩:=p
    obtain⟨cN,eU⟩:=bL t' iA bD
    exact⟨fun e he=>aq _ (.v7 (by simpa using c1) c2 bD (cN e he)),fun v dX he arZ iQ=>aq _ (.v7 (by simpa using c1) c2 bD (eU v dX he arZ iQ))⟩
  rename_i c2
  injection h with h
  subst h
  exact⟨fun e he=>by injection he with he;subst he;exact aq _ (.FF (by simpa using c1) (by simpa using c2)),fun v dX he=>by cases he⟩
noncomputable def Ir (s:aa):A6:=(kD (2*s.length+2) s 0 0).getD (.error 0)
theorem KB (s:aa):kD (2*s.length+2) s 0 0=some (Ir s):=by
 unfold Ir;have:=(BN s (2*s.length+2)).1 0 0 (by omega) (by omega);cases h:kD (2*s.length+2) s 0 0 with
 | none=>exact absurd h this
 | some r=>rfl
theorem P1 (s:aa):hV s none 0 [] (Ir s):=by
 obtain⟨h1,aq⟩:=(agm s _).1 _ _ _ (KB s) [] rfl;cases h:Ir s with
 | error e=>exact h1 e h
 | ok p=>exact aq p.1 p.2 (by rw [h]) _ .done
noncomputable def parse (s:aa):Except Int JV:=
 if 65536<s.length then .error 3
 else match Ir s with
  | .error e=>.error e
  | .ok (v,k)=>if ai aW s k<s.length then .error 4 else .ok v
section
variable {P:Program} {ops:Array Oper} {md:Region.Mode} {arZ:World→World→Prop} {C:World→Prop} {n:Nat} {ds:List Deferred} {Q:Exit→Act→World→Prop} {w w':World} {l:List (Nat×Value)} {a:Act}
def zW (P:Program) (ops:Array Oper) (n:Nat) (ds:List Deferred) (Q:Exit→Act→World→Prop) (rD:List Nat) (x y:Nat):Exit→Act→World→Prop
 | .normal,a,w=>∃ l,Has n ds l a∧Xt P n (fun l=>ga P ops Q (pick ops [x,y]) n ds l w∧ga P ops Q (pick ops [y,x]) n ds l w) (pick ops rD) l
 | e,a,w=>Q e a w
theorem QP {rD:List Nat} {x y:Nat} (h:Xt P n (fun l=>ga P ops Q (pick ops [x,y]) n ds l w∧ga P ops Q (pick ops [y,x]) n ds l w) (pick ops rD) l):ga P ops (zW P ops n ds Q rD x y) [] n ds l w:=fun a ay=>⟨l,ay,h⟩
theorem Nw {rD:List Nat} {x y i:Nat} {K:Act→World→Prop} (h:∀ a w,zW P ops n ds Q rD x y .normal a w→K a w) (ik:wpOp P ops (zW P ops n ds Q rD x y) i (zW P ops n ds Q rD x y .normal) a w):wpOp P ops Q i K a w:=by
 have aaz:LetsOut (zW P ops n ds Q rD x y)→LetsOut Q:=fun⟨a,w,h⟩=>⟨a,w,h⟩;unfold wpOp at *
 split
 ·exact h _ _ (by simpa [*] using ik)
 rename_i o et
 simp only [et] at ik
 split
 rotate_left
 ·rename_i hw
  simp only [hw,if_false] at ik;exact h _ _ ik
 rename_i hw
 simp only [hw,if_true] at ik;refine ik.imp (fun h1=>?_) (fun h1=>⟨h1.1,aaz h1.2⟩);unfold Oper.wp at *;generalize (execOp a.eval o).run P w=r at *;cases r with
 | ok n w'=>
  cases n with
  | value v=>exact h _ _ h1
  | skip=>exact h _ _ h1
  | defer d=>exact h _ _ h1
  | enter f args=>
   refine Calls.mono h1 fun e cO he=>?_;cases e with
   | returned v=>exact h _ _ he
   | panicked c=>exact he
   | outgrown=>exact aaz he
  | row aqH args=>exact Rows.mono h1 fun v cO bK=>h _ _ bK
  | _=>exact h1
 | halt s w'=>
  cases s with
  | panic v=>exact h1
  | _=>exact h1
def Gz (ops:Array Oper) (t0:Nat) (rD:List Nat) (x y:Nat) (listed:Array Bool):Bool:=
 decide (Region.ready .any ops listed = [t0])&&wF .any ops rD (listed.setIfInBounds t0 true) &&
 decide (Region.ready .any ops (lL (listed.setIfInBounds t0 true) rD) = [x,y]) &&
 ql .any ops [y] ((lL (listed.setIfInBounds t0 true) rD).setIfInBounds x true)&&ql .any ops [x] ((lL (listed.setIfInBounds t0 true) rD).setIfInBounds y true)
theorem pS {i:Nat} {o:Oper} {rest:List Oper} (et:ops[i]? = some o) (h:wpList P ops Q (o::rest) a w):wpOp P ops Q i (wpList P ops Q rest) a w:=by
 unfold wpOp;simp only [et];exact h
theorem Jj {x y:Nat} {Ow:Array Bool} (h1:Region.ready .any ops Ow = [x,y]) (aq:ql .any ops [y] (Ow.setIfInBounds x true)=true) (aT:ql .any ops [x] (Ow.setIfInBounds y true)=true)
  (ae:wpList P ops Q (pick ops [x,y]) a w) (aZ:wpList P ops Q (pick ops [y,x]) a w):wpAny P .any ops Q 2 Ow a w:=by
 have al2:x∈Region.ready .any ops Ow:=by rw [h1];simp
 have al3:y∈Region.ready .any ops Ow:=by rw [h1];simp
 obtain⟨_,aqI,ahF,_⟩:=mem_ready.1 al2
 obtain⟨_,aqJ,ahG,_⟩:=mem_ready.1 al3
 refine⟨fun h=>(by rw [h1] at h;cases h),fun i hi=>?_⟩
 rw [h1] at hi
 rcases List.mem_cons.1 hi with rfl | hi
 ·have cn:pick ops [i,y]=aqI::pick ops [y]:=by simp [pick,List.filterMap_cons,ahF]
  rw [cn] at ae
  exact wpOp_mono (fun a w h=>lM [y] _ a w aq h) (pS ahF ae)
 obtain rfl:i=y:=by simpa using hi
 have cn:pick ops [i,x]=aqJ::pick ops [x]:=by simp [pick,List.filterMap_cons,ahG]
 rw [cn] at aZ
 exact wpOp_mono (fun a w h=>lM [x] _ a w aT h) (pS ahG aZ)
theorem zX (Ck:∀ c a w,¬ Q (.panic c) a w) (te:∀ (j:Nat) (o:Oper) cs b,ops[j]? = some o→o.op≠.select cs b) {t0 x y:Nat} {rD:List Nat} {listed:Array Bool} (ef:Gz ops t0 rD x y listed=true)
  (h:wpList P ops (zW P ops n ds Q rD x y) (pick ops [t0]) a w):wpAny P .any ops Q (rD.length+2+1) listed a w:=by
 unfold Gz at ef
 simp only [Bool.and_eq_true,decide_eq_true_eq] at ef
 obtain⟨⟨⟨⟨dm,eI⟩,lq⟩,Ez⟩,al4⟩:=ef
 have bl:t0∈Region.ready .any ops listed:=by rw [dm];simp
 obtain⟨_,o,et,_⟩:=mem_ready.1 bl
 have cn:pick ops [t0] = [o]:=by simp [pick,et]
 rw [cn] at h
 refine⟨fun h=>(by rw [dm] at h;cases h),fun i hi=>?_⟩
 rw [dm] at hi
 obtain rfl:i=t0:=by simpa using hi
 refine Nw (fun x8 w' he=>?_) (pS et h)
 obtain⟨l',wD,Xv⟩:=he
 exact pB (n:=n) (ds:=ds) Ck te rD _ l' x8 wD eI Xv fun Ow a2 Gw hk=>Jj lq Ez al4 (hk.1 a2 Gw) (hk.2 a2 Gw)
def zY (md:Region.Mode) (ops:Array Oper) (B:Array Bool→Bool):List Nat→Array Bool→Bool
 | [],listed=>B listed
 | i::bb,listed=>(Region.ready md ops listed).contains i&&Region.free md ops listed i&&zY md ops B bb (listed.setIfInBounds i true)
theorem zZ {B:Array Bool→Bool} {sS gS:List Nat} {Fin:j'→Prop} (aQ:∀ listed,B listed=true→∀ j∈Region.ready md ops listed,j∈gS) (hw:∀ listed,qm md ops sS gS listed→(∃ i∈sS,listed.getD i true=false)→∀ t∈gS,t∉Region.ready md ops listed) :
  ∀ (bb:List Nat) (listed:Array Bool) (N:j'),(∀ i∈bb,i∈sS)→(∀ i∈bb,i∉gS)→qm md ops sS gS listed→
  zY md ops B bb listed=true→TW P ops arZ C n Fin (pick ops bb) N→
  Ci P md ops arZ C n gS (fun na aaq=>B na=true∧Fin aaq) bb.length listed N
 | [],listed,N,_,_,_,ef,h=>⟨by simpa [zY] using ef,h⟩
 | i::bb,listed,N,jV,Ja,inv,ef,h=>by
  simp only [zY,Bool.and_eq_true] at ef
  obtain⟨⟨bl,dK⟩,DV⟩:=ef
  have oE:i∈Region.ready md ops listed:=by simpa using bl
  obtain⟨k3,o,et,_⟩:=mem_ready.1 oE
  have cn:pick ops (i::bb)=o::pick ops bb:=by simp [pick,List.filterMap_cons,et]
  rw [cn] at h
  obtain⟨V,rz,gY⟩:=h
  exact xr et (Ja i (by simp)) (fun listed inv hu=>hw listed inv ⟨i,jV i (by simp),hu⟩) (fun na aaq o'=>aQ _ o'.1) bb.length listed N inv (Region.free_spec et dK) oE rz
   (zZ aQ hw bb _ _ (fun i hi=>jV i (by simp [hi])) (fun i hi=>Ja i (by simp [hi])) (inv.set oE (Ja i (by simp))) DV gY)
def RV (ops:Array Oper) (h9 bb:List Nat) (t0:Nat) (rD:List Nat) (x y:Nat):Bool:=
 Region.noSelect ops&&decide (h9.length+(bb.length+(rD.length+2+1))=ops.size)&&wF .any ops h9 (Array.replicate ops.size false) &&
 Gt .any ops (lL (Array.replicate ops.size false) h9)&&(t0::(rD ++ [x,y])).all (fun t=>!(lL (Array.replicate ops.size false) h9).getD t true) &&
 bb.all (fun i=>!(t0::(rD ++ [x,y])).contains i)&&zQ .any ops t0 bb&&(rD ++ [x,y]).all (fun t=>Region.waitsFor .any ops t t0)&&zY .any ops (Gz ops t0 rD x y) bb (lL (Array.replicate ops.size false) h9)
theorem F1 {id:Nat} {lo:List Oper} (h9 bb:List Nat) (t0:Nat) (rD:List Nat) (x y:Nat) (hm:P.follows .mixedOrders=true) (ef:RV lo.toArray h9 bb t0 rD x y=true) (Ck:∀ c a w,¬ Q (.panic c) a w)
  (h:Xt P n (fun l=>gh P lo.toArray w n (fun N=>∀ a w',a.defers=ds→Mod [] w w'→N.all n a w'→wpList P lo.toArray (zW P lo.toArray n ds Q rD x y) (pick lo.toArray [t0]) a w') (pick lo.toArray bb) l []) (pick lo.toArray h9) l):pW P (.region id lo.toArray true) Q n ds l w:=by
 intro a ay
 unfold RV at ef
 simp only [Bool.and_eq_true,decide_eq_true_eq] at ef
 obtain⟨⟨⟨⟨⟨⟨⟨⟨te,hlen⟩,cn⟩,lA⟩,AT⟩,ac1⟩,Jb⟩,ac2⟩,Gv⟩:=ef
 refine wp_region_any hm ?_
 rw [← hlen]
 have ij:(lL (Array.replicate lo.toArray.size false) h9).size=lo.toArray.size:=by rw [tY];simp
 have Ry:∀ t∈t0::(rD ++ [x,y]),(lL (Array.replicate lo.toArray.size false) h9).getD t true=false:=fun t cc=>by
  have:=List.all_eq_true.1 AT t cc
  simpa using this
 have Gp:qm .any lo.toArray bb (t0::(rD ++ [x,y])) (lL (Array.replicate lo.toArray.size false) h9):=by
  refine⟨ij,fun j sH dY cg e he aQ=>?_,Ry⟩
  have h1:=List.all_eq_true.1 lA j (List.mem_range.2 (Array.getElem?_eq_some_iff.1 dY).1)
  rw [cg,dY] at h1
  simp only [Bool.not_true,Bool.false_or,Array.all_eq_true_iff_forall_mem] at h1
  have aq:=h1 e he
  rw [aQ] at aq
  simpa using aq
 have hw:∀ listed,qm .any lo.toArray bb (t0::(rD ++ [x,y])) listed→(∃ i∈bb,listed.getD i true=false)→∀ t∈t0::(rD ++ [x,y]),t∉Region.ready .any lo.toArray listed:=by
  rintro listed inv ⟨i,hi,k3⟩ t cc
  rcases List.mem_cons.1 cc with rfl | DH
  ·exact pA inv.size inv.closed bb Jb i hi k3
  intro bl
  obtain⟨_,aht,Rw,kk⟩:=mem_ready.1 bl
  obtain⟨u4,Rn,e,he,aQ,Nr⟩:=Region.waitsFor_spec (List.all_eq_true.1 ac2 t DH)
  have:u4=aht:=Option.some.inj (Rn.symm.trans Rw)
  subst this
  have aq:=kk e he aQ
  rw [Nr,getD_both (inv.tail t0 (by simp))] at aq
  cases aq
 have Jc:(Array.replicate (h9.length+(bb.length+(rD.length+2+1))) false)=Array.replicate lo.toArray.size false:=by rw [hlen]
 rw [Jc]
 refine pB (n:=n) (ds:=ds) Ck (Region.noSelect_spec te) h9 _ l a ay cn h fun l a ay jR=>?_
 have Ba:∀ listed,Gz lo.toArray t0 rD x y listed=true→∀ j∈Region.ready .any lo.toArray listed,j∈t0::(rD ++ [x,y]):=fun listed aQ j dY=>by
  unfold Gz at aQ
  simp only [Bool.and_eq_true,decide_eq_true_eq] at aQ
  rw [aQ.1.1.1.1] at dY
  simp only [List.mem_singleton] at dY
  rw [dY]
  simp
 have H:=zZ (md:=.any) Ba hw bb _ (rA l []) (fun i hi=>hi) (fun i hi=>by
  have:=List.all_eq_true.1 ac1 i hi
  simpa using this) Gp Gv jR
 exact r' (n:=n) (ds:=ds) (w0:=w) (Q:=Q) (g:=rD.length+2+1) (later w) (fun listed N a w' _ bV hF _ h5 o'=>zX (n:=n) (ds:=ds) Ck (Region.noSelect_spec te) o'.1 (o'.2 a w' bV hF h5)) _ _ (rA l []) a _ (sI l) ay.defers (Mod.drew [] w) (Mod.drew [] w) (x9 ay) H
end
def vc (es:Array MapEntry):List (Value×Value):=es.toList.map fun e=>(e.key,e.val)
def rows (m:List (aa×Value)):List (Value×Value):=m.map fun p=>(S p.1,p.2)
structure jU (w:World) (b:Nat) (m:List (aa×Value)):Prop where
 at_:∃ es clock,w.heap[b]? = some (.map es clock)∧vc es=rows m∧(∀ e∈es.toList,e.born<clock)∧(es.toList.map (·.born)).Nodup
 keys:(m.map (·.1)).Nodup
variable {P:Program} {w w':World} {b:Nat} {m:List (aa×Value)} {k:aa} {M:List Nat}
theorem jU.lt (h:jU w b m):b<w.heap.size:=by
 obtain⟨es,c,h1,_⟩:=h.at_;exact(Array.getElem?_eq_some_iff.1 h1).1
theorem jU.mod (h:jU w b m) (k:Mod M w w') (aQ:b∉M):jU w' b m:=by
 have bH:=h.lt;obtain⟨es,c,h1,aq⟩:=h.at_;exact⟨⟨es,c,(k.block b bH aQ).trans h1,aq⟩,h.keys⟩
theorem jU.I (h:jU w b m) (k:Mod [] w w'):jU w' b m:=h.mod k (by simp)
theorem Le (k l:aa):((⟨⟨k⟩⟩:ByteArray) == ⟨⟨l⟩⟩)=decide (k=l):=by
 by_cases h:k=l
 ·subst h;rw [decide_eq_true rfl];exact(MapKept.bytes_beq _ _).2 rfl
 rw [decide_eq_false h];cases aQ:((⟨⟨k⟩⟩:ByteArray) == ⟨⟨l⟩⟩)with
 | false=>rfl
 | true=>
  have:=(MapKept.bytes_beq _ _).1 aQ;injection this with this
  injection this with this
  exact absurd this h
theorem zR (k l:aa):Instr.sameNow .string (S k) (S l)=some (decide (k=l)):=by
 unfold S;simp only [Instr.sameNow,Le]
theorem Bi {l:List MapEntry} {m:List (aa×Value)} (h:l.map (fun e=>(e.key,e.val))=rows m) (k:aa) (i:Nat) :
  ∃ j,Instr.findNow .string (S k) l i=some ((look m k).map fun v=>(j,v))∧(∀ v,look m k=some v→i≤j∧∃ p,m[j-i]? = some p∧p.1=k∧p.2=v∧∀ q,q<j-i→∀ Nc,m[q]? = some Nc→Nc.1≠k):=by
 induction l generalizing m i with
 | nil=>
  cases m with
  | nil=>exact⟨0,rfl,fun v bK=>by simp [look] at bK⟩
  | cons p r=>simp [rows] at h
 | cons e r dF=>
  cases m with
  | nil=>simp [rows] at h
  | cons p s=>
   simp only [rows,List.map_cons,List.cons.injEq,Prod.mk.injEq] at h
   obtain⟨⟨h1,aq⟩,aT⟩:=h
   rw [Instr.findNow,h1]
   by_cases cn:p.1=k
   ·refine⟨i,?_,fun v bK=>?_⟩
    ·have:Instr.sameNow .string (S k) (S p.1)=some true:=by rw [zR,decide_eq_true cn.symm]
     rw [this]
     simp only [look,if_pos cn,Option.map_some]
     rw [aq]
    simp only [look,if_pos cn,Option.some.injEq] at bK
    exact⟨Nat.le_refl _,p,by simp,cn,bK,fun q e2=>by omega⟩
   have:Instr.sameNow .string (S k) (S p.1)=some false:=by rw [zR,decide_eq_false (fun e=>cn e.symm)]
   rw [this]
   obtain⟨j,bL,cN⟩:=dF (m:=s) (by simpa [rows] using aT) (i+1)
   refine⟨j,?_,fun v bK=>?_⟩
   ·simp only [bL,look,if_neg cn]
   simp only [look,if_neg cn] at bK
   obtain⟨eU,Nc,kB,kt,k9,km⟩:=cN v bK
   refine⟨by omega,Nc,?_,kt,k9,fun q e2 Ix ac8=>?_⟩
   ·rw [show j-i=(j-(i+1))+1 by omega]
    simpa using kB
   cases q with
   | zero=>simp at ac8;subst ac8;exact cn
   | succ q=>exact km q (by omega) Ix (by simpa using ac8)
section
variable {ops:Array Oper} {Q:Exit→Act→World→Prop} {n:Nat} {ds:List Deferred} {l:List (Nat×Value)} {rest:List Oper} {d:Nat} {ty:TypeId} {pos:String} {af:Array Edge} {dd:Option Nat} {gg:Option (Nat×Bool)} {x y:Operand} {t RS aay:TypeId} {z v:Value}
def ahB (w:World) (u:Value) (m:List (aa×Value)):Prop:=(u = .map none∧m = [])∨∃ b,u = .map (some b)∧jU w b m
theorem oP (hk:P.underlying RS=some .string) (e:Bool) (k:aa):(Instr.checkKey e 10000 RS (S k)).run P w = .ok () w:=by
 unfold Instr.checkKey;simp [underlying,hk,S]
theorem run_findKey (hk:P.underlying RS=some .string) {l:List MapEntry} {m:List (aa×Value)} (h:l.map (fun e=>(e.key,e.val))=rows m) (k:aa) :
  ∃ j,(Instr.findKey RS (S k) l).run P w = .ok ((look m k).map fun v=>(j,v)) w∧(∀ v,look m k=some v→∃ p,m[j]? = some p∧p.1=k∧p.2=v∧∀ q,q<j→∀ Nc,m[q]? = some Nc→Nc.1≠k):=by
 obtain⟨j,h1,aq⟩:=Bi h k 0
 refine⟨j,?_,fun v bK=>?_⟩
 ·unfold Instr.findKey
  simp [underlying,hk,h1]
 obtain⟨_,p,aT,bL,cN,eU⟩:=aq v bK
 exact⟨p,aT,bL,cN,eU⟩
theorem Cn (di:(P.info? aay).bind (·.zero)=some z) (w:World):(zeroValue aay).run P w = .ok z w:=by
 obtain⟨i,aq,aT⟩:=Option.bind_eq_some_iff.1 di;simp [zeroValue,typeInfo,aq,aT]
theorem agO (cc:P.underlying t=some (.map RS aay)) (hk:P.underlying RS=some .string) (Rz:(P.info? aay).bind (·.zero)=some z) (ae:a6 l x=some v) (hm:ahB w v m) (aZ:a6 l y=some (S k)) :
  bF P l ⟨dd,.lookup t x y false,ty,pos,af,gg⟩ w ((look m k).getD z) w:=fun ρ h=>by
 have di:=Cn Rz
 rcases hm with⟨rfl,rfl⟩ | ⟨b,rfl,hm⟩
 ·simp [execOp,h _ _ ae,h _ _ aZ,Instr.lookup,underlying,cc,oP hk,Instr.findKey,hk,Instr.findNow,di,look]
 obtain⟨es,c,h1,aq,_⟩:=hm.at_
 obtain⟨j,aT,bL⟩:=run_findKey (P:=P) (w:=w) hk aq k
 cases cg:look m k with
 | none=>simp [execOp,h _ _ ae,h _ _ aZ,Instr.lookup,underlying,cc,getObj,Sem.run,Result.andThen,h1,oP hk,aT,cg,di]
 | some u=>simp [execOp,h _ _ ae,h _ _ aZ,Instr.lookup,underlying,cc,getObj,Sem.run,Result.andThen,h1,oP hk,aT,cg]
def uL {β:Type} (m:List (aa×β)) (k:aa) (v:β):List (aa×β):=if (look m k).isSome then m.map (fun p=>if p.1=k then (p.1,v)else p)else m ++ [(k,v)]
theorem zS {β:Type} {m:List (aa×β)} {k:aa} {v:β} (h:(m.map (·.1)).Nodup):((uL m k v).map (·.1)).Nodup:=by
 unfold uL
 split
 ·have:(m.map fun p=>if p.1=k then (p.1,v)else p).map (·.1)=m.map (·.1):=by
   rw [List.map_map];apply List.map_congr_left;intro p _;simp only [Function.comp]
   split <;> rfl
  rw [this];exact h
 rename_i cj
 rw [List.map_append,List.nodup_append];refine⟨h,by simp,fun a ay b aQ=>?_⟩;simp only [List.map_cons,List.map_nil,List.mem_singleton] at aQ;subst aQ;intro e;subst e;obtain⟨p,cn,alZ⟩:=List.mem_map.1 ay;have cg:look m a=none:=by simpa using cj
 exact tT cg p cn alZ
end
end Go.Proofs.YtnihidkbkhcfoaaGreatDoor.V
namespace Go.Proofs.YtnihidkbkhcfoaaGreatDoor.V
open Go
open Go.ChangeMaps (setBlock)
section
variable {P:Program} {w w':World} {b:Nat} {m:List (aa×Value)} {k:aa} {M:List Nat}
variable {ops:Array Oper} {Q:Exit→Act→World→Prop} {n:Nat} {ds:List Deferred} {l:List (Nat×Value)} {rest:List Oper} {d:Nat} {ty:TypeId} {pos:String} {af:Array Edge} {dd:Option Nat} {gg:Option (Nat×Bool)} {x y z:Operand} {t RS aay:TypeId} {v:Value}
theorem jU.nil (w:World):jU (w.alloc (.map #[] 0)) w.heap.size []:=
 ⟨⟨#[],0,heap_alloc_new w _,rfl,by simp,by simp⟩,by simp⟩
theorem Xc (bV:Nat.blt d n=true) (h:∀ b w',jU w' b []→b=w.heap.size→Mod [] w w'→ga P ops Q rest n ds ((d,.map (some b))::l) w'):ga P ops Q (⟨some d,.makeMap t none,ty,pos,af,none⟩::rest) n ds l w:=
 fN (v:=.map (some w.heap.size)) (w':=w.alloc (.map #[] 0)) (fun ρ fc=>by simp [execOp,Instr.makeMap,newObj,Sem.run,Result.andThen]) bV (h _ _ (jU.nil w) rfl (Mod.alloc w _))
theorem vd {o u4:Obj} {g:Nat} (dv:w.heap[g]? = some o):(setBlock w g u4).heap[g]? = some u4:=by
 have bH:=(Array.getElem?_eq_some_iff.1 dv).1;simp [setBlock,Array.getElem?_setIfInBounds,bH]
theorem tj {o u4:Obj} {g:Nat} (dv:w.heap[g]? = some o):Mod [g] w (setBlock w g u4):=by
 refine⟨rfl,rfl,rfl,by simp [setBlock],fun i hi cj=>?_⟩;have:i≠g:=fun e=>cj (by simp [e]);simp [setBlock,Array.getElem?_setIfInBounds,Ne.symm this]
theorem run_set {u4:Obj} {g:Nat} {es:Array MapEntry} {c:Nat} (dv:w.heap[g]? = some (.map es c)):(setObj g u4).run P w = .ok () (setBlock w g u4):=by
 simp [setObj,Sem.run,dv,setBlock]
theorem Jh {es:Array MapEntry} {e:MapEntry}:vc (es.push e)=vc es ++ [(e.key,e.val)]:=by simp [vc]
theorem D' {es:Array MapEntry} {j:Nat} {p:aa×Value} (h:vc es=rows m) (hk:(m.map (·.1)).Nodup) (dY:m[j]? = some p) (cn:p.1=k):vc (es.modify j fun e=>{e with key:=S k,val:=v})=rows (m.map fun q=>if q.1=k then (q.1,v)else q):=by
 unfold vc rows at h ⊢;apply List.ext_getElem?;intro i;have hi:=congrArg (fun z=>z[i]?) h;simp only [List.getElem?_map] at hi;simp only [List.getElem?_map,Array.getElem?_toList,Array.getElem?_modify] at hi ⊢
 by_cases xx:j=i
 ·subst xx;rw [if_pos rfl];rw [dY] at hi ⊢;cases he:es[j]? with
  | none=>rw [he] at hi;simp at hi
  | some e=>simp [cn]
 rw [if_neg xx];cases e2:m[i]? with
 | none=>rw [e2] at hi;simp at hi ⊢;exact hi
 | some q=>
  rw [e2] at hi;have bY:¬ q.1=k:=fun e=>by
   have h1:=(List.getElem?_eq_some_iff.1 dY);have aq:=(List.getElem?_eq_some_iff.1 e2);obtain⟨ahC,QL⟩:=h1;obtain⟨ahD,ahE⟩:=aq;have Xv:=List.pairwise_iff_getElem.1 hk;rcases Nat.lt_or_gt_of_ne xx with bH | bH
   ·exact Xv j i (by simpa using ahC) (by simpa using ahD) bH (by simp [QL,ahE,cn,e])
   exact Xv i j (by simpa using ahD) (by simpa using ahC) bH (by simp [QL,ahE,cn,e])
  rw [hi];simp [bY]
theorem ve {es:Array MapEntry} {j:Nat} {f:MapEntry→MapEntry} (dK:∀ e,(f e).born=e.born):(es.modify j f).toList.map (·.born)=es.toList.map (·.born):=by
 apply List.ext_getElem?;intro i;simp only [List.getElem?_map,Array.getElem?_toList,Array.getElem?_modify]
 split
 ·cases es[i]? <;> simp [dK]
 rfl
theorem WX (cc:P.underlying t=some (.map RS aay)) (hk:P.underlying RS=some .string) (ae:a6 l x=some (.map (some b))) (hm:jU w b m) (aZ:a6 l y=some (S k)) (di:a6 l z=some v)
  (h:∀ w',jU w' b (uL m k v)→Mod [b] w w'→ga P ops Q rest n ds l w'):ga P ops Q (⟨none,.mapUpdate t x y z,ty,pos,af,none⟩::rest) n ds l w:=by
 obtain⟨es,c,h1,aq,aT,bL⟩:=hm.at_
 obtain⟨j,cN,eU⟩:=run_findKey (P:=P) (w:=w) hk aq k
 cases cg:look m k with
 | none=>
  rw [cg] at cN
  have ef:jU (setBlock w b (.map (es.push {key:=S k,val:=v,born:=c}) (c+1))) b (uL m k v):=by
   refine⟨⟨_,_,vd h1,?_,fun e he=>?_,?_⟩,zS hm.keys⟩
   ·rw [Jh,aq]
    unfold uL
    rw [cg]
    simp [rows]
   ·simp only [Array.toList_push,List.mem_append,List.mem_singleton] at he
    rcases he with he | rfl
    ·have:=aT e he;omega
    exact Nat.lt_succ_self _
   simp only [Array.toList_push,List.map_append,List.map_cons,List.map_nil,List.nodup_append]
   refine⟨bL,by simp,fun a ay q e2=>?_⟩
   simp only [List.mem_singleton] at e2
   subst e2
   obtain⟨e,he,rfl⟩:=List.mem_map.1 ay
   have:=aT e he
   omega
  intro a ay
  refine wpList_plain rfl fun K pY=>?_
  have bl:(execOp a.eval ⟨none,.mapUpdate t x y z,ty,pos,af,none⟩).run P w = .ok .skip (setBlock w b (.map (es.push {key:=S k,val:=v,born:=c}) (c+1))):=by
   simp [execOp,ay.ru ae,ay.ru aZ,ay.ru di,Instr.mapUpdate,underlying,cc,getObj,Sem.run,Result.andThen,h1,oP hk,cN,run_set h1]
  simp only [Oper.wp,bl,Oper.upon]
  exact pY _ _ (h _ ef (tj h1) _ (by simpa [Act.put] using ay))
 | some u=>
  rw [cg] at cN
  obtain⟨p,kB,kt,k9,km⟩:=eU u cg
  have ef:jU (setBlock w b (.map (es.modify j fun e=>{e with key:=S k,val:=v}) c)) b (uL m k v):=by
   refine⟨⟨_,_,vd h1,?_,fun e he=>?_,?_⟩,zS hm.keys⟩
   ·rw [D' aq hm.keys kB kt]
    unfold uL
    rw [cg]
    rfl
   ·have aQ:=ve (es:=es) (j:=j) (f:=fun e=>{e with key:=S k,val:=v}) (fun _=>rfl)
    have:e.born∈es.toList.map (·.born):=by rw [← aQ];exact List.mem_map_of_mem he
    obtain⟨w6,al0,ali⟩:=List.mem_map.1 this
    have:=aT w6 al0
    omega
   rw [ve (f:=fun e=>{e with key:=S k,val:=v}) (fun _=>rfl)]
   exact bL
  have FC:((es[j]?).map (·.key)).getD (S k)=S k:=by
   have hi:=congrArg (fun z=>z[j]?) aq
   simp only [vc,rows,List.getElem?_map,kB,Array.getElem?_toList] at hi
   cases he:es[j]? with
   | none=>rfl
   | some e=>
    rw [he] at hi
    simp only [Option.map_some,Option.some.injEq,Prod.mk.injEq] at hi
    simp [hi.1,kt]
  have ac9:(Instr.keyThatStays (S k) (S k)).run P w = .ok (S k) w:=by
   have:Instr.sameBits 10000 (S k) (S k)=true:=by
    unfold S
    simp only [Instr.sameBits,Le]
    simp
   simp [Instr.keyThatStays,this]
  intro a ay
  refine wpList_plain rfl fun K pY=>?_
  have bl:(execOp a.eval ⟨none,.mapUpdate t x y z,ty,pos,af,none⟩).run P w = .ok .skip (setBlock w b (.map (es.modify j fun e=>{e with key:=S k,val:=v}) c)):=by
   simp [execOp,ay.ru ae,ay.ru aZ,ay.ru di,Instr.mapUpdate,underlying,cc,getObj,Sem.run,Result.andThen,h1,oP hk,cN,FC,ac9,run_set h1]
  simp only [Oper.wp,bl,Oper.upon]
  exact pY _ _ (h _ ef (tj h1) _ (by simpa [Act.put] using ay))
end
end Go.Proofs.YtnihidkbkhcfoaaGreatDoor.V
namespace Go.Proofs.YtnihidkbkhcfoaaGreatDoor.V
open Go
structure aaa where
 rd:Nat
 any:Nat
 pi:Nat
 pm:Nat
 it:Nat
 mt:Nat
 v:Nat
 ajs:Nat
 z:List Nat
def My (T:TypeId) (M:List Nat) (w:World) {α:Type} (r:Except Int α) (Q:α→Value→World→Prop):Ending→World→Prop
 | .returned u,w'=>∃ a,r = .ok a∧Q a u w'∧Mod M w w'
 | .panicked c,w'=>∃ e,r = .error e∧e≠0∧c=BW T e∧Mod M w w'
 | .outgrown,_=>False
def nt (K:List aa):List (aa×Value):=K.map fun k=>(k,.bool true)
theorem tJ (k:aa):∀ K:List aa,look (nt K) k=if k∈K then some (.bool true)else none
 | []=>rfl
 | x::K=>by
  show(if x=k then some (Value.bool true)else look (nt K) k)=_
  rw [tJ k K]
  by_cases h:x=k
  ·rw [if_pos h,if_pos (by simp [h])]
  rw [if_neg h]
  by_cases aq:k∈K
  ·rw [if_pos aq,if_pos (by simp [aq])]
  rw [if_neg aq,if_neg (by simp [aq];exact fun e=>h e.symm)]
theorem Mz {K:List aa} {k:aa} (h:k∉K):uL (nt K) k (.bool true)=nt (K ++ [k]):=by
 unfold uL;rw [tJ,if_neg h];simp [nt]
theorem Iy (k:aa):∀ acc:List (aa×JV),(look (ei acc) k).isSome=decide (k∈acc.map (·.1)):=by
 intro acc;rw [← List.reverse_reverse acc];generalize acc.reverse=l
 induction l with
 | nil=>rfl
 | cons p l dF=>
  rw [List.reverse_cons,mS,BX]
  by_cases h:k=p.1
  ·rw [if_pos h];simp [h]
  rw [if_neg h,dF];rw [Bool.eq_iff_iff,decide_eq_true_eq,decide_eq_true_eq];simp only [List.map_append,List.mem_append,List.map_cons,List.map_nil,List.mem_singleton,h,or_false]
structure ajt (T:aaa) (A:List Nat) (w:World) (g:Nat) (acc:List JV) (eu:Value):Prop where
 aA:aE w g T.it [eu]
 own:∃ vs,Own w T.v 6 eu acc.length vs∧ao A w (acc.map JV.D).flatten vs
 UH:g∉aY eu
structure abM (T:aaa) (A:List Nat) (w:World) (g b:Nat) (acc:List (aa×JV)) (K:List aa) (t:aa) (eu:Value):Prop where
 aA:aE w g T.mt [eu,.map (some b),S t]
 map:jU w b (nt K)
 own:∃ vs,Own w T.ajs 7 eu acc.length vs∧ao A w (acc.map JV.hP).flatten vs
 agq:g≠b
 UH:g∉aY eu
 agr:b∉aY eu
section
variable {T:aaa} {A A' M:List Nat} {w0 w w':World} {g:Nat} {s:aa} {k:Nat}
theorem ajt.to {acc:List JV} {eu:Value} (H:ajt T A w g acc eu) (h:Mod M w w') (eW:∀ x∈M,x∈A) (hm:∀ x∈g::aY eu,x∉M) (dD:∀ x∈A',x∈A∨w.heap.size≤x):ajt T A' w' g acc eu:=by
 obtain⟨vs,h1,aq⟩:=H.own;exact⟨H.aA.mod h (hm g (by simp)),⟨vs,h1.mod h (fun x ae=>hm x (by simp [ae])),ao.to h eW dD _ _ aq⟩,H.UH⟩
theorem abM.to {acc:List (aa×JV)} {K:List aa} {t:aa} {b:Nat} {eu:Value} (H:abM T A w g b acc K t eu) (h:Mod M w w') (eW:∀ x∈M,x∈A) (hm:∀ x∈g::b::aY eu,x∉M) (dD:∀ x∈A',x∈A∨w.heap.size≤x):abM T A' w' g b acc K t eu:=by
 obtain⟨vs,h1,aq⟩:=H.own;exact⟨H.aA.mod h (hm g (by simp)),H.map.mod h (hm b (by simp)),⟨vs,h1.mod h (fun x ae=>hm x (by simp [ae])),ao.to h eW dD _ _ aq⟩,H.agq,H.UH,H.agr⟩
def xG (T:aaa) (A:List Nat) (w:World):lU→Value→List Nat→Prop
 | .L acc,c,m=>∃ g eu,c = .iface T.pi (.pointer (some ⟨g,0,none⟩))∧ajt T A w g acc eu∧m=g::aY eu
 | .M acc t,c,m=>∃ g b eu,c = .iface T.pm (.pointer (some ⟨g,0,none⟩))∧abM T A w g b acc (acc.map (·.1) ++ [t]) t eu∧m=g::b::aY eu
 | .A acc t,c,m=>∃ g b eu,c = .iface T.pm (.pointer (some ⟨g,0,none⟩))∧abM T A w g b acc (acc.map (·.1)) t eu∧m=g::b::aY eu
theorem xG.to {fm:lU} {c:Value} {m:List Nat} (H:xG T A w fm c m) (h:Mod M w w') (eW:∀ x∈M,x∈A) (hm:∀ x∈m,x∉M) (dD:∀ x∈A',x∈A∨w.heap.size≤x):xG T A' w' fm c m:=by
 cases fm with
 | L acc=>obtain⟨g,eu,h1,aq,rfl⟩:=H;exact⟨g,eu,h1,aq.to h eW hm dD,rfl⟩
 | M acc t=>obtain⟨g,b,eu,h1,aq,rfl⟩:=H;exact⟨g,b,eu,h1,aq.to h eW hm dD,rfl⟩
 | A acc t=>obtain⟨g,b,eu,h1,aq,rfl⟩:=H;exact⟨g,b,eu,h1,aq.to h eW hm dD,rfl⟩
theorem xG.lt {fm:lU} {c:Value} {m:List Nat} (H:xG T A w fm c m):∀ x∈m,x<w.heap.size:=by
 cases fm with
 | L acc=>
  obtain⟨g,eu,_,aq,rfl⟩:=H;obtain⟨vs,aT,_⟩:=aq.own;intro x ae;rcases List.mem_cons.1 ae with rfl | ae
  ·exact aq.aA.lt
  exact aT.lt x ae
 | M acc t=>
  obtain⟨g,b,eu,_,aq,rfl⟩:=H;obtain⟨vs,aT,_⟩:=aq.own;intro x ae;rcases List.mem_cons.1 ae with rfl | ae
  ·exact aq.aA.lt
  rcases List.mem_cons.1 ae with rfl | ae
  ·exact aq.map.lt
  exact aT.lt x ae
 | A acc t=>
  obtain⟨g,b,eu,_,aq,rfl⟩:=H;obtain⟨vs,aT,_⟩:=aq.own;intro x ae;rcases List.mem_cons.1 ae with rfl | ae
  ·exact aq.aA.lt
  rcases List.mem_cons.1 ae with rfl | ae
  ·exact aq.map.lt
  exact aT.lt x ae
def oF (T:aaa) (A:List Nat) (w:World):List lU→List Value→List Nat→Prop
 | [],cs,fp=>cs = []∧fp=T.z∧∀ x∈T.z,x<w.heap.size
 | fm::st,cs,fp=>∃ c cs' m h6,cs=c::cs'∧fp=m++h6∧xG T A w fm c m∧oF T A w st cs' h6∧∀ x∈m,x∉h6
theorem oF.to (h:Mod M w w') (eW:∀ x∈M,x∈A) (dD:∀ x∈A',x∈A∨w.heap.size≤x):∀ {st:List lU} {cs:List Value} {fp:List Nat},oF T A w st cs fp→(∀ x∈fp,x∉M)→oF T A' w' st cs fp
 | [],_,_,H,_=>⟨H.1,H.2.1,fun x ae=>Nat.lt_of_lt_of_le (H.2.2 x ae) h.size⟩
 | fm::st,_,_,H,hm=>by
  obtain⟨c,cs',m,h6,rfl,rfl,h1,aq,aT⟩:=H
  exact⟨c,cs',m,h6,rfl,rfl,h1.to h eW (fun x ae=>hm x (by simp [ae])) dD,aq.to h eW dD (fun x ae=>hm x (by simp [ae])),aT⟩
theorem oF.len:∀ {st:List lU} {cs:List Value} {fp:List Nat},oF T A w st cs fp→cs.length=st.length
 | [],_,_,H=>by rw [H.1];rfl
 | fm::st,_,_,H=>by
  obtain⟨c,cs',m,h6,rfl,rfl,h1,aq,aT⟩:=H
  simp [aq.len]
theorem oF.lt:∀ {st:List lU} {cs:List Value} {fp:List Nat},oF T A w st cs fp→∀ x∈fp,x<w.heap.size
 | [],_,_,H=>by rw [H.2.1];exact H.2.2
 | fm::st,_,_,H=>by
  obtain⟨c,cs',m,h6,rfl,rfl,h1,aq,aT⟩:=H
  intro x ae
  rcases List.mem_append.1 ae with ae | ae
  ·exact h1.lt x ae
  exact aq.lt x ae
theorem oF.z:∀ {st:List lU} {cs:List Value} {fp:List Nat},oF T A w st cs fp→∀ x∈T.z,x∈fp
 | [],_,_,H=>by rw [H.2.1];exact fun x ae=>ae
 | fm::st,_,_,H=>by
  obtain⟨c,cs',m,h6,rfl,rfl,h1,aq,aT⟩:=H
  exact fun x ae=>List.mem_append_right _ (aq.z x ae)
structure nn (T:aaa) (w0 w:World) (g:Nat) (s:aa) (k:Nat) (st:List lU) (fN:Value) (cs:List Value) (fp:List Nat):Prop where
 rd:aE w g T.rd [S s,.int .i64 (k:Int),fN]
 own:Own w T.any 1 fN cs.length cs.reverse
 sZ:oF T (g::(aY fN++fp)) w st cs fp
 s0:g∉aY fN++fp
 xc:∀ x∈aY fN,x∉fp
 ta:∀ x∈aY fN++fp,w0.heap.size≤x
 mod:Mod [g] w0 w
structure mf (w w':World) (g:Nat) (fN:Value) (fp:List Nat) (iB:Value) (h6:List Nat):Prop where
 mod:Mod (g::(aY fN++fp)) w w'
 new:∀ x∈aY iB++h6,x∈aY fN++fp∨w.heap.size≤x
variable {st:List lU} {fN iB:Value} {cs cs':List Value} {fp h6:List Nat} {iA:Nat}
theorem nn.init (B:aE w g T.rd [S s,.int .i64 (0:Int),.slice none 0 0]) (hm:Mod [g] w0 w) (di:∀ x∈T.z,w0.heap.size≤x∧x<w.heap.size∧x≠g):nn T w0 w g s 0 [] (.slice none 0 0) [] T.z:=
 ⟨B,Own.nil _ _ _,⟨rfl,rfl,fun x ae=>(di x ae).2.1⟩,fun h=>(di g (by simpa [aY] using h)).2.2 rfl,by simp [aY],fun x ae=>(di x (by simpa [aY] using ae)).1,hm⟩
theorem nn.len (H:nn T w0 w g s k st fN cs fp):cs.length=st.length:=H.sZ.len
theorem nn.lt (H:nn T w0 w g s k st fN cs fp):∀ x∈g::(aY fN++fp),x<w.heap.size:=fun x ae=>by
 rcases List.mem_cons.1 ae with rfl | ae
 ·exact H.rd.lt
 rcases List.mem_append.1 ae with ae | ae
 ·exact H.own.lt x ae
 exact H.sZ.lt x ae
theorem mf.of (h:Mod [g] w w'):mf w w' g fN fp fN fp:=⟨h.mono (by simp),fun x ae=>.inl ae⟩
theorem mf.refl (w:World) (g:Nat) (fN:Value) (fp:List Nat):mf w w g fN fp fN fp:=⟨Mod.refl _ _,fun x ae=>.inl ae⟩
theorem mf.trans {cO:World} {ags:Value} {xH:List Nat} (h:mf w w' g fN fp iB h6) (fh:mf w' cO g iB h6 ags xH):mf w cO g fN fp ags xH:=
 ⟨h.mod.trans' fh.mod fun x ae=>by
  rcases List.mem_cons.1 ae with rfl | ae
  ·exact .inl (by simp)
  exact(h.new x ae).imp (fun h=>by simp only [List.mem_cons];exact .inr h) id,fun x ae=>(fh.new x ae).elim (h.new x) fun ae=>.inr (Nat.le_trans h.mod.size ae)⟩
theorem mf.aA {h:Nat} {ar0:TypeId} {us:List Value} (S:mf w w' g fN fp iB h6) (B:aE w h ar0 us) (cj:h∉g::(aY fN++fp)):aE w' h ar0 us∧h∉g::(aY iB++h6):=by
 have bH:=B.lt;refine⟨B.mod S.mod cj,fun ae=>?_⟩;rcases List.mem_cons.1 ae with rfl | ae
 ·exact cj (by simp)
 rcases S.new h ae with h1 | h1
 ·exact cj (by simp only [List.mem_cons];exact .inr h1)
 omega
theorem mf.KE {d:List D} {us:List Value} (S:mf w w' g fN fp iB h6) (arZ:ao (g::(aY fN++fp)) w d us):ao (g::(aY iB++h6)) w' d us:=
 ao.to S.mod (fun x ae=>ae) (fun x ae=>by
  rcases List.mem_cons.1 ae with rfl | ae
  ·exact .inl (by simp)
  exact(S.new x ae).imp (fun h=>by simp only [List.mem_cons];exact .inr h) id) _ _ arZ
theorem nn.rW (H:nn T w0 w g s k st fN cs fp) (B:aE w' g T.rd [S s,.int .i64 (iA:Int),fN]) (h:Mod [g] w w'):nn T w0 w' g s iA st fN cs fp:=
 ⟨B,H.own.mod h (fun x ae e=>H.s0 (by simp only [List.mem_singleton] at e;subst e;simp [ae])),H.sZ.to h (by simp) (fun x ae=>.inl ae) (fun x ae e=>H.s0 (by simp only [List.mem_singleton] at e;subst e;simp [ae])),H.s0,H.xc,H.ta,H.mod.trans h⟩
theorem nn.I (H:nn T w0 w g s k st fN cs fp) (h:Mod [] w w'):nn T w0 w' g s k st fN cs fp:=H.rW (H.rd.I h) (h.mono (by simp))
theorem nn.Qf {acc:List JV} (H:nn T w0 w g s k (.L acc::st) fN cs fp):∃ g1 eu vs eM fg,cs = .iface T.pi (.pointer (some ⟨g1,0,none⟩))::eM∧fp=g1::(aY eu++fg)∧aE w g1 T.it [eu]∧Own w T.v 6 eu acc.length vs∧ao (g::(aY fN++fp)) w (acc.map JV.D).flatten vs∧g1∉aY eu∧g1≠g∧(∀ x∈T.z,x∉g1::aY eu)∧
  (∀ (w':World) (kY:Value) (us:List Value) (v:JV),Mod (g1::aY eu) w w'→aE w' g1 T.it [kY]→Own w' T.v 6 kY (acc.length+1) (vs++us)→(∀ x∈aY kY,x∈aY eu∨w.heap.size≤x)→ao (g::(aY fN++fp)) w v.D us→
   nn T w0 w' g s k (.L (acc ++ [v])::st) fN cs (g1::(aY kY++fg))∧mf w w' g fN fp fN (g1::(aY kY++fg)))∧
  (∀ (w':World) (iB:Value),Mod [g] w w'→aE w' g T.rd [S s,.int .i64 (k:Int),iB]→Own w' T.any 1 iB eM.length eM.reverse→aY iB=aY fN→
   nn T w0 w' g s k st iB eM fg∧mf w w' g fN fp iB fg∧aE w' g1 T.it [eu]∧a8 (g::(aY iB++fg)) w' (.ia 6 (acc.map JV.D)) eu):=by
 obtain⟨c,eM,m,fg,rfl,rfl,⟨g1,eu,rfl,aq,rfl⟩,aT,bL⟩:=H.sZ
 obtain⟨vs,cN,eU⟩:=aq.own
 have bH:=H.lt
 have A7:g1≠g:=fun e=>H.s0 (by subst e;simp)
 have hf:∀ x∈g1::aY eu,x≠g:=fun x ae e=>H.s0 (by subst e;simp only [List.mem_append];exact .inr (.inl ae))
 have eV:∀ x∈g1::aY eu,x∉aY fN:=fun x ae e=>H.xc x e (by simp only [List.mem_append];exact .inl ae)
 refine⟨g1,eu,vs,eM,fg,rfl,rfl,aq.aA,cN,eU,aq.UH,A7,fun x ae h=>bL x h (aT.z x ae),fun w' kY us v hm aQ et cj bl=>?_,fun w' iB hm aQ et iV=>?_⟩
 rotate_left
 ·have dD:∀ x∈g::(aY iB++fg),x∈g::(aY fN++((g1::aY eu)++fg))∨w.heap.size≤x:=fun x ae=>by
   rw [iV] at ae
   simp only [List.mem_cons,List.mem_append] at ae ⊢
   rcases ae with rfl | ae | ae <;> simp [*]
  have agt:∀ x∈g1::aY eu,x∉[g]:=fun x ae e=>hf x ae (by simpa using e)
  refine⟨⟨aQ,et,aT.to hm (by simp) dD (fun x ae e=>H.s0 (by simp only [List.mem_singleton] at e;subst e;simp [ae])),fun h=>?_,fun x ae h=>?_,fun x ae=>?_,H.mod.trans hm⟩,⟨hm.mono (by simp),fun x ae=>?_⟩,aq.aA.mod hm (agt g1 (by simp)),Own.rep (cN.mod hm (fun x ae=>agt x (by simp [ae]))) (ao.to hm (by simp) dD _ _ eU) (fun r bl=>?_) (by simp) (fun x ae h=>?_)⟩
  ·rw [iV] at h;simp only [List.mem_append] at h;exact H.s0 (by rcases h with h | h <;> simp [h])
  ·rw [iV] at ae;exact H.xc x ae (by simp [h])
  ·rw [iV] at ae;simp only [List.mem_append] at ae;exact H.ta x (by rcases ae with h | h <;> simp [h])
  ·rw [iV] at ae;simp only [List.mem_append] at ae ⊢;rcases ae with h | h <;> simp [h]
  ·obtain⟨y,_,rfl⟩:=List.mem_map.1 bl;exact JV.rS y
  rw [iV] at h
  simp only [List.mem_cons,List.mem_append] at h
  rcases h with rfl | h | h
  ·exact hf x (by simp [ae]) rfl
  ·exact eV x (by simp [ae]) h
  exact bL x (by simp [ae]) h
 have jV:∀ x∈g1::aY eu,x∈g::(aY fN++((g1::aY eu)++fg)):=fun x ae=>by simp only [List.mem_cons,List.mem_append] at ae ⊢;exact .inr (.inr (.inl ae))
 have dD:∀ x∈g::(aY fN++(g1::(aY kY++fg))),x∈g::(aY fN++((g1::aY eu)++fg))∨w.heap.size≤x:=fun x ae=>by
  simp only [List.mem_cons,List.mem_append] at ae ⊢
  rcases ae with rfl | ae | rfl | ae | ae
  ·simp
  ·simp [ae]
  ·simp
  ·exact(cj x ae).imp (fun h=>by simp [h]) id
  simp [ae]
 have qe:∀ x∈aY kY,∀ y,y∈g::(aY fN++fg)→x≠y:=fun x ae y aZ e=>by
  subst e
  rcases cj x ae with h1 | h1
  ·simp only [List.mem_cons,List.mem_append] at aZ
   rcases aZ with rfl | aZ | aZ
   ·exact hf x (by simp [h1]) rfl
   ·exact eV x (by simp [h1]) aZ
   exact bL x (by simp [h1]) aZ
  have:=bH x (by simp only [List.mem_cons,List.mem_append] at aZ ⊢;rcases aZ with rfl | aZ | aZ;exact .inl rfl;exact .inr (.inl aZ);exact .inr (.inr (.inr aZ)))
  omega
 have Qg:g1∉aY kY:=fun ae=>by
  rcases cj g1 ae with h1 | h1
  ·exact aq.UH h1
  have:=aq.aA.lt;omega
 refine⟨⟨H.rd.mod hm (fun h=>hf g h rfl),H.own.mod hm (fun x ae h=>eV x h ae),⟨_,eM,g1::aY kY,fg,rfl,rfl,⟨g1,kY,rfl,⟨aQ,⟨vs++us,by simpa using et,?_⟩,Qg⟩,rfl⟩,aT.to hm jV dD (fun x ae h=>bL x h ae),fun x ae h=>?_⟩,fun h=>?_,fun x ae h=>?_,fun x ae=>?_,H.mod.trans' hm fun x ae=>.inr ?_⟩,⟨hm.mono fun x ae=>jV x ae,fun x ae=>?_⟩⟩
 ·rw [List.map_append,List.flatten_append]
  refine ao.to hm jV dD _ _ (ao.append eU ?_)
  simpa using bl
 ·rcases List.mem_cons.1 ae with rfl | ae
  ·exact bL x (by simp) h
  exact qe x ae x (by simp [h]) rfl
 ·simp only [List.mem_append,List.mem_cons] at h
  rcases h with h | rfl | h | h
  ·exact H.s0 (by simp [h])
  ·exact A7 rfl
  ·exact qe g h g (by simp) rfl
  exact H.s0 (by simp [h])
 ·simp only [List.mem_cons,List.mem_append] at h
  rcases h with rfl | h | h
  ·exact eV x (by simp) ae
  ·exact qe x h x (by simp [ae]) rfl
  exact H.xc x ae (by simp [h])
 ·simp only [List.mem_cons,List.mem_append] at ae
  rcases ae with ae | rfl | ae | ae
  ·exact H.ta x (by simp [ae])
  ·exact H.ta x (by simp)
  ·rcases cj x ae with h1 | h1
   ·exact H.ta x (by simp [h1])
   exact Nat.le_trans H.mod.size h1
  exact H.ta x (by simp [ae])
 ·exact H.ta x (by simp only [List.mem_cons,List.mem_append] at ae ⊢;exact .inr (.inl ae))
 simp only [List.mem_cons,List.mem_append] at ae ⊢
 rcases ae with ae | rfl | ae | ae
 ·simp [ae]
 ·simp
 ·exact(cj x ae).imp (fun h=>by simp [h]) id
 simp [ae]
end
section
variable {T:aaa} {A A' M:List Nat} {w0 w w':World} {g:Nat} {s:aa} {k:Nat}
variable {st:List lU} {fN iB:Value} {cs cs':List Value} {fp h6:List Nat} {iA:Nat}
theorem nn.Qh {fm:lU} {acc:List (aa×JV)} {K:List aa} {t:aa} (H:nn T w0 w g s k (fm::st) fN cs fp)
  (dK:∀ (A:List Nat) (w:World) (c:Value) (m:List Nat),xG T A w fm c m→∃ g b eu,c = .iface T.pm (.pointer (some ⟨g,0,none⟩))∧abM T A w g b acc K t eu∧m=g::b::aY eu) :
  ∃ g1 b eu vs eM fg,cs = .iface T.pm (.pointer (some ⟨g1,0,none⟩))::eM∧fp=g1::b::(aY eu++fg)∧aE w g1 T.mt [eu,.map (some b),S t]∧jU w b (nt K)∧Own w T.ajs 7 eu acc.length vs∧ao (g::(aY fN++fp)) w (acc.map JV.hP).flatten vs∧g1∉aY eu∧g1≠g∧b≠g∧g1≠b∧b∉aY eu∧(∀ x∈aY eu,x≠g)∧(∀ x∈T.z,x∉g1::b::aY eu)∧
  (∀ (w':World) (kY:Value) (jB:List Value) (iA:Nat) (abN:lU) (KF:List (aa×JV)) (akK:List aa) (t':aa),Mod (g::g1::b::aY eu) w w'→aE w' g T.rd [S s,.int .i64 (iA:Int),fN]→aE w' g1 T.mt [kY,.map (some b),S t']→jU w' b (nt akK)→Own w' T.ajs 7 kY KF.length jB→(∀ x∈aY kY,x∈aY eu∨w.heap.size≤x)→ao (g::(aY fN++fp)) w (KF.map JV.hP).flatten jB→
   (∀ (A:List Nat) (w:World) (c:Value) (m:List Nat),(∃ g b eu,c = .iface T.pm (.pointer (some ⟨g,0,none⟩))∧abM T A w g b KF akK t' eu∧m=g::b::aY eu)→xG T A w abN c m)→
   nn T w0 w' g s iA (abN::st) fN cs (g1::b::(aY kY++fg))∧mf w w' g fN fp fN (g1::b::(aY kY++fg)))∧
  (∀ (w':World) (iB:Value) (jB:List Value) (gr:List (aa×JV)),Mod (g::aY eu) w w'→aE w' g T.rd [S s,.int .i64 (k:Int),iB]→Own w' T.any 1 iB eM.length eM.reverse→aY iB=aY fN→Own w' T.ajs 7 eu gr.length jB→ao (g::(aY fN++fp)) w (gr.map JV.hP).flatten jB→
   nn T w0 w' g s k st iB eM fg∧mf w w' g fN fp iB fg∧a8 (g::(aY iB++fg)) w' (.ia 7 (gr.map JV.hP)) eu):=by
 obtain⟨c,eM,m,fg,rfl,rfl,agu,aT,bL⟩:=H.sZ
 obtain⟨g1,b,eu,rfl,aq,rfl⟩:=dK _ _ _ _ agu
 clear agu
 obtain⟨vs,cN,eU⟩:=aq.own
 have bH:=H.lt
 have hf:∀ x∈g1::b::aY eu,x≠g:=fun x ae e=>H.s0 (by subst e;simp only [List.mem_append];exact .inr (.inl ae))
 have eV:∀ x∈g1::b::aY eu,x∉aY fN:=fun x ae e=>H.xc x e (by simp only [List.mem_append];exact .inl ae)
 have jV:∀ x∈g::g1::b::aY eu,x∈g::(aY fN++((g1::b::aY eu)++fg)):=fun x ae=>by
  rcases List.mem_cons.1 ae with rfl | ae
  ·simp
  simp only [List.mem_cons,List.mem_append] at ae ⊢
  rcases ae with rfl | rfl | ae <;> simp [*]
 refine⟨g1,b,eu,vs,eM,fg,rfl,rfl,aq.aA,aq.map,cN,eU,aq.UH,hf g1 (by simp),hf b (by simp),aq.agq,aq.agr,fun x ae=>hf x (by simp [ae]),fun x ae h=>bL x h (aT.z x ae),fun w' kY jB iA abN KF akK t' hm ef aQ eW et cj bl akL=>?_,fun w' iB jB gr hm aQ et iV agv bl=>?_⟩
 rotate_left
 ·have dD:∀ x∈g::(aY iB++fg),x∈g::(aY fN++((g1::b::aY eu)++fg))∨w.heap.size≤x:=fun x ae=>by
   rw [iV] at ae
   simp only [List.mem_cons,List.mem_append] at ae ⊢
   rcases ae with rfl | ae | ae <;> simp [*]
  have abP:∀ x∈g::aY eu,x∈g::(aY fN++((g1::b::aY eu)++fg)):=fun x ae=>jV x (by rcases List.mem_cons.1 ae with rfl | ae <;> simp [*])
  have abO:∀ x∈fg,x∉g::aY eu:=fun x ae h=>by
   rcases List.mem_cons.1 h with rfl | h
   ·exact H.s0 (by simp [ae])
   exact bL x (by simp [h]) ae
  refine⟨⟨aQ,et,aT.to hm abP dD abO,fun h=>?_,fun x ae h=>?_,fun x ae=>?_,H.mod.trans' hm fun x ae=>?_⟩,⟨hm.mono abP,fun x ae=>?_⟩,Own.rep agv (ao.to hm abP dD _ _ bl) (fun r bl=>?_) (by simp) (fun x ae h=>?_)⟩
  ·rw [iV] at h;simp only [List.mem_append] at h;exact H.s0 (by rcases h with h | h <;> simp [h])
  ·rw [iV] at ae;exact H.xc x ae (by simp [h])
  ·rw [iV] at ae;simp only [List.mem_append] at ae;exact H.ta x (by rcases ae with h | h <;> simp [h])
  ·rcases List.mem_cons.1 ae with rfl | ae
   ·exact .inl (by simp)
   exact .inr (H.ta x (by simp [ae]))
  ·rw [iV] at ae;simp only [List.mem_append] at ae ⊢;rcases ae with h | h <;> simp [h]
  ·obtain⟨y,_,rfl⟩:=List.mem_map.1 bl;exact JV.xY y
  rw [iV] at h
  simp only [List.mem_cons,List.mem_append] at h
  rcases h with rfl | h | h
  ·exact hf x (by simp [ae]) rfl
  ·exact eV x (by simp [ae]) h
  exact bL x (by simp [ae]) h
 have dD:∀ x∈g::(aY fN++(g1::b::(aY kY++fg))),x∈g::(aY fN++((g1::b::aY eu)++fg))∨w.heap.size≤x:=fun x ae=>by
  simp only [List.mem_cons,List.mem_append] at ae ⊢
  rcases ae with ae | ae | ae | ae | ae | ae
  ·exact .inl (.inl ae)
  ·exact .inl (.inr (.inl ae))
  ·exact .inl (.inr (.inr (.inl (.inl ae))))
  ·exact .inl (.inr (.inr (.inl (.inr (.inl ae)))))
  ·exact(cj x ae).imp (fun h=>.inr (.inr (.inl (.inr (.inr h))))) id
  exact .inl (.inr (.inr (.inr ae)))
 have qe:∀ x∈aY kY,∀ y,y∈g::(aY fN++fg)→x≠y:=fun x ae y aZ e=>by
  subst e
  rcases cj x ae with h1 | h1
  ·simp only [List.mem_cons,List.mem_append] at aZ
   rcases aZ with rfl | aZ | aZ
   ·exact hf x (by simp [h1]) rfl
   ·exact eV x (by simp [h1]) aZ
   exact bL x (by simp [h1]) aZ
  have:=bH x (by simp only [List.mem_cons,List.mem_append] at aZ ⊢;rcases aZ with rfl | aZ | aZ;exact .inl rfl;exact .inr (.inl aZ);exact .inr (.inr (.inr aZ)))
  omega
 have Qg:g1∉aY kY:=fun ae=>by
  rcases cj g1 ae with h1 | h1
  ·exact aq.UH h1
  have:=aq.aA.lt;omega
 have wb:b∉aY kY:=fun ae=>by
  rcases cj b ae with h1 | h1
  ·exact aq.agr h1
  have:=aq.map.lt;omega
 have akM:∀ x∈aY fN,x∉g::g1::b::aY eu:=fun x ae h=>by
  rcases List.mem_cons.1 h with rfl | h
  ·exact H.s0 (by simp [ae])
  exact eV x h ae
 have abO:∀ x∈fg,x∉g::g1::b::aY eu:=fun x ae h=>by
  rcases List.mem_cons.1 h with rfl | h
  ·exact H.s0 (by simp [ae])
  exact bL x h ae
 refine⟨⟨ef,H.own.mod hm akM,⟨_,eM,g1::b::aY kY,fg,rfl,rfl,akL _ _ _ _ ⟨g1,b,kY,rfl,⟨aQ,eW,⟨jB,et,ao.to hm jV dD _ _ bl⟩,aq.agq,Qg,wb⟩,rfl⟩,aT.to hm jV dD abO,fun x ae h=>?_⟩,fun h=>?_,fun x ae h=>?_,fun x ae=>?_,H.mod.trans' hm fun x ae=>?_⟩,⟨hm.mono fun x ae=>jV x ae,fun x ae=>?_⟩⟩
 ·rcases List.mem_cons.1 ae with rfl | ae
  ·exact bL x (by simp) h
  rcases List.mem_cons.1 ae with rfl | ae
  ·exact bL x (by simp) h
  exact qe x ae x (by simp [h]) rfl
 ·simp only [List.mem_append,List.mem_cons] at h
  rcases h with h | rfl | rfl | h | h
  ·exact H.s0 (by simp [h])
  ·exact hf g (by simp) rfl
  ·exact hf g (by simp) rfl
  ·exact qe g h g (by simp) rfl
  exact H.s0 (by simp [h])
 ·simp only [List.mem_cons,List.mem_append] at h
  rcases h with rfl | rfl | h | h
  ·exact eV x (by simp) ae
  ·exact eV x (by simp) ae
  ·exact qe x h x (by simp [ae]) rfl
  exact H.xc x ae (by simp [h])
 ·simp only [List.mem_cons,List.mem_append] at ae
  rcases ae with ae | rfl | rfl | ae | ae
  ·exact H.ta x (by simp [ae])
  ·exact H.ta x (by simp)
  ·exact H.ta x (by simp)
  ·rcases cj x ae with h1 | h1
   ·exact H.ta x (by simp [h1])
   exact Nat.le_trans H.mod.size h1
  exact H.ta x (by simp [ae])
 ·rcases List.mem_cons.1 ae with rfl | ae
  ·exact .inl (by simp)
  exact .inr (H.ta x (by simp only [List.mem_cons,List.mem_append] at ae ⊢;exact .inr (.inl ae)))
 simp only [List.mem_cons,List.mem_append] at ae ⊢
 rcases ae with ae | rfl | rfl | ae | ae
 ·simp [ae]
 ·simp
 ·simp
 ·exact(cj x ae).imp (fun h=>by simp [h]) id
 simp [ae]
theorem nn.KG (H:nn T w0 w g s k st fN cs fp) (Dt:Mod (g::aY fN) w w') (aQ:aE w' g T.rd [S s,.int .i64 (iA:Int),iB])
  (et:Own w' T.any 1 iB cs.length cs.reverse) (cj:∀ x∈aY iB,x∈aY fN∨w.heap.size≤x):nn T w0 w' g s iA st iB cs fp∧mf w w' g fN fp iB fp:=by
 have bH:=H.lt
 have jV:∀ x∈g::aY fN,x∈g::(aY fN++fp):=fun x ae=>by rcases List.mem_cons.1 ae with rfl | ae <;> simp [*]
 have akN:g∉aY iB:=fun h=>by
  rcases cj g h with h | h
  ·exact H.s0 (by simp [h])
  have:=H.rd.lt;omega
 have dD:∀ x∈g::(aY iB++fp),x∈g::(aY fN++fp)∨w.heap.size≤x:=fun x ae=>by
  simp only [List.mem_cons,List.mem_append] at ae ⊢
  rcases ae with rfl | ae | ae
  ·simp
  ·rcases cj x ae with h | h
   ·simp [h]
   exact .inr h
  simp [ae]
 refine⟨⟨aQ,et,H.sZ.to Dt jV dD (fun x ae h=>?_),fun h=>?_,fun x ae h=>?_,fun x ae=>?_,H.mod.trans' Dt fun x ae=>?_⟩,⟨Dt.mono jV,fun x ae=>?_⟩⟩
 ·rcases List.mem_cons.1 h with rfl | h
  ·exact H.s0 (by simp [ae])
  exact H.xc x h ae
 ·rcases List.mem_append.1 h with h | h
  ·exact akN h
  exact H.s0 (by simp [h])
 ·rcases cj x ae with cN | cN
  ·exact H.xc x cN h
  have:=bH x (by simp [h]);omega
 ·have:=H.mod.size
  rcases List.mem_append.1 ae with ae | ae
  ·rcases cj x ae with h | h
   ·exact H.ta x (by simp [h])
   omega
  exact H.ta x (by simp [ae])
 ·rcases List.mem_cons.1 ae with rfl | ae
  ·exact .inl (by simp)
  exact .inr (H.ta x (by simp [ae]))
 rcases List.mem_append.1 ae with ae | ae
 ·exact(cj x ae).imp (fun h=>by simp [h]) id
 exact .inl (by simp [ae])
theorem nn.KH {z:Nat} (H:nn T w0 w g s k st fN cs fp) (di:z∈T.z) (hm:Mod [z] w w'):nn T w0 w' g s k st fN cs fp:=by
 have A8:=H.sZ.z z di;have akO:z≠g:=fun e=>H.s0 (by subst e;simp [A8]);have tp:z∉aY fN:=fun h=>H.xc z h A8;refine⟨H.rd.mod hm (by simpa using Ne.symm akO),H.own.mod hm (fun x ae e=>tp (by rw [List.mem_singleton.1 e] at ae;exact ae)),?_,H.s0,H.xc,H.ta,H.mod.trans' hm fun x ae=>.inr (by rw [List.mem_singleton.1 ae];exact H.ta z (by simp [A8]))⟩;have key:∀ {st:List lU} {cs:List Value} {h6:List Nat},oF T (g::(aY fN++fp)) w st cs h6→(∀ x∈h6,x∈fp)→oF T (g::(aY fN++fp)) w' st cs h6:=by
  intro st
  induction st with
  | nil=>exact fun h _=>⟨h.1,h.2.1,fun x ae=>Nat.lt_of_lt_of_le (h.2.2 x ae) hm.size⟩
  | cons fm st dF=>
   intro cs h6 h bb;obtain⟨c,cs',m,xH,rfl,rfl,h1,aq,aT⟩:=h;refine⟨c,cs',m,xH,rfl,rfl,h1.to hm (fun x ae=>by rw [List.mem_singleton.1 ae];simp [A8]) (fun x ae e=>?_) (fun x ae=>.inl ae),dF aq (fun x ae=>bb x (by simp [ae])),aT⟩;rw [List.mem_singleton.1 e] at ae;exact aT z ae (aq.z z di)
 exact key H.sZ (fun x ae=>ae)
theorem nn.push {N:Nat} {fm:lU} {c:Value} {m:List Nat} (H:nn T w0 w g s k st fN cs fp) (Dt:Mod (g::aY fN) w w') (bb:w.heap.size≤N) (hm:∀ x∈m,w.heap.size≤x∧x<N) (aQ:aE w' g T.rd [S s,.int .i64 (iA:Int),iB])
  (et:Own w' T.any 1 iB (cs.length+1) (cs.reverse ++ [c])) (cj:∀ x∈aY iB,x∈aY fN∨N≤x) (dK:∀ A,xG T A w' fm c m):nn T w0 w' g s iA (fm::st) iB (c::cs) (m++fp)∧mf w w' g fN fp iB (m++fp):=by
 have bH:=H.lt
 have jV:∀ x∈g::aY fN,x∈g::(aY fN++fp):=fun x ae=>by rcases List.mem_cons.1 ae with rfl | ae <;> simp [*]
 have dD:∀ x∈g::(aY iB++(m++fp)),x∈g::(aY fN++fp)∨w.heap.size≤x:=fun x ae=>by
  simp only [List.mem_cons,List.mem_append] at ae ⊢
  rcases ae with rfl | ae | ae | ae
  ·simp
  ·rcases cj x ae with h | h
   ·simp [h]
   exact .inr (by omega)
  ·exact .inr (hm x ae).1
  simp [ae]
 have WN:∀ x∈m,x∉g::(aY fN++fp):=fun x ae h=>by have:=bH x h;have:=(hm x ae).1;omega
 refine⟨⟨aQ,by simpa using et,⟨c,cs,m,fp,rfl,rfl,dK _,H.sZ.to Dt jV dD (fun x ae h=>?_),fun x ae h=>WN x ae (by simp [h])⟩,fun h=>?_,fun x ae h=>?_,fun x ae=>?_,H.mod.trans' Dt fun x ae=>?_⟩,⟨Dt.mono jV,fun x ae=>?_⟩⟩
 ·rcases List.mem_cons.1 h with rfl | h
  ·exact H.s0 (by simp [ae])
  exact H.xc x h ae
 ·simp only [List.mem_append] at h
  rcases h with h | h | h
  ·rcases cj g h with h | h
   ·exact H.s0 (by simp [h])
   have:=H.rd.lt;omega
  ·exact WN g h (by simp)
  exact H.s0 (by simp [h])
 ·simp only [List.mem_append] at h
  rcases cj x ae with cN | cN
  ·rcases h with h | h
   ·exact WN x h (by simp [cN])
   exact H.xc x cN h
  rcases h with h | h
  ·have:=(hm x h).2;omega
  have:=bH x (by simp [h]);omega
 ·simp only [List.mem_append] at ae
  have:=H.mod.size
  rcases ae with ae | ae | ae
  ·rcases cj x ae with h | h
   ·exact H.ta x (by simp [h])
   omega
  ·have:=(hm x ae).1;omega
  exact H.ta x (by simp [ae])
 ·rcases List.mem_cons.1 ae with rfl | ae
  ·exact .inl (by simp)
  exact .inr (H.ta x (by simp [ae]))
 have:=dD x (by simp only [List.mem_cons];exact .inr ae)
 rcases this with h | h
 ·rcases List.mem_cons.1 h with rfl | h
  ·exact .inr (by
    exfalso
    simp only [List.mem_append] at ae
    rcases ae with ae | ae | ae
    ·rcases cj x ae with h | h
     ·exact H.s0 (by simp [h])
     have:=H.rd.lt;omega
    ·exact WN x ae (by simp)
    exact H.s0 (by simp [ae]))
  exact .inl h
 exact .inr h
end
end Go.Proofs.YtnihidkbkhcfoaaGreatDoor.V
namespace Go.Proofs.YtnihidkbkhcfoaaGreatDoor.V
open Go Go.Lib
theorem uH {d:Nat} (h:d<10):(UInt8.ofNat (48+d)).toNat=48+d:=by
 rw [UInt8.toNat_ofNat'];omega
theorem qb (u:Nat):∀ c∈decDigits u,bx c=true:=by
 induction u using Nat.strongRecOn with
 | _ u dF=>
  intro c bh;rw [decDigits] at bh
  split at bh
  ·rename_i h
   simp only [List.mem_singleton] at bh;subst bh;unfold bx;rw [uH h];simp;omega
  rename_i h
  rcases List.mem_append.1 bh with bh | bh
  ·exact dF (u / 10) (by omega) c bh
  simp only [List.mem_singleton] at bh;subst bh;unfold bx;rw [uH (Nat.mod_lt _ (by decide))];simp;omega
theorem sA (u:Nat):decDigits u≠[]:=by
 rw [decDigits]
 split <;> simp
theorem Mq (u:Nat) (h:10≤u):(decDigits u)[0]?≠some 48:=by
 induction u using Nat.strongRecOn with
 | _ u dF=>
  rw [decDigits,dif_neg (by omega),List.getElem?_append_left (List.length_pos_iff.2 (sA _))]
  by_cases h1:10≤u / 10
  ·exact dF (u / 10) (by omega) h1
  rw [decDigits,dif_pos (by omega)];intro he;simp only [List.getElem?_cons_zero,Option.some.injEq] at he;have:=congrArg UInt8.toNat he;rw [uH (by omega)] at this;simp at this;omega
theorem P2 (u:Nat) (h:u<10):(decDigits u).length=1:=by rw [decDigits,dif_pos h];rfl
theorem WD (u:Nat):∀ r:List UInt8,u<18446744073709551616→parseUint10 0 (decDigits u++r)=parseUint10 u r:=by
 induction u using Nat.strongRecOn with
 | _ u dF=>
  intro r hu;rw [decDigits]
  split
  ·rename_i h
   rw [List.singleton_append,parseUint10,uH h,if_pos (by omega),if_neg (by omega),if_neg (by omega)]
   congr 1
   omega
  rename_i h
  rw [List.append_assoc,dF (u / 10) (by omega) _ (by omega),List.singleton_append,parseUint10,uH (Nat.mod_lt _ (by decide)),if_pos (by omega),if_neg (by omega),if_neg (by omega)]
  congr 1
  omega
theorem FG {u:Nat} (h:u<18446744073709551616):parseMag (decDigits u) = .ok u:=by
 unfold parseMag;rw [if_neg (sA u)];have:=WD u [] h;rw [List.append_nil] at this;rw [this,parseUint10]
theorem qG {n:Int} (b3 : -9007199254740991≤n) (h1:n≤9007199254740991):atoiAll (itoa n) = .ok n:=by
 unfold itoa
 split
 ·rename_i h
  unfold atoiAll;simp only;rw [if_pos (by right;rfl),FG (by omega)];simp only;rw [if_neg (by simp),if_neg (by simp;omega),if_pos (by rfl)]
  congr 1
  omega
 rename_i h
 have hm:=FG (u:=n.toNat) (by omega);have bV:=qb n.toNat;cases cg:decDigits n.toNat with
 | nil=>exact absurd cg (sA _)
 | cons c r=>
  rw [cg] at hm bV;have bh:=bV c (by simp);simp only [bx,Bool.and_eq_true,decide_eq_true_eq] at bh;unfold atoiAll;simp only;rw [if_neg (by omega),hm];simp only;rw [if_neg (by omega),if_neg (by omega),if_neg (by omega)]
  congr 1
  omega
theorem Mr {m n:Int} (b3 : -9007199254740991≤n) (h1:n≤9007199254740991) (g0 : -9007199254740991≤m) (g1:m≤9007199254740991) (h:itoa m=itoa n):m=n:=by
 have aq:=qG g0 g1;rw [h,qG b3 h1] at aq;injection aq with aq
 exact aq.symm
theorem y5 {n:Int} {w:aa} (b3 : -9007199254740991≤n) (h1:n≤9007199254740991) (h:itoa n=w):uG w=some n:=by
 unfold uG;have hex:∃ n:Int,-9007199254740991≤n∧n≤9007199254740991∧itoa n=w:=⟨n,b3,h1,h⟩;rw [dif_pos hex];obtain⟨a,b,c⟩:=hex.choose_spec;rw [Mr b3 h1 a b (c.trans h.symm)]
theorem FH {n:Int} {w:aa} (h:uG w=some n) : -9007199254740991≤n∧n≤9007199254740991∧itoa n=w:=by
 unfold uG at h
 split at h
 ·rename_i hex
  injection h with h
  subst h;exact hex.choose_spec
 cases h
theorem kE {v:Int} {w:aa} (h:atoiAll w = .ok v):uG w=if itoa v=w∧-9007199254740991≤v∧v≤9007199254740991 then some v else none:=by
 split
 ·rename_i bK
  exact y5 bK.2.1 bK.2.2 bK.1
 rename_i bK
 cases di:uG w with
 | none=>rfl
 | some n=>
  obtain⟨a,b,c⟩:=FH di;rw [← c,qG a b] at h;injection h with h
  subst h;exact absurd ⟨c,a,b⟩ bK
theorem mU {w:aa} (h:∀ v,atoiAll w≠.ok v):uG w=none:=by
 cases di:uG w with
 | none=>rfl
 | some n=>
  obtain⟨a,b,c⟩:=FH di;rw [← c] at h;exact absurd (qG a b) (h n)
theorem KC {p:UInt8→Bool}:∀ {l r:aa},(∀ c∈l,p c=true)→(∀ c,r[0]? = some c→p c=false)→(l++r).takeWhile p=l
 | [],[],_,_=>rfl
 | [],c::r,_,h=>by rw [List.nil_append,List.takeWhile_cons,if_neg (by simp [h c rfl])]
 | c::l,r,h,fh=>by rw [List.cons_append,List.takeWhile_cons,if_pos (h c (by simp)),KC (fun x ae=>h x (by simp [ae])) fh]
theorem y7 {p:UInt8→Bool} {s l r:aa} {k:Nat} (h:s.drop k=l++r) (cg:∀ c∈l,p c=true) (bl:∀ c,r[0]? = some c→p c=false):ai p s k=k+l.length:=by
 unfold ai;rw [h,KC cg bl]
theorem bW {s t:aa} {k:Nat} (h:s.length≤k) (cc:t≠[]):aC s k t=false:=by
 rw [Bool.eq_false_iff];intro fh;have:=cY fh cc;have:0<t.length:=List.length_pos_iff.2 cc;omega
theorem FI {n:Int} (b3 : -9007199254740991≤n) (h1:n≤9007199254740991):gF (itoa n)=(true,false):=by
 obtain⟨a,u,hw,ay,aqr⟩:∃ (a u:Nat),(itoa n).drop a=decDigits u∧(if aC (itoa n) 0 [45] then 1 else 0)=a∧a≤(itoa n).length:=by
  unfold itoa
  split
  ·exact⟨1,n.natAbs,rfl,by rw [if_pos (by rfl)],by simp⟩
  refine⟨0,n.toNat,by simp,?_,by simp⟩;rw [if_neg];rw [gl];intro h;have:=qb n.toNat 45 (List.mem_of_getElem? h)
  revert this
  decide
 have bV:=qb u;have bY:=sA u;have hlen:(itoa n).length=a+(decDigits u).length:=by
  have:=congrArg List.length hw;rw [List.length_drop] at this;omega
 have EL:0<(decDigits u).length:=List.length_pos_iff.2 bY;have he:ai bx (itoa n) a=(itoa n).length:=by
  rw [y7 (l:=decDigits u) (r:=[]) (by simpa using hw) bV (by simp),hlen]
 unfold gF;simp only;rw [ay,he,if_neg,bW (Nat.le_refl _) (by simp),if_neg (by simp)]
 ·simp only [Bool.false_eq_true,if_false];rw [bW (Nat.le_refl _) (by simp),bW (Nat.le_refl _) (by simp)];simp
 rintro(h | ⟨aq,aT⟩)
 ·omega
 have hu:10≤u:=by
  rcases Nat.lt_or_ge u 10 with hu | hu
  ·have:=P2 u hu;omega
  exact hu
 have:=Mq u hu;rw [← hw,List.getElem?_drop] at this;exact this (by simpa using aT)
theorem Is {n:Int} (b3 : -9007199254740991≤n) (h1:n≤9007199254740991):h4 (itoa n) = .ok n:=by
 unfold h4;rw [FI b3 h1,if_neg (by simp),y5 b3 h1 rfl]
theorem P3 {n:Int}:∀ c∈itoa n,eJ c=true:=by
 intro c bh;unfold itoa at bh
 split at bh
 ·rcases List.mem_cons.1 bh with rfl | bh
  ·rfl
  unfold eJ;rw [qb _ c bh];rfl
 unfold eJ;rw [qb _ c bh];rfl
theorem P4 (n:Int):itoa n≠[]:=by
 unfold itoa
 split
 ·simp
 exact sA _
theorem It {n:Int} {s r:aa} {k:Nat} (b3 : -9007199254740991≤n) (h1:n≤9007199254740991) (h:s.drop k=itoa n++r) (bl:∀ c,r[0]? = some c→eJ c=false):iL s k = .ok (JV.hl n,k+(itoa n).length):=by
 unfold iL;rw [y7 h P3 bl,Nat.add_sub_cancel_left,h,List.take_left',Is b3 h1]
 ·rfl
 rfl
end Go.Proofs.YtnihidkbkhcfoaaGreatDoor.V
namespace Go.Proofs.YtnihidkbkhcfoaaGreatDoor.V
open Go
/-! ## four digits -/
theorem rX:∀ (f:Nat) (s:aa) (n:Nat),s.length<f→eK f s n=none
 | 0,_,_,h=>by omega
 | f+1,[],n,_=>rfl
 | f+1,c::r,n,h=>by
  rw [eK]
  cases kC c with
  | none=>rfl
  | some d=>exact rX f r _ (by simpa using h)
theorem zc:∀ (f:Nat) (s:aa) (n:Nat),eK f (s.take f) n=eK f s n
 | 0,_,_=>by simp [eK]
 | f+1,[],n=>rfl
 | f+1,c::r,n=>by
  rw [List.take_succ_cons,eK,eK]
  cases kC c with
  | none=>rfl
  | some d=>exact zc f r _
theorem FM {c:UInt8} {d:Nat} (h:kC c=some d):d<16:=by
 unfold kC at h
 split at h
 ·injection h with h;omega
 split at h
 ·injection h with h;omega
 split at h
 ·injection h with h;omega
 cases h
theorem MA {c:UInt8} (h:128≤c.toNat):kC c=none:=by
 unfold kC;rw [if_neg (by omega),if_neg (by omega),if_neg (by omega)]
theorem FN:∀ (f:Nat) (s:aa) (n m:Nat),eK f s n=some m→m<16 ^ f*(n+1)
 | 0,_,n,m,h=>by
  simp only [eK,Option.some.injEq] at h
  omega
 | f+1,[],n,m,h=>by simp [eK] at h
 | f+1,c::r,n,m,h=>by
  rw [eK] at h
  cases bV:kC c with
  | none=>rw [bV] at h;cases h
  | some d=>
   rw [bV] at h
   have h1:=FN f r _ _ h
   have aq:=FM bV
   have aT:16 ^ f*(16*n+d+1)≤16 ^ f*(16*(n+1)):=Nat.mul_le_mul_left _ (by omega)
   rw [Nat.pow_succ,Nat.mul_assoc]
   omega
theorem uM {s:aa} {m:Nat} (h:eK 4 s 0=some m):m<65536:=by
 have:=FN 4 s 0 m h;omega
theorem FO {f p n:Nat} {s:aa} {b:UInt8} (h:s[p]? = some b):eK (f+1) (s.drop p) n=match kC b with | none=>none | some d=>eK f (s.drop (p+1)) (16*n+d):=by
 first | (rw [gk h,eK];done) | (rw [gk h,eK];cases kC b <;> rfl)
theorem aab:∀ b,b<128→(match kC (UInt8.ofNat b)with | none=>decide (Lib.indexByte iH (UInt8.ofNat (b ||| 32))<0)||decide (b<48) | some d=>decide (Lib.indexByte iH (UInt8.ofNat (b ||| 32))=(d:Int))&&decide (48≤b))=true:=by decide +kernel
theorem Qi {b:UInt8} (aQ:b.toNat<128) (h:kC b=none):Lib.indexByte iH (UInt8.ofNat (b.toNat ||| 32))<0∨b.toNat<48:=by
 have:=aab b.toNat aQ;rw [UInt8.ofNat_toNat,h] at this;simpa using this
theorem BY {b:UInt8} {d:Nat} (aQ:b.toNat<128) (h:kC b=some d):Lib.indexByte iH (UInt8.ofNat (b.toNat ||| 32))=(d:Int)∧48≤b.toNat:=by
 have:=aab b.toNat aQ;rw [UInt8.ofNat_toNat,h] at this;simpa using this
theorem wrap32_in (z:Int) (h : -2147483648≤z∧z≤2147483647):IntKind.i32.wrap z=z:=by
 simp only [IntKind.wrap,IntKind.bits,IntKind.signed];simp;omega
theorem Qj {c:Nat} (h:c≤1114111):IntKind.i32.wrap ((BitVec.ofInt IntKind.i32.bits (c:Int) ||| BitVec.ofInt IntKind.i32.bits 32).toNat)=((c ||| 32:Nat):Int):=by
 have b3:(BitVec.ofInt 32 (c:Int) ||| BitVec.ofInt 32 32).toNat=c ||| 32:=by
  rw [BitVec.toNat_or];have h1:(BitVec.ofInt 32 (c:Int)).toNat=c:=by
   rw [BitVec.toNat_ofInt];omega
  have aq:(BitVec.ofInt 32 32).toNat=32:=by decide
  rw [h1,aq]
 have bH:c ||| 32<2 ^ 21:=Nat.or_lt_two_pow (by omega) (by omega);show IntKind.i32.wrap ((BitVec.ofInt 32 (c:Int) ||| BitVec.ofInt 32 32).toNat:Int)=_;rw [b3,wrap32_in _ (by omega)]
theorem FP {c:Nat}:(c ||| 32) / 2048=c / 2048:=by
 have:=Nat.shiftRight_or_distrib (a:=c) (b:=32) (i:=11);rw [Nat.shiftRight_eq_div_pow,Nat.shiftRight_eq_div_pow] at this;simpa using this
theorem Qk {c:Nat} (h:128≤c):128≤c ||| 32:=Nat.le_trans h Nat.left_le_or
theorem Ql {c:Nat} (h:c≤1114111):c ||| 32≤1114111:=by
 have h1:=FP (c:=c)
 by_cases aq:c / 2048=543
 ·omega
 omega
theorem Qm {c:Nat} (h:¬ (55296≤c∧c≤57343)):¬ (55296≤c ||| 32∧c ||| 32≤57343):=by
 have h1:=FP (c:=c);omega
theorem Qn {c:Nat} (h:c<128):c ||| 32<128:=Nat.or_lt_two_pow (n:=7) h (by decide)
theorem abQ {n d:Nat} (cj:n<1048576) (bV:d<16):IntKind.i32.wrap ((BitVec.ofInt IntKind.i32.bits ((16*n:Nat):Int) ||| BitVec.ofInt IntKind.i32.bits (d:Int)).toNat)=((16*n+d:Nat):Int):=by
 have h:(BitVec.ofInt 32 ((16*n:Nat):Int) ||| BitVec.ofInt 32 (d:Int)).toNat=16*n+d:=by
  rw [BitVec.toNat_or];have h1:(BitVec.ofInt 32 ((16*n:Nat):Int)).toNat=16*n:=by
   rw [BitVec.toNat_ofInt];omega
  have aq:(BitVec.ofInt 32 (d:Int)).toNat=d:=by
   rw [BitVec.toNat_ofInt];omega
  rw [h1,aq];exact(Nat.two_pow_add_eq_or_of_lt (i:=4) bV n).symm
 show IntKind.i32.wrap ((BitVec.ofInt 32 ((16*n:Nat):Int) ||| BitVec.ofInt 32 (d:Int)).toNat:Int)=_;rw [h,wrap32_in _ (by omega)]
/-! ## letters behind a backslash -/
abbrev KK:aa:=[34,92,47,98,102,110,114,116]
abbrev aac:aa:=[34,92,47,8,12,10,13,9]
theorem wc (c:UInt8):(rT c=none∧Lib.indexByte KK c<0)∨∃ i d:Nat,rT c=some d∧Lib.indexByte KK c=(i:Int)∧i<8∧aac[i]? = some (UInt8.ofNat d)∧d<256:=by
 by_cases h1:c=34
 ·subst h1;exact .inr ⟨0,34,by decide⟩
 by_cases aq:c=92
 ·subst aq;exact .inr ⟨1,92,by decide⟩
 by_cases aT:c=47
 ·subst aT;exact .inr ⟨2,47,by decide⟩
 by_cases bL:c=98
 ·subst bL;exact .inr ⟨3,8,by decide⟩
 by_cases cN:c=102
 ·subst cN;exact .inr ⟨4,12,by decide⟩
 by_cases eU:c=110
 ·subst eU;exact .inr ⟨5,10,by decide⟩
 by_cases kB:c=114
 ·subst kB;exact .inr ⟨6,13,by decide⟩
 by_cases kt:c=116
 ·subst kt;exact .inr ⟨7,9,by decide⟩
 left;refine⟨by unfold rT;simp [*],?_⟩;have e:∀ d:UInt8,¬ c=d→(d == c)=false:=fun d h=>by simp [Ne.symm h]
 simp only [Lib.indexByte,e _ h1,e _ aq,e _ aT,e _ bL,e _ cN,e _ eU,e _ kB,e _ kt,Bool.false_eq_true,if_false,beq_self_eq_true,if_true];omega
def fV (s:aa):Nat×Nat:=if (lE (92::s)).2=0 then (0,0)else ((lE (92::s)).1,(lE (92::s)).2-1)
theorem MB:fV []=(0,0):=rfl
theorem BZ {c:UInt8} {r:aa} {d:Nat} (h:rT c=some d):fV (c::r)=(d,1):=by
 have:lE (92::c::r)=(d,2):=by unfold lE;simp only;rw [h]
 unfold fV;rw [this];rfl
theorem xZ {c:UInt8} {r:aa} (h:rT c=none):lE (92::c::r)=match nG (92::c::r)with
   | none=>(0,0)
   | some n=>
    if 56320≤n∧n≤57343 then (0,0)
    else if n<55296∨57343<n then (n,6)
    else match nG (r.drop 4)with
     | none=>(0,0)
     | some m=>if m<56320∨57343<m then (0,0)else (65536+1024*(n-55296)+(m-56320),12):=by
 unfold lE
 simp only
 rw [h]
 rfl
theorem Qo {c:UInt8} {r:aa} (h:c≠117):nG (92::c::r)=none:=by
 unfold nG
 split
 ·rename_i aq
  injection aq with _ aq
  injection aq with aq _
  exact absurd aq h
 rfl
theorem x0 {r:aa}:nG (92::117::r)=eK 4 r 0:=rfl
theorem B0 {l:aa} (h:(List.isPrefixOf [92,117] l)=false):nG l=none:=by
 unfold nG
 split
 ·simp [List.isPrefixOf] at h
 rfl
theorem zd {l:aa} (h:(List.isPrefixOf [92,117] l)=true):nG l=eK 4 (l.drop 2) 0:=by
 rw [List.isPrefixOf_iff_prefix] at h;obtain⟨t,rfl⟩:=h;rfl
/-! ## blanks, words of numbers -/
theorem WO (s:aa) (c:UInt8):decide (Lib.indexByte s c≥0)=s.any (fun b=>b == c):=by
 induction s with
 | nil=>rfl
 | cons b s dF=>
  rw [List.any_cons,← dF,show Lib.indexByte (b::s) c=(if b == c then 0 else if Lib.indexByte s c == -1 then -1 else Lib.indexByte s c+1) from rfl]
  by_cases h:(b == c)=true
  ·rw [if_pos h,h];rfl
  rw [if_neg h];have dK:(b == c)=false:=by simpa using h
  rw [dK,Bool.false_or]
  by_cases aq:(Lib.indexByte s c == -1)=true
  ·rw [if_pos aq];have:Lib.indexByte s c = -1:=by simpa using aq
   rw [this]
  rw [if_neg aq];have aT:Lib.indexByte s c≠-1:=by simpa using aq
  have bL:=Lib.indexByte_ge s c;rw [decide_eq_true (by omega),decide_eq_true (by omega)]
theorem Qp (a b:UInt8):(a == b)=(b == a):=by
 by_cases h:a=b
 ·subst h;rfl
 rw [beq_eq_false_iff_ne.2 h,beq_eq_false_iff_ne.2 (Ne.symm h)]
theorem Qq (c:UInt8):decide (Lib.indexByte [32,9,10,13] c≥0)=aW c:=by
 rw [WO];simp [aW,Qp,Bool.or_assoc]
theorem abR:∀ c:Nat,c<256→decide (Lib.indexByte [43,45,46,48,49,50,51,52,53,54,55,56,57,69,101] (UInt8.ofNat c)≥0)=eJ (UInt8.ofNat c):=by decide +kernel
theorem KN (c:UInt8):decide (Lib.indexByte [43,45,46,48,49,50,51,52,53,54,55,56,57,69,101] c≥0)=eJ c:=by
 have:=abR c.toNat (UInt8.toNat_lt c)
 rwa [UInt8.ofNat_toNat] at this
theorem Qr (c:UInt8):([48,49,50,51,52,53,54,55,56,57]:aa).contains c=bx c:=by
 have:∀ n:Nat,n<256→([48,49,50,51,52,53,54,55,56,57]:aa).contains (UInt8.ofNat n)=bx (UInt8.ofNat n):=by decide +kernel
 have:=this c.toNat (UInt8.toNat_lt c)
 rwa [UInt8.ofNat_toNat] at this
theorem Qs (p:UInt8→Bool) (s:aa) (k:Nat):(s.drop k).dropWhile p=s.drop (ai p s k):=by
 unfold ai;generalize cg:s.drop k=l;have h:∀ l:aa,l.dropWhile p=l.drop (l.takeWhile p).length:=fun l=>by
  induction l with
  | nil=>rfl
  | cons c r dF=>
   rw [List.dropWhile_cons,List.takeWhile_cons]
   split
   ·rw [dF];simp
   rfl
 rw [h,← cg,List.drop_drop]
theorem abS (s:aa) (k:Nat):Lib.trimLeftS (s.drop k) [48,49,50,51,52,53,54,55,56,57]=s.drop (ai bx s k):=by
 rw [← Qs];unfold Lib.trimLeftS
 congr 1
 funext c
 exact Qr c
theorem pt:∀ c:Nat,c<256→(IntKind.u8.wrap ((BitVec.ofInt IntKind.u8.bits (c:Int) ||| BitVec.ofInt IntKind.u8.bits 32).toNat)=101↔(c=101∨c=69)):=by decide +kernel
theorem WQ {s:aa} {p:Nat} {b:UInt8} (aQ:s[p]? = some b) (h:¬ b.toNat<128):∃ c m,Utf8.decode ⟨⟨s⟩⟩ p=(c,m)∧128≤c∧c≤1114111∧¬ (55296≤c∧c≤57343):=by
 have cn:=(List.getElem?_eq_some_iff.1 aQ).1;have bV:=gk aQ
 by_cases b3:(aI (s.drop p)).2=0
 ·exact⟨65533,1,ze cn b3,by decide,by decide,by decide⟩
 obtain⟨_,_,h1,aq⟩:=we (h' cn) b3;refine⟨_,_,x1 cn b3,?_,h1,aq⟩;rcases Nat.lt_or_ge (aI (s.drop p)).1 128 with aT | aT
 ·obtain⟨x,ae,abJ⟩:=mc (h' cn) b3 aT;rw [bV] at ae;have:x=b:=by
   cases cj:(aI (b::s.drop (p+1))).2 with
   | zero=>rw [cj] at ae;simp at ae
   | succ m=>rw [cj,List.take_succ_cons] at ae;injection ae with ae;exact ae.symm
  subst this;omega
 exact aT
theorem tK {p n d4:Nat} {s:aa} {b:UInt8} {W:Option Nat} (cn:p<4) (aQ:s[p]? = some b) (ae:kC b=none) (hinv:eK (4-p) (s.drop p) n=W):W=none:=by
 rw [← hinv,show 4-p=(3-p)+1 by omega,FO aQ,ae]
theorem Iz {p n d:Nat} {s:aa} {b:UInt8} {W:Option Nat} (cn:p<4) (aQ:s[p]? = some b) (ae:kC b=some d) (hinv:eK (4-p) (s.drop p) n=W):eK (4-(p+1)) (s.drop (p+1)) (16*n+d)=W:=by
 rw [← hinv,show 4-p=(3-p)+1 by omega,FO aQ,ae,show 4-(p+1)=3-p by omega]
theorem KO {b:UInt8} (aQ:b.toNat<128) (h:Lib.indexByte iH (UInt8.ofNat (b.toNat ||| 32))<0∨b.toNat<48):kC b=none:=by
 cases ae:kC b with
 | none=>rfl
 | some d=>
  have:=BY aQ ae;omega
theorem Qt {b:UInt8} (aQ:b.toNat<128) (h1:¬ Lib.indexByte iH (UInt8.ofNat (b.toNat ||| 32))<0) (aq:¬ b.toNat<48):∃ d,kC b=some d∧d<16∧Lib.indexByte iH (UInt8.ofNat (b.toNat ||| 32))=(d:Int):=by
 cases ae:kC b with
 | none=>exact absurd (Qi aQ ae) (by omega)
 | some d=>exact⟨d,rfl,FM ae,(BY aQ ae).1⟩
theorem abT {n:Nat} (h:n<65536):IntKind.i32.wrap ((n:Int)*2 ^ (min ((4:Int)).toNat IntKind.i32.bits))=((16*n:Nat):Int):=by
 have:(2:Int) ^ (min ((4:Int)).toNat IntKind.i32.bits)=16:=by decide
 rw [this,wrap32_in _ (by omega)];omega
theorem KP {n:Nat} (h:n<2048):IntKind.i32.wrap ((n:Int)*2 ^ (min ((10:Int)).toNat IntKind.i32.bits))=((1024*n:Nat):Int):=by
 have:(2:Int) ^ (min ((10:Int)).toNat IntKind.i32.bits)=1024:=by decide
 rw [this,wrap32_in _ (by omega)];omega
theorem abU {n p d:Nat} (h:n<16 ^ p) (bV:d<16):16*n+d<16 ^ (p+1):=by
 rw [Nat.pow_succ];omega
theorem MC {n p:Nat} (h:n<16 ^ p) (cn:p≤3):n<4096:=Nat.lt_of_lt_of_le h (Nat.pow_le_pow_right (by decide) cn)
theorem wg {s:aa} {n m:Nat} (h:eK 4 s n=some m):4≤s.length:=by
 rcases Nat.lt_or_ge s.length 4 with h1 | h1
 ·rw [rX 4 s n h1] at h;cases h
 exact h1
theorem mg {c:UInt8} {r:aa} (cj:rT c=none) (h:c≠117∨eK 4 r 0=none∨∃ n,eK 4 r 0=some n∧56320≤n∧n≤57343):fV (c::r)=(0,0):=by
 have b3:lE (92::c::r)=(0,0):=by
  rw [xZ cj]
  by_cases bh:c=117
  ·subst bh;rw [x0];rcases h with h | h | ⟨n,h1,aq⟩
   ·exact absurd rfl h
   ·rw [h]
   rw [h1];simp only;rw [if_pos aq]
  rw [Qo bh]
 unfold fV;rw [b3];rfl
theorem mW {r:aa} {n:Nat} (h:eK 4 r 0=some n) (aQ:n<55296∨57343<n):fV (117::r)=(n,5):=by
 have b3:lE (92::117::r)=(n,6):=by
  rw [xZ rfl,x0,h];simp only;rw [if_neg (by omega),if_pos aQ]
 unfold fV;rw [b3];rfl
theorem hW {r:aa} {n:Nat} (h:eK 4 r 0=some n) (aQ:55296≤n∧n<56320) (aq:nG (r.drop 4)=none∨∃ m,nG (r.drop 4)=some m∧(m<56320∨57343<m)):fV (117::r)=(0,0):=by
 have b3:lE (92::117::r)=(0,0):=by
  rw [xZ rfl,x0,h];simp only;rw [if_neg (by omega),if_neg (by omega)];rcases aq with aq | ⟨m,aq,aT⟩
  ·rw [aq]
  rw [aq];simp only;rw [if_pos aT]
 unfold fV;rw [b3];rfl
theorem tL {r:aa} {n m:Nat} (h:eK 4 r 0=some n) (aQ:55296≤n∧n<56320) (aq:nG (r.drop 4)=some m) (aT:56320≤m∧m≤57343):fV (117::r)=(65536+1024*(n-55296)+(m-56320),11):=by
 have b3:lE (92::117::r)=(65536+1024*(n-55296)+(m-56320),12):=by
  rw [xZ rfl,x0,h];simp only;rw [if_neg (by omega),if_neg (by omega),aq];simp only;rw [if_neg (by omega)]
 unfold fV;rw [b3];rfl
theorem oG (p l:aa):decide (p.length≤l.length∧l.take p.length=p)=List.isPrefixOf p l:=by
 rw [Bool.eq_iff_iff,decide_eq_true_eq,List.isPrefixOf_iff_prefix,List.prefix_iff_eq_take];constructor
 ·rintro⟨_,h⟩;exact h.symm
 intro h;refine⟨?_,h.symm⟩;have:=congrArg List.length h;rw [List.length_take] at this;omega
theorem Qu (s:aa):(fV s).1≤1114111∧¬ (55296≤(fV s).1∧(fV s).1≤57343)∧(fV s).2≤s.length:=by
 cases s with
 | nil=>rw [MB];decide
 | cons c r=>
  cases bh:rT c with
  | some d=>
   rw [BZ bh];rcases wc c with⟨h,_⟩ | ⟨i,sX,h,_,_,_,aq⟩
   ·rw [h] at bh;cases bh
   rw [bh] at h;injection h with h
   subst h;exact⟨by simp only;omega,by simp only;omega,by simp⟩
  | none=>
   by_cases aad:c=117
   rotate_left
   ·rw [mg bh (.inl aad)];simp
   subst aad;cases ae:eK 4 r 0 with
   | none=>rw [mg bh (.inr (.inl ae))];simp
   | some n=>
    have cg:=wg ae;have cj:=uM ae
    by_cases aQ:n<55296∨57343<n
    ·rw [mW ae aQ];exact⟨by simp only;omega,by simp only;omega,by simp only [List.length_cons];omega⟩
    by_cases IA:56320≤n
    ·rw [mg bh (.inr (.inr ⟨n,ae,IA,by omega⟩))];simp
    cases hu:nG (r.drop 4)with
    | none=>rw [hW ae (by omega) (.inl hu)];simp
    | some m=>
     by_cases hm:m<56320∨57343<m
     ·rw [hW ae (by omega) (.inr ⟨m,hu,hm⟩)];simp
     rw [tL ae (by omega) hu (by omega)];have qf:6≤(r.drop 4).length:=by
      unfold nG at hu
      split at hu
      ·rename_i Mn e
       have:=wg hu;rw [e];simp only [List.length_cons];omega
      cases hu
     rw [List.length_drop] at qf;exact⟨by simp only;omega,by simp only;omega,by simp only [List.length_cons];omega⟩
/-! ## a text between quotes, round by round -/
theorem MD {f:Nat} {s:aa} {i:Nat} {out:aa} (h:s.length≤i):fU f (s.drop i) i out=none:=by
 rw [List.drop_eq_nil_of_le h];cases f <;> rfl
theorem FQ {f:Nat} {s:aa} {i:Nat} {out:aa} (h:s[i]? = some 34):fU (f+1) (s.drop i) i out=some (out,i+1):=by
 rw [gk h,fU,if_pos rfl]
theorem zf {f:Nat} {s:aa} {i:Nat} {out:aa} {c:UInt8} (h:s[i]? = some c) (h1:c≠34) (aq:c≠92):fU (f+1) (s.drop i) i out=if (aI (s.drop i)).2=0∨(aI (s.drop i)).1<32 then none else fU f (s.drop (i+(aI (s.drop i)).2)) (i+(aI (s.drop i)).2) (out++jf (aI (s.drop i)).1):=by
 have e:=gk h;rw [← List.drop_drop];generalize s.drop i=l at e ⊢;subst e;rw [fU,if_neg h1,if_neg aq];simp only [ne_eq,aq,not_false_eq_true,true_and]
theorem ME {f:Nat} {s:aa} {i:Nat} {out:aa} (h:s[i]? = some 92):fU (f+1) (s.drop i) i out=if (fV (s.drop (i+1))).2=0 then none else fU f (s.drop (i+((fV (s.drop (i+1))).2+1))) (i+((fV (s.drop (i+1))).2+1)) (out++jf (fV (s.drop (i+1))).1):=by
 have e:=gk h;have bZ:∀ k,s.drop (i+k)=(92::s.drop (i+1)).drop k:=fun k=>by rw [← e,List.drop_drop]
 rw [bZ ((fV (s.drop (i+1))).2+1),e,fU,if_neg (by decide),if_pos rfl];simp only [ne_eq,not_true_eq_false,false_and,or_false];unfold fV;generalize ae:lE (92::s.drop (i+1))=x
 by_cases b3:x.2=0
 ·rw [if_pos b3,if_pos b3];rfl
 have bY:¬ (x.2-1=0):=by
  have:x.2≠1:=fun h1=>by
   rw [← ae] at h1;unfold lE at h1
   split at h1
   ·split at h1
    ·cases h1
    split at h1
    ·cases h1
    split at h1
    ·cases h1
    split at h1
    ·cases h1
    split at h1
    ·cases h1
    split at h1 <;> cases h1
   cases h1
  omega
 rw [if_neg b3,if_neg b3];simp only;rw [if_neg bY,show x.2-1+1=x.2 by omega]
theorem MF {s:aa} {i:Nat} (h:i<s.length) (b3:(aI (s.drop i)).2=0):Utf8.decode ⟨⟨s.drop i⟩⟩ 0=(65533,1):=by
 have:=ze (s:=s.drop i) (p:=0) (by rw [List.length_drop];omega) (by simpa using b3);exact this
theorem wh {s:aa} {i:Nat} (h:i<s.length) (b3:(aI (s.drop i)).2≠0):Utf8.decode ⟨⟨s.drop i⟩⟩ 0=aI (s.drop i):=by
 have:=x1 (s:=s.drop i) (p:=0) (by rw [List.length_drop];omega) (by simpa using b3);simpa using this
theorem pv {s:aa} {i:Nat} {c:UInt8} (h:s[i]? = some c) (bh:c.toNat<128):aI (s.drop i)=(c.toNat,1):=by
 rw [gk h];exact fW bh
theorem B1 {s:aa} {i:Nat} {c:UInt8} (h:s[i]? = some c) (b3:(aI (s.drop i)).2≠0) (cg:(aI (s.drop i)).1<128):(aI (s.drop i)).1=c.toNat:=by
 have bY:s.drop i≠[]:=by rw [gk h];simp
 obtain⟨x,ae,abJ⟩:=mc bY b3 cg;rw [← abJ];have:x=c:=by
  rw [gk h] at ae;cases cj:(aI (c::s.drop (i+1))).2 with
  | zero=>rw [cj] at ae;simp at ae
  | succ m=>rw [cj,List.take_succ_cons] at ae;injection ae with ae;exact ae.symm
 rw [this]
theorem MG {s:aa} {i:Nat} (h:i<s.length) (b3:(aI (s.drop i)).2≠0) (bh:(aI (s.drop i)).1=65533):¬ (aI (s.drop i)).2<2:=by
 have bY:=h' h;have:=qH bY b3;have cg:=congrArg List.length this;rw [bh,show(jf 65533).length=3 by decide,List.length_take] at cg;omega
theorem xd {s:aa} {v:Int} (h:Lib.atoiAll s = .ok v) : -9223372036854775808≤v∧v≤9223372036854775807:=by
 unfold Lib.atoiAll at h
 split at h
 ·cases h
 simp only at h
 split at h
 ·cases h
 ·cases h
 split at h
 ·cases h
 split at h
 ·cases h
 rename_i h1 aq
 injection h with h
 subst h
 split
 ·rename_i Qv;simp only [Qv,true_and] at aq;omega
 rename_i Qv;simp only [Qv,not_false_eq_true,true_and] at h1;omega
theorem abV {s:aa} {a:Nat} (ay:a=if aC s 0 [45] then 1 else 0):Lib.trimPrefix s [45]=s.drop a:=by
 unfold Lib.trimPrefix Lib.hasPrefix;unfold aC at ay;rw [List.drop_zero] at ay;rw [ay]
 split <;> simp
theorem MH {s:aa} {a:Nat} (ay:a=if aC s 0 [45] then 1 else 0):a≤s.length:=by
 rw [ay]
 split
 ·rename_i h;exact cY h (by simp)
 omega
section
variable {w:aa} {a e bk bZ:Nat}
theorem xe (ay:a=if aC w 0 [45] then 1 else 0) (he:e=ai bx w a) (h:e=a∨(a+1<e∧w[a]? = some 48)):(gF w).1=false:=by
 subst he;subst ay;unfold gF;simp only;rw [if_pos h]
theorem xf (ay:a=if aC w 0 [45] then 1 else 0) (he:e=ai bx w a) (h:¬ (e=a∨(a+1<e∧w[a]? = some 48))) (hm:aC w e [46]=true) (hk:ai bx w (e+1)=e+1):(gF w).1=false:=by
 subst he;subst ay;unfold gF;simp only;rw [if_neg h,if_pos ⟨hm,hk⟩]
theorem de (ay:a=if aC w 0 [45] then 1 else 0) (he:e=ai bx w a) (h:¬ (e=a∨(a+1<e∧w[a]? = some 48))) (aq:¬ (aC w e [46]=true∧ai bx w (e+1)=e+1)) (qJ:bk=if aC w e [46] then ai bx w (e+1)else e) (e1:(aC w bk [101]||aC w bk [69])=false):(gF w).1=decide (bk=w.length):=by
 subst qJ;subst he;subst ay;unfold gF;simp only;rw [if_neg h,if_neg aq,if_neg (by rw [e1];simp)]
theorem eo (ay:a=if aC w 0 [45] then 1 else 0) (he:e=ai bx w a) (h:¬ (e=a∨(a+1<e∧w[a]? = some 48))) (aq:¬ (aC w e [46]=true∧ai bx w (e+1)=e+1)) (qJ:bk=if aC w e [46] then ai bx w (e+1)else e) (e1:(aC w bk [101]||aC w bk [69])=true) (fl:bZ=if aC w (bk+1) [43]||aC w (bk+1) [45] then bk+2 else bk+1) (hk:ai bx w bZ=bZ):(gF w).1=false:=by
 subst fl;subst qJ;subst he;subst ay;unfold gF;simp only;rw [if_neg h,if_neg aq,if_pos e1,if_pos hk]
theorem df (ay:a=if aC w 0 [45] then 1 else 0) (he:e=ai bx w a) (h:¬ (e=a∨(a+1<e∧w[a]? = some 48))) (aq:¬ (aC w e [46]=true∧ai bx w (e+1)=e+1)) (qJ:bk=if aC w e [46] then ai bx w (e+1)else e) (e1:(aC w bk [101]||aC w bk [69])=true) (fl:bZ=if aC w (bk+1) [43]||aC w (bk+1) [45] then bk+2 else bk+1) (hk:¬ ai bx w bZ=bZ):(gF w).1=decide (ai bx w bZ=w.length):=by
 subst fl;subst qJ;subst he;subst ay;unfold gF;simp only;rw [if_neg h,if_neg aq,if_pos e1,if_neg hk]
end
theorem drop_nil {s:aa} {k:Nat} (hk:k≤s.length):s.drop k = []↔k=s.length:=by
 rw [List.drop_eq_nil_iff];omega
theorem bA {s:aa} {k:Nat} {c d:UInt8} (h:s[k]? = some d):aC s k [c]=decide (d=c):=by
 rw [Iq,h];simp
theorem zg (c:Nat):(jf c).length≤4:=MI c
end Go.Proofs.YtnihidkbkhcfoaaGreatDoor.V
