/-
  A part of the proof: the reading of JSON texts, as the document tells it, in plain Lean; the reading of JSON texts: it goes on, it ends; and the same with a stack; regions that draw and end with two operations in either order: one operation that all these wait for, some that touch no memory, then the two; maps with texts as keys: what a block that is one holds, and the operations on it; a map made, written, counted; its entries one by one; a reader in memory: its place, its stack of lists and maps under way; a reader in memory: a map's frame on top; a frame more; a number's text, read; steps of the reading: digits of base 16, escapes, blanks, words of numbers; steps of the reading: runes that are no ASCII, escapes by parts, texts between quotes by rounds. No condition of its own.
-/
import Derived.Test.YtnihidkbkhcfoaaGreatDoorM2
import Derived.Test.YtnihidkbkhcfoaaGreatDoorM4
import Derived.Maps.RangeRun
import Derived.Lib.AtoiAll
import Derived.Test.YtnihidkbkhcfoaaGreatDoorM3
import Derived.Lib.SlTrimSet
set_option linter.unusedVariables false
set_option linter.unusedSimpArgs false
namespace Go.Proofs.YtnihidkbkhcfoaaGreatDoor.V
open Go
def aG (c:UInt8):Bool:=c == 32||c == 9||c == 10||c == 13
def a' (c:UInt8):Bool:=decide (48≤c.toNat)&&decide (c.toNat≤57)
def dW (c:UInt8):Bool:=a' c||c == 43||c == 45||c == 46||c == 101||c == 69
def ag (p:UInt8→Bool) (s:U) (k:Nat):Nat:=k+((s.drop k).takeWhile p).length
theorem fq {s:U} {k:Nat} {c:UInt8} (h:s[k]? = some c):s.drop k=c::s.drop (k+1):=by
 obtain⟨hk,e⟩:=List.getElem?_eq_some_iff.1 h;rw [List.drop_eq_getElem_cons hk,e]
theorem tH {p:UInt8→Bool} {s:U} {k:Nat} {c:UInt8} (h:s[k]? = some c) (bJ:p c=true):ag p s (k+1)=ag p s k:=by
 unfold ag;rw [fq h,List.takeWhile_cons,if_pos bJ];simp only [List.length_cons];omega
theorem jG {p:UInt8→Bool} {s:U} {k:Nat} {c:UInt8} (h:s[k]? = some c) (bJ:p c=false):ag p s k=k:=by
 unfold ag;rw [fq h,List.takeWhile_cons,if_neg (by simp [bJ])];rfl
theorem jq {p:UInt8→Bool} {s:U} {k:Nat} (h:s.length≤k):ag p s k=k:=by
 unfold ag;rw [List.drop_eq_nil_of_le h];rfl
theorem bG (p:UInt8→Bool) (s:U) (k:Nat):k≤ag p s k:=Nat.le_add_right _ _
theorem GN (p:UInt8→Bool):∀ l:U,(l.takeWhile p).length≤l.length
 | []=>Nat.le_refl _
 | c::r=>by
  rw [List.takeWhile_cons]
  split
  ·have:=GN p r
   simp only [List.length_cons]
   omega
  simp
theorem bZ {p:UInt8→Bool} {s:U} {k:Nat} (h:k≤s.length):ag p s k≤s.length:=by
 unfold ag;have:=GN p (s.drop k);rw [List.length_drop] at this;omega
def av (s:U) (k:Nat) (t:U):Bool:=t.isPrefixOf (s.drop k)
theorem yV {s t:U} {k:Nat}:av s k t=true↔(s.drop k).take t.length=t:=by
 rw [av,List.isPrefixOf_iff_prefix,List.prefix_iff_eq_take];exact eq_comm
theorem cg {s t:U} {k:Nat} (h:av s k t=true) (bQ:t≠[]):k+t.length≤s.length:=by
 have:=congrArg List.length (yV.1 h);rw [List.length_take,List.length_drop] at this;have:0<t.length:=List.length_pos_iff.2 bQ;omega
theorem fr {s:U} {k:Nat} {c:UInt8}:av s k [c]=true↔s[k]? = some c:=by
 rw [av];cases h:s[k]? with
 | none=>
  rw [List.drop_eq_nil_of_le (by simpa using h)];simp
 | some d=>
  rw [fq h];simp [List.isPrefixOf];exact eq_comm
theorem EY {s:U} {k:Nat} {c:UInt8}:av s k [c]=decide (s[k]? = some c):=by
 rw [Bool.eq_iff_iff,fr,decide_eq_true_eq]
def fH (w:U):Bool×Bool:=
 let a:=if av w 0 [45] then 1 else 0
 let e:=ag a' w a
 if e=a∨(a+1<e∧w[a]? = some 48)then (false,false)
 else
  let m:=av w e [46]
  let k:=ag a' w (e+1)
  if m=true∧k=e+1 then (false,false)
  else
   let aV:=if m then k else e
   if av w aV [101]||av w aV [69] then
    let bs:=if av w (aV+1) [43]||av w (aV+1) [45] then aV+2 else aV+1
    let iP:=ag a' w bs
    if iP=bs then (false,false)else (decide (iP=w.length),true)
   else (decide (aV=w.length),m)
noncomputable def sr (w:U):Option Int:=
 open Classical in if h:∃ n:Int,-9007199254740991≤n∧n≤9007199254740991∧Lib.itoa n=w then some h.choose else none
noncomputable def gQ (w:U):Except Int Int:=
 if (fH w).1=false then .error 4
 else match sr w with
  | none=>.error 7
  | some n=>.ok n
noncomputable def hA (s:U) (k:Nat):Except Int (JV×Nat):=
 (gQ ((s.drop k).take (ag dW s k-k))).bind fun n=>.ok (JV.fs n,ag dW s k)
def iX (c:UInt8):Option Nat:=
 if 48≤c.toNat∧c.toNat≤57 then some (c.toNat-48)
 else if 97≤c.toNat∧c.toNat≤102 then some (c.toNat-87)
 else if 65≤c.toNat∧c.toNat≤70 then some (c.toNat-55)
 else none
def dX:Nat→U→Nat→Option Nat
 | 0,_,n=>some n
 | _+1,[],_=>none
 | f+1,c::r,n=>match iX c with
  | none=>none
  | some d=>dX f r (16*n+d)
def pW (c:UInt8):Option Nat:=
 if c=34 then some 34 else if c=92 then some 92 else if c=47 then some 47 else if c=98 then some 8 else if c=102 then some 12 else if c=110 then some 10 else if c=114 then some 13 else if c=116 then some 9 else none
def lP (l:U):Option Nat:=
 match l with
 | 92::117::r=>dX 4 r 0
 | _=>none
def j7 (l:U):Nat×Nat:=
 match l with
 | _::c::_=>
  match pW c with
  | some d=>(d,2)
  | none=>
   match lP l with
   | none=>(0,0)
   | some n=>
    if 56320≤n∧n≤57343 then (0,0)
    else if n<55296∨57343<n then (n,6)
    else match lP (l.drop 6)with
     | none=>(0,0)
     | some m=>if m<56320∨57343<m then (0,0)else (65536+1024*(n-55296)+(m-56320),12)
 | _=>(0,0)
def e6:Nat→U→Nat→U→Option (U×Nat)
 | 0,_,_,_=>none
 | _+1,[],_,_=>none
 | f+1,c::r,i,out=>
  if c=34 then some (out,i+1)
  else
   let x:=if c=92 then j7 (c::r)else aC (c::r)
   if x.2=0∨(c≠92∧x.1<32)then none
   else e6 f ((c::r).drop x.2) (i+x.2) (out++hQ x.1)
def ew (s:U) (k:Nat):Option (U×Nat):=if s[k]? = some 34 then e6 (s.length-k) (s.drop (k+1)) (k+1) [] else none
abbrev yo:=Except Int (JV×Nat)
def ih (s:U) (k:Nat) (m:List (U×JV)):Except Int (U×Nat):=
 match ew s (ag aG s k)with
 | none=>.error 4
 | some (t,dr)=>
  if (look m t).isSome then .error 6
  else if av s (ag aG s dr) [58] then .ok (t,ag aG s dr+1)else .error 4
mutual
noncomputable def iY:Nat→U→Nat→Nat→Option yo
 | 0,_,_,_=>none
 | f+1,s,pj,deep=>
  let k:=ag aG s pj
  if av s k JV.kF then some (.ok (JV.fQ,k+4))
  else if av s k JV.jo then some (.ok (.mk 1 true 0 [] [] [],k+4))
  else if av s k JV.hD then some (.ok (.mk 1 false 0 [] [] [],k+5))
  else if av s k [34] then
   match ew s k with
   | none=>some (.error 4)
   | some (t,dr)=>some (.ok (JV.aY t,dr))
  else if av s k [91]||av s k [123] then
   if deep=32 then some (.error 5)
   else
    let dr:=ag aG s (k+1)
    if av s k [91] then
     if av s dr [93] then some (.ok (JV.fw [],dr+1))else oP f s dr (deep+1) []
    else
     if av s dr [125] then some (.ok (JV.obj [],dr+1))else oQ f s dr (deep+1) []
  else some (hA s k)
noncomputable def oP:Nat→U→Nat→Nat→List JV→Option yo
 | 0,_,_,_,_=>none
 | f+1,s,k,deep,acc=>
  match iY f s k deep with
  | none=>none
  | some (.error e)=>some (.error e)
  | some (.ok (x,dr))=>
   let iP:=ag aG s dr
   if av s iP [93] then some (.ok (JV.fw (acc ++ [x]),iP+1))
   else if av s iP [44] then oP f s (iP+1) deep (acc ++ [x])
   else some (.error 4)
noncomputable def oQ:Nat→U→Nat→Nat→List (U×JV)→Option yo
 | 0,_,_,_,_=>none
 | f+1,s,k,deep,m=>
  match ih s k m with
  | .error e=>some (.error e)
  | .ok (t,dr)=>
   match iY f s dr deep with
   | none=>none
   | some (.error e)=>some (.error e)
   | some (.ok (x,iP))=>
    let pV:=ag aG s iP
    if av s pV [125] then some (.ok (JV.obj (dJ m t x),pV+1))
    else if av s pV [44] then oQ f s (pV+1) deep (dJ m t x)
    else some (.error 4)
end
theorem LF {s:U} {k:Nat} {m:List (U×JV)} {t:U} {dr:Nat} (h:ih s k m = .ok (t,dr)):∃ iP,ew s (ag aG s k)=some (t,iP)∧(look m t).isSome=false∧av s (ag aG s iP) [58]=true∧dr=ag aG s iP+1:=by
 unfold ih at h
 split at h
 ·cases h
 rename_i t' iP aj
 split at h
 ·cases h
 rename_i aF
 split at h
 ·rename_i bn
  injection h with h
  injection h with ch eB
  subst ch;exact⟨iP,aj,by simpa using aF,bn,eB.symm⟩
 cases h
theorem uO:∀ (f:Nat) (l:U) (i:Nat) (out t:U) (k:Nat),e6 f l i out=some (t,k)→i<k∧k≤i+l.length
 | 0,_,_,_,_,_,h=>by simp [e6] at h
 | _+1,[],_,_,_,_,h=>by simp [e6] at h
 | f+1,c::r,i,out,t,k,h=>by
  rw [e6] at h
  split at h
  ·injection h with h
   injection h with _ h
   subst h
   simp
  dsimp only at h
  generalize (if c=92 then j7 (c::r)else aC (c::r))=x at h
  split at h
  ·cases h
  rename_i ab
  have dh:=uO f _ _ _ _ _ h
  rw [List.length_drop] at dh
  by_cases Qk:x.2≤(c::r).length
  ·omega
  rw [List.drop_eq_nil_of_le (by omega)] at h
  cases f <;> simp [e6] at h
theorem nr {s:U} {k:Nat} {t:U} {dr:Nat} (h:ew s k=some (t,dr)):k+1<dr∧dr≤s.length∧s[k]? = some 34:=by
 unfold ew at h
 split at h
 ·rename_i bD
  have hk:=(List.getElem?_eq_some_iff.1 bD).1;have:=uO _ _ _ _ _ _ h;rw [List.length_drop] at this;exact⟨this.1,by omega,bD⟩
 cases h
theorem ns {s:U} {k:Nat} {m:List (U×JV)} {t:U} {dr:Nat} (h:ih s k m = .ok (t,dr)):k<dr∧dr≤s.length:=by
 obtain⟨iP,h1,_,aF,rfl⟩:=LF h;obtain⟨bn,ch,_⟩:=nr h1;have:=cg aF (by simp);have:=bG aG s k;have:=bG aG s iP;simp only [List.length_singleton] at *;omega
theorem Ca:(fH []).1=false:=by rfl
theorem uP {s:U} {k:Nat} {v:JV} {dr:Nat} (h:hA s k = .ok (v,dr)) (hk:k≤s.length):k<dr∧dr≤s.length:=by
 unfold hA at h;cases h1:gQ ((s.drop k).take (ag dW s k-k))with
 | error e=>rw [h1] at h;cases h
 | ok n=>
  rw [h1] at h;injection h with h
  injection h with _ h
  subst h;refine⟨?_,bZ hk⟩;have:=bG dW s k;rcases Nat.lt_or_ge k (ag dW s k)with h | h
  ·exact h
  rw [show ag dW s k-k=0 by omega,List.take_zero] at h1;unfold gQ at h1;rw [if_pos Ca] at h1;cases h1
theorem yW (s:U):∀ f:Nat,(∀ k deep x dr,k≤s.length→iY f s k deep=some (.ok (x,dr))→k<dr∧dr≤s.length)∧
  (∀ k deep acc x dr,k≤s.length→oP f s k deep acc=some (.ok (x,dr))→k<dr∧dr≤s.length)∧
  (∀ k deep m x dr,k≤s.length→oQ f s k deep m=some (.ok (x,dr))→k<dr∧dr≤s.length)
 | 0=>⟨fun _ _ _ _ _ h=>by simp [iY] at h,fun _ _ _ _ _ _ h=>by simp [oP] at h,fun _ _ _ _ _ _ h=>by simp [oQ] at h⟩
 | f+1=>by
  obtain⟨rH,wy,wz⟩:=yW s f
  refine⟨fun pj deep x dr hk h=>?_,fun k deep acc x dr hk h=>?_,fun k deep m x dr hk h=>?_⟩
  ·rw [iY] at h
   have cN:=bG aG s pj
   generalize LG:ag aG s pj=k at h cN
   have UZ:k≤s.length:=by rw [← LG];exact bZ hk
   dsimp only at h
   split at h
   ·rename_i h1
    have:=cg h1 (by decide)
    injection h with h;injection h with h;injection h with _ h
    simp only [List.length_cons,List.length_nil] at this
    omega
   split at h
   ·rename_i h1
    have:=cg h1 (by decide)
    injection h with h;injection h with h;injection h with _ h
    simp only [List.length_cons,List.length_nil] at this
    omega
   split at h
   ·rename_i h1
    have:=cg h1 (by decide)
    injection h with h;injection h with h;injection h with _ h
    simp only [List.length_cons,List.length_nil] at this
    omega
   split at h
   ·split at h
    ·cases h
    rename_i aN
    injection h with h;injection h with h;injection h with _ h
    have:=nr aN
    omega
   split at h
   rotate_left
   ·injection h with h
    have:=uP h UZ
    omega
   rename_i aH
   have na:k+1≤s.length:=by
    rcases Bool.or_eq_true_iff.1 aH with aH | aH <;> exact cg aH (by decide)
   split at h
   ·cases h
   split at h
   ·split at h
    ·rename_i h1
     have:=cg h1 (by decide)
     have:=bG aG s (k+1)
     injection h with h;injection h with h;injection h with _ h
     simp only [List.length_cons,List.length_nil] at *
     omega
    have:=wy _ _ _ _ _ (bZ na) h
    have:=bG aG s (k+1)
    omega
   split at h
   ·rename_i h1
    have:=cg h1 (by decide)
    have:=bG aG s (k+1)
    injection h with h;injection h with h;injection h with _ h
    simp only [List.length_cons,List.length_nil] at *
    omega
   have:=wz _ _ _ _ _ (bZ na) h
   have:=bG aG s (k+1)
   omega
  ·rw [oP] at h
   split at h
   ·cases h
   ·cases h
   rename_i y iP h1
   obtain⟨aj,aF⟩:=rH _ _ _ _ hk h1
   have:=bG aG s iP
   dsimp only at h
   split at h
   ·rename_i bn
    have:=cg bn (by decide)
    injection h with h;injection h with h;injection h with _ h
    simp only [List.length_cons,List.length_nil] at *
    omega
   split at h
   ·rename_i bn
    have ch:=cg bn (by decide)
    have:=wy _ _ _ _ _ ch h
    simp only [List.length_cons,List.length_nil] at *
    omega
   cases h
  rw [oQ] at h
  split at h
  ·cases h
  rename_i t iP Cb
  obtain⟨ch,eB⟩:=ns Cb
  split at h
  ·cases h
  ·cases h
  rename_i y pV h1
  obtain⟨aj,aF⟩:=rH _ _ _ _ eB h1
  have:=bG aG s pV
  dsimp only at h
  split at h
  ·rename_i bn
   have:=cg bn (by decide)
   injection h with h;injection h with h;injection h with _ h
   simp only [List.length_cons,List.length_nil] at *
   omega
  split at h
  ·rename_i bn
   have ch:=cg bn (by decide)
   have:=wz _ _ _ _ _ ch h
   simp only [List.length_cons,List.length_nil] at *
   omega
  cases h
theorem yX (s:U):∀ f:Nat,(∀ k deep,k≤s.length→2*(s.length-k)+2≤f→iY f s k deep≠none)∧
  (∀ k deep acc,k≤s.length→2*(s.length-k)+3≤f→oP f s k deep acc≠none)∧
  (∀ k deep m,k≤s.length→2*(s.length-k)+3≤f→oQ f s k deep m≠none)
 | 0=>⟨fun _ _ _ h=>by omega,fun _ _ _ _ h=>by omega,fun _ _ _ _ h=>by omega⟩
 | f+1=>by
  obtain⟨rH,wy,wz⟩:=yX s f
  obtain⟨alu,_,_⟩:=yW s f
  refine⟨fun pj deep hk dm=>?_,fun k deep acc hk dm=>?_,fun k deep m hk dm=>?_⟩
  ·rw [iY]
   have cN:=bG aG s pj
   have UZ:ag aG s pj≤s.length:=bZ hk
   generalize ag aG s pj=k at cN UZ
   dsimp only
   split;· simp
   split;· simp
   split;· simp
   split;· split <;> simp
   split
   ·rename_i aH
    have na:k+1≤s.length:=by
     rcases Bool.or_eq_true_iff.1 aH with aH | aH <;> exact cg aH (by decide)
    have:=bG aG s (k+1)
    split;· simp
    split
    ·split;· simp
     exact wy _ _ _ (bZ na) (by omega)
    split;· simp
    exact wz _ _ _ (bZ na) (by omega)
   simp
  ·rw [oP]
   have oO:=rH k deep hk (by omega)
   split
   ·rename_i h;exact absurd h oO
   ·simp
   rename_i y iP h1
   obtain⟨aj,aF⟩:=alu _ _ _ _ hk h1
   have:=bG aG s iP
   dsimp only
   split;· simp
   split
   ·rename_i bn
    have ch:=cg bn (by decide)
    simp only [List.length_cons,List.length_nil] at ch
    exact wy _ _ _ ch (by omega)
   simp
  rw [oQ]
  split
  ·simp
  rename_i t iP Cb
  obtain⟨ch,eB⟩:=ns Cb
  have oO:=rH iP deep eB (by omega)
  split
  ·rename_i h;exact absurd h oO
  ·simp
  rename_i y pV h1
  obtain⟨aj,aF⟩:=alu _ _ _ _ eB h1
  have:=bG aG s pV
  dsimp only
  split;· simp
  split
  ·rename_i bn
   have ch:=cg bn (by decide)
   simp only [List.length_cons,List.length_nil] at ch
   exact wz _ _ _ ch (by omega)
  simp
def dB (acc:List (U×JV)):List (U×JV):=acc.foldl (fun m p=>dJ m p.1 p.2) []
theorem k9 (acc:List (U×JV)) (p:U×JV):dB (acc ++ [p])=dJ (dB acc) p.1 p.2:=by simp [dB,List.foldl_append]
inductive km where
 | L (l:List JV)
 | M (m:List (U×JV)) (key:U)
 | A (m:List (U×JV)) (key:U)
noncomputable def k' (s:U) (pj n:Nat):Except Int (Sum (JV×Nat) (km×Nat)):=
 let k:=ag aG s pj
 if av s k JV.kF then .ok (.inl (JV.fQ,k+4))
 else if av s k JV.jo then .ok (.inl (.mk 1 true 0 [] [] [],k+4))
 else if av s k JV.hD then .ok (.inl (.mk 1 false 0 [] [] [],k+5))
 else if av s k [34] then
  match ew s k with
  | none=>.error 4
  | some (t,dr)=>.ok (.inl (JV.aY t,dr))
 else if av s k [91]||av s k [123] then
  if n=32 then .error 5
  else
   let dr:=ag aG s (k+1)
   if av s k [91] then
    if av s dr [93] then .ok (.inl (JV.fw [],dr+1))else .ok (.inr (.L [],dr))
   else
    if av s dr [125] then .ok (.inl (JV.obj [],dr+1))
    else match ih s dr [] with
     | .error e=>.error e
     | .ok (t,iP)=>.ok (.inr (.M [] t,iP))
 else match hA s k with
  | .error e=>.error e
  | .ok x=>.ok (.inl x)
inductive gL (s:U):Option JV→Nat→List km→yo→Prop where
 | err {k:Nat} {st:List km} {e:Int}:k' s k st.length = .error e→gL s none k st (.error e)
 | whole {k dr:Nat} {st:List km} {v:JV} {r:yo}:k' s k st.length = .ok (.inl (v,dr))→gL s (some v) dr st r→gL s none k st r
 | push {k dr:Nat} {st:List km} {x:km} {r:yo}:k' s k st.length = .ok (.inr (x,dr))→gL s none dr (x::st) r→gL s none k st r
 | done {k:Nat} {v:JV}:gL s (some v) k [] (.ok (v,k))
 | GO {k:Nat} {v:JV} {acc:List JV} {st:List km} {r:yo}:av s (ag aG s k) [93]=true→gL s (some (JV.fw (acc ++ [v]))) (ag aG s k+1) st r→gL s (some v) k (.L acc::st) r
 | wA {k:Nat} {v:JV} {acc:List JV} {st:List km} {r:yo}:av s (ag aG s k) [93]=false→av s (ag aG s k) [44]=true→gL s none (ag aG s k+1) (.L (acc ++ [v])::st) r→gL s (some v) k (.L acc::st) r
 | GP {k:Nat} {v:JV} {acc:List JV} {st:List km}:av s (ag aG s k) [93]=false→av s (ag aG s k) [44]=false→gL s (some v) k (.L acc::st) (.error 4)
 | Cc {k:Nat} {v:JV} {acc:List (U×JV)} {t:U} {st:List km} {r:yo}:av s (ag aG s k) [125]=true→gL s (some (JV.obj (dB (acc ++ [(t,v)])))) (ag aG s k+1) st r→gL s (some v) k (.M acc t::st) r
 | tI {k jH:Nat} {v:JV} {acc:List (U×JV)} {t t':U} {st:List km} {r:yo}:av s (ag aG s k) [125]=false→av s (ag aG s k) [44]=true→ih s (ag aG s k+1) (dB (acc ++ [(t,v)])) = .ok (t',jH)→gL s none jH (.M (acc ++ [(t,v)]) t'::st) r→gL s (some v) k (.M acc t::st) r
 | Cd {k:Nat} {v:JV} {acc:List (U×JV)} {t:U} {st:List km} {e:Int}:av s (ag aG s k) [125]=false→av s (ag aG s k) [44]=true→ih s (ag aG s k+1) (dB (acc ++ [(t,v)])) = .error e→gL s (some v) k (.M acc t::st) (.error e)
 | Ce {k:Nat} {v:JV} {acc:List (U×JV)} {t:U} {st:List km}:av s (ag aG s k) [125]=false→av s (ag aG s k) [44]=false→gL s (some v) k (.M acc t::st) (.error 4)
def LH (s:U) (k:Nat) (ahe st:List km) (r:yo):Prop:=(∀ e,r = .error e→gL s none k st (.error e))∧∀ v dr,r = .ok (v,dr)→∀ apv,gL s (some v) dr ahe apv→gL s none k st apv
theorem abm (s:U):∀ f:Nat,(∀ k deep r,iY f s k deep=some r→∀ st,st.length=deep→LH s k st st r)∧
  (∀ k deep acc r,oP f s k deep acc=some r→∀ st,st.length+1=deep→LH s k st (.L acc::st) r)∧
  (∀ k deep acc r,oQ f s k deep (dB acc)=some r→∀ st,st.length+1=deep→(∀ e,ih s k (dB acc) = .error e→r = .error e)∧∀ t dr,ih s k (dB acc) = .ok (t,dr)→LH s dr st (.M acc t::st) r)
 | 0=>⟨fun _ _ _ h=>by simp [iY] at h,fun _ _ _ _ h=>by simp [oP] at h,fun _ _ _ _ h=>by simp [oQ] at h⟩
 | f+1=>by
  obtain⟨rH,wy,wz⟩:=abm s f
  refine⟨fun pj deep r h st hc=>?_,fun k deep acc r h st hc=>?_,fun k deep acc r h st hc=>?_⟩
  ·subst hc
   have dT:=Eq.refl (k' s pj st.length)
   conv at dT=>rhs;unfold k'
   rw [iY] at h
   generalize ag aG s pj=k at h dT
   dsimp only at h dT
   have lit:∀ v dr,k' s pj st.length = .ok (.inl (v,dr))→r = .ok (v,dr)→LH s pj st st r:=fun v dr aH bf=>
    ⟨fun e he=>(by rw [bf] at he;cases he),fun v' jH he apv kX=>by
     rw [bf] at he
     injection he with he
     injection he with h1 aj
     subst h1;subst aj
     exact .whole aH kX⟩
   have bad:∀ e,k' s pj st.length = .error e→r = .error e→LH s pj st st r:=fun e aH bf=>
    ⟨fun uM he=>by
     rw [bf] at he
     injection he with he
     subst he
     exact .err aH,fun v' jH he apv kX=>by rw [bf] at he;cases he⟩
   split at h
   ·rename_i c1
    rw [if_pos c1] at dT
    injection h with h
    exact lit _ _ dT h.symm
   rename_i c1
   rw [if_neg c1] at dT
   split at h
   ·rename_i c2
    rw [if_pos c2] at dT
    injection h with h
    exact lit _ _ dT h.symm
   rename_i c2
   rw [if_neg c2] at dT
   split at h
   ·rename_i c3
    rw [if_pos c3] at dT
    injection h with h
    exact lit _ _ dT h.symm
   rename_i c3
   rw [if_neg c3] at dT
   split at h
   ·rename_i c4
    rw [if_pos c4] at dT
    split at h
    ·rename_i aN
     rw [aN] at dT
     injection h with h
     exact bad _ dT h.symm
    rename_i t dr aN
    rw [aN] at dT
    injection h with h
    exact lit _ _ dT h.symm
   rename_i c4
   rw [if_neg c4] at dT
   split at h
   rotate_left
   ·rename_i c5
    rw [if_neg c5] at dT
    injection h with h
    cases bW:hA s k with
    | error e=>rw [bW] at dT h;exact bad _ dT h.symm
    | ok x=>obtain⟨v,dr⟩:=x;rw [bW] at dT h;exact lit _ _ dT h.symm
   rename_i c5
   rw [if_pos c5] at dT
   split at h
   ·rename_i ahf
    rw [if_pos ahf] at dT
    injection h with h
    exact bad _ dT h.symm
   rename_i ahf
   rw [if_neg ahf] at dT
   split at h
   ·rename_i ahg
    rw [if_pos ahg] at dT
    split at h
    ·rename_i U'
     rw [if_pos U'] at dT
     injection h with h
     exact lit _ _ dT h.symm
    rename_i U'
    rw [if_neg U'] at dT
    obtain⟨h1,aj⟩:=wy _ _ _ _ h st rfl
    exact⟨fun e he=>.push dT (h1 e he),fun v dr he apv kX=>.push dT (aj v dr he apv kX)⟩
   rename_i ahg
   rw [if_neg ahg] at dT
   split at h
   ·rename_i U'
    rw [if_pos U'] at dT
    injection h with h
    exact lit _ _ dT h.symm
   rename_i U'
   rw [if_neg U'] at dT
   obtain⟨bD,h1⟩:=wz _ _ [] _ h st rfl
   cases hk:ih s (ag aG s (k+1)) [] with
   | error e=>
    rw [hk] at dT
    exact bad _ dT (bD e hk)
   | ok p=>
    obtain⟨t,iP⟩:=p
    rw [hk] at dT
    obtain⟨aj,aF⟩:=h1 t iP hk
    exact⟨fun e he=>.push dT (aj e he),fun v dr he apv kX=>.push dT (aF v dr he apv kX)⟩
  ·rw [oP] at h
   split at h
   ·cases h
   ·rename_i e bw
    injection h with h
    subst h
    obtain⟨h1,_⟩:=rH _ _ _ bw (.L acc::st) (by simpa using hc)
    exact⟨fun uM he=>by injection he with he;subst he;exact h1 _ rfl,fun v dr he=>by cases he⟩
   rename_i y iP bw
   obtain⟨_,aj⟩:=rH _ _ _ bw (.L acc::st) (by simpa using hc)
   have aj:=aj y iP rfl
   dsimp only at h
   split at h
   ·rename_i c1
    injection h with h
    subst h
    exact⟨fun e he=>(by cases he),fun v dr he apv kX=>by
     injection he with he
     injection he with aV bs
     subst aV;subst bs
     exact aj apv (.GO c1 kX)⟩
   rename_i c1
   split at h
   ·rename_i c2
    obtain⟨aF,bn⟩:=wy _ _ _ _ h st hc
    exact⟨fun e he=>aj _ (.wA (by simpa using c1) c2 (aF e he)),fun v dr he apv kX=>aj _ (.wA (by simpa using c1) c2 (bn v dr he apv kX))⟩
   rename_i c2
   injection h with h
   subst h
   exact⟨fun e he=>by injection he with he;subst he;exact aj _ (.GP (by simpa using c1) (by simpa using c2)),fun v dr he=>by cases he⟩
  rw [oQ] at h
  refine⟨fun e he=>?_,fun t dr hk=>?_⟩
  ·rw [he] at h
   injection h with h
   exact h.symm
  rw [hk] at h
  dsimp only at h
  split at h
  ·cases h
  ·rename_i e bw
   injection h with h
   subst h
   obtain⟨h1,_⟩:=rH _ _ _ bw (.M acc t::st) (by simpa using hc)
   exact⟨fun uM he=>by injection he with he;subst he;exact h1 _ rfl,fun v dr he=>by cases he⟩
  rename_i y iP bw
  obtain⟨_,aj⟩:=rH _ _ _ bw (.M acc t::st) (by simpa using hc)
  have aj:=aj y iP rfl
  split at h
  ·rename_i c1
   injection h with h
   subst h
   exact⟨fun e he=>(by cases he),fun v dr he apv kX=>by
    injection he with he
    injection he with aV bs
    subst aV;subst bs
    refine aj apv (.Cc c1 ?_)
    rw [k9]
    exact kX⟩
  rename_i c1
  split at h
  ·rename_i c2
   have aN:dJ (dB acc) t y=dB (acc ++ [(t,y)]):=(k9 acc (t,y)).symm
   rw [aN] at h
   obtain⟨aF,bn⟩:=wz _ _ _ _ h st hc
   cases bP:ih s (ag aG s iP+1) (dB (acc ++ [(t,y)]))with
   | error e=>
    have:=aF e bP
    subst this
    exact⟨fun uM he=>by injection he with he;subst he;exact aj _ (.Cd (by simpa using c1) c2 bP),fun v dr he=>by cases he⟩
   | ok p=>
    obtain⟨t',jH⟩:=p
    obtain⟨ch,eB⟩:=bn t' jH bP
    exact⟨fun e he=>aj _ (.tI (by simpa using c1) c2 bP (ch e he)),fun v dr he apv kX=>aj _ (.tI (by simpa using c1) c2 bP (eB v dr he apv kX))⟩
  rename_i c2
  injection h with h
  subst h
  exact⟨fun e he=>by injection he with he;subst he;exact aj _ (.Ce (by simpa using c1) (by simpa using c2)),fun v dr he=>by cases he⟩
noncomputable def EZ (s:U):yo:=(iY (2*s.length+2) s 0 0).getD (.error 0)
theorem GQ (s:U):iY (2*s.length+2) s 0 0=some (EZ s):=by
 unfold EZ;have:=(yX s (2*s.length+2)).1 0 0 (by omega) (by omega);cases h:iY (2*s.length+2) s 0 0 with
 | none=>exact absurd h this
 | some r=>rfl
theorem LI (s:U):gL s none 0 [] (EZ s):=by
 obtain⟨h1,aj⟩:=(abm s _).1 _ _ _ (GQ s) [] rfl;cases h:EZ s with
 | error e=>exact h1 e h
 | ok p=>exact aj p.1 p.2 (by rw [h]) _ .done
noncomputable def parse (s:U):Except Int JV:=
 if 65536<s.length then .error 3
 else match EZ s with
  | .error e=>.error e
  | .ok (v,k)=>if ag aG s k<s.length then .error 4 else .ok v
section
variable {P:Program} {ops:Array Oper} {md:Region.Mode} {apv:World→World→Prop} {C:World→Prop} {n:Nat} {ds:List Deferred} {Q:Exit→Act→World→Prop} {w w':World} {l:List (Nat×Value)} {a:Act}
def xA (P:Program) (ops:Array Oper) (n:Nat) (ds:List Deferred) (Q:Exit→Act→World→Prop) (pH:List Nat) (x y:Nat):Exit→Act→World→Prop
 | .normal,a,w=>∃ l,Has n ds l a∧Rc P n (fun l=>fC P ops Q (pick ops [x,y]) n ds l w∧fC P ops Q (pick ops [y,x]) n ds l w) (pick ops pH) l
 | e,a,w=>Q e a w
theorem MJ {pH:List Nat} {x y:Nat} (h:Rc P n (fun l=>fC P ops Q (pick ops [x,y]) n ds l w∧fC P ops Q (pick ops [y,x]) n ds l w) (pick ops pH) l):fC P ops (xA P ops n ds Q pH x y) [] n ds l w:=fun a ax=>⟨l,ax,h⟩
theorem Jy {pH:List Nat} {x y i:Nat} {K:Act→World→Prop} (h:∀ a w,xA P ops n ds Q pH x y .normal a w→K a w) (jE:wpOp P ops (xA P ops n ds Q pH x y) i (xA P ops n ds Q pH x y .normal) a w):wpOp P ops Q i K a w:=by
 have TI:LetsOut (xA P ops n ds Q pH x y)→LetsOut Q:=fun⟨a,w,h⟩=>⟨a,w,h⟩;unfold wpOp at *
 split
 ·exact h _ _ (by simpa [*] using jE)
 rename_i o dV
 simp only [dV] at jE
 split
 rotate_left
 ·rename_i hw
  simp only [hw,if_false] at jE;exact h _ _ jE
 rename_i hw
 simp only [hw,if_true] at jE;refine jE.imp (fun h1=>?_) (fun h1=>⟨h1.1,TI h1.2⟩);unfold Oper.wp at *;generalize (execOp a.eval o).run P w=r at *;cases r with
 | ok n w'=>
  cases n with
  | value v=>exact h _ _ h1
  | skip=>exact h _ _ h1
  | defer d=>exact h _ _ h1
  | enter f args=>
   refine Calls.mono h1 fun e cY he=>?_;cases e with
   | returned v=>exact h _ _ he
   | panicked c=>exact he
   | outgrown=>exact TI he
  | row anL args=>exact Rows.mono h1 fun v cY bw=>h _ _ bw
  | _=>exact h1
 | halt s w'=>
  cases s with
  | panic v=>exact h1
  | _=>exact h1
def C4 (ops:Array Oper) (t0:Nat) (pH:List Nat) (x y:Nat) (listed:Array Bool):Bool:=
 decide (Region.ready .any ops listed = [t0])&&uh .any ops pH (listed.setIfInBounds t0 true) &&
 decide (Region.ready .any ops (kc (listed.setIfInBounds t0 true) pH) = [x,y]) &&
 ox .any ops [y] ((kc (listed.setIfInBounds t0 true) pH).setIfInBounds x true)&&ox .any ops [x] ((kc (listed.setIfInBounds t0 true) pH).setIfInBounds y true)
theorem nN {i:Nat} {o:Oper} {rest:List Oper} (dV:ops[i]? = some o) (h:wpList P ops Q (o::rest) a w):wpOp P ops Q i (wpList P ops Q rest) a w:=by
 unfold wpOp;simp only [dV];exact h
theorem F5 {x y:Nat} {KB:Array Bool} (h1:Region.ready .any ops KB = [x,y]) (aj:ox .any ops [y] (KB.setIfInBounds x true)=true) (aF:ox .any ops [x] (KB.setIfInBounds y true)=true)
  (ab:wpList P ops Q (pick ops [x,y]) a w) (aR:wpList P ops Q (pick ops [y,x]) a w):wpAny P .any ops Q 2 KB a w:=by
 have aiz:x∈Region.ready .any ops KB:=by rw [h1];simp
 have aiA:y∈Region.ready .any ops KB:=by rw [h1];simp
 obtain⟨_,anM,adi,_⟩:=mem_ready.1 aiz
 obtain⟨_,anN,adj,_⟩:=mem_ready.1 aiA
 refine⟨fun h=>(by rw [h1] at h;cases h),fun i hi=>?_⟩
 rw [h1] at hi
 rcases List.mem_cons.1 hi with rfl | hi
 ·have bJ:pick ops [i,y]=anM::pick ops [y]:=by simp [pick,List.filterMap_cons,adi]
  rw [bJ] at ab
  exact wpOp_mono (fun a w h=>kd [y] _ a w aj h) (nN adi ab)
 obtain rfl:i=y:=by simpa using hi
 have bJ:pick ops [i,x]=anN::pick ops [x]:=by simp [pick,List.filterMap_cons,adj]
 rw [bJ] at aR
 exact wpOp_mono (fun a w h=>kd [x] _ a w aF h) (nN adj aR)
theorem xB (zw:∀ c a w,¬ Q (.panic c) a w) (q7:∀ (j:Nat) (o:Oper) cs b,ops[j]? = some o→o.op≠.select cs b) {t0 x y:Nat} {pH:List Nat} {listed:Array Bool} (dT:C4 ops t0 pH x y listed=true)
  (h:wpList P ops (xA P ops n ds Q pH x y) (pick ops [t0]) a w):wpAny P .any ops Q (pH.length+2+1) listed a w:=by
 unfold C4 at dT
 simp only [Bool.and_eq_true,decide_eq_true_eq] at dT
 obtain⟨⟨⟨⟨ev,eW⟩,tz⟩,Xq⟩,aiB⟩:=dT
 have bf:t0∈Region.ready .any ops listed:=by rw [ev];simp
 obtain⟨_,o,dV,_⟩:=mem_ready.1 bf
 have bJ:pick ops [t0] = [o]:=by simp [pick,dV]
 rw [bJ] at h
 refine⟨fun h=>(by rw [ev] at h;cases h),fun i hi=>?_⟩
 rw [ev] at hi
 obtain rfl:i=t0:=by simpa using hi
 refine Jy (fun yc w' he=>?_) (nN dV h)
 obtain⟨l',ue,Rf⟩:=he
 exact ny (n:=n) (ds:=ds) zw q7 pH _ l' yc ue eW Rf fun KB a2 C2 hk=>F5 tz Xq aiB (hk.1 a2 C2) (hk.2 a2 C2)
def xC (md:Region.Mode) (ops:Array Oper) (B:Array Bool→Bool):List Nat→Array Bool→Bool
 | [],listed=>B listed
 | i::aN,listed=>(Region.ready md ops listed).contains i&&Region.free md ops listed i&&xC md ops B aN (listed.setIfInBounds i true)
theorem xD {B:Array Bool→Bool} {sq fV:List Nat} {Fin:iE→Prop} (aH:∀ listed,B listed=true→∀ j∈Region.ready md ops listed,j∈fV) (hw:∀ listed,oy md ops sq fV listed→(∃ i∈sq,listed.getD i true=false)→∀ t∈fV,t∉Region.ready md ops listed) :
  ∀ (aN:List Nat) (listed:Array Bool) (N:iE),(∀ i∈aN,i∈sq)→(∀ i∈aN,i∉fV)→oy md ops sq fV listed→
  xC md ops B aN listed=true→TW P ops apv C n Fin (pick ops aN) N→
  zu P md ops apv C n fV (fun lj Tw=>B lj=true∧Fin Tw) aN.length listed N
 | [],listed,N,_,_,_,dT,h=>⟨by simpa [xC] using dT,h⟩
 | i::aN,listed,N,ik,FW,inv,dT,h=>by
  simp only [xC,Bool.and_eq_true] at dT
  obtain⟨⟨bf,dm⟩,A0⟩:=dT
  have nJ:i∈Region.ready md ops listed:=by simpa using bf
  obtain⟨jw,o,dV,_⟩:=mem_ready.1 nJ
  have bJ:pick ops (i::aN)=o::pick ops aN:=by simp [pick,List.filterMap_cons,dV]
  rw [bJ] at h
  obtain⟨V,pz,f'⟩:=h
  exact u3 dV (FW i (by simp)) (fun listed inv hu=>hw listed inv ⟨i,ik i (by simp),hu⟩) (fun lj Tw nn=>aH _ nn.1) aN.length listed N inv (Region.free_spec dV dm) nJ pz
   (xD aH hw aN _ _ (fun i hi=>ik i (by simp [hi])) (fun i hi=>FW i (by simp [hi])) (inv.set nJ (FW i (by simp))) A0 f')
def Nw (ops:Array Oper) (hI aN:List Nat) (t0:Nat) (pH:List Nat) (x y:Nat):Bool:=
 Region.noSelect ops&&decide (hI.length+(aN.length+(pH.length+2+1))=ops.size)&&uh .any ops hI (Array.replicate ops.size false) &&
 C0 .any ops (kc (Array.replicate ops.size false) hI)&&(t0::(pH ++ [x,y])).all (fun t=>!(kc (Array.replicate ops.size false) hI).getD t true) &&
 aN.all (fun i=>!(t0::(pH ++ [x,y])).contains i)&&xr .any ops t0 aN&&(pH ++ [x,y]).all (fun t=>Region.waitsFor .any ops t t0)&&xC .any ops (C4 ops t0 pH x y) aN (kc (Array.replicate ops.size false) hI)
theorem CB {id:Nat} {lo:List Oper} (hI aN:List Nat) (t0:Nat) (pH:List Nat) (x y:Nat) (hm:P.follows .mixedOrders=true) (dT:Nw lo.toArray hI aN t0 pH x y=true) (zw:∀ c a w,¬ Q (.panic c) a w)
  (h:Rc P n (fun l=>gh P lo.toArray w n (fun N=>∀ a w',a.defers=ds→Mod [] w w'→N.all n a w'→wpList P lo.toArray (xA P lo.toArray n ds Q pH x y) (pick lo.toArray [t0]) a w') (pick lo.toArray aN) l []) (pick lo.toArray hI) l):nV P (.region id lo.toArray true) Q n ds l w:=by
 intro a ax
 unfold Nw at dT
 simp only [Bool.and_eq_true,decide_eq_true_eq] at dT
 obtain⟨⟨⟨⟨⟨⟨⟨⟨q7,hlen⟩,bJ⟩,lF⟩,A2⟩,Xe⟩,FX⟩,Xf⟩,Xg⟩:=dT
 refine wp_region_any hm ?_
 rw [← hlen]
 have ha:(kc (Array.replicate lo.toArray.size false) hI).size=lo.toArray.size:=by rw [r1];simp
 have Nq:∀ t∈t0::(pH ++ [x,y]),(kc (Array.replicate lo.toArray.size false) hI).getD t true=false:=fun t bQ=>by
  have:=List.all_eq_true.1 A2 t bQ
  simpa using this
 have CX:oy .any lo.toArray aN (t0::(pH ++ [x,y])) (kc (Array.replicate lo.toArray.size false) hI):=by
  refine⟨ha,fun j qL dG bM e he aH=>?_,Nq⟩
  have h1:=List.all_eq_true.1 lF j (List.mem_range.2 (Array.getElem?_eq_some_iff.1 dG).1)
  rw [bM,dG] at h1
  simp only [Bool.not_true,Bool.false_or,Array.all_eq_true_iff_forall_mem] at h1
  have aj:=h1 e he
  rw [aH] at aj
  simpa using aj
 have hw:∀ listed,oy .any lo.toArray aN (t0::(pH ++ [x,y])) listed→(∃ i∈aN,listed.getD i true=false)→∀ t∈t0::(pH ++ [x,y]),t∉Region.ready .any lo.toArray listed:=by
  rintro listed inv ⟨i,hi,jw⟩ t bQ
  rcases List.mem_cons.1 bQ with rfl | AK
  ·exact nx inv.size inv.closed aN FX i hi jw
  intro bf
  obtain⟨_,ac7,Nn,jK⟩:=mem_ready.1 bf
  obtain⟨sV,Ng,e,he,aH,Jt⟩:=Region.waitsFor_spec (List.all_eq_true.1 Xf t AK)
  have:sV=ac7:=Option.some.inj (Ng.symm.trans Nn)
  subst this
  have aj:=jK e he aH
  rw [Jt,getD_both (inv.tail t0 (by simp))] at aj
  cases aj
 have FY:(Array.replicate (hI.length+(aN.length+(pH.length+2+1))) false)=Array.replicate lo.toArray.size false:=by rw [hlen]
 rw [FY]
 refine ny (n:=n) (ds:=ds) zw (Region.noSelect_spec q7) hI _ l a ax bJ h fun l a ax jY=>?_
 have Wz:∀ listed,C4 lo.toArray t0 pH x y listed=true→∀ j∈Region.ready .any lo.toArray listed,j∈t0::(pH ++ [x,y]):=fun listed aH j dG=>by
  unfold C4 at aH
  simp only [Bool.and_eq_true,decide_eq_true_eq] at aH
  rw [aH.1.1.1.1] at dG
  simp only [List.mem_singleton] at dG
  rw [dG]
  simp
 have H:=xD (md:=.any) Wz hw aN _ (qM l []) (fun i hi=>hi) (fun i hi=>by
  have:=List.all_eq_true.1 Xe i hi
  simpa using this) CX Xg jY
 exact qa (n:=n) (ds:=ds) (w0:=w) (Q:=Q) (g:=pH.length+2+1) (later w) (fun listed N a w' _ bL h0 _ hj nn=>xB (n:=n) (ds:=ds) zw (Region.noSelect_spec q7) nn.1 (nn.2 a w' bL h0 hj)) _ _ (qM l []) a _ (qN l) ax.defers (Mod.drew [] w) (Mod.drew [] w) (vG ax) H
end
def s5 (es:Array MapEntry):List (Value×Value):=es.toList.map fun e=>(e.key,e.val)
def rows (m:List (U×Value)):List (Value×Value):=m.map fun p=>(S p.1,p.2)
structure ij (w:World) (b:Nat) (m:List (U×Value)):Prop where
 at_:∃ es clock,w.heap[b]? = some (.map es clock)∧s5 es=rows m∧(∀ e∈es.toList,e.born<clock)∧(es.toList.map (·.born)).Nodup
 keys:(m.map (·.1)).Nodup
variable {P:Program} {w w':World} {b:Nat} {m:List (U×Value)} {k:U} {M:List Nat}
theorem ij.lt (h:ij w b m):b<w.heap.size:=by
 obtain⟨es,c,h1,_⟩:=h.at_;exact(Array.getElem?_eq_some_iff.1 h1).1
theorem ij.mod (h:ij w b m) (k:Mod M w w') (aH:b∉M):ij w' b m:=by
 have bk:=h.lt;obtain⟨es,c,h1,aj⟩:=h.at_;exact⟨⟨es,c,(k.block b bk aH).trans h1,aj⟩,h.keys⟩
theorem ij.I (h:ij w b m) (k:Mod [] w w'):ij w' b m:=h.mod k (by simp)
theorem Hm (k l:U):((⟨⟨k⟩⟩:ByteArray) == ⟨⟨l⟩⟩)=decide (k=l):=by
 by_cases h:k=l
 ·subst h;rw [decide_eq_true rfl];exact(MapKept.bytes_beq _ _).2 rfl
 rw [decide_eq_false h];cases aH:((⟨⟨k⟩⟩:ByteArray) == ⟨⟨l⟩⟩)with
 | false=>rfl
 | true=>
  have:=(MapKept.bytes_beq _ _).1 aH;injection this with this
  injection this with this
  exact absurd this h
theorem xu (k l:U):Instr.sameNow .string (S k) (S l)=some (decide (k=l)):=by
 unfold S;simp only [Instr.sameNow,Hm]
theorem yA {l:List MapEntry} {m:List (U×Value)} (h:l.map (fun e=>(e.key,e.val))=rows m) (k:U) (i:Nat) :
  ∃ j,Instr.findNow .string (S k) l i=some ((look m k).map fun v=>(j,v))∧(∀ v,look m k=some v→i≤j∧∃ p,m[j-i]? = some p∧p.1=k∧p.2=v∧∀ q,q<j-i→∀ Ji,m[q]? = some Ji→Ji.1≠k):=by
 induction l generalizing m i with
 | nil=>
  cases m with
  | nil=>exact⟨0,rfl,fun v bw=>by simp [look] at bw⟩
  | cons p r=>simp [rows] at h
 | cons e r dh=>
  cases m with
  | nil=>simp [rows] at h
  | cons p s=>
   simp only [rows,List.map_cons,List.cons.injEq,Prod.mk.injEq] at h
   obtain⟨⟨h1,aj⟩,aF⟩:=h
   rw [Instr.findNow,h1]
   by_cases bJ:p.1=k
   ·refine⟨i,?_,fun v bw=>?_⟩
    ·have:Instr.sameNow .string (S k) (S p.1)=some true:=by rw [xu,decide_eq_true bJ.symm]
     rw [this]
     simp only [look,if_pos bJ,Option.map_some]
     rw [aj]
    simp only [look,if_pos bJ,Option.some.injEq] at bw
    exact⟨Nat.le_refl _,p,by simp,bJ,bw,fun q eE=>by omega⟩
   have:Instr.sameNow .string (S k) (S p.1)=some false:=by rw [xu,decide_eq_false (fun e=>bJ e.symm)]
   rw [this]
   obtain⟨j,bn,ch⟩:=dh (m:=s) (by simpa [rows] using aF) (i+1)
   refine⟨j,?_,fun v bw=>?_⟩
   ·simp only [bn,look,if_neg bJ]
   simp only [look,if_neg bJ] at bw
   obtain⟨eB,Ji,kv,j0,lQ,mw⟩:=ch v bw
   refine⟨by omega,Ji,?_,j0,lQ,fun q eE Ef Xo=>?_⟩
   ·rw [show j-i=(j-(i+1))+1 by omega]
    simpa using kv
   cases q with
   | zero=>simp at Xo;subst Xo;exact bJ
   | succ q=>exact mw q (by omega) Ef (by simpa using Xo)
section
variable {ops:Array Oper} {Q:Exit→Act→World→Prop} {n:Nat} {ds:List Deferred} {l:List (Nat×Value)} {rest:List Oper} {d:Nat} {ty:TypeId} {pos:String} {af:Array Edge} {dd:Option Nat} {gg:Option (Nat×Bool)} {x y:Operand} {t Nt TH:TypeId} {z v:Value}
def ade (w:World) (u:Value) (m:List (U×Value)):Prop:=(u = .map none∧m = [])∨∃ b,u = .map (some b)∧ij w b m
theorem mL (hk:P.underlying Nt=some .string) (e:Bool) (k:U):(Instr.checkKey e 10000 Nt (S k)).run P w = .ok () w:=by
 unfold Instr.checkKey;simp [underlying,hk,S]
theorem run_findKey (hk:P.underlying Nt=some .string) {l:List MapEntry} {m:List (U×Value)} (h:l.map (fun e=>(e.key,e.val))=rows m) (k:U) :
  ∃ j,(Instr.findKey Nt (S k) l).run P w = .ok ((look m k).map fun v=>(j,v)) w∧(∀ v,look m k=some v→∃ p,m[j]? = some p∧p.1=k∧p.2=v∧∀ q,q<j→∀ Ji,m[q]? = some Ji→Ji.1≠k):=by
 obtain⟨j,h1,aj⟩:=yA h k 0
 refine⟨j,?_,fun v bw=>?_⟩
 ·unfold Instr.findKey
  simp [underlying,hk,h1]
 obtain⟨_,p,aF,bn,ch,eB⟩:=aj v bw
 exact⟨p,aF,bn,ch,eB⟩
theorem zy (cO:(P.info? TH).bind (·.zero)=some z) (w:World):(zeroValue TH).run P w = .ok z w:=by
 obtain⟨i,aj,aF⟩:=Option.bind_eq_some_iff.1 cO;simp [zeroValue,typeInfo,aj,aF]
theorem aco (bQ:P.underlying t=some (.map Nt TH)) (hk:P.underlying Nt=some .string) (Nr:(P.info? TH).bind (·.zero)=some z) (ab:aT l x=some v) (hm:ade w v m) (aR:aT l y=some (S k)) :
  bo P l ⟨dd,.lookup t x y false,ty,pos,af,gg⟩ w ((look m k).getD z) w:=fun ρ h=>by
 have cO:=zy Nr
 rcases hm with⟨rfl,rfl⟩ | ⟨b,rfl,hm⟩
 ·simp [execOp,h _ _ ab,h _ _ aR,Instr.lookup,underlying,bQ,mL hk,Instr.findKey,hk,Instr.findNow,cO,look]
 obtain⟨es,c,h1,aj,_⟩:=hm.at_
 obtain⟨j,aF,bn⟩:=run_findKey (P:=P) (w:=w) hk aj k
 cases bM:look m k with
 | none=>simp [execOp,h _ _ ab,h _ _ aR,Instr.lookup,underlying,bQ,getObj,Sem.run,Result.andThen,h1,mL hk,aF,bM,cO]
 | some u=>simp [execOp,h _ _ ab,h _ _ aR,Instr.lookup,underlying,bQ,getObj,Sem.run,Result.andThen,h1,mL hk,aF,bM]
def sx {β:Type} (m:List (U×β)) (k:U) (v:β):List (U×β):=if (look m k).isSome then m.map (fun p=>if p.1=k then (p.1,v)else p)else m ++ [(k,v)]
theorem xv {β:Type} {m:List (U×β)} {k:U} {v:β} (h:(m.map (·.1)).Nodup):((sx m k v).map (·.1)).Nodup:=by
 unfold sx
 split
 ·have:(m.map fun p=>if p.1=k then (p.1,v)else p).map (·.1)=m.map (·.1):=by
   rw [List.map_map];apply List.map_congr_left;intro p _;simp only [Function.comp]
   split <;> rfl
  rw [this];exact h
 rename_i bW
 rw [List.map_append,List.nodup_append];refine⟨h,by simp,fun a ax b aH=>?_⟩;simp only [List.map_cons,List.map_nil,List.mem_singleton] at aH;subst aH;intro e;subst e;obtain⟨p,bJ,aiv⟩:=List.mem_map.1 ax;have bM:look m a=none:=by simpa using bW
 exact oY bM p bJ aiv
end
end Go.Proofs.YtnihidkbkhcfoaaGreatDoor.V
namespace Go.Proofs.YtnihidkbkhcfoaaGreatDoor.V
open Go
open Go.ChangeMaps (setBlock)
section
variable {P:Program} {w w':World} {b:Nat} {m:List (U×Value)} {k:U} {M:List Nat}
variable {ops:Array Oper} {Q:Exit→Act→World→Prop} {n:Nat} {ds:List Deferred} {l:List (Nat×Value)} {rest:List Oper} {d:Nat} {ty:TypeId} {pos:String} {af:Array Edge} {dd:Option Nat} {gg:Option (Nat×Bool)} {x y z:Operand} {t Nt TH:TypeId} {v:Value}
theorem ij.nil (w:World):ij (w.alloc (.map #[] 0)) w.heap.size []:=
 ⟨⟨#[],0,heap_alloc_new w _,rfl,by simp,by simp⟩,by simp⟩
theorem QO (bL:Nat.blt d n=true) (h:∀ b w',ij w' b []→b=w.heap.size→Mod [] w w'→fC P ops Q rest n ds ((d,.map (some b))::l) w'):fC P ops Q (⟨some d,.makeMap t none,ty,pos,af,none⟩::rest) n ds l w:=
 e9 (v:=.map (some w.heap.size)) (w':=w.alloc (.map #[] 0)) (fun ρ e2=>by simp [execOp,Instr.makeMap,newObj,Sem.run,Result.andThen]) bL (h _ _ (ij.nil w) rfl (Mod.alloc w _))
theorem s6 {o sV:Obj} {g:Nat} (cN:w.heap[g]? = some o):(setBlock w g sV).heap[g]? = some sV:=by
 have bk:=(Array.getElem?_eq_some_iff.1 cN).1;simp [setBlock,Array.getElem?_setIfInBounds,bk]
theorem ra {o sV:Obj} {g:Nat} (cN:w.heap[g]? = some o):Mod [g] w (setBlock w g sV):=by
 refine⟨rfl,rfl,rfl,by simp [setBlock],fun i hi bW=>?_⟩;have:i≠g:=fun e=>bW (by simp [e]);simp [setBlock,Array.getElem?_setIfInBounds,Ne.symm this]
theorem run_set {sV:Obj} {g:Nat} {es:Array MapEntry} {c:Nat} (cN:w.heap[g]? = some (.map es c)):(setObj g sV).run P w = .ok () (setBlock w g sV):=by
 simp [setObj,Sem.run,cN,setBlock]
theorem F3 {es:Array MapEntry} {e:MapEntry}:s5 (es.push e)=s5 es ++ [(e.key,e.val)]:=by simp [s5]
theorem A6 {es:Array MapEntry} {j:Nat} {p:U×Value} (h:s5 es=rows m) (hk:(m.map (·.1)).Nodup) (dG:m[j]? = some p) (bJ:p.1=k):s5 (es.modify j fun e=>{e with key:=S k,val:=v})=rows (m.map fun q=>if q.1=k then (q.1,v)else q):=by
 unfold s5 rows at h ⊢;apply List.ext_getElem?;intro i;have hi:=congrArg (fun z=>z[i]?) h;simp only [List.getElem?_map] at hi;simp only [List.getElem?_map,Array.getElem?_toList,Array.getElem?_modify] at hi ⊢
 by_cases u9:j=i
 ·subst u9;rw [if_pos rfl];rw [dG] at hi ⊢;cases he:es[j]? with
  | none=>rw [he] at hi;simp at hi
  | some e=>simp [bJ]
 rw [if_neg u9];cases eE:m[i]? with
 | none=>rw [eE] at hi;simp at hi ⊢;exact hi
 | some q=>
  rw [eE] at hi;have bS:¬ q.1=k:=fun e=>by
   have h1:=(List.getElem?_eq_some_iff.1 dG);have aj:=(List.getElem?_eq_some_iff.1 eE);obtain⟨adf,MF⟩:=h1;obtain⟨adg,adh⟩:=aj;have Rf:=List.pairwise_iff_getElem.1 hk;rcases Nat.lt_or_gt_of_ne u9 with bk | bk
   ·exact Rf j i (by simpa using adf) (by simpa using adg) bk (by simp [MF,adh,bJ,e])
   exact Rf i j (by simpa using adg) (by simpa using adf) bk (by simp [MF,adh,bJ,e])
  rw [hi];simp [bS]
theorem s7 {es:Array MapEntry} {j:Nat} {f:MapEntry→MapEntry} (dm:∀ e,(f e).born=e.born):(es.modify j f).toList.map (·.born)=es.toList.map (·.born):=by
 apply List.ext_getElem?;intro i;simp only [List.getElem?_map,Array.getElem?_toList,Array.getElem?_modify]
 split
 ·cases es[i]? <;> simp [dm]
 rfl
theorem QF (bQ:P.underlying t=some (.map Nt TH)) (hk:P.underlying Nt=some .string) (ab:aT l x=some (.map (some b))) (hm:ij w b m) (aR:aT l y=some (S k)) (cO:aT l z=some v)
  (h:∀ w',ij w' b (sx m k v)→Mod [b] w w'→fC P ops Q rest n ds l w'):fC P ops Q (⟨none,.mapUpdate t x y z,ty,pos,af,none⟩::rest) n ds l w:=by
 obtain⟨es,c,h1,aj,aF,bn⟩:=hm.at_
 obtain⟨j,ch,eB⟩:=run_findKey (P:=P) (w:=w) hk aj k
 cases bM:look m k with
 | none=>
  rw [bM] at ch
  have dT:ij (setBlock w b (.map (es.push {key:=S k,val:=v,born:=c}) (c+1))) b (sx m k v):=by
   refine⟨⟨_,_,s6 h1,?_,fun e he=>?_,?_⟩,xv hm.keys⟩
   ·rw [F3,aj]
    unfold sx
    rw [bM]
    simp [rows]
   ·simp only [Array.toList_push,List.mem_append,List.mem_singleton] at he
    rcases he with he | rfl
    ·have:=aF e he;omega
    exact Nat.lt_succ_self _
   simp only [Array.toList_push,List.map_append,List.map_cons,List.map_nil,List.nodup_append]
   refine⟨bn,by simp,fun a ax q eE=>?_⟩
   simp only [List.mem_singleton] at eE
   subst eE
   obtain⟨e,he,rfl⟩:=List.mem_map.1 ax
   have:=aF e he
   omega
  intro a ax
  refine wpList_plain rfl fun K lT=>?_
  have bf:(execOp a.eval ⟨none,.mapUpdate t x y z,ty,pos,af,none⟩).run P w = .ok .skip (setBlock w b (.map (es.push {key:=S k,val:=v,born:=c}) (c+1))):=by
   simp [execOp,ax.nU ab,ax.nU aR,ax.nU cO,Instr.mapUpdate,underlying,bQ,getObj,Sem.run,Result.andThen,h1,mL hk,ch,run_set h1]
  simp only [Oper.wp,bf,Oper.upon]
  exact lT _ _ (h _ dT (ra h1) _ (by simpa [Act.put] using ax))
 | some u=>
  rw [bM] at ch
  obtain⟨p,kv,j0,lQ,mw⟩:=eB u bM
  have dT:ij (setBlock w b (.map (es.modify j fun e=>{e with key:=S k,val:=v}) c)) b (sx m k v):=by
   refine⟨⟨_,_,s6 h1,?_,fun e he=>?_,?_⟩,xv hm.keys⟩
   ·rw [A6 aj hm.keys kv j0]
    unfold sx
    rw [bM]
    rfl
   ·have aH:=s7 (es:=es) (j:=j) (f:=fun e=>{e with key:=S k,val:=v}) (fun _=>rfl)
    have:e.born∈es.toList.map (·.born):=by rw [← aH];exact List.mem_map_of_mem he
    obtain⟨uM,aiw,ahS⟩:=List.mem_map.1 this
    have:=aF uM aiw
    omega
   rw [s7 (f:=fun e=>{e with key:=S k,val:=v}) (fun _=>rfl)]
   exact bn
  have Cb:((es[j]?).map (·.key)).getD (S k)=S k:=by
   have hi:=congrArg (fun z=>z[j]?) aj
   simp only [s5,rows,List.getElem?_map,kv,Array.getElem?_toList] at hi
   cases he:es[j]? with
   | none=>rfl
   | some e=>
    rw [he] at hi
    simp only [Option.map_some,Option.some.injEq,Prod.mk.injEq] at hi
    simp [hi.1,j0]
  have Xp:(Instr.keyThatStays (S k) (S k)).run P w = .ok (S k) w:=by
   have:Instr.sameBits 10000 (S k) (S k)=true:=by
    unfold S
    simp only [Instr.sameBits,Hm]
    simp
   simp [Instr.keyThatStays,this]
  intro a ax
  refine wpList_plain rfl fun K lT=>?_
  have bf:(execOp a.eval ⟨none,.mapUpdate t x y z,ty,pos,af,none⟩).run P w = .ok .skip (setBlock w b (.map (es.modify j fun e=>{e with key:=S k,val:=v}) c)):=by
   simp [execOp,ax.nU ab,ax.nU aR,ax.nU cO,Instr.mapUpdate,underlying,bQ,getObj,Sem.run,Result.andThen,h1,mL hk,ch,Cb,Xp,run_set h1]
  simp only [Oper.wp,bf,Oper.upon]
  exact lT _ _ (h _ dT (ra h1) _ (by simpa [Act.put] using ax))
end
end Go.Proofs.YtnihidkbkhcfoaaGreatDoor.V
namespace Go.Proofs.YtnihidkbkhcfoaaGreatDoor.V
open Go
structure Te where
 rd:Nat
 any:Nat
 pi:Nat
 pm:Nat
 it:Nat
 mt:Nat
 v:Nat
 afL:Nat
 z:List Nat
def Ix (T:TypeId) (M:List Nat) (w:World) {α:Type} (r:Except Int α) (Q:α→Value→World→Prop):Ending→World→Prop
 | .returned u,w'=>∃ a,r = .ok a∧Q a u w'∧Mod M w w'
 | .panicked c,w'=>∃ e,r = .error e∧e≠0∧c=y9 T e∧Mod M w w'
 | .outgrown,_=>False
def lA (K:List U):List (U×Value):=K.map fun k=>(k,.bool true)
theorem rJ (k:U):∀ K:List U,look (lA K) k=if k∈K then some (.bool true)else none
 | []=>rfl
 | x::K=>by
  show(if x=k then some (Value.bool true)else look (lA K) k)=_
  rw [rJ k K]
  by_cases h:x=k
  ·rw [if_pos h,if_pos (by simp [h])]
  rw [if_neg h]
  by_cases aj:k∈K
  ·rw [if_pos aj,if_pos (by simp [aj])]
  rw [if_neg aj,if_neg (by simp [aj];exact fun e=>h e.symm)]
theorem Iy {K:List U} {k:U} (h:k∉K):sx (lA K) k (.bool true)=lA (K ++ [k]):=by
 unfold sx;rw [rJ,if_neg h];simp [lA]
theorem Fc (k:U):∀ acc:List (U×JV),(look (dB acc) k).isSome=decide (k∈acc.map (·.1)):=by
 intro acc;rw [← List.reverse_reverse acc];generalize acc.reverse=l
 induction l with
 | nil=>rfl
 | cons p l dh=>
  rw [List.reverse_cons,k9,y']
  by_cases h:k=p.1
  ·rw [if_pos h];simp [h]
  rw [if_neg h,dh];rw [Bool.eq_iff_iff,decide_eq_true_eq,decide_eq_true_eq];simp only [List.map_append,List.mem_append,List.map_cons,List.map_nil,List.mem_singleton,h,or_false]
structure afM (T:Te) (A:List Nat) (w:World) (g:Nat) (acc:List JV) (dN:Value):Prop where
 aA:aD w g T.it [dN]
 own:∃ vs,Own w T.v 6 dN acc.length vs∧ak A w (acc.map JV.D).flatten vs
 PM:g∉aL dN
structure Vf (T:Te) (A:List Nat) (w:World) (g b:Nat) (acc:List (U×JV)) (K:List U) (t:U) (dN:Value):Prop where
 aA:aD w g T.mt [dN,.map (some b),S t]
 map:ij w b (lA K)
 own:∃ vs,Own w T.afL 7 dN acc.length vs∧ak A w (acc.map JV.hG).flatten vs
 abr:g≠b
 PM:g∉aL dN
 abt:b∉aL dN
section
variable {T:Te} {A A' M:List Nat} {w0 w w':World} {g:Nat} {s:U} {k:Nat}
theorem afM.to {acc:List JV} {dN:Value} (H:afM T A w g acc dN) (h:Mod M w w') (eb:∀ x∈M,x∈A) (hm:∀ x∈g::aL dN,x∉M) (du:∀ x∈A',x∈A∨w.heap.size≤x):afM T A' w' g acc dN:=by
 obtain⟨vs,h1,aj⟩:=H.own;exact⟨H.aA.mod h (hm g (by simp)),⟨vs,h1.mod h (fun x ab=>hm x (by simp [ab])),ak.to h eb du _ _ aj⟩,H.PM⟩
theorem Vf.to {acc:List (U×JV)} {K:List U} {t:U} {b:Nat} {dN:Value} (H:Vf T A w g b acc K t dN) (h:Mod M w w') (eb:∀ x∈M,x∈A) (hm:∀ x∈g::b::aL dN,x∉M) (du:∀ x∈A',x∈A∨w.heap.size≤x):Vf T A' w' g b acc K t dN:=by
 obtain⟨vs,h1,aj⟩:=H.own;exact⟨H.aA.mod h (hm g (by simp)),H.map.mod h (hm b (by simp)),⟨vs,h1.mod h (fun x ab=>hm x (by simp [ab])),ak.to h eb du _ _ aj⟩,H.abr,H.PM,H.abt⟩
def vf (T:Te) (A:List Nat) (w:World):km→Value→List Nat→Prop
 | .L acc,c,m=>∃ g dN,c = .iface T.pi (.pointer (some ⟨g,0,none⟩))∧afM T A w g acc dN∧m=g::aL dN
 | .M acc t,c,m=>∃ g b dN,c = .iface T.pm (.pointer (some ⟨g,0,none⟩))∧Vf T A w g b acc (acc.map (·.1) ++ [t]) t dN∧m=g::b::aL dN
 | .A acc t,c,m=>∃ g b dN,c = .iface T.pm (.pointer (some ⟨g,0,none⟩))∧Vf T A w g b acc (acc.map (·.1)) t dN∧m=g::b::aL dN
theorem vf.to {fm:km} {c:Value} {m:List Nat} (H:vf T A w fm c m) (h:Mod M w w') (eb:∀ x∈M,x∈A) (hm:∀ x∈m,x∉M) (du:∀ x∈A',x∈A∨w.heap.size≤x):vf T A' w' fm c m:=by
 cases fm with
 | L acc=>obtain⟨g,dN,h1,aj,rfl⟩:=H;exact⟨g,dN,h1,aj.to h eb hm du,rfl⟩
 | M acc t=>obtain⟨g,b,dN,h1,aj,rfl⟩:=H;exact⟨g,b,dN,h1,aj.to h eb hm du,rfl⟩
 | A acc t=>obtain⟨g,b,dN,h1,aj,rfl⟩:=H;exact⟨g,b,dN,h1,aj.to h eb hm du,rfl⟩
theorem vf.lt {fm:km} {c:Value} {m:List Nat} (H:vf T A w fm c m):∀ x∈m,x<w.heap.size:=by
 cases fm with
 | L acc=>
  obtain⟨g,dN,_,aj,rfl⟩:=H;obtain⟨vs,aF,_⟩:=aj.own;intro x ab;rcases List.mem_cons.1 ab with rfl | ab
  ·exact aj.aA.lt
  exact aF.lt x ab
 | M acc t=>
  obtain⟨g,b,dN,_,aj,rfl⟩:=H;obtain⟨vs,aF,_⟩:=aj.own;intro x ab;rcases List.mem_cons.1 ab with rfl | ab
  ·exact aj.aA.lt
  rcases List.mem_cons.1 ab with rfl | ab
  ·exact aj.map.lt
  exact aF.lt x ab
 | A acc t=>
  obtain⟨g,b,dN,_,aj,rfl⟩:=H;obtain⟨vs,aF,_⟩:=aj.own;intro x ab;rcases List.mem_cons.1 ab with rfl | ab
  ·exact aj.aA.lt
  rcases List.mem_cons.1 ab with rfl | ab
  ·exact aj.map.lt
  exact aF.lt x ab
def mB (T:Te) (A:List Nat) (w:World):List km→List Value→List Nat→Prop
 | [],cs,fp=>cs = []∧fp=T.z∧∀ x∈T.z,x<w.heap.size
 | fm::st,cs,fp=>∃ c cs' m gS,cs=c::cs'∧fp=m++gS∧vf T A w fm c m∧mB T A w st cs' gS∧∀ x∈m,x∉gS
theorem mB.to (h:Mod M w w') (eb:∀ x∈M,x∈A) (du:∀ x∈A',x∈A∨w.heap.size≤x):∀ {st:List km} {cs:List Value} {fp:List Nat},mB T A w st cs fp→(∀ x∈fp,x∉M)→mB T A' w' st cs fp
 | [],_,_,H,_=>⟨H.1,H.2.1,fun x ab=>Nat.lt_of_lt_of_le (H.2.2 x ab) h.size⟩
 | fm::st,_,_,H,hm=>by
  obtain⟨c,cs',m,gS,rfl,rfl,h1,aj,aF⟩:=H
  exact⟨c,cs',m,gS,rfl,rfl,h1.to h eb (fun x ab=>hm x (by simp [ab])) du,aj.to h eb du (fun x ab=>hm x (by simp [ab])),aF⟩
theorem mB.len:∀ {st:List km} {cs:List Value} {fp:List Nat},mB T A w st cs fp→cs.length=st.length
 | [],_,_,H=>by rw [H.1];rfl
 | fm::st,_,_,H=>by
  obtain⟨c,cs',m,gS,rfl,rfl,h1,aj,aF⟩:=H
  simp [aj.len]
theorem mB.lt:∀ {st:List km} {cs:List Value} {fp:List Nat},mB T A w st cs fp→∀ x∈fp,x<w.heap.size
 | [],_,_,H=>by rw [H.2.1];exact H.2.2
 | fm::st,_,_,H=>by
  obtain⟨c,cs',m,gS,rfl,rfl,h1,aj,aF⟩:=H
  intro x ab
  rcases List.mem_append.1 ab with ab | ab
  ·exact h1.lt x ab
  exact aj.lt x ab
theorem mB.z:∀ {st:List km} {cs:List Value} {fp:List Nat},mB T A w st cs fp→∀ x∈T.z,x∈fp
 | [],_,_,H=>by rw [H.2.1];exact fun x ab=>ab
 | fm::st,_,_,H=>by
  obtain⟨c,cs',m,gS,rfl,rfl,h1,aj,aF⟩:=H
  exact fun x ab=>List.mem_append_right _ (aj.z x ab)
structure lu (T:Te) (w0 w:World) (g:Nat) (s:U) (k:Nat) (st:List km) (e9:Value) (cs:List Value) (fp:List Nat):Prop where
 rd:aD w g T.rd [S s,.int .i64 (k:Int),e9]
 own:Own w T.any 1 e9 cs.length cs.reverse
 qX:mB T (g::(aL e9++fp)) w st cs fp
 qY:g∉aL e9++fp
 vw:∀ x∈aL e9,x∉fp
 rK:∀ x∈aL e9++fp,w0.heap.size≤x
 mod:Mod [g] w0 w
structure kJ (w w':World) (g:Nat) (e9:Value) (fp:List Nat) (hr:Value) (gS:List Nat):Prop where
 mod:Mod (g::(aL e9++fp)) w w'
 new:∀ x∈aL hr++gS,x∈aL e9++fp∨w.heap.size≤x
variable {st:List km} {e9 hr:Value} {cs cs':List Value} {fp gS:List Nat} {jH:Nat}
theorem lu.init (B:aD w g T.rd [S s,.int .i64 (0:Int),.slice none 0 0]) (hm:Mod [g] w0 w) (cO:∀ x∈T.z,w0.heap.size≤x∧x<w.heap.size∧x≠g):lu T w0 w g s 0 [] (.slice none 0 0) [] T.z:=
 ⟨B,Own.nil _ _ _,⟨rfl,rfl,fun x ab=>(cO x ab).2.1⟩,fun h=>(cO g (by simpa [aL] using h)).2.2 rfl,by simp [aL],fun x ab=>(cO x (by simpa [aL] using ab)).1,hm⟩
theorem lu.len (H:lu T w0 w g s k st e9 cs fp):cs.length=st.length:=H.qX.len
theorem lu.lt (H:lu T w0 w g s k st e9 cs fp):∀ x∈g::(aL e9++fp),x<w.heap.size:=fun x ab=>by
 rcases List.mem_cons.1 ab with rfl | ab
 ·exact H.rd.lt
 rcases List.mem_append.1 ab with ab | ab
 ·exact H.own.lt x ab
 exact H.qX.lt x ab
theorem kJ.of (h:Mod [g] w w'):kJ w w' g e9 fp e9 fp:=⟨h.mono (by simp),fun x ab=>.inl ab⟩
theorem kJ.refl (w:World) (g:Nat) (e9:Value) (fp:List Nat):kJ w w g e9 fp e9 fp:=⟨Mod.refl _ _,fun x ab=>.inl ab⟩
theorem kJ.trans {cY:World} {abu:Value} {vg:List Nat} (h:kJ w w' g e9 fp hr gS) (fb:kJ w' cY g hr gS abu vg):kJ w cY g e9 fp abu vg:=
 ⟨h.mod.trans' fb.mod fun x ab=>by
  rcases List.mem_cons.1 ab with rfl | ab
  ·exact .inl (by simp)
  exact(h.new x ab).imp (fun h=>by simp only [List.mem_cons];exact .inr h) id,fun x ab=>(fb.new x ab).elim (h.new x) fun ab=>.inr (Nat.le_trans h.mod.size ab)⟩
theorem kJ.aA {h:Nat} {apw:TypeId} {us:List Value} (S:kJ w w' g e9 fp hr gS) (B:aD w h apw us) (bW:h∉g::(aL e9++fp)):aD w' h apw us∧h∉g::(aL hr++gS):=by
 have bk:=B.lt;refine⟨B.mod S.mod bW,fun ab=>?_⟩;rcases List.mem_cons.1 ab with rfl | ab
 ·exact bW (by simp)
 rcases S.new h ab with h1 | h1
 ·exact bW (by simp only [List.mem_cons];exact .inr h1)
 omega
theorem kJ.Cl {d:List D} {us:List Value} (S:kJ w w' g e9 fp hr gS) (apv:ak (g::(aL e9++fp)) w d us):ak (g::(aL hr++gS)) w' d us:=
 ak.to S.mod (fun x ab=>ab) (fun x ab=>by
  rcases List.mem_cons.1 ab with rfl | ab
  ·exact .inl (by simp)
  exact(S.new x ab).imp (fun h=>by simp only [List.mem_cons];exact .inr h) id) _ _ apv
theorem lu.pZ (H:lu T w0 w g s k st e9 cs fp) (B:aD w' g T.rd [S s,.int .i64 (jH:Int),e9]) (h:Mod [g] w w'):lu T w0 w' g s jH st e9 cs fp:=
 ⟨B,H.own.mod h (fun x ab e=>H.qY (by simp only [List.mem_singleton] at e;subst e;simp [ab])),H.qX.to h (by simp) (fun x ab=>.inl ab) (fun x ab e=>H.qY (by simp only [List.mem_singleton] at e;subst e;simp [ab])),H.qY,H.vw,H.rK,H.mod.trans h⟩
theorem lu.I (H:lu T w0 w g s k st e9 cs fp) (h:Mod [] w w'):lu T w0 w' g s k st e9 cs fp:=H.pZ (H.rd.I h) (h.mono (by simp))
theorem lu.LY {acc:List JV} (H:lu T w0 w g s k (.L acc::st) e9 cs fp):∃ g1 dN vs d' eI,cs = .iface T.pi (.pointer (some ⟨g1,0,none⟩))::d'∧fp=g1::(aL dN++eI)∧aD w g1 T.it [dN]∧Own w T.v 6 dN acc.length vs∧ak (g::(aL e9++fp)) w (acc.map JV.D).flatten vs∧g1∉aL dN∧g1≠g∧(∀ x∈T.z,x∉g1::aL dN)∧
  (∀ (w':World) (js:Value) (us:List Value) (v:JV),Mod (g1::aL dN) w w'→aD w' g1 T.it [js]→Own w' T.v 6 js (acc.length+1) (vs++us)→(∀ x∈aL js,x∈aL dN∨w.heap.size≤x)→ak (g::(aL e9++fp)) w v.D us→
   lu T w0 w' g s k (.L (acc ++ [v])::st) e9 cs (g1::(aL js++eI))∧kJ w w' g e9 fp e9 (g1::(aL js++eI)))∧
  (∀ (w':World) (hr:Value),Mod [g] w w'→aD w' g T.rd [S s,.int .i64 (k:Int),hr]→Own w' T.any 1 hr d'.length d'.reverse→aL hr=aL e9→
   lu T w0 w' g s k st hr d' eI∧kJ w w' g e9 fp hr eI∧aD w' g1 T.it [dN]∧aS (g::(aL hr++eI)) w' (.iW 6 (acc.map JV.D)) dN):=by
 obtain⟨c,d',m,eI,rfl,rfl,⟨g1,dN,rfl,aj,rfl⟩,aF,bn⟩:=H.qX
 obtain⟨vs,ch,eB⟩:=aj.own
 have bk:=H.lt
 have tL:g1≠g:=fun e=>H.qY (by subst e;simp)
 have gk:∀ x∈g1::aL dN,x≠g:=fun x ab e=>H.qY (by subst e;simp only [List.mem_append];exact .inr (.inl ab))
 have ej:∀ x∈g1::aL dN,x∉aL e9:=fun x ab e=>H.vw x e (by simp only [List.mem_append];exact .inl ab)
 refine⟨g1,dN,vs,d',eI,rfl,rfl,aj.aA,ch,eB,aj.PM,tL,fun x ab h=>bn x h (aF.z x ab),fun w' js us v hm aH dV bW bf=>?_,fun w' hr hm aH dV ig=>?_⟩
 rotate_left
 ·have du:∀ x∈g::(aL hr++eI),x∈g::(aL e9++((g1::aL dN)++eI))∨w.heap.size≤x:=fun x ab=>by
   rw [ig] at ab
   simp only [List.mem_cons,List.mem_append] at ab ⊢
   rcases ab with rfl | ab | ab <;> simp [*]
  have abv:∀ x∈g1::aL dN,x∉[g]:=fun x ab e=>gk x ab (by simpa using e)
  refine⟨⟨aH,dV,aF.to hm (by simp) du (fun x ab e=>H.qY (by simp only [List.mem_singleton] at e;subst e;simp [ab])),fun h=>?_,fun x ab h=>?_,fun x ab=>?_,H.mod.trans hm⟩,⟨hm.mono (by simp),fun x ab=>?_⟩,aj.aA.mod hm (abv g1 (by simp)),Own.rep (ch.mod hm (fun x ab=>abv x (by simp [ab]))) (ak.to hm (by simp) du _ _ eB) (fun r bf=>?_) (by simp) (fun x ab h=>?_)⟩
  ·rw [ig] at h;simp only [List.mem_append] at h;exact H.qY (by rcases h with h | h <;> simp [h])
  ·rw [ig] at ab;exact H.vw x ab (by simp [h])
  ·rw [ig] at ab;simp only [List.mem_append] at ab;exact H.rK x (by rcases ab with h | h <;> simp [h])
  ·rw [ig] at ab;simp only [List.mem_append] at ab ⊢;rcases ab with h | h <;> simp [h]
  ·obtain⟨y,_,rfl⟩:=List.mem_map.1 bf;exact JV.rF y
  rw [ig] at h
  simp only [List.mem_cons,List.mem_append] at h
  rcases h with rfl | h | h
  ·exact gk x (by simp [ab]) rfl
  ·exact ej x (by simp [ab]) h
  exact bn x (by simp [ab]) h
 have ik:∀ x∈g1::aL dN,x∈g::(aL e9++((g1::aL dN)++eI)):=fun x ab=>by simp only [List.mem_cons,List.mem_append] at ab ⊢;exact .inr (.inr (.inl ab))
 have du:∀ x∈g::(aL e9++(g1::(aL js++eI))),x∈g::(aL e9++((g1::aL dN)++eI))∨w.heap.size≤x:=fun x ab=>by
  simp only [List.mem_cons,List.mem_append] at ab ⊢
  rcases ab with rfl | ab | rfl | ab | ab
  ·simp
  ·simp [ab]
  ·simp
  ·exact(bW x ab).imp (fun h=>by simp [h]) id
  simp [ab]
 have og:∀ x∈aL js,∀ y,y∈g::(aL e9++eI)→x≠y:=fun x ab y aR e=>by
  subst e
  rcases bW x ab with h1 | h1
  ·simp only [List.mem_cons,List.mem_append] at aR
   rcases aR with rfl | aR | aR
   ·exact gk x (by simp [h1]) rfl
   ·exact ej x (by simp [h1]) aR
   exact bn x (by simp [h1]) aR
  have:=bk x (by simp only [List.mem_cons,List.mem_append] at aR ⊢;rcases aR with rfl | aR | aR;exact .inl rfl;exact .inr (.inl aR);exact .inr (.inr (.inr aR)))
  omega
 have LZ:g1∉aL js:=fun ab=>by
  rcases bW g1 ab with h1 | h1
  ·exact aj.PM h1
  have:=aj.aA.lt;omega
 refine⟨⟨H.rd.mod hm (fun h=>gk g h rfl),H.own.mod hm (fun x ab h=>ej x h ab),⟨_,d',g1::aL js,eI,rfl,rfl,⟨g1,js,rfl,⟨aH,⟨vs++us,by simpa using dV,?_⟩,LZ⟩,rfl⟩,aF.to hm ik du (fun x ab h=>bn x h ab),fun x ab h=>?_⟩,fun h=>?_,fun x ab h=>?_,fun x ab=>?_,H.mod.trans' hm fun x ab=>.inr ?_⟩,⟨hm.mono fun x ab=>ik x ab,fun x ab=>?_⟩⟩
 ·rw [List.map_append,List.flatten_append]
  refine ak.to hm ik du _ _ (ak.append eB ?_)
  simpa using bf
 ·rcases List.mem_cons.1 ab with rfl | ab
  ·exact bn x (by simp) h
  exact og x ab x (by simp [h]) rfl
 ·simp only [List.mem_append,List.mem_cons] at h
  rcases h with h | rfl | h | h
  ·exact H.qY (by simp [h])
  ·exact tL rfl
  ·exact og g h g (by simp) rfl
  exact H.qY (by simp [h])
 ·simp only [List.mem_cons,List.mem_append] at h
  rcases h with rfl | h | h
  ·exact ej x (by simp) ab
  ·exact og x h x (by simp [ab]) rfl
  exact H.vw x ab (by simp [h])
 ·simp only [List.mem_cons,List.mem_append] at ab
  rcases ab with ab | rfl | ab | ab
  ·exact H.rK x (by simp [ab])
  ·exact H.rK x (by simp)
  ·rcases bW x ab with h1 | h1
   ·exact H.rK x (by simp [h1])
   exact Nat.le_trans H.mod.size h1
  exact H.rK x (by simp [ab])
 ·exact H.rK x (by simp only [List.mem_cons,List.mem_append] at ab ⊢;exact .inr (.inl ab))
 simp only [List.mem_cons,List.mem_append] at ab ⊢
 rcases ab with ab | rfl | ab | ab
 ·simp [ab]
 ·simp
 ·exact(bW x ab).imp (fun h=>by simp [h]) id
 simp [ab]
end
section
variable {T:Te} {A A' M:List Nat} {w0 w w':World} {g:Nat} {s:U} {k:Nat}
variable {st:List km} {e9 hr:Value} {cs cs':List Value} {fp gS:List Nat} {jH:Nat}
theorem lu.L0 {fm:km} {acc:List (U×JV)} {K:List U} {t:U} (H:lu T w0 w g s k (fm::st) e9 cs fp)
  (dm:∀ (A:List Nat) (w:World) (c:Value) (m:List Nat),vf T A w fm c m→∃ g b dN,c = .iface T.pm (.pointer (some ⟨g,0,none⟩))∧Vf T A w g b acc K t dN∧m=g::b::aL dN) :
  ∃ g1 b dN vs d' eI,cs = .iface T.pm (.pointer (some ⟨g1,0,none⟩))::d'∧fp=g1::b::(aL dN++eI)∧aD w g1 T.mt [dN,.map (some b),S t]∧ij w b (lA K)∧Own w T.afL 7 dN acc.length vs∧ak (g::(aL e9++fp)) w (acc.map JV.hG).flatten vs∧g1∉aL dN∧g1≠g∧b≠g∧g1≠b∧b∉aL dN∧(∀ x∈aL dN,x≠g)∧(∀ x∈T.z,x∉g1::b::aL dN)∧
  (∀ (w':World) (js:Value) (h8:List Value) (jH:Nat) (Vg:km) (GV:List (U×JV)) (ahi:List U) (t':U),Mod (g::g1::b::aL dN) w w'→aD w' g T.rd [S s,.int .i64 (jH:Int),e9]→aD w' g1 T.mt [js,.map (some b),S t']→ij w' b (lA ahi)→Own w' T.afL 7 js GV.length h8→(∀ x∈aL js,x∈aL dN∨w.heap.size≤x)→ak (g::(aL e9++fp)) w (GV.map JV.hG).flatten h8→
   (∀ (A:List Nat) (w:World) (c:Value) (m:List Nat),(∃ g b dN,c = .iface T.pm (.pointer (some ⟨g,0,none⟩))∧Vf T A w g b GV ahi t' dN∧m=g::b::aL dN)→vf T A w Vg c m)→
   lu T w0 w' g s jH (Vg::st) e9 cs (g1::b::(aL js++eI))∧kJ w w' g e9 fp e9 (g1::b::(aL js++eI)))∧
  (∀ (w':World) (hr:Value) (h8:List Value) (gR:List (U×JV)),Mod (g::aL dN) w w'→aD w' g T.rd [S s,.int .i64 (k:Int),hr]→Own w' T.any 1 hr d'.length d'.reverse→aL hr=aL e9→Own w' T.afL 7 dN gR.length h8→ak (g::(aL e9++fp)) w (gR.map JV.hG).flatten h8→
   lu T w0 w' g s k st hr d' eI∧kJ w w' g e9 fp hr eI∧aS (g::(aL hr++eI)) w' (.iW 7 (gR.map JV.hG)) dN):=by
 obtain⟨c,d',m,eI,rfl,rfl,abw,aF,bn⟩:=H.qX
 obtain⟨g1,b,dN,rfl,aj,rfl⟩:=dm _ _ _ _ abw
 clear abw
 obtain⟨vs,ch,eB⟩:=aj.own
 have bk:=H.lt
 have gk:∀ x∈g1::b::aL dN,x≠g:=fun x ab e=>H.qY (by subst e;simp only [List.mem_append];exact .inr (.inl ab))
 have ej:∀ x∈g1::b::aL dN,x∉aL e9:=fun x ab e=>H.vw x e (by simp only [List.mem_append];exact .inl ab)
 have ik:∀ x∈g::g1::b::aL dN,x∈g::(aL e9++((g1::b::aL dN)++eI)):=fun x ab=>by
  rcases List.mem_cons.1 ab with rfl | ab
  ·simp
  simp only [List.mem_cons,List.mem_append] at ab ⊢
  rcases ab with rfl | rfl | ab <;> simp [*]
 refine⟨g1,b,dN,vs,d',eI,rfl,rfl,aj.aA,aj.map,ch,eB,aj.PM,gk g1 (by simp),gk b (by simp),aj.abr,aj.abt,fun x ab=>gk x (by simp [ab]),fun x ab h=>bn x h (aF.z x ab),fun w' js h8 jH Vg GV ahi t' hm dT aH eb dV bW bf ahj=>?_,fun w' hr h8 gR hm aH dV ig abx bf=>?_⟩
 rotate_left
 ·have du:∀ x∈g::(aL hr++eI),x∈g::(aL e9++((g1::b::aL dN)++eI))∨w.heap.size≤x:=fun x ab=>by
   rw [ig] at ab
   simp only [List.mem_cons,List.mem_append] at ab ⊢
   rcases ab with rfl | ab | ab <;> simp [*]
  have L1:∀ x∈g::aL dN,x∈g::(aL e9++((g1::b::aL dN)++eI)):=fun x ab=>ik x (by rcases List.mem_cons.1 ab with rfl | ab <;> simp [*])
  have Vh:∀ x∈eI,x∉g::aL dN:=fun x ab h=>by
   rcases List.mem_cons.1 h with rfl | h
   ·exact H.qY (by simp [ab])
   exact bn x (by simp [h]) ab
  refine⟨⟨aH,dV,aF.to hm L1 du Vh,fun h=>?_,fun x ab h=>?_,fun x ab=>?_,H.mod.trans' hm fun x ab=>?_⟩,⟨hm.mono L1,fun x ab=>?_⟩,Own.rep abx (ak.to hm L1 du _ _ bf) (fun r bf=>?_) (by simp) (fun x ab h=>?_)⟩
  ·rw [ig] at h;simp only [List.mem_append] at h;exact H.qY (by rcases h with h | h <;> simp [h])
  ·rw [ig] at ab;exact H.vw x ab (by simp [h])
  ·rw [ig] at ab;simp only [List.mem_append] at ab;exact H.rK x (by rcases ab with h | h <;> simp [h])
  ·rcases List.mem_cons.1 ab with rfl | ab
   ·exact .inl (by simp)
   exact .inr (H.rK x (by simp [ab]))
  ·rw [ig] at ab;simp only [List.mem_append] at ab ⊢;rcases ab with h | h <;> simp [h]
  ·obtain⟨y,_,rfl⟩:=List.mem_map.1 bf;exact JV.vx y
  rw [ig] at h
  simp only [List.mem_cons,List.mem_append] at h
  rcases h with rfl | h | h
  ·exact gk x (by simp [ab]) rfl
  ·exact ej x (by simp [ab]) h
  exact bn x (by simp [ab]) h
 have du:∀ x∈g::(aL e9++(g1::b::(aL js++eI))),x∈g::(aL e9++((g1::b::aL dN)++eI))∨w.heap.size≤x:=fun x ab=>by
  simp only [List.mem_cons,List.mem_append] at ab ⊢
  rcases ab with ab | ab | ab | ab | ab | ab
  ·exact .inl (.inl ab)
  ·exact .inl (.inr (.inl ab))
  ·exact .inl (.inr (.inr (.inl (.inl ab))))
  ·exact .inl (.inr (.inr (.inl (.inr (.inl ab)))))
  ·exact(bW x ab).imp (fun h=>.inr (.inr (.inl (.inr (.inr h))))) id
  exact .inl (.inr (.inr (.inr ab)))
 have og:∀ x∈aL js,∀ y,y∈g::(aL e9++eI)→x≠y:=fun x ab y aR e=>by
  subst e
  rcases bW x ab with h1 | h1
  ·simp only [List.mem_cons,List.mem_append] at aR
   rcases aR with rfl | aR | aR
   ·exact gk x (by simp [h1]) rfl
   ·exact ej x (by simp [h1]) aR
   exact bn x (by simp [h1]) aR
  have:=bk x (by simp only [List.mem_cons,List.mem_append] at aR ⊢;rcases aR with rfl | aR | aR;exact .inl rfl;exact .inr (.inl aR);exact .inr (.inr (.inr aR)))
  omega
 have LZ:g1∉aL js:=fun ab=>by
  rcases bW g1 ab with h1 | h1
  ·exact aj.PM h1
  have:=aj.aA.lt;omega
 have tM:b∉aL js:=fun ab=>by
  rcases bW b ab with h1 | h1
  ·exact aj.abt h1
  have:=aj.map.lt;omega
 have ahk:∀ x∈aL e9,x∉g::g1::b::aL dN:=fun x ab h=>by
  rcases List.mem_cons.1 h with rfl | h
  ·exact H.qY (by simp [ab])
  exact ej x h ab
 have Vh:∀ x∈eI,x∉g::g1::b::aL dN:=fun x ab h=>by
  rcases List.mem_cons.1 h with rfl | h
  ·exact H.qY (by simp [ab])
  exact bn x h ab
 refine⟨⟨dT,H.own.mod hm ahk,⟨_,d',g1::b::aL js,eI,rfl,rfl,ahj _ _ _ _ ⟨g1,b,js,rfl,⟨aH,eb,⟨h8,dV,ak.to hm ik du _ _ bf⟩,aj.abr,LZ,tM⟩,rfl⟩,aF.to hm ik du Vh,fun x ab h=>?_⟩,fun h=>?_,fun x ab h=>?_,fun x ab=>?_,H.mod.trans' hm fun x ab=>?_⟩,⟨hm.mono fun x ab=>ik x ab,fun x ab=>?_⟩⟩
 ·rcases List.mem_cons.1 ab with rfl | ab
  ·exact bn x (by simp) h
  rcases List.mem_cons.1 ab with rfl | ab
  ·exact bn x (by simp) h
  exact og x ab x (by simp [h]) rfl
 ·simp only [List.mem_append,List.mem_cons] at h
  rcases h with h | rfl | rfl | h | h
  ·exact H.qY (by simp [h])
  ·exact gk g (by simp) rfl
  ·exact gk g (by simp) rfl
  ·exact og g h g (by simp) rfl
  exact H.qY (by simp [h])
 ·simp only [List.mem_cons,List.mem_append] at h
  rcases h with rfl | rfl | h | h
  ·exact ej x (by simp) ab
  ·exact ej x (by simp) ab
  ·exact og x h x (by simp [ab]) rfl
  exact H.vw x ab (by simp [h])
 ·simp only [List.mem_cons,List.mem_append] at ab
  rcases ab with ab | rfl | rfl | ab | ab
  ·exact H.rK x (by simp [ab])
  ·exact H.rK x (by simp)
  ·exact H.rK x (by simp)
  ·rcases bW x ab with h1 | h1
   ·exact H.rK x (by simp [h1])
   exact Nat.le_trans H.mod.size h1
  exact H.rK x (by simp [ab])
 ·rcases List.mem_cons.1 ab with rfl | ab
  ·exact .inl (by simp)
  exact .inr (H.rK x (by simp only [List.mem_cons,List.mem_append] at ab ⊢;exact .inr (.inl ab)))
 simp only [List.mem_cons,List.mem_append] at ab ⊢
 rcases ab with ab | rfl | rfl | ab | ab
 ·simp [ab]
 ·simp
 ·simp
 ·exact(bW x ab).imp (fun h=>by simp [h]) id
 simp [ab]
theorem lu.GW (H:lu T w0 w g s k st e9 cs fp) (Aw:Mod (g::aL e9) w w') (aH:aD w' g T.rd [S s,.int .i64 (jH:Int),hr])
  (dV:Own w' T.any 1 hr cs.length cs.reverse) (bW:∀ x∈aL hr,x∈aL e9∨w.heap.size≤x):lu T w0 w' g s jH st hr cs fp∧kJ w w' g e9 fp hr fp:=by
 have bk:=H.lt
 have ik:∀ x∈g::aL e9,x∈g::(aL e9++fp):=fun x ab=>by rcases List.mem_cons.1 ab with rfl | ab <;> simp [*]
 have ahl:g∉aL hr:=fun h=>by
  rcases bW g h with h | h
  ·exact H.qY (by simp [h])
  have:=H.rd.lt;omega
 have du:∀ x∈g::(aL hr++fp),x∈g::(aL e9++fp)∨w.heap.size≤x:=fun x ab=>by
  simp only [List.mem_cons,List.mem_append] at ab ⊢
  rcases ab with rfl | ab | ab
  ·simp
  ·rcases bW x ab with h | h
   ·simp [h]
   exact .inr h
  simp [ab]
 refine⟨⟨aH,dV,H.qX.to Aw ik du (fun x ab h=>?_),fun h=>?_,fun x ab h=>?_,fun x ab=>?_,H.mod.trans' Aw fun x ab=>?_⟩,⟨Aw.mono ik,fun x ab=>?_⟩⟩
 ·rcases List.mem_cons.1 h with rfl | h
  ·exact H.qY (by simp [ab])
  exact H.vw x h ab
 ·rcases List.mem_append.1 h with h | h
  ·exact ahl h
  exact H.qY (by simp [h])
 ·rcases bW x ab with ch | ch
  ·exact H.vw x ch h
  have:=bk x (by simp [h]);omega
 ·have:=H.mod.size
  rcases List.mem_append.1 ab with ab | ab
  ·rcases bW x ab with h | h
   ·exact H.rK x (by simp [h])
   omega
  exact H.rK x (by simp [ab])
 ·rcases List.mem_cons.1 ab with rfl | ab
  ·exact .inl (by simp)
  exact .inr (H.rK x (by simp [ab]))
 rcases List.mem_append.1 ab with ab | ab
 ·exact(bW x ab).imp (fun h=>by simp [h]) id
 exact .inl (by simp [ab])
theorem lu.GX {z:Nat} (H:lu T w0 w g s k st e9 cs fp) (cO:z∈T.z) (hm:Mod [z] w w'):lu T w0 w' g s k st e9 cs fp:=by
 have yp:=H.qX.z z cO;have ahm:z≠g:=fun e=>H.qY (by subst e;simp [yp]);have rn:z∉aL e9:=fun h=>H.vw z h yp;refine⟨H.rd.mod hm (by simpa using Ne.symm ahm),H.own.mod hm (fun x ab e=>rn (by rw [List.mem_singleton.1 e] at ab;exact ab)),?_,H.qY,H.vw,H.rK,H.mod.trans' hm fun x ab=>.inr (by rw [List.mem_singleton.1 ab];exact H.rK z (by simp [yp]))⟩;have key:∀ {st:List km} {cs:List Value} {gS:List Nat},mB T (g::(aL e9++fp)) w st cs gS→(∀ x∈gS,x∈fp)→mB T (g::(aL e9++fp)) w' st cs gS:=by
  intro st
  induction st with
  | nil=>exact fun h _=>⟨h.1,h.2.1,fun x ab=>Nat.lt_of_lt_of_le (h.2.2 x ab) hm.size⟩
  | cons fm st dh=>
   intro cs gS h aN;obtain⟨c,cs',m,vg,rfl,rfl,h1,aj,aF⟩:=h;refine⟨c,cs',m,vg,rfl,rfl,h1.to hm (fun x ab=>by rw [List.mem_singleton.1 ab];simp [yp]) (fun x ab e=>?_) (fun x ab=>.inl ab),dh aj (fun x ab=>aN x (by simp [ab])),aF⟩;rw [List.mem_singleton.1 e] at ab;exact aF z ab (aj.z z cO)
 exact key H.qX (fun x ab=>ab)
theorem lu.push {N:Nat} {fm:km} {c:Value} {m:List Nat} (H:lu T w0 w g s k st e9 cs fp) (Aw:Mod (g::aL e9) w w') (aN:w.heap.size≤N) (hm:∀ x∈m,w.heap.size≤x∧x<N) (aH:aD w' g T.rd [S s,.int .i64 (jH:Int),hr])
  (dV:Own w' T.any 1 hr (cs.length+1) (cs.reverse ++ [c])) (bW:∀ x∈aL hr,x∈aL e9∨N≤x) (dm:∀ A,vf T A w' fm c m):lu T w0 w' g s jH (fm::st) hr (c::cs) (m++fp)∧kJ w w' g e9 fp hr (m++fp):=by
 have bk:=H.lt
 have ik:∀ x∈g::aL e9,x∈g::(aL e9++fp):=fun x ab=>by rcases List.mem_cons.1 ab with rfl | ab <;> simp [*]
 have du:∀ x∈g::(aL hr++(m++fp)),x∈g::(aL e9++fp)∨w.heap.size≤x:=fun x ab=>by
  simp only [List.mem_cons,List.mem_append] at ab ⊢
  rcases ab with rfl | ab | ab | ab
  ·simp
  ·rcases bW x ab with h | h
   ·simp [h]
   exact .inr (by omega)
  ·exact .inr (hm x ab).1
  simp [ab]
 have Qu:∀ x∈m,x∉g::(aL e9++fp):=fun x ab h=>by have:=bk x h;have:=(hm x ab).1;omega
 refine⟨⟨aH,by simpa using dV,⟨c,cs,m,fp,rfl,rfl,dm _,H.qX.to Aw ik du (fun x ab h=>?_),fun x ab h=>Qu x ab (by simp [h])⟩,fun h=>?_,fun x ab h=>?_,fun x ab=>?_,H.mod.trans' Aw fun x ab=>?_⟩,⟨Aw.mono ik,fun x ab=>?_⟩⟩
 ·rcases List.mem_cons.1 h with rfl | h
  ·exact H.qY (by simp [ab])
  exact H.vw x h ab
 ·simp only [List.mem_append] at h
  rcases h with h | h | h
  ·rcases bW g h with h | h
   ·exact H.qY (by simp [h])
   have:=H.rd.lt;omega
  ·exact Qu g h (by simp)
  exact H.qY (by simp [h])
 ·simp only [List.mem_append] at h
  rcases bW x ab with ch | ch
  ·rcases h with h | h
   ·exact Qu x h (by simp [ch])
   exact H.vw x ch h
  rcases h with h | h
  ·have:=(hm x h).2;omega
  have:=bk x (by simp [h]);omega
 ·simp only [List.mem_append] at ab
  have:=H.mod.size
  rcases ab with ab | ab | ab
  ·rcases bW x ab with h | h
   ·exact H.rK x (by simp [h])
   omega
  ·have:=(hm x ab).1;omega
  exact H.rK x (by simp [ab])
 ·rcases List.mem_cons.1 ab with rfl | ab
  ·exact .inl (by simp)
  exact .inr (H.rK x (by simp [ab]))
 have:=du x (by simp only [List.mem_cons];exact .inr ab)
 rcases this with h | h
 ·rcases List.mem_cons.1 h with rfl | h
  ·exact .inr (by
    exfalso
    simp only [List.mem_append] at ab
    rcases ab with ab | ab | ab
    ·rcases bW x ab with h | h
     ·exact H.qY (by simp [h])
     have:=H.rd.lt;omega
    ·exact Qu x ab (by simp)
    exact H.qY (by simp [ab]))
  exact .inl h
 exact .inr h
end
end Go.Proofs.YtnihidkbkhcfoaaGreatDoor.V
namespace Go.Proofs.YtnihidkbkhcfoaaGreatDoor.V
open Go Go.Lib
theorem ss {d:Nat} (h:d<10):(UInt8.ofNat (48+d)).toNat=48+d:=by
 rw [UInt8.toNat_ofNat'];omega
theorem oc (u:Nat):∀ c∈decDigits u,a' c=true:=by
 induction u using Nat.strongRecOn with
 | _ u dh=>
  intro c a6;rw [decDigits] at a6
  split at a6
  ·rename_i h
   simp only [List.mem_singleton] at a6;subst a6;unfold a';rw [ss h];simp;omega
  rename_i h
  rcases List.mem_append.1 a6 with a6 | a6
  ·exact dh (u / 10) (by omega) c a6
  simp only [List.mem_singleton] at a6;subst a6;unfold a';rw [ss (Nat.mod_lt _ (by decide))];simp;omega
theorem qB (u:Nat):decDigits u≠[]:=by
 rw [decDigits]
 split <;> simp
theorem Ip (u:Nat) (h:10≤u):(decDigits u)[0]?≠some 48:=by
 induction u using Nat.strongRecOn with
 | _ u dh=>
  rw [decDigits,dif_neg (by omega),List.getElem?_append_left (List.length_pos_iff.2 (qB _))]
  by_cases h1:10≤u / 10
  ·exact dh (u / 10) (by omega) h1
  rw [decDigits,dif_pos (by omega)];intro he;simp only [List.getElem?_cons_zero,Option.some.injEq] at he;have:=congrArg UInt8.toNat he;rw [ss (by omega)] at this;simp at this;omega
theorem LJ (u:Nat) (h:u<10):(decDigits u).length=1:=by rw [decDigits,dif_pos h];rfl
theorem Ql (u:Nat):∀ r:List UInt8,u<18446744073709551616→parseUint10 0 (decDigits u++r)=parseUint10 u r:=by
 induction u using Nat.strongRecOn with
 | _ u dh=>
  intro r hu;rw [decDigits]
  split
  ·rename_i h
   rw [List.singleton_append,parseUint10,ss h,if_pos (by omega),if_neg (by omega),if_neg (by omega)]
   congr 1
   omega
  rename_i h
  rw [List.append_assoc,dh (u / 10) (by omega) _ (by omega),List.singleton_append,parseUint10,ss (Nat.mod_lt _ (by decide)),if_pos (by omega),if_neg (by omega),if_neg (by omega)]
  congr 1
  omega
theorem Cf {u:Nat} (h:u<18446744073709551616):parseMag (decDigits u) = .ok u:=by
 unfold parseMag;rw [if_neg (qB u)];have:=Ql u [] h;rw [List.append_nil] at this;rw [this,parseUint10]
theorem oR {n:Int} (bD : -9007199254740991≤n) (h1:n≤9007199254740991):atoiAll (itoa n) = .ok n:=by
 unfold itoa
 split
 ·rename_i h
  unfold atoiAll;simp only;rw [if_pos (by right;rfl),Cf (by omega)];simp only;rw [if_neg (by simp),if_neg (by simp;omega),if_pos (by rfl)]
  congr 1
  omega
 rename_i h
 have hm:=Cf (u:=n.toNat) (by omega);have bL:=oc n.toNat;cases bM:decDigits n.toNat with
 | nil=>exact absurd bM (qB _)
 | cons c r=>
  rw [bM] at hm bL;have a6:=bL c (by simp);simp only [a',Bool.and_eq_true,decide_eq_true_eq] at a6;unfold atoiAll;simp only;rw [if_neg (by omega),hm];simp only;rw [if_neg (by omega),if_neg (by omega),if_neg (by omega)]
  congr 1
  omega
theorem Iq {m n:Int} (bD : -9007199254740991≤n) (h1:n≤9007199254740991) (g0 : -9007199254740991≤m) (g1:m≤9007199254740991) (h:itoa m=itoa n):m=n:=by
 have aj:=oR g0 g1;rw [h,oR bD h1] at aj;injection aj with aj
 exact aj.symm
theorem wB {n:Int} {w:U} (bD : -9007199254740991≤n) (h1:n≤9007199254740991) (h:itoa n=w):sr w=some n:=by
 unfold sr;have hex:∃ n:Int,-9007199254740991≤n∧n≤9007199254740991∧itoa n=w:=⟨n,bD,h1,h⟩;rw [dif_pos hex];obtain⟨a,b,c⟩:=hex.choose_spec;rw [Iq bD h1 a b (c.trans h.symm)]
theorem Cg {n:Int} {w:U} (h:sr w=some n) : -9007199254740991≤n∧n≤9007199254740991∧itoa n=w:=by
 unfold sr at h
 split at h
 ·rename_i hex
  injection h with h
  subst h;exact hex.choose_spec
 cases h
theorem iZ {v:Int} {w:U} (h:atoiAll w = .ok v):sr w=if itoa v=w∧-9007199254740991≤v∧v≤9007199254740991 then some v else none:=by
 split
 ·rename_i bw
  exact wB bw.2.1 bw.2.2 bw.1
 rename_i bw
 cases cO:sr w with
 | none=>rfl
 | some n=>
  obtain⟨a,b,c⟩:=Cg cO;rw [← c,oR a b] at h;injection h with h
  subst h;exact absurd ⟨c,a,b⟩ bw
theorem la {w:U} (h:∀ v,atoiAll w≠.ok v):sr w=none:=by
 cases cO:sr w with
 | none=>rfl
 | some n=>
  obtain⟨a,b,c⟩:=Cg cO;rw [← c] at h;exact absurd (oR a b) (h n)
theorem GR {p:UInt8→Bool}:∀ {l r:U},(∀ c∈l,p c=true)→(∀ c,r[0]? = some c→p c=false)→(l++r).takeWhile p=l
 | [],[],_,_=>rfl
 | [],c::r,_,h=>by rw [List.nil_append,List.takeWhile_cons,if_neg (by simp [h c rfl])]
 | c::l,r,h,fb=>by rw [List.cons_append,List.takeWhile_cons,if_pos (h c (by simp)),GR (fun x ab=>h x (by simp [ab])) fb]
theorem wC {p:UInt8→Bool} {s l r:U} {k:Nat} (h:s.drop k=l++r) (bM:∀ c∈l,p c=true) (bf:∀ c,r[0]? = some c→p c=false):ag p s k=k+l.length:=by
 unfold ag;rw [h,GR bM bf]
theorem br {s t:U} {k:Nat} (h:s.length≤k) (bQ:t≠[]):av s k t=false:=by
 rw [Bool.eq_false_iff];intro fb;have:=cg fb bQ;have:0<t.length:=List.length_pos_iff.2 bQ;omega
theorem Ch {n:Int} (bD : -9007199254740991≤n) (h1:n≤9007199254740991):fH (itoa n)=(true,false):=by
 obtain⟨a,u,hw,ax,anv⟩:∃ (a u:Nat),(itoa n).drop a=decDigits u∧(if av (itoa n) 0 [45] then 1 else 0)=a∧a≤(itoa n).length:=by
  unfold itoa
  split
  ·exact⟨1,n.natAbs,rfl,by rw [if_pos (by rfl)],by simp⟩
  refine⟨0,n.toNat,by simp,?_,by simp⟩;rw [if_neg];rw [fr];intro h;have:=oc n.toNat 45 (List.mem_of_getElem? h)
  revert this
  decide
 have bL:=oc u;have bS:=qB u;have hlen:(itoa n).length=a+(decDigits u).length:=by
  have:=congrArg List.length hw;rw [List.length_drop] at this;omega
 have BN:0<(decDigits u).length:=List.length_pos_iff.2 bS;have he:ag a' (itoa n) a=(itoa n).length:=by
  rw [wC (l:=decDigits u) (r:=[]) (by simpa using hw) bL (by simp),hlen]
 unfold fH;simp only;rw [ax,he,if_neg,br (Nat.le_refl _) (by simp),if_neg (by simp)]
 ·simp only [Bool.false_eq_true,if_false];rw [br (Nat.le_refl _) (by simp),br (Nat.le_refl _) (by simp)];simp
 rintro(h | ⟨aj,aF⟩)
 ·omega
 have hu:10≤u:=by
  rcases Nat.lt_or_ge u 10 with hu | hu
  ·have:=LJ u hu;omega
  exact hu
 have:=Ip u hu;rw [← hw,List.getElem?_drop] at this;exact this (by simpa using aF)
theorem E0 {n:Int} (bD : -9007199254740991≤n) (h1:n≤9007199254740991):gQ (itoa n) = .ok n:=by
 unfold gQ;rw [Ch bD h1,if_neg (by simp),wB bD h1 rfl]
theorem LK {n:Int}:∀ c∈itoa n,dW c=true:=by
 intro c a6;unfold itoa at a6
 split at a6
 ·rcases List.mem_cons.1 a6 with rfl | a6
  ·rfl
  unfold dW;rw [oc _ c a6];rfl
 unfold dW;rw [oc _ c a6];rfl
theorem LL (n:Int):itoa n≠[]:=by
 unfold itoa
 split
 ·simp
 exact qB _
theorem E9 {n:Int} {s r:U} {k:Nat} (bD : -9007199254740991≤n) (h1:n≤9007199254740991) (h:s.drop k=itoa n++r) (bf:∀ c,r[0]? = some c→dW c=false):hA s k = .ok (JV.fs n,k+(itoa n).length):=by
 unfold hA;rw [wC h LK bf,Nat.add_sub_cancel_left,h,List.take_left',E0 bD h1]
 ·rfl
 rfl
end Go.Proofs.YtnihidkbkhcfoaaGreatDoor.V
namespace Go.Proofs.YtnihidkbkhcfoaaGreatDoor.V
open Go
/-! ## four digits -/
theorem p0:∀ (f:Nat) (s:U) (n:Nat),s.length<f→dX f s n=none
 | 0,_,_,h=>by omega
 | f+1,[],n,_=>rfl
 | f+1,c::r,n,h=>by
  rw [dX]
  cases iX c with
  | none=>rfl
  | some d=>exact p0 f r _ (by simpa using h)
theorem wJ:∀ (f:Nat) (s:U) (n:Nat),dX f (s.take f) n=dX f s n
 | 0,_,_=>by simp [dX]
 | f+1,[],n=>rfl
 | f+1,c::r,n=>by
  rw [List.take_succ_cons,dX,dX]
  cases iX c with
  | none=>rfl
  | some d=>exact wJ f r _
theorem Cm {c:UInt8} {d:Nat} (h:iX c=some d):d<16:=by
 unfold iX at h
 split at h
 ·injection h with h;omega
 split at h
 ·injection h with h;omega
 split at h
 ·injection h with h;omega
 cases h
theorem Iz {c:UInt8} (h:128≤c.toNat):iX c=none:=by
 unfold iX;rw [if_neg (by omega),if_neg (by omega),if_neg (by omega)]
theorem Cn:∀ (f:Nat) (s:U) (n m:Nat),dX f s n=some m→m<16 ^ f*(n+1)
 | 0,_,n,m,h=>by
  simp only [dX,Option.some.injEq] at h
  omega
 | f+1,[],n,m,h=>by simp [dX] at h
 | f+1,c::r,n,m,h=>by
  rw [dX] at h
  cases bL:iX c with
  | none=>rw [bL] at h;cases h
  | some d=>
   rw [bL] at h
   have h1:=Cn f r _ _ h
   have aj:=Cm bL
   have aF:16 ^ f*(16*n+d+1)≤16 ^ f*(16*(n+1)):=Nat.mul_le_mul_left _ (by omega)
   rw [Nat.pow_succ,Nat.mul_assoc]
   omega
theorem sy {s:U} {m:Nat} (h:dX 4 s 0=some m):m<65536:=by
 have:=Cn 4 s 0 m h;omega
theorem Co {f p n:Nat} {s:U} {b:UInt8} (h:s[p]? = some b):dX (f+1) (s.drop p) n=match iX b with | none=>none | some d=>dX f (s.drop (p+1)) (16*n+d):=by
 first | (rw [fq h,dX];done) | (rw [fq h,dX];cases iX b <;> rfl)
theorem Tf:∀ b,b<128→(match iX (UInt8.ofNat b)with | none=>decide (Lib.indexByte hM (UInt8.ofNat (b ||| 32))<0)||decide (b<48) | some d=>decide (Lib.indexByte hM (UInt8.ofNat (b ||| 32))=(d:Int))&&decide (48≤b))=true:=by decide +kernel
theorem L2 {b:UInt8} (aH:b.toNat<128) (h:iX b=none):Lib.indexByte hM (UInt8.ofNat (b.toNat ||| 32))<0∨b.toNat<48:=by
 have:=Tf b.toNat aH;rw [UInt8.ofNat_toNat,h] at this;simpa using this
theorem za {b:UInt8} {d:Nat} (aH:b.toNat<128) (h:iX b=some d):Lib.indexByte hM (UInt8.ofNat (b.toNat ||| 32))=(d:Int)∧48≤b.toNat:=by
 have:=Tf b.toNat aH;rw [UInt8.ofNat_toNat,h] at this;simpa using this
theorem wrap32_in (z:Int) (h : -2147483648≤z∧z≤2147483647):IntKind.i32.wrap z=z:=by
 simp only [IntKind.wrap,IntKind.bits,IntKind.signed];simp;omega
theorem L3 {c:Nat} (h:c≤1114111):IntKind.i32.wrap ((BitVec.ofInt IntKind.i32.bits (c:Int) ||| BitVec.ofInt IntKind.i32.bits 32).toNat)=((c ||| 32:Nat):Int):=by
 have bD:(BitVec.ofInt 32 (c:Int) ||| BitVec.ofInt 32 32).toNat=c ||| 32:=by
  rw [BitVec.toNat_or];have h1:(BitVec.ofInt 32 (c:Int)).toNat=c:=by
   rw [BitVec.toNat_ofInt];omega
  have aj:(BitVec.ofInt 32 32).toNat=32:=by decide
  rw [h1,aj]
 have bk:c ||| 32<2 ^ 21:=Nat.or_lt_two_pow (by omega) (by omega);show IntKind.i32.wrap ((BitVec.ofInt 32 (c:Int) ||| BitVec.ofInt 32 32).toNat:Int)=_;rw [bD,wrap32_in _ (by omega)]
theorem Cp {c:Nat}:(c ||| 32) / 2048=c / 2048:=by
 have:=Nat.shiftRight_or_distrib (a:=c) (b:=32) (i:=11);rw [Nat.shiftRight_eq_div_pow,Nat.shiftRight_eq_div_pow] at this;simpa using this
theorem L4 {c:Nat} (h:128≤c):128≤c ||| 32:=Nat.le_trans h Nat.left_le_or
theorem L5 {c:Nat} (h:c≤1114111):c ||| 32≤1114111:=by
 have h1:=Cp (c:=c)
 by_cases aj:c / 2048=543
 ·omega
 omega
theorem L6 {c:Nat} (h:¬ (55296≤c∧c≤57343)):¬ (55296≤c ||| 32∧c ||| 32≤57343):=by
 have h1:=Cp (c:=c);omega
theorem L7 {c:Nat} (h:c<128):c ||| 32<128:=Nat.or_lt_two_pow (n:=7) h (by decide)
theorem Vi {n d:Nat} (bW:n<1048576) (bL:d<16):IntKind.i32.wrap ((BitVec.ofInt IntKind.i32.bits ((16*n:Nat):Int) ||| BitVec.ofInt IntKind.i32.bits (d:Int)).toNat)=((16*n+d:Nat):Int):=by
 have h:(BitVec.ofInt 32 ((16*n:Nat):Int) ||| BitVec.ofInt 32 (d:Int)).toNat=16*n+d:=by
  rw [BitVec.toNat_or];have h1:(BitVec.ofInt 32 ((16*n:Nat):Int)).toNat=16*n:=by
   rw [BitVec.toNat_ofInt];omega
  have aj:(BitVec.ofInt 32 (d:Int)).toNat=d:=by
   rw [BitVec.toNat_ofInt];omega
  rw [h1,aj];exact(Nat.two_pow_add_eq_or_of_lt (i:=4) bL n).symm
 show IntKind.i32.wrap ((BitVec.ofInt 32 ((16*n:Nat):Int) ||| BitVec.ofInt 32 (d:Int)).toNat:Int)=_;rw [h,wrap32_in _ (by omega)]
/-! ## letters behind a backslash -/
abbrev GY:U:=[34,92,47,98,102,110,114,116]
abbrev Tg:U:=[34,92,47,8,12,10,13,9]
theorem tN (c:UInt8):(pW c=none∧Lib.indexByte GY c<0)∨∃ i d:Nat,pW c=some d∧Lib.indexByte GY c=(i:Int)∧i<8∧Tg[i]? = some (UInt8.ofNat d)∧d<256:=by
 by_cases h1:c=34
 ·subst h1;exact .inr ⟨0,34,by decide⟩
 by_cases aj:c=92
 ·subst aj;exact .inr ⟨1,92,by decide⟩
 by_cases aF:c=47
 ·subst aF;exact .inr ⟨2,47,by decide⟩
 by_cases bn:c=98
 ·subst bn;exact .inr ⟨3,8,by decide⟩
 by_cases ch:c=102
 ·subst ch;exact .inr ⟨4,12,by decide⟩
 by_cases eB:c=110
 ·subst eB;exact .inr ⟨5,10,by decide⟩
 by_cases kv:c=114
 ·subst kv;exact .inr ⟨6,13,by decide⟩
 by_cases j0:c=116
 ·subst j0;exact .inr ⟨7,9,by decide⟩
 left;refine⟨by unfold pW;simp [*],?_⟩;have e:∀ d:UInt8,¬ c=d→(d == c)=false:=fun d h=>by simp [Ne.symm h]
 simp only [Lib.indexByte,e _ h1,e _ aj,e _ aF,e _ bn,e _ ch,e _ eB,e _ kv,e _ j0,Bool.false_eq_true,if_false,beq_self_eq_true,if_true];omega
def e7 (s:U):Nat×Nat:=if (j7 (92::s)).2=0 then (0,0)else ((j7 (92::s)).1,(j7 (92::s)).2-1)
theorem IA:e7 []=(0,0):=rfl
theorem zb {c:UInt8} {r:U} {d:Nat} (h:pW c=some d):e7 (c::r)=(d,1):=by
 have:j7 (92::c::r)=(d,2):=by unfold j7;simp only;rw [h]
 unfold e7;rw [this];rfl
theorem vy {c:UInt8} {r:U} (h:pW c=none):j7 (92::c::r)=match lP (92::c::r)with
   | none=>(0,0)
   | some n=>
    if 56320≤n∧n≤57343 then (0,0)
    else if n<55296∨57343<n then (n,6)
    else match lP (r.drop 4)with
     | none=>(0,0)
     | some m=>if m<56320∨57343<m then (0,0)else (65536+1024*(n-55296)+(m-56320),12):=by
 unfold j7
 simp only
 rw [h]
 rfl
theorem L8 {c:UInt8} {r:U} (h:c≠117):lP (92::c::r)=none:=by
 unfold lP
 split
 ·rename_i aj
  injection aj with _ aj
  injection aj with aj _
  exact absurd aj h
 rfl
theorem vz {r:U}:lP (92::117::r)=dX 4 r 0:=rfl
theorem zc {l:U} (h:(List.isPrefixOf [92,117] l)=false):lP l=none:=by
 unfold lP
 split
 ·simp [List.isPrefixOf] at h
 rfl
theorem wK {l:U} (h:(List.isPrefixOf [92,117] l)=true):lP l=dX 4 (l.drop 2) 0:=by
 rw [List.isPrefixOf_iff_prefix] at h;obtain⟨t,rfl⟩:=h;rfl
/-! ## blanks, words of numbers -/
theorem Qv (s:U) (c:UInt8):decide (Lib.indexByte s c≥0)=s.any (fun b=>b == c):=by
 induction s with
 | nil=>rfl
 | cons b s dh=>
  rw [List.any_cons,← dh,show Lib.indexByte (b::s) c=(if b == c then 0 else if Lib.indexByte s c == -1 then -1 else Lib.indexByte s c+1) from rfl]
  by_cases h:(b == c)=true
  ·rw [if_pos h,h];rfl
  rw [if_neg h];have dm:(b == c)=false:=by simpa using h
  rw [dm,Bool.false_or]
  by_cases aj:(Lib.indexByte s c == -1)=true
  ·rw [if_pos aj];have:Lib.indexByte s c = -1:=by simpa using aj
   rw [this]
  rw [if_neg aj];have aF:Lib.indexByte s c≠-1:=by simpa using aj
  have bn:=Lib.indexByte_ge s c;rw [decide_eq_true (by omega),decide_eq_true (by omega)]
theorem L9 (a b:UInt8):(a == b)=(b == a):=by
 by_cases h:a=b
 ·subst h;rfl
 rw [beq_eq_false_iff_ne.2 h,beq_eq_false_iff_ne.2 (Ne.symm h)]
theorem L' (c:UInt8):decide (Lib.indexByte [32,9,10,13] c≥0)=aG c:=by
 rw [Qv];simp [aG,L9,Bool.or_assoc]
theorem Vj:∀ c:Nat,c<256→decide (Lib.indexByte [43,45,46,48,49,50,51,52,53,54,55,56,57,69,101] (UInt8.ofNat c)≥0)=dW (UInt8.ofNat c):=by decide +kernel
theorem GZ (c:UInt8):decide (Lib.indexByte [43,45,46,48,49,50,51,52,53,54,55,56,57,69,101] c≥0)=dW c:=by
 have:=Vj c.toNat (UInt8.toNat_lt c)
 rwa [UInt8.ofNat_toNat] at this
theorem Ma (c:UInt8):([48,49,50,51,52,53,54,55,56,57]:U).contains c=a' c:=by
 have:∀ n:Nat,n<256→([48,49,50,51,52,53,54,55,56,57]:U).contains (UInt8.ofNat n)=a' (UInt8.ofNat n):=by decide +kernel
 have:=this c.toNat (UInt8.toNat_lt c)
 rwa [UInt8.ofNat_toNat] at this
theorem Mb (p:UInt8→Bool) (s:U) (k:Nat):(s.drop k).dropWhile p=s.drop (ag p s k):=by
 unfold ag;generalize bM:s.drop k=l;have h:∀ l:U,l.dropWhile p=l.drop (l.takeWhile p).length:=fun l=>by
  induction l with
  | nil=>rfl
  | cons c r dh=>
   rw [List.dropWhile_cons,List.takeWhile_cons]
   split
   ·rw [dh];simp
   rfl
 rw [h,← bM,List.drop_drop]
theorem Vk (s:U) (k:Nat):Lib.trimLeftS (s.drop k) [48,49,50,51,52,53,54,55,56,57]=s.drop (ag a' s k):=by
 rw [← Mb];unfold Lib.trimLeftS
 congr 1
 funext c
 exact Ma c
theorem nt:∀ c:Nat,c<256→(IntKind.u8.wrap ((BitVec.ofInt IntKind.u8.bits (c:Int) ||| BitVec.ofInt IntKind.u8.bits 32).toNat)=101↔(c=101∨c=69)):=by decide +kernel
theorem Qw {s:U} {p:Nat} {b:UInt8} (aH:s[p]? = some b) (h:¬ b.toNat<128):∃ c m,Utf8.decode ⟨⟨s⟩⟩ p=(c,m)∧128≤c∧c≤1114111∧¬ (55296≤c∧c≤57343):=by
 have bJ:=(List.getElem?_eq_some_iff.1 aH).1;have bL:=fq aH
 by_cases bD:(aC (s.drop p)).2=0
 ·exact⟨65533,1,wL bJ bD,by decide,by decide,by decide⟩
 obtain⟨_,_,h1,aj⟩:=tO (gT bJ) bD;refine⟨_,_,vA bJ bD,?_,h1,aj⟩;rcases Nat.lt_or_ge (aC (s.drop p)).1 128 with aF | aF
 ·obtain⟨x,ab,Vb⟩:=kH (gT bJ) bD aF;rw [bL] at ab;have:x=b:=by
   cases bW:(aC (b::s.drop (p+1))).2 with
   | zero=>rw [bW] at ab;simp at ab
   | succ m=>rw [bW,List.take_succ_cons] at ab;injection ab with ab;exact ab.symm
  subst this;omega
 exact aF
theorem rL {p n d4:Nat} {s:U} {b:UInt8} {W:Option Nat} (bJ:p<4) (aH:s[p]? = some b) (ab:iX b=none) (hinv:dX (4-p) (s.drop p) n=W):W=none:=by
 rw [← hinv,show 4-p=(3-p)+1 by omega,Co aH,ab]
theorem Fe {p n d:Nat} {s:U} {b:UInt8} {W:Option Nat} (bJ:p<4) (aH:s[p]? = some b) (ab:iX b=some d) (hinv:dX (4-p) (s.drop p) n=W):dX (4-(p+1)) (s.drop (p+1)) (16*n+d)=W:=by
 rw [← hinv,show 4-p=(3-p)+1 by omega,Co aH,ab,show 4-(p+1)=3-p by omega]
theorem G0 {b:UInt8} (aH:b.toNat<128) (h:Lib.indexByte hM (UInt8.ofNat (b.toNat ||| 32))<0∨b.toNat<48):iX b=none:=by
 cases ab:iX b with
 | none=>rfl
 | some d=>
  have:=za aH ab;omega
theorem Mc {b:UInt8} (aH:b.toNat<128) (h1:¬ Lib.indexByte hM (UInt8.ofNat (b.toNat ||| 32))<0) (aj:¬ b.toNat<48):∃ d,iX b=some d∧d<16∧Lib.indexByte hM (UInt8.ofNat (b.toNat ||| 32))=(d:Int):=by
 cases ab:iX b with
 | none=>exact absurd (L2 aH ab) (by omega)
 | some d=>exact⟨d,rfl,Cm ab,(za aH ab).1⟩
theorem Vl {n:Nat} (h:n<65536):IntKind.i32.wrap ((n:Int)*2 ^ (min ((4:Int)).toNat IntKind.i32.bits))=((16*n:Nat):Int):=by
 have:(2:Int) ^ (min ((4:Int)).toNat IntKind.i32.bits)=16:=by decide
 rw [this,wrap32_in _ (by omega)];omega
theorem G1 {n:Nat} (h:n<2048):IntKind.i32.wrap ((n:Int)*2 ^ (min ((10:Int)).toNat IntKind.i32.bits))=((1024*n:Nat):Int):=by
 have:(2:Int) ^ (min ((10:Int)).toNat IntKind.i32.bits)=1024:=by decide
 rw [this,wrap32_in _ (by omega)];omega
theorem Vm {n p d:Nat} (h:n<16 ^ p) (bL:d<16):16*n+d<16 ^ (p+1):=by
 rw [Nat.pow_succ];omega
theorem IB {n p:Nat} (h:n<16 ^ p) (bJ:p≤3):n<4096:=Nat.lt_of_lt_of_le h (Nat.pow_le_pow_right (by decide) bJ)
theorem tP {s:U} {n m:Nat} (h:dX 4 s n=some m):4≤s.length:=by
 rcases Nat.lt_or_ge s.length 4 with h1 | h1
 ·rw [p0 4 s n h1] at h;cases h
 exact h1
theorem kK {c:UInt8} {r:U} (bW:pW c=none) (h:c≠117∨dX 4 r 0=none∨∃ n,dX 4 r 0=some n∧56320≤n∧n≤57343):e7 (c::r)=(0,0):=by
 have bD:j7 (92::c::r)=(0,0):=by
  rw [vy bW]
  by_cases a6:c=117
  ·subst a6;rw [vz];rcases h with h | h | ⟨n,h1,aj⟩
   ·exact absurd rfl h
   ·rw [h]
   rw [h1];simp only;rw [if_pos aj]
  rw [L8 a6]
 unfold e7;rw [bD];rfl
theorem lb {r:U} {n:Nat} (h:dX 4 r 0=some n) (aH:n<55296∨57343<n):e7 (117::r)=(n,5):=by
 have bD:j7 (92::117::r)=(n,6):=by
  rw [vy rfl,vz,h];simp only;rw [if_neg (by omega),if_pos aH]
 unfold e7;rw [bD];rfl
theorem gM {r:U} {n:Nat} (h:dX 4 r 0=some n) (aH:55296≤n∧n<56320) (aj:lP (r.drop 4)=none∨∃ m,lP (r.drop 4)=some m∧(m<56320∨57343<m)):e7 (117::r)=(0,0):=by
 have bD:j7 (92::117::r)=(0,0):=by
  rw [vy rfl,vz,h];simp only;rw [if_neg (by omega),if_neg (by omega)];rcases aj with aj | ⟨m,aj,aF⟩
  ·rw [aj]
  rw [aj];simp only;rw [if_pos aF]
 unfold e7;rw [bD];rfl
theorem rM {r:U} {n m:Nat} (h:dX 4 r 0=some n) (aH:55296≤n∧n<56320) (aj:lP (r.drop 4)=some m) (aF:56320≤m∧m≤57343):e7 (117::r)=(65536+1024*(n-55296)+(m-56320),11):=by
 have bD:j7 (92::117::r)=(65536+1024*(n-55296)+(m-56320),12):=by
  rw [vy rfl,vz,h];simp only;rw [if_neg (by omega),if_neg (by omega),aj];simp only;rw [if_neg (by omega)]
 unfold e7;rw [bD];rfl
theorem mC (p l:U):decide (p.length≤l.length∧l.take p.length=p)=List.isPrefixOf p l:=by
 rw [Bool.eq_iff_iff,decide_eq_true_eq,List.isPrefixOf_iff_prefix,List.prefix_iff_eq_take];constructor
 ·rintro⟨_,h⟩;exact h.symm
 intro h;refine⟨?_,h.symm⟩;have:=congrArg List.length h;rw [List.length_take] at this;omega
theorem Md (s:U):(e7 s).1≤1114111∧¬ (55296≤(e7 s).1∧(e7 s).1≤57343)∧(e7 s).2≤s.length:=by
 cases s with
 | nil=>rw [IA];decide
 | cons c r=>
  cases a6:pW c with
  | some d=>
   rw [zb a6];rcases tN c with⟨h,_⟩ | ⟨i,rA,h,_,_,_,aj⟩
   ·rw [h] at a6;cases a6
   rw [a6] at h;injection h with h
   subst h;exact⟨by simp only;omega,by simp only;omega,by simp⟩
  | none=>
   by_cases Th:c=117
   rotate_left
   ·rw [kK a6 (.inl Th)];simp
   subst Th;cases ab:dX 4 r 0 with
   | none=>rw [kK a6 (.inr (.inl ab))];simp
   | some n=>
    have bM:=tP ab;have bW:=sy ab
    by_cases aH:n<55296∨57343<n
    ·rw [lb ab aH];exact⟨by simp only;omega,by simp only;omega,by simp only [List.length_cons];omega⟩
    by_cases Ff:56320≤n
    ·rw [kK a6 (.inr (.inr ⟨n,ab,Ff,by omega⟩))];simp
    cases hu:lP (r.drop 4)with
    | none=>rw [gM ab (by omega) (.inl hu)];simp
    | some m=>
     by_cases hm:m<56320∨57343<m
     ·rw [gM ab (by omega) (.inr ⟨m,hu,hm⟩)];simp
     rw [rM ab (by omega) hu (by omega)];have nb:6≤(r.drop 4).length:=by
      unfold lP at hu
      split at hu
      ·rename_i Vd e
       have:=tP hu;rw [e];simp only [List.length_cons];omega
      cases hu
     rw [List.length_drop] at nb;exact⟨by simp only;omega,by simp only;omega,by simp only [List.length_cons];omega⟩
/-! ## a text between quotes, round by round -/
theorem IC {f:Nat} {s:U} {i:Nat} {out:U} (h:s.length≤i):e6 f (s.drop i) i out=none:=by
 rw [List.drop_eq_nil_of_le h];cases f <;> rfl
theorem Cq {f:Nat} {s:U} {i:Nat} {out:U} (h:s[i]? = some 34):e6 (f+1) (s.drop i) i out=some (out,i+1):=by
 rw [fq h,e6,if_pos rfl]
theorem wM {f:Nat} {s:U} {i:Nat} {out:U} {c:UInt8} (h:s[i]? = some c) (h1:c≠34) (aj:c≠92):e6 (f+1) (s.drop i) i out=if (aC (s.drop i)).2=0∨(aC (s.drop i)).1<32 then none else e6 f (s.drop (i+(aC (s.drop i)).2)) (i+(aC (s.drop i)).2) (out++hQ (aC (s.drop i)).1):=by
 have e:=fq h;rw [← List.drop_drop];generalize s.drop i=l at e ⊢;subst e;rw [e6,if_neg h1,if_neg aj];simp only [ne_eq,aj,not_false_eq_true,true_and]
theorem ID {f:Nat} {s:U} {i:Nat} {out:U} (h:s[i]? = some 92):e6 (f+1) (s.drop i) i out=if (e7 (s.drop (i+1))).2=0 then none else e6 f (s.drop (i+((e7 (s.drop (i+1))).2+1))) (i+((e7 (s.drop (i+1))).2+1)) (out++hQ (e7 (s.drop (i+1))).1):=by
 have e:=fq h;have bs:∀ k,s.drop (i+k)=(92::s.drop (i+1)).drop k:=fun k=>by rw [← e,List.drop_drop]
 rw [bs ((e7 (s.drop (i+1))).2+1),e,e6,if_neg (by decide),if_pos rfl];simp only [ne_eq,not_true_eq_false,false_and,or_false];unfold e7;generalize ab:j7 (92::s.drop (i+1))=x
 by_cases bD:x.2=0
 ·rw [if_pos bD,if_pos bD];rfl
 have bS:¬ (x.2-1=0):=by
  have:x.2≠1:=fun h1=>by
   rw [← ab] at h1;unfold j7 at h1
   split at h1
   ·split at h1
    ·cases h1
    split at h1
    ·cases h1
    split at h1
    ·cases h1
    split at h1
    ·cases h1
    split at h1
    ·cases h1
    split at h1 <;> cases h1
   cases h1
  omega
 rw [if_neg bD,if_neg bD];simp only;rw [if_neg bS,show x.2-1+1=x.2 by omega]
theorem IE {s:U} {i:Nat} (h:i<s.length) (bD:(aC (s.drop i)).2=0):Utf8.decode ⟨⟨s.drop i⟩⟩ 0=(65533,1):=by
 have:=wL (s:=s.drop i) (p:=0) (by rw [List.length_drop];omega) (by simpa using bD);exact this
theorem tQ {s:U} {i:Nat} (h:i<s.length) (bD:(aC (s.drop i)).2≠0):Utf8.decode ⟨⟨s.drop i⟩⟩ 0=aC (s.drop i):=by
 have:=vA (s:=s.drop i) (p:=0) (by rw [List.length_drop];omega) (by simpa using bD);simpa using this
theorem nu {s:U} {i:Nat} {c:UInt8} (h:s[i]? = some c) (a6:c.toNat<128):aC (s.drop i)=(c.toNat,1):=by
 rw [fq h];exact fG a6
theorem zd {s:U} {i:Nat} {c:UInt8} (h:s[i]? = some c) (bD:(aC (s.drop i)).2≠0) (bM:(aC (s.drop i)).1<128):(aC (s.drop i)).1=c.toNat:=by
 have bS:s.drop i≠[]:=by rw [fq h];simp
 obtain⟨x,ab,Vb⟩:=kH bS bD bM;rw [← Vb];have:x=c:=by
  rw [fq h] at ab;cases bW:(aC (c::s.drop (i+1))).2 with
  | zero=>rw [bW] at ab;simp at ab
  | succ m=>rw [bW,List.take_succ_cons] at ab;injection ab with ab;exact ab.symm
 rw [this]
theorem IF {s:U} {i:Nat} (h:i<s.length) (bD:(aC (s.drop i)).2≠0) (a6:(aC (s.drop i)).1=65533):¬ (aC (s.drop i)).2<2:=by
 have bS:=gT h;have:=oS bS bD;have bM:=congrArg List.length this;rw [a6,show(hQ 65533).length=3 by decide,List.length_take] at bM;omega
theorem uS {s:U} {v:Int} (h:Lib.atoiAll s = .ok v) : -9223372036854775808≤v∧v≤9223372036854775807:=by
 unfold Lib.atoiAll at h
 split at h
 ·cases h
 simp only at h
 split at h
 ·cases h
 ·cases h
 split at h
 ·cases h
 split at h
 ·cases h
 rename_i h1 aj
 injection h with h
 subst h
 split
 ·rename_i Me;simp only [Me,true_and] at aj;omega
 rename_i Me;simp only [Me,not_false_eq_true,true_and] at h1;omega
theorem Vn {s:U} {a:Nat} (ax:a=if av s 0 [45] then 1 else 0):Lib.trimPrefix s [45]=s.drop a:=by
 unfold Lib.trimPrefix Lib.hasPrefix;unfold av at ax;rw [List.drop_zero] at ax;rw [ax]
 split <;> simp
theorem IG {s:U} {a:Nat} (ax:a=if av s 0 [45] then 1 else 0):a≤s.length:=by
 rw [ax]
 split
 ·rename_i h;exact cg h (by simp)
 omega
section
variable {w:U} {a e aV bs:Nat}
theorem uT (ax:a=if av w 0 [45] then 1 else 0) (he:e=ag a' w a) (h:e=a∨(a+1<e∧w[a]? = some 48)):(fH w).1=false:=by
 subst he;subst ax;unfold fH;simp only;rw [if_pos h]
theorem uU (ax:a=if av w 0 [45] then 1 else 0) (he:e=ag a' w a) (h:¬ (e=a∨(a+1<e∧w[a]? = some 48))) (hm:av w e [46]=true) (hk:ag a' w (e+1)=e+1):(fH w).1=false:=by
 subst he;subst ax;unfold fH;simp only;rw [if_neg h,if_pos ⟨hm,hk⟩]
theorem cx (ax:a=if av w 0 [45] then 1 else 0) (he:e=ag a' w a) (h:¬ (e=a∨(a+1<e∧w[a]? = some 48))) (aj:¬ (av w e [46]=true∧ag a' w (e+1)=e+1)) (oU:aV=if av w e [46] then ag a' w (e+1)else e) (ed:(av w aV [101]||av w aV [69])=false):(fH w).1=decide (aV=w.length):=by
 subst oU;subst he;subst ax;unfold fH;simp only;rw [if_neg h,if_neg aj,if_neg (by rw [ed];simp)]
theorem dE (ax:a=if av w 0 [45] then 1 else 0) (he:e=ag a' w a) (h:¬ (e=a∨(a+1<e∧w[a]? = some 48))) (aj:¬ (av w e [46]=true∧ag a' w (e+1)=e+1)) (oU:aV=if av w e [46] then ag a' w (e+1)else e) (ed:(av w aV [101]||av w aV [69])=true) (eN:bs=if av w (aV+1) [43]||av w (aV+1) [45] then aV+2 else aV+1) (hk:ag a' w bs=bs):(fH w).1=false:=by
 subst eN;subst oU;subst he;subst ax;unfold fH;simp only;rw [if_neg h,if_neg aj,if_pos ed,if_pos hk]
theorem cy (ax:a=if av w 0 [45] then 1 else 0) (he:e=ag a' w a) (h:¬ (e=a∨(a+1<e∧w[a]? = some 48))) (aj:¬ (av w e [46]=true∧ag a' w (e+1)=e+1)) (oU:aV=if av w e [46] then ag a' w (e+1)else e) (ed:(av w aV [101]||av w aV [69])=true) (eN:bs=if av w (aV+1) [43]||av w (aV+1) [45] then aV+2 else aV+1) (hk:¬ ag a' w bs=bs):(fH w).1=decide (ag a' w bs=w.length):=by
 subst eN;subst oU;subst he;subst ax;unfold fH;simp only;rw [if_neg h,if_neg aj,if_pos ed,if_neg hk]
end
theorem drop_nil {s:U} {k:Nat} (hk:k≤s.length):s.drop k = []↔k=s.length:=by
 rw [List.drop_eq_nil_iff];omega
theorem ba {s:U} {k:Nat} {c d:UInt8} (h:s[k]? = some d):av s k [c]=decide (d=c):=by
 rw [EY,h];simp
theorem wN (c:Nat):(hQ c).length≤4:=IH c
end Go.Proofs.YtnihidkbkhcfoaaGreatDoor.V
