/-
  A part of the proof: the reading of JSON texts, as the document tells it, in plain Lean; the reading of JSON texts: it goes on, it ends; and the same with a stack; regions that draw and end with two operations in either order: one operation that all these wait for, some that touch no memory, then the two; maps with texts as keys: what a block that is one holds, and the operations on it; a map made, written, counted; its entries one by one; a reader in memory: its place, its stack of lists and maps under way; a reader in memory: a map's frame on top; a frame more; a number's text, read; steps of the reading: digits of base 16, escapes, blanks, words of numbers; steps of the reading: runes that are no ASCII, escapes by parts, texts between quotes by rounds. No condition of its own.
-/
import Derived.Test.YtnihidkbkhcfoaaGreatDoorM2
import Derived.Test.YtnihidkbkhcfoaaGreatDoorM5
import Derived.Maps.RangeRun
import Derived.Lib.AtoiAll
import Derived.Test.YtnihidkbkhcfoaaGreatDoorM3
import Derived.Lib.SlTrimSet
set_option linter.unusedVariables false
set_option linter.unusedSimpArgs false
namespace Go.Proofs.YtnihidkbkhcfoaaGreatDoor.V
open Go
def aX (c:UInt8):Bool:=c == 32||c == 9||c == 10||c == 13
def bA (c:UInt8):Bool:=decide (48≤c.toNat)&&decide (c.toNat≤57)
def eK (c:UInt8):Bool:=bA c||c == 43||c == 45||c == 46||c == 101||c == 69
def aj (p:UInt8→Bool) (s:aa) (k:Nat):Nat:=k+((s.drop k).takeWhile p).length
theorem gk {s:aa} {k:Nat} {c:UInt8} (h:s[k]? = some c):s.drop k=c::s.drop (k+1):=by
 obtain⟨hk,e⟩:=List.getElem?_eq_some_iff.1 h;rw [List.drop_eq_getElem_cons hk,e]
theorem wc {p:UInt8→Bool} {s:aa} {k:Nat} {c:UInt8} (h:s[k]? = some c) (cp:p c=true):aj p s (k+1)=aj p s k:=by
 unfold aj;rw [gk h,List.takeWhile_cons,if_pos cp];simp only [List.length_cons];omega
theorem lq {p:UInt8→Bool} {s:aa} {k:Nat} {c:UInt8} (h:s[k]? = some c) (cp:p c=false):aj p s k=k:=by
 unfold aj;rw [gk h,List.takeWhile_cons,if_neg (by simp [cp])];rfl
theorem k2 {p:UInt8→Bool} {s:aa} {k:Nat} (h:s.length≤k):aj p s k=k:=by
 unfold aj;rw [List.drop_eq_nil_of_le h];rfl
theorem cd (p:UInt8→Bool) (s:aa) (k:Nat):k≤aj p s k:=Nat.le_add_right _ _
theorem Lg (p:UInt8→Bool):∀ l:aa,(l.takeWhile p).length≤l.length
 | []=>Nat.le_refl _
 | c::r=>by
  rw [List.takeWhile_cons]
  split
  ·have:=Lg p r
   simp only [List.length_cons]
   omega
  simp
theorem cy {p:UInt8→Bool} {s:aa} {k:Nat} (h:k≤s.length):aj p s k≤s.length:=by
 unfold aj;have:=Lg p (s.drop k);rw [List.length_drop] at this;omega
def aC (s:aa) (k:Nat) (t:aa):Bool:=t.isPrefixOf (s.drop k)
theorem B6 {s t:aa} {k:Nat}:aC s k t=true↔(s.drop k).take t.length=t:=by
 rw [aC,List.isPrefixOf_iff_prefix,List.prefix_iff_eq_take];exact eq_comm
theorem c6 {s t:aa} {k:Nat} (h:aC s k t=true) (cf:t≠[]):k+t.length≤s.length:=by
 have:=congrArg List.length (B6.1 h);rw [List.length_take,List.length_drop] at this;have:0<t.length:=List.length_pos_iff.2 cf;omega
theorem gl {s:aa} {k:Nat} {c:UInt8}:aC s k [c]=true↔s[k]? = some c:=by
 rw [aC];cases h:s[k]? with
 | none=>
  rw [List.drop_eq_nil_of_le (by simpa using h)];simp
 | some d=>
  rw [gk h];simp [List.isPrefixOf];exact eq_comm
theorem IP {s:aa} {k:Nat} {c:UInt8}:aC s k [c]=decide (s[k]? = some c):=by
 rw [Bool.eq_iff_iff,gl,decide_eq_true_eq]
def gH (w:aa):Bool×Bool:=
 let a:=if aC w 0 [45] then 1 else 0
 let e:=aj bA w a
 if e=a∨(a+1<e∧w[a]? = some 48)then (false,false)
 else
  let m:=aC w e [46]
  let k:=aj bA w (e+1)
  if m=true∧k=e+1 then (false,false)
  else
   let bk:=if m then k else e
   if aC w bk [101]||aC w bk [69] then
    let b2:=if aC w (bk+1) [43]||aC w (bk+1) [45] then bk+2 else bk+1
    let j9:=aj bA w b2
    if j9=b2 then (false,false)else (decide (j9=w.length),true)
   else (decide (bk=w.length),m)
noncomputable def uP (w:aa):Option Int:=
 open Classical in if h:∃ n:Int,-9007199254740991≤n∧n≤9007199254740991∧Lib.itoa n=w then some h.choose else none
noncomputable def h6 (w:aa):Except Int Int:=
 if (gH w).1=false then .error 4
 else match uP w with
  | none=>.error 7
  | some n=>.ok n
noncomputable def iM (s:aa) (k:Nat):Except Int (JV×Nat):=
 (h6 ((s.drop k).take (aj eK s k-k))).bind fun n=>.ok (JV.hp n,aj eK s k)
def kH (c:UInt8):Option Nat:=
 if 48≤c.toNat∧c.toNat≤57 then some (c.toNat-48)
 else if 97≤c.toNat∧c.toNat≤102 then some (c.toNat-87)
 else if 65≤c.toNat∧c.toNat≤70 then some (c.toNat-55)
 else none
def eL:Nat→aa→Nat→Option Nat
 | 0,_,n=>some n
 | _+1,[],_=>none
 | f+1,c::r,n=>match kH c with
  | none=>none
  | some d=>eL f r (16*n+d)
def r2 (c:UInt8):Option Nat:=
 if c=34 then some 34 else if c=92 then some 92 else if c=47 then some 47 else if c=98 then some 8 else if c=102 then some 12 else if c=110 then some 10 else if c=114 then some 13 else if c=116 then some 9 else none
def nH (l:aa):Option Nat:=
 match l with
 | 92::117::r=>eL 4 r 0
 | _=>none
def lH (l:aa):Nat×Nat:=
 match l with
 | _::c::_=>
  match r2 c with
  | some d=>(d,2)
  | none=>
   match nH l with
   | none=>(0,0)
   | some n=>
    if 56320≤n∧n≤57343 then (0,0)
    else if n<55296∨57343<n then (n,6)
    else match nH (l.drop 6)with
     | none=>(0,0)
     | some m=>if m<56320∨57343<m then (0,0)else (65536+1024*(n-55296)+(m-56320),12)
 | _=>(0,0)
def fT:Nat→aa→Nat→aa→Option (aa×Nat)
 | 0,_,_,_=>none
 | _+1,[],_,_=>none
 | f+1,c::r,i,out=>
  if c=34 then some (out,i+1)
  else
   let x:=if c=92 then lH (c::r)else aJ (c::r)
   if x.2=0∨(c≠92∧x.1<32)then none
   else fT f ((c::r).drop x.2) (i+x.2) (out++jf x.1)
def fc (s:aa) (k:Nat):Option (aa×Nat):=if s[k]? = some 34 then fT (s.length-k) (s.drop (k+1)) (k+1) [] else none
abbrev Bs:=Except Int (JV×Nat)
def jY (s:aa) (k:Nat) (m:List (aa×JV)):Except Int (aa×Nat):=
 match fc s (aj aX s k)with
 | none=>.error 4
 | some (t,dZ)=>
  if (look m t).isSome then .error 6
  else if aC s (aj aX s dZ) [58] then .ok (t,aj aX s dZ+1)else .error 4
mutual
noncomputable def kI:Nat→aa→Nat→Nat→Option Bs
 | 0,_,_,_=>none
 | f+1,s,rn,deep=>
  let k:=aj aX s rn
  if aC s k JV.jV then some (.ok (JV.gQ,k+4))
  else if aC s k JV.iT then some (.ok (.mk 1 true 0 [] [] [],k+4))
  else if aC s k JV.gF then some (.ok (.mk 1 false 0 [] [] [],k+5))
  else if aC s k [34] then
   match fc s k with
   | none=>some (.error 4)
   | some (t,dZ)=>some (.ok (JV.aP t,dZ))
  else if aC s k [91]||aC s k [123] then
   if deep=32 then some (.error 5)
   else
    let dZ:=aj aX s (k+1)
    if aC s k [91] then
     if aC s dZ [93] then some (.ok (JV.cX [],dZ+1))else qM f s dZ (deep+1) []
    else
     if aC s dZ [125] then some (.ok (JV.obj [],dZ+1))else qN f s dZ (deep+1) []
  else some (iM s k)
noncomputable def qM:Nat→aa→Nat→Nat→List JV→Option Bs
 | 0,_,_,_,_=>none
 | f+1,s,k,deep,acc=>
  match kI f s k deep with
  | none=>none
  | some (.error e)=>some (.error e)
  | some (.ok (x,dZ))=>
   let j9:=aj aX s dZ
   if aC s j9 [93] then some (.ok (JV.cX (acc ++ [x]),j9+1))
   else if aC s j9 [44] then qM f s (j9+1) deep (acc ++ [x])
   else some (.error 4)
noncomputable def qN:Nat→aa→Nat→Nat→List (aa×JV)→Option Bs
 | 0,_,_,_,_=>none
 | f+1,s,k,deep,m=>
  match jY s k m with
  | .error e=>some (.error e)
  | .ok (t,dZ)=>
   match kI f s dZ deep with
   | none=>none
   | some (.error e)=>some (.error e)
   | some (.ok (x,j9))=>
    let vS:=aj aX s j9
    if aC s vS [125] then some (.ok (JV.obj (dC m t x),vS+1))
    else if aC s vS [44] then qN f s (vS+1) deep (dC m t x)
    else some (.error 4)
end
theorem Qy {s:aa} {k:Nat} {m:List (aa×JV)} {t:aa} {dZ:Nat} (h:jY s k m = .ok (t,dZ)):∃ j9,fc s (aj aX s k)=some (t,j9)∧(look m t).isSome=false∧aC s (aj aX s j9) [58]=true∧dZ=aj aX s j9+1:=by
 unfold jY at h
 split at h
 ·cases h
 rename_i t' j9 aq
 split at h
 ·cases h
 rename_i aU
 split at h
 ·rename_i bM
  injection h with h
  injection h with cL eW
  subst cL;exact⟨j9,aq,by simpa using aU,bM,eW.symm⟩
 cases h
theorem xg:∀ (f:Nat) (l:aa) (i:Nat) (out t:aa) (k:Nat),fT f l i out=some (t,k)→i<k∧k≤i+l.length
 | 0,_,_,_,_,_,h=>by simp [fT] at h
 | _+1,[],_,_,_,_,h=>by simp [fT] at h
 | f+1,c::r,i,out,t,k,h=>by
  rw [fT] at h
  split at h
  ·injection h with h
   injection h with _ h
   subst h
   simp
  dsimp only at h
  generalize (if c=92 then lH (c::r)else aJ (c::r))=x at h
  split at h
  ·cases h
  rename_i ae
  have dK:=xg f _ _ _ _ _ h
  rw [List.length_drop] at dK
  by_cases Xa:x.2≤(c::r).length
  ·omega
  rw [List.drop_eq_nil_of_le (by omega)] at h
  cases f <;> simp [fT] at h
theorem py {s:aa} {k:Nat} {t:aa} {dZ:Nat} (h:fc s k=some (t,dZ)):k+1<dZ∧dZ≤s.length∧s[k]? = some 34:=by
 unfold fc at h
 split at h
 ·rename_i b3
  have hk:=(List.getElem?_eq_some_iff.1 b3).1;have:=xg _ _ _ _ _ _ h;rw [List.length_drop] at this;exact⟨this.1,by omega,b3⟩
 cases h
theorem pz {s:aa} {k:Nat} {m:List (aa×JV)} {t:aa} {dZ:Nat} (h:jY s k m = .ok (t,dZ)):k<dZ∧dZ≤s.length:=by
 obtain⟨j9,h1,_,aU,rfl⟩:=Qy h;obtain⟨bM,cL,_⟩:=py h1;have:=c6 aU (by simp);have:=cd aX s k;have:=cd aX s j9;simp only [List.length_singleton] at *;omega
theorem FZ:(gH []).1=false:=by rfl
theorem xh {s:aa} {k:Nat} {v:JV} {dZ:Nat} (h:iM s k = .ok (v,dZ)) (hk:k≤s.length):k<dZ∧dZ≤s.length:=by
 unfold iM at h;cases h1:h6 ((s.drop k).take (aj eK s k-k))with
 | error e=>rw [h1] at h;cases h
 | ok n=>
  rw [h1] at h;injection h with h
  injection h with _ h
  subst h;refine⟨?_,cy hk⟩;have:=cd eK s k;rcases Nat.lt_or_ge k (aj eK s k)with h | h
  ·exact h
  rw [show aj eK s k-k=0 by omega,List.take_zero] at h1;unfold h6 at h1;rw [if_pos FZ] at h1;cases h1
theorem B7 (s:aa):∀ f:Nat,(∀ k deep x dZ,k≤s.length→kI f s k deep=some (.ok (x,dZ))→k<dZ∧dZ≤s.length)∧
  (∀ k deep acc x dZ,k≤s.length→qM f s k deep acc=some (.ok (x,dZ))→k<dZ∧dZ≤s.length)∧
  (∀ k deep m x dZ,k≤s.length→qN f s k deep m=some (.ok (x,dZ))→k<dZ∧dZ≤s.length)
 | 0=>⟨fun _ _ _ _ _ h=>by simp [kI] at h,fun _ _ _ _ _ _ h=>by simp [qM] at h,fun _ _ _ _ _ _ h=>by simp [qN] at h⟩
 | f+1=>by
  obtain⟨tM,za,zb⟩:=B7 s f
  refine⟨fun rn deep x dZ hk h=>?_,fun k deep acc x dZ hk h=>?_,fun k deep m x dZ hk h=>?_⟩
  ·rw [kI] at h
   have dA:=cd aX s rn
   generalize Qz:aj aX s rn=k at h dA
   have ab9:k≤s.length:=by rw [← Qz];exact cy hk
   dsimp only at h
   split at h
   ·rename_i h1
    have:=c6 h1 (by decide)
    injection h with h;injection h with h;injection h with _ h
    simp only [List.length_cons,List.length_nil] at this
    omega
   split at h
   ·rename_i h1
    have:=c6 h1 (by decide)
    injection h with h;injection h with h;injection h with _ h
    simp only [List.length_cons,List.length_nil] at this
    omega
   split at h
   ·rename_i h1
    have:=c6 h1 (by decide)
    injection h with h;injection h with h;injection h with _ h
    simp only [List.length_cons,List.length_nil] at this
    omega
   split at h
   ·split at h
    ·cases h
    rename_i bf
    injection h with h;injection h with h;injection h with _ h
    have:=py bf
    omega
   split at h
   rotate_left
   ·injection h with h
    have:=xh h ab9
    omega
   rename_i aS
   have mV:k+1≤s.length:=by
    rcases Bool.or_eq_true_iff.1 aS with aS | aS <;> exact c6 aS (by decide)
   split at h
   ·cases h
   split at h
   ·split at h
    ·rename_i h1
     have:=c6 h1 (by decide)
     have:=cd aX s (k+1)
     injection h with h;injection h with h;injection h with _ h
     simp only [List.length_cons,List.length_nil] at *
     omega
    have:=za _ _ _ _ _ (cy mV) h
    have:=cd aX s (k+1)
    omega
   split at h
   ·rename_i h1
    have:=c6 h1 (by decide)
    have:=cd aX s (k+1)
    injection h with h;injection h with h;injection h with _ h
    simp only [List.length_cons,List.length_nil] at *
    omega
   have:=zb _ _ _ _ _ (cy mV) h
   have:=cd aX s (k+1)
   omega
  ·rw [qM] at h
   split at h
   ·cases h
   ·cases h
   rename_i y j9 h1
   obtain⟨aq,aU⟩:=tM _ _ _ _ hk h1
   have:=cd aX s j9
   dsimp only at h
   split at h
   ·rename_i bM
    have:=c6 bM (by decide)
    injection h with h;injection h with h;injection h with _ h
    simp only [List.length_cons,List.length_nil] at *
    omega
   split at h
   ·rename_i bM
    have cL:=c6 bM (by decide)
    have:=za _ _ _ _ _ cL h
    simp only [List.length_cons,List.length_nil] at *
    omega
   cases h
  rw [qN] at h
  split at h
  ·cases h
  rename_i t j9 F0
  obtain⟨cL,eW⟩:=pz F0
  split at h
  ·cases h
  ·cases h
  rename_i y vS h1
  obtain⟨aq,aU⟩:=tM _ _ _ _ eW h1
  have:=cd aX s vS
  dsimp only at h
  split at h
  ·rename_i bM
   have:=c6 bM (by decide)
   injection h with h;injection h with h;injection h with _ h
   simp only [List.length_cons,List.length_nil] at *
   omega
  split at h
  ·rename_i bM
   have cL:=c6 bM (by decide)
   have:=zb _ _ _ _ _ cL h
   simp only [List.length_cons,List.length_nil] at *
   omega
  cases h
theorem B8 (s:aa):∀ f:Nat,(∀ k deep,k≤s.length→2*(s.length-k)+2≤f→kI f s k deep≠none)∧
  (∀ k deep acc,k≤s.length→2*(s.length-k)+3≤f→qM f s k deep acc≠none)∧
  (∀ k deep m,k≤s.length→2*(s.length-k)+3≤f→qN f s k deep m≠none)
 | 0=>⟨fun _ _ _ h=>by omega,fun _ _ _ _ h=>by omega,fun _ _ _ _ h=>by omega⟩
 | f+1=>by
  obtain⟨tM,za,zb⟩:=B8 s f
  obtain⟨apb,_,_⟩:=B7 s f
  refine⟨fun rn deep hk dI=>?_,fun k deep acc hk dI=>?_,fun k deep m hk dI=>?_⟩
  ·rw [kI]
   have dA:=cd aX s rn
   have ab9:aj aX s rn≤s.length:=cy hk
   generalize aj aX s rn=k at dA ab9
   dsimp only
   split;· simp
   split;· simp
   split;· simp
   split;· split <;> simp
   split
   ·rename_i aS
    have mV:k+1≤s.length:=by
     rcases Bool.or_eq_true_iff.1 aS with aS | aS <;> exact c6 aS (by decide)
    have:=cd aX s (k+1)
    split;· simp
    split
    ·split;· simp
     exact za _ _ _ (cy mV) (by omega)
    split;· simp
    exact zb _ _ _ (cy mV) (by omega)
   simp
  ·rw [qM]
   have pk:=tM k deep hk (by omega)
   split
   ·rename_i h;exact absurd h pk
   ·simp
   rename_i y j9 h1
   obtain⟨aq,aU⟩:=apb _ _ _ _ hk h1
   have:=cd aX s j9
   dsimp only
   split;· simp
   split
   ·rename_i bM
    have cL:=c6 bM (by decide)
    simp only [List.length_cons,List.length_nil] at cL
    exact za _ _ _ cL (by omega)
   simp
  rw [qN]
  split
  ·simp
  rename_i t j9 F0
  obtain⟨cL,eW⟩:=pz F0
  have pk:=tM j9 deep eW (by omega)
  split
  ·rename_i h;exact absurd h pk
  ·simp
  rename_i y vS h1
  obtain⟨aq,aU⟩:=apb _ _ _ _ eW h1
  have:=cd aX s vS
  dsimp only
  split;· simp
  split
  ·rename_i bM
   have cL:=c6 bM (by decide)
   simp only [List.length_cons,List.length_nil] at cL
   exact zb _ _ _ cL (by omega)
  simp
def ek (acc:List (aa×JV)):List (aa×JV):=acc.foldl (fun m p=>dC m p.1 p.2) []
theorem mW (acc:List (aa×JV)) (p:aa×JV):ek (acc ++ [p])=dC (ek acc) p.1 p.2:=by simp [ek,List.foldl_append]
inductive lV where
 | L (l:List JV)
 | M (m:List (aa×JV)) (key:aa)
 | A (m:List (aa×JV)) (key:aa)
noncomputable def mX (s:aa) (rn n:Nat):Except Int (Sum (JV×Nat) (lV×Nat)):=
 let k:=aj aX s rn
 if aC s k JV.jV then .ok (.inl (JV.gQ,k+4))
 else if aC s k JV.iT then .ok (.inl (.mk 1 true 0 [] [] [],k+4))
 else if aC s k JV.gF then .ok (.inl (.mk 1 false 0 [] [] [],k+5))
 else if aC s k [34] then
  match fc s k with
  | none=>.error 4
  | some (t,dZ)=>.ok (.inl (JV.aP t,dZ))
 else if aC s k [91]||aC s k [123] then
  if n=32 then .error 5
  else
   let dZ:=aj aX s (k+1)
   if aC s k [91] then
    if aC s dZ [93] then .ok (.inl (JV.cX [],dZ+1))else .ok (.inr (.L [],dZ))
   else
    if aC s dZ [125] then .ok (.inl (JV.obj [],dZ+1))
    else match jY s dZ [] with
     | .error e=>.error e
     | .ok (t,j9)=>.ok (.inr (.M [] t,j9))
 else match iM s k with
  | .error e=>.error e
  | .ok x=>.ok (.inl x)
inductive hV (s:aa):Option JV→Nat→List lV→Bs→Prop where
 | err {k:Nat} {st:List lV} {e:Int}:mX s k st.length = .error e→hV s none k st (.error e)
 | whole {k dZ:Nat} {st:List lV} {v:JV} {r:Bs}:mX s k st.length = .ok (.inl (v,dZ))→hV s (some v) dZ st r→hV s none k st r
 | push {k dZ:Nat} {st:List lV} {x:lV} {r:Bs}:mX s k st.length = .ok (.inr (x,dZ))→hV s none dZ (x::st) r→hV s none k st r
 | done {k:Nat} {v:JV}:hV s (some v) k [] (.ok (v,k))
 | Lh {k:Nat} {v:JV} {acc:List JV} {st:List lV} {r:Bs}:aC s (aj aX s k) [93]=true→hV s (some (JV.cX (acc ++ [v]))) (aj aX s k+1) st r→hV s (some v) k (.L acc::st) r
 | zc {k:Nat} {v:JV} {acc:List JV} {st:List lV} {r:Bs}:aC s (aj aX s k) [93]=false→aC s (aj aX s k) [44]=true→hV s none (aj aX s k+1) (.L (acc ++ [v])::st) r→hV s (some v) k (.L acc::st) r
 | Li {k:Nat} {v:JV} {acc:List JV} {st:List lV}:aC s (aj aX s k) [93]=false→aC s (aj aX s k) [44]=false→hV s (some v) k (.L acc::st) (.error 4)
 | F1 {k:Nat} {v:JV} {acc:List (aa×JV)} {t:aa} {st:List lV} {r:Bs}:aC s (aj aX s k) [125]=true→hV s (some (JV.obj (ek (acc ++ [(t,v)])))) (aj aX s k+1) st r→hV s (some v) k (.M acc t::st) r
 | we {k iC:Nat} {v:JV} {acc:List (aa×JV)} {t t':aa} {st:List lV} {r:Bs}:aC s (aj aX s k) [125]=false→aC s (aj aX s k) [44]=true→jY s (aj aX s k+1) (ek (acc ++ [(t,v)])) = .ok (t',iC)→hV s none iC (.M (acc ++ [(t,v)]) t'::st) r→hV s (some v) k (.M acc t::st) r
 | F2 {k:Nat} {v:JV} {acc:List (aa×JV)} {t:aa} {st:List lV} {e:Int}:aC s (aj aX s k) [125]=false→aC s (aj aX s k) [44]=true→jY s (aj aX s k+1) (ek (acc ++ [(t,v)])) = .error e→hV s (some v) k (.M acc t::st) (.error e)
 | F3 {k:Nat} {v:JV} {acc:List (aa×JV)} {t:aa} {st:List lV}:aC s (aj aX s k) [125]=false→aC s (aj aX s k) [44]=false→hV s (some v) k (.M acc t::st) (.error 4)
def QA (s:aa) (k:Nat) (alb st:List lV) (r:Bs):Prop:=(∀ e,r = .error e→hV s none k st (.error e))∧∀ v dZ,r = .ok (v,dZ)→∀ asp,hV s (some v) dZ alb asp→hV s none k st asp
theorem agT (s:aa):∀ f:Nat,(∀ k deep r,kI f s k deep=some r→∀ st,st.length=deep→QA s k st st r)∧
  (∀ k deep acc r,qM f s k deep acc=some r→∀ st,st.length+1=deep→QA s k st (.L acc::st) r)∧
  (∀ k deep acc r,qN f s k deep (ek acc)=some r→∀ st,st.length+1=deep→(∀ e,jY s k (ek acc) = .error e→r = .error e)∧∀ t dZ,jY s k (ek acc) = .ok (t,dZ)→QA s dZ st (.M acc t::st) r)
 | 0=>⟨fun _ _ _ h=>by simp [kI] at h,fun _ _ _ _ h=>by simp [qM] at h,fun _ _ _ _ h=>by simp [qN] at h⟩
 | f+1=>by
  obtain⟨tM,za,zb⟩:=agT s f
  refine⟨fun rn deep r h st hJ=>?_,fun k deep acc r h st hJ=>?_,fun k deep acc r h st hJ=>?_⟩
  ·subst hJ
   have eh:=Eq.refl (mX s rn st.length)
   conv at eh=>rhs;unfold mX
   rw [kI] at h
   generalize aj aX s rn=k at h eh
   dsimp only at h eh
   have lit:∀ v dZ,mX s rn st.length = .ok (.inl (v,dZ))→r = .ok (v,dZ)→QA s rn st st r:=fun v dZ aS bq=>
    ⟨fun e he=>(by rw [bq] at he;cases he),fun v' iC he asp iQ=>by
     rw [bq] at he
     injection he with he
     injection he with h1 aq
     subst h1;subst aq
     exact .whole aS iQ⟩
   have bad:∀ e,mX s rn st.length = .error e→r = .error e→QA s rn st st r:=fun e aS bq=>
    ⟨fun xe he=>by
     rw [bq] at he
     injection he with he
     subst he
     exact .err aS,fun v' iC he asp iQ=>by rw [bq] at he;cases he⟩
   split at h
   ·rename_i c1
    rw [if_pos c1] at eh
    injection h with h
    exact lit _ _ eh h.symm
   rename_i c1
   rw [if_neg c1] at eh
   split at h
   ·rename_i c2
    rw [if_pos c2] at eh
    injection h with h
    exact lit _ _ eh h.symm
   rename_i c2
   rw [if_neg c2] at eh
   split at h
   ·rename_i c3
    rw [if_pos c3] at eh
    injection h with h
    exact lit _ _ eh h.symm
   rename_i c3
   rw [if_neg c3] at eh
   split at h
   ·rename_i c4
    rw [if_pos c4] at eh
    split at h
    ·rename_i bf
     rw [bf] at eh
     injection h with h
     exact bad _ eh h.symm
    rename_i t dZ bf
    rw [bf] at eh
    injection h with h
    exact lit _ _ eh h.symm
   rename_i c4
   rw [if_neg c4] at eh
   split at h
   rotate_left
   ·rename_i c5
    rw [if_neg c5] at eh
    injection h with h
    cases ck:iM s k with
    | error e=>rw [ck] at eh h;exact bad _ eh h.symm
    | ok x=>obtain⟨v,dZ⟩:=x;rw [ck] at eh h;exact lit _ _ eh h.symm
   rename_i c5
   rw [if_pos c5] at eh
   split at h
   ·rename_i agF
    rw [if_pos agF] at eh
    injection h with h
    exact bad _ eh h.symm
   rename_i agF
   rw [if_neg agF] at eh
   split at h
   ·rename_i alc
    rw [if_pos alc] at eh
    split at h
    ·rename_i Xb
     rw [if_pos Xb] at eh
     injection h with h
     exact lit _ _ eh h.symm
    rename_i Xb
    rw [if_neg Xb] at eh
    obtain⟨h1,aq⟩:=za _ _ _ _ h st rfl
    exact⟨fun e he=>.push eh (h1 e he),fun v dZ he asp iQ=>.push eh (aq v dZ he asp iQ)⟩
   rename_i alc
   rw [if_neg alc] at eh
   split at h
   ·rename_i Xb
    rw [if_pos Xb] at eh
    injection h with h
    exact lit _ _ eh h.symm
   rename_i Xb
   rw [if_neg Xb] at eh
   obtain⟨b3,h1⟩:=zb _ _ [] _ h st rfl
   cases hk:jY s (aj aX s (k+1)) [] with
   | error e=>
    rw [hk] at eh
    exact bad _ eh (b3 e hk)
   | ok p=>
    obtain⟨t,j9⟩:=p
    rw [hk] at eh
    obtain⟨aq,aU⟩:=h1 t j9 hk
    exact⟨fun e he=>.push eh (aq e he),fun v dZ he asp iQ=>.push eh (aU v dZ he asp iQ)⟩
  ·rw [qM] at h
   split at h
   ·cases h
   ·rename_i e bK
    injection h with h
    subst h
    obtain⟨h1,_⟩:=tM _ _ _ bK (.L acc::st) (by simpa using hJ)
    exact⟨fun xe he=>by injection he with he;subst he;exact h1 _ rfl,fun v dZ he=>by cases he⟩
   rename_i y j9 bK
   obtain⟨_,aq⟩:=tM _ _ _ bK (.L acc::st) (by simpa using hJ)
   have aq:=aq y j9 rfl
   dsimp only at h
   split at h
   ·rename_i c1
    injection h with h
    subst h
    exact⟨fun e he=>(by cases he),fun v dZ he asp iQ=>by
     injection he with he
     injection he with bk b2
     subst bk;subst b2
     exact aq asp (.Lh c1 iQ)⟩
   rename_i c1
   split at h
   ·rename_i c2
    obtain⟨aU,bM⟩:=za _ _ _ _ h st hJ
    exact⟨fun e he=>aq _ (.zc (by simpa using c1) c2 (aU e he)),fun v dZ he asp iQ=>aq _ (.zc (by simpa using c1) c2 (bM v dZ he asp iQ))⟩
   rename_i c2
   injection h with h
   subst h
   exact⟨fun e he=>by injection he with he;subst he;exact aq _ (.Li (by simpa using c1) (by simpa using c2)),fun v dZ he=>by cases he⟩
  rw [qN] at h
  refine⟨fun e he=>?_,fun t dZ hk=>?_⟩
  ·rw [he] at h
   injection h with h
   exact h.symm
  rw [hk] at h
  dsimp only at h
  split at h
  ·cases h
  ·rename_i e bK
   injection h with h
   subst h
   obtain⟨h1,_⟩:=tM _ _ _ bK (.M acc t::st) (by simpa using hJ)
   exact⟨fun xe he=>by injection he with he;subst he;exact h1 _ rfl,fun v dZ he=>by cases he⟩
  rename_i y j9 bK
  obtain⟨_,aq⟩:=tM _ _ _ bK (.M acc t::st) (by simpa using hJ)
  have aq:=aq y j9 rfl
  split at h
  ·rename_i c1
   injection h with h
   subst h
   exact⟨fun e he=>(by cases he),fun v dZ he asp iQ=>by
    injection he with he
    injection he with bk b2
    subst bk;subst b2
    refine aq asp (.F1 c1 ?_)
    rw [mW]
    exact iQ⟩
  rename_i c1
  split at h
  ·rename_i c2
   have bf:dC (ek acc) t y=ek (acc ++ [(t,y)]):=(mW acc (t,y)).symm
   rw [bf] at h
   obtain⟨aU,bM⟩:=zb _ _ _ _ h st hJ
   cases bE:jY s (aj aX s j9+1) (ek (acc ++ [(t,y)]))with
   | error e=>
    have:=aU e bE
    subst this
    exact⟨fun xe he=>by injection he with he;subst he;exact aq _ (.F2 (by simpa using c1) c2 bE),fun v dZ he=>by cases he⟩
   | ok p=>
    obtain⟨t',iC⟩:=p
    obtain⟨cL,eW⟩:=bM t' iC bE
    exact⟨fun e he=>aq _ (.we (by simpa using c1) c2 bE (cL e he)),fun v dZ he asp iQ=>aq _ (.we (by simpa using c1) c2 bE (eW v dZ he asp iQ))⟩
  rename_i c2
  injection h with h
  subst h
  exact⟨fun e he=>by injection he with he;subst he;exact aq _ (.F3 (by simpa using c1) (by simpa using c2)),fun v dZ he=>by cases he⟩
noncomputable def IQ (s:aa):Bs:=(kI (2*s.length+2) s 0 0).getD (.error 0)
theorem Lj (s:aa):kI (2*s.length+2) s 0 0=some (IQ s):=by
 unfold IQ;have:=(B8 s (2*s.length+2)).1 0 0 (by omega) (by omega);cases h:kI (2*s.length+2) s 0 0 with
 | none=>exact absurd h this
 | some r=>rfl
theorem QB (s:aa):hV s none 0 [] (IQ s):=by
 obtain⟨h1,aq⟩:=(agT s _).1 _ _ _ (Lj s) [] rfl;cases h:IQ s with
 | error e=>exact h1 e h
 | ok p=>exact aq p.1 p.2 (by rw [h]) _ .done
noncomputable def parse (s:aa):Except Int JV:=
 if 65536<s.length then .error 3
 else match IQ s with
  | .error e=>.error e
  | .ok (v,k)=>if aj aX s k<s.length then .error 4 else .ok v
section
variable {P:Program} {ops:Array Oper} {md:Region.Mode} {asp:World→World→Prop} {C:World→Prop} {n:Nat} {ds:List Deferred} {Q:Exit→Act→World→Prop} {w w':World} {l:List (Nat×Value)} {a:Act}
def Ab (P:Program) (ops:Array Oper) (n:Nat) (ds:List Deferred) (Q:Exit→Act→World→Prop) (rM:List Nat) (x y:Nat):Exit→Act→World→Prop
 | .normal,a,w=>∃ l,Has n ds l a∧Yb P n (fun l=>ga P ops Q (pick ops [x,y]) n ds l w∧ga P ops Q (pick ops [y,x]) n ds l w) (pick ops rM) l
 | e,a,w=>Q e a w
theorem Rw {rM:List Nat} {x y:Nat} (h:Yb P n (fun l=>ga P ops Q (pick ops [x,y]) n ds l w∧ga P ops Q (pick ops [y,x]) n ds l w) (pick ops rM) l):ga P ops (Ab P ops n ds Q rM x y) [] n ds l w:=fun a ay=>⟨l,ay,h⟩
theorem N7 {rM:List Nat} {x y i:Nat} {K:Act→World→Prop} (h:∀ a w,Ab P ops n ds Q rM x y .normal a w→K a w) (iq:wpOp P ops (Ab P ops n ds Q rM x y) i (Ab P ops n ds Q rM x y .normal) a w):wpOp P ops Q i K a w:=by
 have aaY:LetsOut (Ab P ops n ds Q rM x y)→LetsOut Q:=fun⟨a,w,h⟩=>⟨a,w,h⟩;unfold wpOp at *
 split
 ·exact h _ _ (by simpa [*] using iq)
 rename_i o eo
 simp only [eo] at iq
 split
 rotate_left
 ·rename_i hw
  simp only [hw,if_false] at iq;exact h _ _ iq
 rename_i hw
 simp only [hw,if_true] at iq;refine iq.imp (fun h1=>?_) (fun h1=>⟨h1.1,aaY h1.2⟩);unfold Oper.wp at *;generalize (execOp a.eval o).run P w=r at *;cases r with
 | ok n w'=>
  cases n with
  | value v=>exact h _ _ h1
  | skip=>exact h _ _ h1
  | defer d=>exact h _ _ h1
  | enter f args=>
   refine Calls.mono h1 fun e cN he=>?_;cases e with
   | returned v=>exact h _ _ he
   | panicked c=>exact he
   | outgrown=>exact aaY he
  | row aq8 args=>exact Rows.mono h1 fun v cN bK=>h _ _ bK
  | _=>exact h1
 | halt s w'=>
  cases s with
  | panic v=>exact h1
  | _=>exact h1
def GX (ops:Array Oper) (t0:Nat) (rM:List Nat) (x y:Nat) (listed:Array Bool):Bool:=
 decide (Region.ready .any ops listed = [t0])&&wL .any ops rM (listed.setIfInBounds t0 true) &&
 decide (Region.ready .any ops (lM (listed.setIfInBounds t0 true) rM) = [x,y]) &&
 qt .any ops [y] ((lM (listed.setIfInBounds t0 true) rM).setIfInBounds x true)&&qt .any ops [x] ((lM (listed.setIfInBounds t0 true) rM).setIfInBounds y true)
theorem pY {i:Nat} {o:Oper} {rest:List Oper} (eo:ops[i]? = some o) (h:wpList P ops Q (o::rest) a w):wpOp P ops Q i (wpList P ops Q rest) a w:=by
 unfold wpOp;simp only [eo];exact h
theorem JJ {x y:Nat} {O5:Array Bool} (h1:Region.ready .any ops O5 = [x,y]) (aq:qt .any ops [y] (O5.setIfInBounds x true)=true) (aU:qt .any ops [x] (O5.setIfInBounds y true)=true)
  (ae:wpList P ops Q (pick ops [x,y]) a w) (aY:wpList P ops Q (pick ops [y,x]) a w):wpAny P .any ops Q 2 O5 a w:=by
 have amu:x∈Region.ready .any ops O5:=by rw [h1];simp
 have amv:y∈Region.ready .any ops O5:=by rw [h1];simp
 obtain⟨_,aq9,aic,_⟩:=mem_ready.1 amu
 obtain⟨_,aq',aid,_⟩:=mem_ready.1 amv
 refine⟨fun h=>(by rw [h1] at h;cases h),fun i hi=>?_⟩
 rw [h1] at hi
 rcases List.mem_cons.1 hi with rfl | hi
 ·have cp:pick ops [i,y]=aq9::pick ops [y]:=by simp [pick,List.filterMap_cons,aic]
  rw [cp] at ae
  exact wpOp_mono (fun a w h=>lN [y] _ a w aq h) (pY aic ae)
 obtain rfl:i=y:=by simpa using hi
 have cp:pick ops [i,x]=aq'::pick ops [x]:=by simp [pick,List.filterMap_cons,aid]
 rw [cp] at aY
 exact wpOp_mono (fun a w h=>lN [x] _ a w aU h) (pY aid aY)
theorem Ac (CE:∀ c a w,¬ Q (.panic c) a w) (ti:∀ (j:Nat) (o:Oper) cs b,ops[j]? = some o→o.op≠.select cs b) {t0 x y:Nat} {rM:List Nat} {listed:Array Bool} (eh:GX ops t0 rM x y listed=true)
  (h:wpList P ops (Ab P ops n ds Q rM x y) (pick ops [t0]) a w):wpAny P .any ops Q (rM.length+2+1) listed a w:=by
 unfold GX at eh
 simp only [Bool.and_eq_true,decide_eq_true_eq] at eh
 obtain⟨⟨⟨⟨dn,eJ⟩,lx⟩,EU⟩,amw⟩:=eh
 have bq:t0∈Region.ready .any ops listed:=by rw [dn];simp
 obtain⟨_,o,eo,_⟩:=mem_ready.1 bq
 have cp:pick ops [t0] = [o]:=by simp [pick,eo]
 rw [cp] at h
 refine⟨fun h=>(by rw [dn] at h;cases h),fun i hi=>?_⟩
 rw [dn] at hi
 obtain rfl:i=t0:=by simpa using hi
 refine N7 (fun ye w' he=>?_) (pY eo h)
 obtain⟨l',wJ,Yd⟩:=he
 exact pH (n:=n) (ds:=ds) CE ti rM _ l' ye wJ eJ Yd fun O5 a2 GV hk=>JJ lx EU amw (hk.1 a2 GV) (hk.2 a2 GV)
def Ad (md:Region.Mode) (ops:Array Oper) (B:Array Bool→Bool):List Nat→Array Bool→Bool
 | [],listed=>B listed
 | i::bf,listed=>(Region.ready md ops listed).contains i&&Region.free md ops listed i&&Ad md ops B bf (listed.setIfInBounds i true)
theorem Ae {B:Array Bool→Bool} {s0 gV:List Nat} {Fin:kf→Prop} (aS:∀ listed,B listed=true→∀ j∈Region.ready md ops listed,j∈gV) (hw:∀ listed,qu md ops s0 gV listed→(∃ i∈s0,listed.getD i true=false)→∀ t∈gV,t∉Region.ready md ops listed) :
  ∀ (bf:List Nat) (listed:Array Bool) (N:kf),(∀ i∈bf,i∈s0)→(∀ i∈bf,i∉gV)→qu md ops s0 gV listed→
  Ad md ops B bf listed=true→TW P ops asp C n Fin (pick ops bf) N→
  CC P md ops asp C n gV (fun nd aaP=>B nd=true∧Fin aaP) bf.length listed N
 | [],listed,N,_,_,_,eh,h=>⟨by simpa [Ad] using eh,h⟩
 | i::bf,listed,N,j0,Jw,inv,eh,h=>by
  simp only [Ad,Bool.and_eq_true] at eh
  obtain⟨⟨bq,dI⟩,Ej⟩:=eh
  have oK:i∈Region.ready md ops listed:=by simpa using bq
  obtain⟨k9,o,eo,_⟩:=mem_ready.1 oK
  have cp:pick ops (i::bf)=o::pick ops bf:=by simp [pick,List.filterMap_cons,eo]
  rw [cp] at h
  obtain⟨V,rG,ha⟩:=h
  exact xy eo (Jw i (by simp)) (fun listed inv hu=>hw listed inv ⟨i,j0 i (by simp),hu⟩) (fun nd aaP pc=>aS _ pc.1) bf.length listed N inv (Region.free_spec eo dI) oK rG
   (Ae aS hw bf _ _ (fun i hi=>j0 i (by simp [hi])) (fun i hi=>Jw i (by simp [hi])) (inv.set oK (Jw i (by simp))) Ej ha)
def St (ops:Array Oper) (ia bf:List Nat) (t0:Nat) (rM:List Nat) (x y:Nat):Bool:=
 Region.noSelect ops&&decide (ia.length+(bf.length+(rM.length+2+1))=ops.size)&&wL .any ops ia (Array.replicate ops.size false) &&
 GR .any ops (lM (Array.replicate ops.size false) ia)&&(t0::(rM ++ [x,y])).all (fun t=>!(lM (Array.replicate ops.size false) ia).getD t true) &&
 bf.all (fun i=>!(t0::(rM ++ [x,y])).contains i)&&z1 .any ops t0 bf&&(rM ++ [x,y]).all (fun t=>Region.waitsFor .any ops t t0)&&Ad .any ops (GX ops t0 rM x y) bf (lM (Array.replicate ops.size false) ia)
theorem Gn {id:Nat} {lo:List Oper} (ia bf:List Nat) (t0:Nat) (rM:List Nat) (x y:Nat) (hm:P.follows .mixedOrders=true) (eh:St lo.toArray ia bf t0 rM x y=true) (CE:∀ c a w,¬ Q (.panic c) a w)
  (h:Yb P n (fun l=>gw P lo.toArray w n (fun N=>∀ a w',a.defers=ds→Mod [] w w'→N.all n a w'→wpList P lo.toArray (Ab P lo.toArray n ds Q rM x y) (pick lo.toArray [t0]) a w') (pick lo.toArray bf) l []) (pick lo.toArray ia) l):p3 P (.region id lo.toArray true) Q n ds l w:=by
 intro a ay
 unfold St at eh
 simp only [Bool.and_eq_true,decide_eq_true_eq] at eh
 obtain⟨⟨⟨⟨⟨⟨⟨⟨ti,hlen⟩,cp⟩,lE⟩,Bf⟩,adu⟩,Jx⟩,adv⟩,GU⟩:=eh
 refine wp_region_any hm ?_
 rw [← hlen]
 have im:(lM (Array.replicate lo.toArray.size false) ia).size=lo.toArray.size:=by rw [ue];simp
 have Sk:∀ t∈t0::(rM ++ [x,y]),(lM (Array.replicate lo.toArray.size false) ia).getD t true=false:=fun t cf=>by
  have:=List.all_eq_true.1 Bf t cf
  simpa using this
 have GN:qu .any lo.toArray bf (t0::(rM ++ [x,y])) (lM (Array.replicate lo.toArray.size false) ia):=by
  refine⟨im,fun j sP d' cg e he aS=>?_,Sk⟩
  have h1:=List.all_eq_true.1 lE j (List.mem_range.2 (Array.getElem?_eq_some_iff.1 d').1)
  rw [cg,d'] at h1
  simp only [Bool.not_true,Bool.false_or,Array.all_eq_true_iff_forall_mem] at h1
  have aq:=h1 e he
  rw [aS] at aq
  simpa using aq
 have hw:∀ listed,qu .any lo.toArray bf (t0::(rM ++ [x,y])) listed→(∃ i∈bf,listed.getD i true=false)→∀ t∈t0::(rM ++ [x,y]),t∉Region.ready .any lo.toArray listed:=by
  rintro listed inv ⟨i,hi,k9⟩ t cf
  rcases List.mem_cons.1 cf with rfl | DY
  ·exact pG inv.size inv.closed bf Jx i hi k9
  intro bq
  obtain⟨_,ah2,Si,kp⟩:=mem_ready.1 bq
  obtain⟨vd,Sb,e,he,aS,N1⟩:=Region.waitsFor_spec (List.all_eq_true.1 adv t DY)
  have:vd=ah2:=Option.some.inj (Sb.symm.trans Si)
  subst this
  have aq:=kp e he aS
  rw [N1,getD_both (inv.tail t0 (by simp))] at aq
  cases aq
 have Jy:(Array.replicate (ia.length+(bf.length+(rM.length+2+1))) false)=Array.replicate lo.toArray.size false:=by rw [hlen]
 rw [Jy]
 refine pH (n:=n) (ds:=ds) CE (Region.noSelect_spec ti) ia _ l a ay cp h fun l a ay jG=>?_
 have Bv:∀ listed,GX lo.toArray t0 rM x y listed=true→∀ j∈Region.ready .any lo.toArray listed,j∈t0::(rM ++ [x,y]):=fun listed aS j d'=>by
  unfold GX at aS
  simp only [Bool.and_eq_true,decide_eq_true_eq] at aS
  rw [aS.1.1.1.1] at d'
  simp only [List.mem_singleton] at d'
  rw [d']
  simp
 have H:=Ae (md:=.any) Bv hw bf _ (rH l []) (fun i hi=>hi) (fun i hi=>by
  have:=List.all_eq_true.1 adu i hi
  simpa using this) GN GU jG
 exact sh (n:=n) (ds:=ds) (w0:=w) (Q:=Q) (g:=rM.length+2+1) (later w) (fun listed N a w' _ bY h4 _ h7 pc=>Ac (n:=n) (ds:=ds) CE (Region.noSelect_spec ti) pc.1 (pc.2 a w' bY h4 h7)) _ _ (rH l []) a _ (sQ l) ay.defers (Mod.drew [] w) (Mod.drew [] w) (yf ay) H
end
def vl (es:Array MapEntry):List (Value×Value):=es.toList.map fun e=>(e.key,e.val)
def rows (m:List (aa×Value)):List (Value×Value):=m.map fun p=>(S p.1,p.2)
structure jZ (w:World) (b:Nat) (m:List (aa×Value)):Prop where
 at_:∃ es clock,w.heap[b]? = some (.map es clock)∧vl es=rows m∧(∀ e∈es.toList,e.born<clock)∧(es.toList.map (·.born)).Nodup
 keys:(m.map (·.1)).Nodup
variable {P:Program} {w w':World} {b:Nat} {m:List (aa×Value)} {k:aa} {M:List Nat}
theorem jZ.lt (h:jZ w b m):b<w.heap.size:=by
 obtain⟨es,c,h1,_⟩:=h.at_;exact(Array.getElem?_eq_some_iff.1 h1).1
theorem jZ.mod (h:jZ w b m) (k:Mod M w w') (aS:b∉M):jZ w' b m:=by
 have bJ:=h.lt;obtain⟨es,c,h1,aq⟩:=h.at_;exact⟨⟨es,c,(k.block b bJ aS).trans h1,aq⟩,h.keys⟩
theorem jZ.I (h:jZ w b m) (k:Mod [] w w'):jZ w' b m:=h.mod k (by simp)
theorem LP (k l:aa):((⟨⟨k⟩⟩:ByteArray) == ⟨⟨l⟩⟩)=decide (k=l):=by
 by_cases h:k=l
 ·subst h;rw [decide_eq_true rfl];exact(MapKept.bytes_beq _ _).2 rfl
 rw [decide_eq_false h];cases aS:((⟨⟨k⟩⟩:ByteArray) == ⟨⟨l⟩⟩)with
 | false=>rfl
 | true=>
  have:=(MapKept.bytes_beq _ _).1 aS;injection this with this
  injection this with this
  exact absurd this h
theorem z6 (k l:aa):Instr.sameNow .string (S k) (S l)=some (decide (k=l)):=by
 unfold S;simp only [Instr.sameNow,LP]
theorem BD {l:List MapEntry} {m:List (aa×Value)} (h:l.map (fun e=>(e.key,e.val))=rows m) (k:aa) (i:Nat) :
  ∃ j,Instr.findNow .string (S k) l i=some ((look m k).map fun v=>(j,v))∧(∀ v,look m k=some v→i≤j∧∃ p,m[j-i]? = some p∧p.1=k∧p.2=v∧∀ q,q<j-i→∀ NO,m[q]? = some NO→NO.1≠k):=by
 induction l generalizing m i with
 | nil=>
  cases m with
  | nil=>exact⟨0,rfl,fun v bK=>by simp [look] at bK⟩
  | cons p r=>simp [rows] at h
 | cons e r dK=>
  cases m with
  | nil=>simp [rows] at h
  | cons p s=>
   simp only [rows,List.map_cons,List.cons.injEq,Prod.mk.injEq] at h
   obtain⟨⟨h1,aq⟩,aU⟩:=h
   rw [Instr.findNow,h1]
   by_cases cp:p.1=k
   ·refine⟨i,?_,fun v bK=>?_⟩
    ·have:Instr.sameNow .string (S k) (S p.1)=some true:=by rw [z6,decide_eq_true cp.symm]
     rw [this]
     simp only [look,if_pos cp,Option.map_some]
     rw [aq]
    simp only [look,if_pos cp,Option.some.injEq] at bK
    exact⟨Nat.le_refl _,p,by simp,cp,bK,fun q e5=>by omega⟩
   have:Instr.sameNow .string (S k) (S p.1)=some false:=by rw [z6,decide_eq_false (fun e=>cp e.symm)]
   rw [this]
   obtain⟨j,bM,cL⟩:=dK (m:=s) (by simpa [rows] using aU) (i+1)
   refine⟨j,?_,fun v bK=>?_⟩
   ·simp only [bM,look,if_neg cp]
   simp only [look,if_neg cp] at bK
   obtain⟨eW,NO,kz,kq,k0,kb⟩:=cL v bK
   refine⟨by omega,NO,?_,kq,k0,fun q e5 IX adD=>?_⟩
   ·rw [show j-i=(j-(i+1))+1 by omega]
    simpa using kz
   cases q with
   | zero=>simp at adD;subst adD;exact cp
   | succ q=>exact kb q (by omega) IX (by simpa using adD)
section
variable {ops:Array Oper} {Q:Exit→Act→World→Prop} {n:Nat} {ds:List Deferred} {l:List (Nat×Value)} {rest:List Oper} {d:Nat} {ty:TypeId} {pos:String} {af:Array Edge} {dd:Option Nat} {gg:Option (Nat×Bool)} {x y:Operand} {t Sq aaX:TypeId} {z v:Value}
def ah9 (w:World) (u:Value) (m:List (aa×Value)):Prop:=(u = .map none∧m = [])∨∃ b,u = .map (some b)∧jZ w b m
theorem oU (hk:P.underlying Sq=some .string) (e:Bool) (k:aa):(Instr.checkKey e 10000 Sq (S k)).run P w = .ok () w:=by
 unfold Instr.checkKey;simp [underlying,hk,S]
theorem run_findKey (hk:P.underlying Sq=some .string) {l:List MapEntry} {m:List (aa×Value)} (h:l.map (fun e=>(e.key,e.val))=rows m) (k:aa) :
  ∃ j,(Instr.findKey Sq (S k) l).run P w = .ok ((look m k).map fun v=>(j,v)) w∧(∀ v,look m k=some v→∃ p,m[j]? = some p∧p.1=k∧p.2=v∧∀ q,q<j→∀ NO,m[q]? = some NO→NO.1≠k):=by
 obtain⟨j,h1,aq⟩:=BD h k 0
 refine⟨j,?_,fun v bK=>?_⟩
 ·unfold Instr.findKey
  simp [underlying,hk,h1]
 obtain⟨_,p,aU,bM,cL,eW⟩:=aq v bK
 exact⟨p,aU,bM,cL,eW⟩
theorem CH (dk:(P.info? aaX).bind (·.zero)=some z) (w:World):(zeroValue aaX).run P w = .ok z w:=by
 obtain⟨i,aq,aU⟩:=Option.bind_eq_some_iff.1 dk;simp [zeroValue,typeInfo,aq,aU]
theorem ahk (cf:P.underlying t=some (.map Sq aaX)) (hk:P.underlying Sq=some .string) (Sl:(P.info? aaX).bind (·.zero)=some z) (ae:a6 l x=some v) (hm:ah9 w v m) (aY:a6 l y=some (S k)) :
  bG P l ⟨dd,.lookup t x y false,ty,pos,af,gg⟩ w ((look m k).getD z) w:=fun ρ h=>by
 have dk:=CH Sl
 rcases hm with⟨rfl,rfl⟩ | ⟨b,rfl,hm⟩
 ·simp [execOp,h _ _ ae,h _ _ aY,Instr.lookup,underlying,cf,oU hk,Instr.findKey,hk,Instr.findNow,dk,look]
 obtain⟨es,c,h1,aq,_⟩:=hm.at_
 obtain⟨j,aU,bM⟩:=run_findKey (P:=P) (w:=w) hk aq k
 cases cg:look m k with
 | none=>simp [execOp,h _ _ ae,h _ _ aY,Instr.lookup,underlying,cf,getObj,Sem.run,Result.andThen,h1,oU hk,aU,cg,dk]
 | some u=>simp [execOp,h _ _ ae,h _ _ aY,Instr.lookup,underlying,cf,getObj,Sem.run,Result.andThen,h1,oU hk,aU,cg]
def uU {β:Type} (m:List (aa×β)) (k:aa) (v:β):List (aa×β):=if (look m k).isSome then m.map (fun p=>if p.1=k then (p.1,v)else p)else m ++ [(k,v)]
theorem z7 {β:Type} {m:List (aa×β)} {k:aa} {v:β} (h:(m.map (·.1)).Nodup):((uU m k v).map (·.1)).Nodup:=by
 unfold uU
 split
 ·have:(m.map fun p=>if p.1=k then (p.1,v)else p).map (·.1)=m.map (·.1):=by
   rw [List.map_map];apply List.map_congr_left;intro p _;simp only [Function.comp]
   split <;> rfl
  rw [this];exact h
 rename_i ck
 rw [List.map_append,List.nodup_append];refine⟨h,by simp,fun a ay b aS=>?_⟩;simp only [List.map_cons,List.map_nil,List.mem_singleton] at aS;subst aS;intro e;subst e;obtain⟨p,cp,amr⟩:=List.mem_map.1 ay;have cg:look m a=none:=by simpa using ck
 exact tZ cg p cp amr
end
end Go.Proofs.YtnihidkbkhcfoaaGreatDoor.V
namespace Go.Proofs.YtnihidkbkhcfoaaGreatDoor.V
open Go
open Go.ChangeMaps (setBlock)
section
variable {P:Program} {w w':World} {b:Nat} {m:List (aa×Value)} {k:aa} {M:List Nat}
variable {ops:Array Oper} {Q:Exit→Act→World→Prop} {n:Nat} {ds:List Deferred} {l:List (Nat×Value)} {rest:List Oper} {d:Nat} {ty:TypeId} {pos:String} {af:Array Edge} {dd:Option Nat} {gg:Option (Nat×Bool)} {x y z:Operand} {t Sq aaX:TypeId} {v:Value}
theorem jZ.nil (w:World):jZ (w.alloc (.map #[] 0)) w.heap.size []:=
 ⟨⟨#[],0,heap_alloc_new w _,rfl,by simp,by simp⟩,by simp⟩
theorem XL (bY:Nat.blt d n=true) (h:∀ b w',jZ w' b []→b=w.heap.size→Mod [] w w'→ga P ops Q rest n ds ((d,.map (some b))::l) w'):ga P ops Q (⟨some d,.makeMap t none,ty,pos,af,none⟩::rest) n ds l w:=
 fP (v:=.map (some w.heap.size)) (w':=w.alloc (.map #[] 0)) (fun ρ fg=>by simp [execOp,Instr.makeMap,newObj,Sem.run,Result.andThen]) bY (h _ _ (jZ.nil w) rfl (Mod.alloc w _))
theorem vm {o vd:Obj} {g:Nat} (dA:w.heap[g]? = some o):(setBlock w g vd).heap[g]? = some vd:=by
 have bJ:=(Array.getElem?_eq_some_iff.1 dA).1;simp [setBlock,Array.getElem?_setIfInBounds,bJ]
theorem tn {o vd:Obj} {g:Nat} (dA:w.heap[g]? = some o):Mod [g] w (setBlock w g vd):=by
 refine⟨rfl,rfl,rfl,by simp [setBlock],fun i hi ck=>?_⟩;have:i≠g:=fun e=>ck (by simp [e]);simp [setBlock,Array.getElem?_setIfInBounds,Ne.symm this]
theorem run_set {vd:Obj} {g:Nat} {es:Array MapEntry} {c:Nat} (dA:w.heap[g]? = some (.map es c)):(setObj g vd).run P w = .ok () (setBlock w g vd):=by
 simp [setObj,Sem.run,dA,setBlock]
theorem JH {es:Array MapEntry} {e:MapEntry}:vl (es.push e)=vl es ++ [(e.key,e.val)]:=by simp [vl]
theorem Ep {es:Array MapEntry} {j:Nat} {p:aa×Value} (h:vl es=rows m) (hk:(m.map (·.1)).Nodup) (d':m[j]? = some p) (cp:p.1=k):vl (es.modify j fun e=>{e with key:=S k,val:=v})=rows (m.map fun q=>if q.1=k then (q.1,v)else q):=by
 unfold vl rows at h ⊢;apply List.ext_getElem?;intro i;have hi:=congrArg (fun z=>z[i]?) h;simp only [List.getElem?_map] at hi;simp only [List.getElem?_map,Array.getElem?_toList,Array.getElem?_modify] at hi ⊢
 by_cases xC:j=i
 ·subst xC;rw [if_pos rfl];rw [d'] at hi ⊢;cases he:es[j]? with
  | none=>rw [he] at hi;simp at hi
  | some e=>simp [cp]
 rw [if_neg xC];cases e5:m[i]? with
 | none=>rw [e5] at hi;simp at hi ⊢;exact hi
 | some q=>
  rw [e5] at hi;have b1:¬ q.1=k:=fun e=>by
   have h1:=(List.getElem?_eq_some_iff.1 d');have aq:=(List.getElem?_eq_some_iff.1 e5);obtain⟨ah',Rs⟩:=h1;obtain⟨aia,aib⟩:=aq;have Yd:=List.pairwise_iff_getElem.1 hk;rcases Nat.lt_or_gt_of_ne xC with bJ | bJ
   ·exact Yd j i (by simpa using ah') (by simpa using aia) bJ (by simp [Rs,aib,cp,e])
   exact Yd i j (by simpa using aia) (by simpa using ah') bJ (by simp [Rs,aib,cp,e])
  rw [hi];simp [b1]
theorem vn {es:Array MapEntry} {j:Nat} {f:MapEntry→MapEntry} (dI:∀ e,(f e).born=e.born):(es.modify j f).toList.map (·.born)=es.toList.map (·.born):=by
 apply List.ext_getElem?;intro i;simp only [List.getElem?_map,Array.getElem?_toList,Array.getElem?_modify]
 split
 ·cases es[i]? <;> simp [dI]
 rfl
theorem Xv (cf:P.underlying t=some (.map Sq aaX)) (hk:P.underlying Sq=some .string) (ae:a6 l x=some (.map (some b))) (hm:jZ w b m) (aY:a6 l y=some (S k)) (dk:a6 l z=some v)
  (h:∀ w',jZ w' b (uU m k v)→Mod [b] w w'→ga P ops Q rest n ds l w'):ga P ops Q (⟨none,.mapUpdate t x y z,ty,pos,af,none⟩::rest) n ds l w:=by
 obtain⟨es,c,h1,aq,aU,bM⟩:=hm.at_
 obtain⟨j,cL,eW⟩:=run_findKey (P:=P) (w:=w) hk aq k
 cases cg:look m k with
 | none=>
  rw [cg] at cL
  have eh:jZ (setBlock w b (.map (es.push {key:=S k,val:=v,born:=c}) (c+1))) b (uU m k v):=by
   refine⟨⟨_,_,vm h1,?_,fun e he=>?_,?_⟩,z7 hm.keys⟩
   ·rw [JH,aq]
    unfold uU
    rw [cg]
    simp [rows]
   ·simp only [Array.toList_push,List.mem_append,List.mem_singleton] at he
    rcases he with he | rfl
    ·have:=aU e he;omega
    exact Nat.lt_succ_self _
   simp only [Array.toList_push,List.map_append,List.map_cons,List.map_nil,List.nodup_append]
   refine⟨bM,by simp,fun a ay q e5=>?_⟩
   simp only [List.mem_singleton] at e5
   subst e5
   obtain⟨e,he,rfl⟩:=List.mem_map.1 ay
   have:=aU e he
   omega
  intro a ay
  refine wpList_plain rfl fun K p5=>?_
  have bq:(execOp a.eval ⟨none,.mapUpdate t x y z,ty,pos,af,none⟩).run P w = .ok .skip (setBlock w b (.map (es.push {key:=S k,val:=v,born:=c}) (c+1))):=by
   simp [execOp,ay.rD ae,ay.rD aY,ay.rD dk,Instr.mapUpdate,underlying,cf,getObj,Sem.run,Result.andThen,h1,oU hk,cL,run_set h1]
  simp only [Oper.wp,bq,Oper.upon]
  exact p5 _ _ (h _ eh (tn h1) _ (by simpa [Act.put] using ay))
 | some u=>
  rw [cg] at cL
  obtain⟨p,kz,kq,k0,kb⟩:=eW u cg
  have eh:jZ (setBlock w b (.map (es.modify j fun e=>{e with key:=S k,val:=v}) c)) b (uU m k v):=by
   refine⟨⟨_,_,vm h1,?_,fun e he=>?_,?_⟩,z7 hm.keys⟩
   ·rw [Ep aq hm.keys kz kq]
    unfold uU
    rw [cg]
    rfl
   ·have aS:=vn (es:=es) (j:=j) (f:=fun e=>{e with key:=S k,val:=v}) (fun _=>rfl)
    have:e.born∈es.toList.map (·.born):=by rw [← aS];exact List.mem_map_of_mem he
    obtain⟨xe,ams,alP⟩:=List.mem_map.1 this
    have:=aU xe ams
    omega
   rw [vn (f:=fun e=>{e with key:=S k,val:=v}) (fun _=>rfl)]
   exact bM
  have F0:((es[j]?).map (·.key)).getD (S k)=S k:=by
   have hi:=congrArg (fun z=>z[j]?) aq
   simp only [vl,rows,List.getElem?_map,kz,Array.getElem?_toList] at hi
   cases he:es[j]? with
   | none=>rfl
   | some e=>
    rw [he] at hi
    simp only [Option.map_some,Option.some.injEq,Prod.mk.injEq] at hi
    simp [hi.1,kq]
  have adE:(Instr.keyThatStays (S k) (S k)).run P w = .ok (S k) w:=by
   have:Instr.sameBits 10000 (S k) (S k)=true:=by
    unfold S
    simp only [Instr.sameBits,LP]
    simp
   simp [Instr.keyThatStays,this]
  intro a ay
  refine wpList_plain rfl fun K p5=>?_
  have bq:(execOp a.eval ⟨none,.mapUpdate t x y z,ty,pos,af,none⟩).run P w = .ok .skip (setBlock w b (.map (es.modify j fun e=>{e with key:=S k,val:=v}) c)):=by
   simp [execOp,ay.rD ae,ay.rD aY,ay.rD dk,Instr.mapUpdate,underlying,cf,getObj,Sem.run,Result.andThen,h1,oU hk,cL,F0,adE,run_set h1]
  simp only [Oper.wp,bq,Oper.upon]
  exact p5 _ _ (h _ eh (tn h1) _ (by simpa [Act.put] using ay))
end
end Go.Proofs.YtnihidkbkhcfoaaGreatDoor.V
namespace Go.Proofs.YtnihidkbkhcfoaaGreatDoor.V
open Go
structure aaz where
 rd:Nat
 any:Nat
 pi:Nat
 pm:Nat
 it:Nat
 mt:Nat
 v:Nat
 ajV:Nat
 z:List Nat
def M7 (T:TypeId) (M:List Nat) (w:World) {α:Type} (r:Except Int α) (Q:α→Value→World→Prop):Ending→World→Prop
 | .returned u,w'=>∃ a,r = .ok a∧Q a u w'∧Mod M w w'
 | .panicked c,w'=>∃ e,r = .error e∧e≠0∧c=Cf T e∧Mod M w w'
 | .outgrown,_=>False
def nv (K:List aa):List (aa×Value):=K.map fun k=>(k,.bool true)
theorem tP (k:aa):∀ K:List aa,look (nv K) k=if k∈K then some (.bool true)else none
 | []=>rfl
 | x::K=>by
  show(if x=k then some (Value.bool true)else look (nv K) k)=_
  rw [tP k K]
  by_cases h:x=k
  ·rw [if_pos h,if_pos (by simp [h])]
  rw [if_neg h]
  by_cases aq:k∈K
  ·rw [if_pos aq,if_pos (by simp [aq])]
  rw [if_neg aq,if_neg (by simp [aq];exact fun e=>h e.symm)]
theorem M8 {K:List aa} {k:aa} (h:k∉K):uU (nv K) k (.bool true)=nv (K ++ [k]):=by
 unfold uU;rw [tP,if_neg h];simp [nv]
theorem IY (k:aa):∀ acc:List (aa×JV),(look (ek acc) k).isSome=decide (k∈acc.map (·.1)):=by
 intro acc;rw [← List.reverse_reverse acc];generalize acc.reverse=l
 induction l with
 | nil=>rfl
 | cons p l dK=>
  rw [List.reverse_cons,mW,Cg]
  by_cases h:k=p.1
  ·rw [if_pos h];simp [h]
  rw [if_neg h,dK];rw [Bool.eq_iff_iff,decide_eq_true_eq,decide_eq_true_eq];simp only [List.map_append,List.mem_append,List.map_cons,List.map_nil,List.mem_singleton,h,or_false]
structure ajW (T:aaz) (A:List Nat) (w:World) (g:Nat) (acc:List JV) (ew:Value):Prop where
 az:aF w g T.it [ew]
 own:∃ vs,Own w T.v 6 ew acc.length vs∧ao A w (acc.map JV.D).flatten vs
 Vn:g∉a1 ew
structure ace (T:aaz) (A:List Nat) (w:World) (g b:Nat) (acc:List (aa×JV)) (K:List aa) (t:aa) (ew:Value):Prop where
 az:aF w g T.mt [ew,.map (some b),S t]
 map:jZ w b (nv K)
 own:∃ vs,Own w T.ajV 7 ew acc.length vs∧ao A w (acc.map JV.hP).flatten vs
 agX:g≠b
 Vn:g∉a1 ew
 agY:b∉a1 ew
section
variable {T:aaz} {A A' M:List Nat} {w0 w w':World} {g:Nat} {s:aa} {k:Nat}
theorem ajW.to {acc:List JV} {ew:Value} (H:ajW T A w g acc ew) (h:Mod M w w') (eY:∀ x∈M,x∈A) (hm:∀ x∈g::a1 ew,x∉M) (dF:∀ x∈A',x∈A∨w.heap.size≤x):ajW T A' w' g acc ew:=by
 obtain⟨vs,h1,aq⟩:=H.own;exact⟨H.az.mod h (hm g (by simp)),⟨vs,h1.mod h (fun x ae=>hm x (by simp [ae])),ao.to h eY dF _ _ aq⟩,H.Vn⟩
theorem ace.to {acc:List (aa×JV)} {K:List aa} {t:aa} {b:Nat} {ew:Value} (H:ace T A w g b acc K t ew) (h:Mod M w w') (eY:∀ x∈M,x∈A) (hm:∀ x∈g::b::a1 ew,x∉M) (dF:∀ x∈A',x∈A∨w.heap.size≤x):ace T A' w' g b acc K t ew:=by
 obtain⟨vs,h1,aq⟩:=H.own;exact⟨H.az.mod h (hm g (by simp)),H.map.mod h (hm b (by simp)),⟨vs,h1.mod h (fun x ae=>hm x (by simp [ae])),ao.to h eY dF _ _ aq⟩,H.agX,H.Vn,H.agY⟩
def xN (T:aaz) (A:List Nat) (w:World):lV→Value→List Nat→Prop
 | .L acc,c,m=>∃ g ew,c = .iface T.pi (.pointer (some ⟨g,0,none⟩))∧ajW T A w g acc ew∧m=g::a1 ew
 | .M acc t,c,m=>∃ g b ew,c = .iface T.pm (.pointer (some ⟨g,0,none⟩))∧ace T A w g b acc (acc.map (·.1) ++ [t]) t ew∧m=g::b::a1 ew
 | .A acc t,c,m=>∃ g b ew,c = .iface T.pm (.pointer (some ⟨g,0,none⟩))∧ace T A w g b acc (acc.map (·.1)) t ew∧m=g::b::a1 ew
theorem xN.to {fm:lV} {c:Value} {m:List Nat} (H:xN T A w fm c m) (h:Mod M w w') (eY:∀ x∈M,x∈A) (hm:∀ x∈m,x∉M) (dF:∀ x∈A',x∈A∨w.heap.size≤x):xN T A' w' fm c m:=by
 cases fm with
 | L acc=>obtain⟨g,ew,h1,aq,rfl⟩:=H;exact⟨g,ew,h1,aq.to h eY hm dF,rfl⟩
 | M acc t=>obtain⟨g,b,ew,h1,aq,rfl⟩:=H;exact⟨g,b,ew,h1,aq.to h eY hm dF,rfl⟩
 | A acc t=>obtain⟨g,b,ew,h1,aq,rfl⟩:=H;exact⟨g,b,ew,h1,aq.to h eY hm dF,rfl⟩
theorem xN.lt {fm:lV} {c:Value} {m:List Nat} (H:xN T A w fm c m):∀ x∈m,x<w.heap.size:=by
 cases fm with
 | L acc=>
  obtain⟨g,ew,_,aq,rfl⟩:=H;obtain⟨vs,aU,_⟩:=aq.own;intro x ae;rcases List.mem_cons.1 ae with rfl | ae
  ·exact aq.az.lt
  exact aU.lt x ae
 | M acc t=>
  obtain⟨g,b,ew,_,aq,rfl⟩:=H;obtain⟨vs,aU,_⟩:=aq.own;intro x ae;rcases List.mem_cons.1 ae with rfl | ae
  ·exact aq.az.lt
  rcases List.mem_cons.1 ae with rfl | ae
  ·exact aq.map.lt
  exact aU.lt x ae
 | A acc t=>
  obtain⟨g,b,ew,_,aq,rfl⟩:=H;obtain⟨vs,aU,_⟩:=aq.own;intro x ae;rcases List.mem_cons.1 ae with rfl | ae
  ·exact aq.az.lt
  rcases List.mem_cons.1 ae with rfl | ae
  ·exact aq.map.lt
  exact aU.lt x ae
def oL (T:aaz) (A:List Nat) (w:World):List lV→List Value→List Nat→Prop
 | [],cs,fp=>cs = []∧fp=T.z∧∀ x∈T.z,x<w.heap.size
 | fm::st,cs,fp=>∃ c cs' m h8,cs=c::cs'∧fp=m++h8∧xN T A w fm c m∧oL T A w st cs' h8∧∀ x∈m,x∉h8
theorem oL.to (h:Mod M w w') (eY:∀ x∈M,x∈A) (dF:∀ x∈A',x∈A∨w.heap.size≤x):∀ {st:List lV} {cs:List Value} {fp:List Nat},oL T A w st cs fp→(∀ x∈fp,x∉M)→oL T A' w' st cs fp
 | [],_,_,H,_=>⟨H.1,H.2.1,fun x ae=>Nat.lt_of_lt_of_le (H.2.2 x ae) h.size⟩
 | fm::st,_,_,H,hm=>by
  obtain⟨c,cs',m,h8,rfl,rfl,h1,aq,aU⟩:=H
  exact⟨c,cs',m,h8,rfl,rfl,h1.to h eY (fun x ae=>hm x (by simp [ae])) dF,aq.to h eY dF (fun x ae=>hm x (by simp [ae])),aU⟩
theorem oL.len:∀ {st:List lV} {cs:List Value} {fp:List Nat},oL T A w st cs fp→cs.length=st.length
 | [],_,_,H=>by rw [H.1];rfl
 | fm::st,_,_,H=>by
  obtain⟨c,cs',m,h8,rfl,rfl,h1,aq,aU⟩:=H
  simp [aq.len]
theorem oL.lt:∀ {st:List lV} {cs:List Value} {fp:List Nat},oL T A w st cs fp→∀ x∈fp,x<w.heap.size
 | [],_,_,H=>by rw [H.2.1];exact H.2.2
 | fm::st,_,_,H=>by
  obtain⟨c,cs',m,h8,rfl,rfl,h1,aq,aU⟩:=H
  intro x ae
  rcases List.mem_append.1 ae with ae | ae
  ·exact h1.lt x ae
  exact aq.lt x ae
theorem oL.z:∀ {st:List lV} {cs:List Value} {fp:List Nat},oL T A w st cs fp→∀ x∈T.z,x∈fp
 | [],_,_,H=>by rw [H.2.1];exact fun x ae=>ae
 | fm::st,_,_,H=>by
  obtain⟨c,cs',m,h8,rfl,rfl,h1,aq,aU⟩:=H
  exact fun x ae=>List.mem_append_right _ (aq.z x ae)
structure np (T:aaz) (w0 w:World) (g:Nat) (s:aa) (k:Nat) (st:List lV) (fP:Value) (cs:List Value) (fp:List Nat):Prop where
 rd:aF w g T.rd [S s,.int .i64 (k:Int),fP]
 own:Own w T.any 1 fP cs.length cs.reverse
 s5:oL T (g::(a1 fP++fp)) w st cs fp
 s6:g∉a1 fP++fp
 xk:∀ x∈a1 fP,x∉fp
 te:∀ x∈a1 fP++fp,w0.heap.size≤x
 mod:Mod [g] w0 w
structure me (w w':World) (g:Nat) (fP:Value) (fp:List Nat) (iE:Value) (h8:List Nat):Prop where
 mod:Mod (g::(a1 fP++fp)) w w'
 new:∀ x∈a1 iE++h8,x∈a1 fP++fp∨w.heap.size≤x
variable {st:List lV} {fP iE:Value} {cs cs':List Value} {fp h8:List Nat} {iC:Nat}
theorem np.init (B:aF w g T.rd [S s,.int .i64 (0:Int),.slice none 0 0]) (hm:Mod [g] w0 w) (dk:∀ x∈T.z,w0.heap.size≤x∧x<w.heap.size∧x≠g):np T w0 w g s 0 [] (.slice none 0 0) [] T.z:=
 ⟨B,Own.nil _ _ _,⟨rfl,rfl,fun x ae=>(dk x ae).2.1⟩,fun h=>(dk g (by simpa [a1] using h)).2.2 rfl,by simp [a1],fun x ae=>(dk x (by simpa [a1] using ae)).1,hm⟩
theorem np.len (H:np T w0 w g s k st fP cs fp):cs.length=st.length:=H.s5.len
theorem np.lt (H:np T w0 w g s k st fP cs fp):∀ x∈g::(a1 fP++fp),x<w.heap.size:=fun x ae=>by
 rcases List.mem_cons.1 ae with rfl | ae
 ·exact H.rd.lt
 rcases List.mem_append.1 ae with ae | ae
 ·exact H.own.lt x ae
 exact H.s5.lt x ae
theorem me.of (h:Mod [g] w w'):me w w' g fP fp fP fp:=⟨h.mono (by simp),fun x ae=>.inl ae⟩
theorem me.refl (w:World) (g:Nat) (fP:Value) (fp:List Nat):me w w g fP fp fP fp:=⟨Mod.refl _ _,fun x ae=>.inl ae⟩
theorem me.trans {cN:World} {agZ:Value} {xO:List Nat} (h:me w w' g fP fp iE h8) (fh:me w' cN g iE h8 agZ xO):me w cN g fP fp agZ xO:=
 ⟨h.mod.trans' fh.mod fun x ae=>by
  rcases List.mem_cons.1 ae with rfl | ae
  ·exact .inl (by simp)
  exact(h.new x ae).imp (fun h=>by simp only [List.mem_cons];exact .inr h) id,fun x ae=>(fh.new x ae).elim (h.new x) fun ae=>.inr (Nat.le_trans h.mod.size ae)⟩
theorem me.az {h:Nat} {asq:TypeId} {us:List Value} (S:me w w' g fP fp iE h8) (B:aF w h asq us) (ck:h∉g::(a1 fP++fp)):aF w' h asq us∧h∉g::(a1 iE++h8):=by
 have bJ:=B.lt;refine⟨B.mod S.mod ck,fun ae=>?_⟩;rcases List.mem_cons.1 ae with rfl | ae
 ·exact ck (by simp)
 rcases S.new h ae with h1 | h1
 ·exact ck (by simp only [List.mem_cons];exact .inr h1)
 omega
theorem me.Lm {d:List D} {us:List Value} (S:me w w' g fP fp iE h8) (asp:ao (g::(a1 fP++fp)) w d us):ao (g::(a1 iE++h8)) w' d us:=
 ao.to S.mod (fun x ae=>ae) (fun x ae=>by
  rcases List.mem_cons.1 ae with rfl | ae
  ·exact .inl (by simp)
  exact(S.new x ae).imp (fun h=>by simp only [List.mem_cons];exact .inr h) id) _ _ asp
theorem np.r5 (H:np T w0 w g s k st fP cs fp) (B:aF w' g T.rd [S s,.int .i64 (iC:Int),fP]) (h:Mod [g] w w'):np T w0 w' g s iC st fP cs fp:=
 ⟨B,H.own.mod h (fun x ae e=>H.s6 (by simp only [List.mem_singleton] at e;subst e;simp [ae])),H.s5.to h (by simp) (fun x ae=>.inl ae) (fun x ae e=>H.s6 (by simp only [List.mem_singleton] at e;subst e;simp [ae])),H.s6,H.xk,H.te,H.mod.trans h⟩
theorem np.I (H:np T w0 w g s k st fP cs fp) (h:Mod [] w w'):np T w0 w' g s k st fP cs fp:=H.r5 (H.rd.I h) (h.mono (by simp))
theorem np.QQ {acc:List JV} (H:np T w0 w g s k (.L acc::st) fP cs fp):∃ g1 ew vs eE fl,cs = .iface T.pi (.pointer (some ⟨g1,0,none⟩))::eE∧fp=g1::(a1 ew++fl)∧aF w g1 T.it [ew]∧Own w T.v 6 ew acc.length vs∧ao (g::(a1 fP++fp)) w (acc.map JV.D).flatten vs∧g1∉a1 ew∧g1≠g∧(∀ x∈T.z,x∉g1::a1 ew)∧
  (∀ (w':World) (k4:Value) (us:List Value) (v:JV),Mod (g1::a1 ew) w w'→aF w' g1 T.it [k4]→Own w' T.v 6 k4 (acc.length+1) (vs++us)→(∀ x∈a1 k4,x∈a1 ew∨w.heap.size≤x)→ao (g::(a1 fP++fp)) w v.D us→
   np T w0 w' g s k (.L (acc ++ [v])::st) fP cs (g1::(a1 k4++fl))∧me w w' g fP fp fP (g1::(a1 k4++fl)))∧
  (∀ (w':World) (iE:Value),Mod [g] w w'→aF w' g T.rd [S s,.int .i64 (k:Int),iE]→Own w' T.any 1 iE eE.length eE.reverse→a1 iE=a1 fP→
   np T w0 w' g s k st iE eE fl∧me w w' g fP fp iE fl∧aF w' g1 T.it [ew]∧ba (g::(a1 iE++fl)) w' (.ie 6 (acc.map JV.D)) ew):=by
 obtain⟨c,eE,m,fl,rfl,rfl,⟨g1,ew,rfl,aq,rfl⟩,aU,bM⟩:=H.s5
 obtain⟨vs,cL,eW⟩:=aq.own
 have bJ:=H.lt
 have wi:g1≠g:=fun e=>H.s6 (by subst e;simp)
 have hj:∀ x∈g1::a1 ew,x≠g:=fun x ae e=>H.s6 (by subst e;simp only [List.mem_append];exact .inr (.inl ae))
 have eZ:∀ x∈g1::a1 ew,x∉a1 fP:=fun x ae e=>H.xk x e (by simp only [List.mem_append];exact .inl ae)
 refine⟨g1,ew,vs,eE,fl,rfl,rfl,aq.az,cL,eW,aq.Vn,wi,fun x ae h=>bM x h (aU.z x ae),fun w' k4 us v hm aS eo ck bq=>?_,fun w' iE hm aS eo iV=>?_⟩
 rotate_left
 ·have dF:∀ x∈g::(a1 iE++fl),x∈g::(a1 fP++((g1::a1 ew)++fl))∨w.heap.size≤x:=fun x ae=>by
   rw [iV] at ae
   simp only [List.mem_cons,List.mem_append] at ae ⊢
   rcases ae with rfl | ae | ae <;> simp [*]
  have ag0:∀ x∈g1::a1 ew,x∉[g]:=fun x ae e=>hj x ae (by simpa using e)
  refine⟨⟨aS,eo,aU.to hm (by simp) dF (fun x ae e=>H.s6 (by simp only [List.mem_singleton] at e;subst e;simp [ae])),fun h=>?_,fun x ae h=>?_,fun x ae=>?_,H.mod.trans hm⟩,⟨hm.mono (by simp),fun x ae=>?_⟩,aq.az.mod hm (ag0 g1 (by simp)),Own.rep (cL.mod hm (fun x ae=>ag0 x (by simp [ae]))) (ao.to hm (by simp) dF _ _ eW) (fun r bq=>?_) (by simp) (fun x ae h=>?_)⟩
  ·rw [iV] at h;simp only [List.mem_append] at h;exact H.s6 (by rcases h with h | h <;> simp [h])
  ·rw [iV] at ae;exact H.xk x ae (by simp [h])
  ·rw [iV] at ae;simp only [List.mem_append] at ae;exact H.te x (by rcases ae with h | h <;> simp [h])
  ·rw [iV] at ae;simp only [List.mem_append] at ae ⊢;rcases ae with h | h <;> simp [h]
  ·obtain⟨y,_,rfl⟩:=List.mem_map.1 bq;exact JV.r0 y
  rw [iV] at h
  simp only [List.mem_cons,List.mem_append] at h
  rcases h with rfl | h | h
  ·exact hj x (by simp [ae]) rfl
  ·exact eZ x (by simp [ae]) h
  exact bM x (by simp [ae]) h
 have j0:∀ x∈g1::a1 ew,x∈g::(a1 fP++((g1::a1 ew)++fl)):=fun x ae=>by simp only [List.mem_cons,List.mem_append] at ae ⊢;exact .inr (.inr (.inl ae))
 have dF:∀ x∈g::(a1 fP++(g1::(a1 k4++fl))),x∈g::(a1 fP++((g1::a1 ew)++fl))∨w.heap.size≤x:=fun x ae=>by
  simp only [List.mem_cons,List.mem_append] at ae ⊢
  rcases ae with rfl | ae | rfl | ae | ae
  ·simp
  ·simp [ae]
  ·simp
  ·exact(ck x ae).imp (fun h=>by simp [h]) id
  simp [ae]
 have ql:∀ x∈a1 k4,∀ y,y∈g::(a1 fP++fl)→x≠y:=fun x ae y aY e=>by
  subst e
  rcases ck x ae with h1 | h1
  ·simp only [List.mem_cons,List.mem_append] at aY
   rcases aY with rfl | aY | aY
   ·exact hj x (by simp [h1]) rfl
   ·exact eZ x (by simp [h1]) aY
   exact bM x (by simp [h1]) aY
  have:=bJ x (by simp only [List.mem_cons,List.mem_append] at aY ⊢;rcases aY with rfl | aY | aY;exact .inl rfl;exact .inr (.inl aY);exact .inr (.inr (.inr aY)))
  omega
 have QR:g1∉a1 k4:=fun ae=>by
  rcases ck g1 ae with h1 | h1
  ·exact aq.Vn h1
  have:=aq.az.lt;omega
 refine⟨⟨H.rd.mod hm (fun h=>hj g h rfl),H.own.mod hm (fun x ae h=>eZ x h ae),⟨_,eE,g1::a1 k4,fl,rfl,rfl,⟨g1,k4,rfl,⟨aS,⟨vs++us,by simpa using eo,?_⟩,QR⟩,rfl⟩,aU.to hm j0 dF (fun x ae h=>bM x h ae),fun x ae h=>?_⟩,fun h=>?_,fun x ae h=>?_,fun x ae=>?_,H.mod.trans' hm fun x ae=>.inr ?_⟩,⟨hm.mono fun x ae=>j0 x ae,fun x ae=>?_⟩⟩
 ·rw [List.map_append,List.flatten_append]
  refine ao.to hm j0 dF _ _ (ao.append eW ?_)
  simpa using bq
 ·rcases List.mem_cons.1 ae with rfl | ae
  ·exact bM x (by simp) h
  exact ql x ae x (by simp [h]) rfl
 ·simp only [List.mem_append,List.mem_cons] at h
  rcases h with h | rfl | h | h
  ·exact H.s6 (by simp [h])
  ·exact wi rfl
  ·exact ql g h g (by simp) rfl
  exact H.s6 (by simp [h])
 ·simp only [List.mem_cons,List.mem_append] at h
  rcases h with rfl | h | h
  ·exact eZ x (by simp) ae
  ·exact ql x h x (by simp [ae]) rfl
  exact H.xk x ae (by simp [h])
 ·simp only [List.mem_cons,List.mem_append] at ae
  rcases ae with ae | rfl | ae | ae
  ·exact H.te x (by simp [ae])
  ·exact H.te x (by simp)
  ·rcases ck x ae with h1 | h1
   ·exact H.te x (by simp [h1])
   exact Nat.le_trans H.mod.size h1
  exact H.te x (by simp [ae])
 ·exact H.te x (by simp only [List.mem_cons,List.mem_append] at ae ⊢;exact .inr (.inl ae))
 simp only [List.mem_cons,List.mem_append] at ae ⊢
 rcases ae with ae | rfl | ae | ae
 ·simp [ae]
 ·simp
 ·exact(ck x ae).imp (fun h=>by simp [h]) id
 simp [ae]
end
section
variable {T:aaz} {A A' M:List Nat} {w0 w w':World} {g:Nat} {s:aa} {k:Nat}
variable {st:List lV} {fP iE:Value} {cs cs':List Value} {fp h8:List Nat} {iC:Nat}
theorem np.QS {fm:lV} {acc:List (aa×JV)} {K:List aa} {t:aa} (H:np T w0 w g s k (fm::st) fP cs fp)
  (dI:∀ (A:List Nat) (w:World) (c:Value) (m:List Nat),xN T A w fm c m→∃ g b ew,c = .iface T.pm (.pointer (some ⟨g,0,none⟩))∧ace T A w g b acc K t ew∧m=g::b::a1 ew) :
  ∃ g1 b ew vs eE fl,cs = .iface T.pm (.pointer (some ⟨g1,0,none⟩))::eE∧fp=g1::b::(a1 ew++fl)∧aF w g1 T.mt [ew,.map (some b),S t]∧jZ w b (nv K)∧Own w T.ajV 7 ew acc.length vs∧ao (g::(a1 fP++fp)) w (acc.map JV.hP).flatten vs∧g1∉a1 ew∧g1≠g∧b≠g∧g1≠b∧b∉a1 ew∧(∀ x∈a1 ew,x≠g)∧(∀ x∈T.z,x∉g1::b::a1 ew)∧
  (∀ (w':World) (k4:Value) (jE:List Value) (iC:Nat) (acf:lV) (Ln:List (aa×JV)) (ale:List aa) (t':aa),Mod (g::g1::b::a1 ew) w w'→aF w' g T.rd [S s,.int .i64 (iC:Int),fP]→aF w' g1 T.mt [k4,.map (some b),S t']→jZ w' b (nv ale)→Own w' T.ajV 7 k4 Ln.length jE→(∀ x∈a1 k4,x∈a1 ew∨w.heap.size≤x)→ao (g::(a1 fP++fp)) w (Ln.map JV.hP).flatten jE→
   (∀ (A:List Nat) (w:World) (c:Value) (m:List Nat),(∃ g b ew,c = .iface T.pm (.pointer (some ⟨g,0,none⟩))∧ace T A w g b Ln ale t' ew∧m=g::b::a1 ew)→xN T A w acf c m)→
   np T w0 w' g s iC (acf::st) fP cs (g1::b::(a1 k4++fl))∧me w w' g fP fp fP (g1::b::(a1 k4++fl)))∧
  (∀ (w':World) (iE:Value) (jE:List Value) (gr:List (aa×JV)),Mod (g::a1 ew) w w'→aF w' g T.rd [S s,.int .i64 (k:Int),iE]→Own w' T.any 1 iE eE.length eE.reverse→a1 iE=a1 fP→Own w' T.ajV 7 ew gr.length jE→ao (g::(a1 fP++fp)) w (gr.map JV.hP).flatten jE→
   np T w0 w' g s k st iE eE fl∧me w w' g fP fp iE fl∧ba (g::(a1 iE++fl)) w' (.ie 7 (gr.map JV.hP)) ew):=by
 obtain⟨c,eE,m,fl,rfl,rfl,ag1,aU,bM⟩:=H.s5
 obtain⟨g1,b,ew,rfl,aq,rfl⟩:=dI _ _ _ _ ag1
 clear ag1
 obtain⟨vs,cL,eW⟩:=aq.own
 have bJ:=H.lt
 have hj:∀ x∈g1::b::a1 ew,x≠g:=fun x ae e=>H.s6 (by subst e;simp only [List.mem_append];exact .inr (.inl ae))
 have eZ:∀ x∈g1::b::a1 ew,x∉a1 fP:=fun x ae e=>H.xk x e (by simp only [List.mem_append];exact .inl ae)
 have j0:∀ x∈g::g1::b::a1 ew,x∈g::(a1 fP++((g1::b::a1 ew)++fl)):=fun x ae=>by
  rcases List.mem_cons.1 ae with rfl | ae
  ·simp
  simp only [List.mem_cons,List.mem_append] at ae ⊢
  rcases ae with rfl | rfl | ae <;> simp [*]
 refine⟨g1,b,ew,vs,eE,fl,rfl,rfl,aq.az,aq.map,cL,eW,aq.Vn,hj g1 (by simp),hj b (by simp),aq.agX,aq.agY,fun x ae=>hj x (by simp [ae]),fun x ae h=>bM x h (aU.z x ae),fun w' k4 jE iC acf Ln ale t' hm eh aS eY eo ck bq alf=>?_,fun w' iE jE gr hm aS eo iV ag2 bq=>?_⟩
 rotate_left
 ·have dF:∀ x∈g::(a1 iE++fl),x∈g::(a1 fP++((g1::b::a1 ew)++fl))∨w.heap.size≤x:=fun x ae=>by
   rw [iV] at ae
   simp only [List.mem_cons,List.mem_append] at ae ⊢
   rcases ae with rfl | ae | ae <;> simp [*]
  have ach:∀ x∈g::a1 ew,x∈g::(a1 fP++((g1::b::a1 ew)++fl)):=fun x ae=>j0 x (by rcases List.mem_cons.1 ae with rfl | ae <;> simp [*])
  have acg:∀ x∈fl,x∉g::a1 ew:=fun x ae h=>by
   rcases List.mem_cons.1 h with rfl | h
   ·exact H.s6 (by simp [ae])
   exact bM x (by simp [h]) ae
  refine⟨⟨aS,eo,aU.to hm ach dF acg,fun h=>?_,fun x ae h=>?_,fun x ae=>?_,H.mod.trans' hm fun x ae=>?_⟩,⟨hm.mono ach,fun x ae=>?_⟩,Own.rep ag2 (ao.to hm ach dF _ _ bq) (fun r bq=>?_) (by simp) (fun x ae h=>?_)⟩
  ·rw [iV] at h;simp only [List.mem_append] at h;exact H.s6 (by rcases h with h | h <;> simp [h])
  ·rw [iV] at ae;exact H.xk x ae (by simp [h])
  ·rw [iV] at ae;simp only [List.mem_append] at ae;exact H.te x (by rcases ae with h | h <;> simp [h])
  ·rcases List.mem_cons.1 ae with rfl | ae
   ·exact .inl (by simp)
   exact .inr (H.te x (by simp [ae]))
  ·rw [iV] at ae;simp only [List.mem_append] at ae ⊢;rcases ae with h | h <;> simp [h]
  ·obtain⟨y,_,rfl⟩:=List.mem_map.1 bq;exact JV.x4 y
  rw [iV] at h
  simp only [List.mem_cons,List.mem_append] at h
  rcases h with rfl | h | h
  ·exact hj x (by simp [ae]) rfl
  ·exact eZ x (by simp [ae]) h
  exact bM x (by simp [ae]) h
 have dF:∀ x∈g::(a1 fP++(g1::b::(a1 k4++fl))),x∈g::(a1 fP++((g1::b::a1 ew)++fl))∨w.heap.size≤x:=fun x ae=>by
  simp only [List.mem_cons,List.mem_append] at ae ⊢
  rcases ae with ae | ae | ae | ae | ae | ae
  ·exact .inl (.inl ae)
  ·exact .inl (.inr (.inl ae))
  ·exact .inl (.inr (.inr (.inl (.inl ae))))
  ·exact .inl (.inr (.inr (.inl (.inr (.inl ae)))))
  ·exact(ck x ae).imp (fun h=>.inr (.inr (.inl (.inr (.inr h))))) id
  exact .inl (.inr (.inr (.inr ae)))
 have ql:∀ x∈a1 k4,∀ y,y∈g::(a1 fP++fl)→x≠y:=fun x ae y aY e=>by
  subst e
  rcases ck x ae with h1 | h1
  ·simp only [List.mem_cons,List.mem_append] at aY
   rcases aY with rfl | aY | aY
   ·exact hj x (by simp [h1]) rfl
   ·exact eZ x (by simp [h1]) aY
   exact bM x (by simp [h1]) aY
  have:=bJ x (by simp only [List.mem_cons,List.mem_append] at aY ⊢;rcases aY with rfl | aY | aY;exact .inl rfl;exact .inr (.inl aY);exact .inr (.inr (.inr aY)))
  omega
 have QR:g1∉a1 k4:=fun ae=>by
  rcases ck g1 ae with h1 | h1
  ·exact aq.Vn h1
  have:=aq.az.lt;omega
 have wj:b∉a1 k4:=fun ae=>by
  rcases ck b ae with h1 | h1
  ·exact aq.agY h1
  have:=aq.map.lt;omega
 have alg:∀ x∈a1 fP,x∉g::g1::b::a1 ew:=fun x ae h=>by
  rcases List.mem_cons.1 h with rfl | h
  ·exact H.s6 (by simp [ae])
  exact eZ x h ae
 have acg:∀ x∈fl,x∉g::g1::b::a1 ew:=fun x ae h=>by
  rcases List.mem_cons.1 h with rfl | h
  ·exact H.s6 (by simp [ae])
  exact bM x h ae
 refine⟨⟨eh,H.own.mod hm alg,⟨_,eE,g1::b::a1 k4,fl,rfl,rfl,alf _ _ _ _ ⟨g1,b,k4,rfl,⟨aS,eY,⟨jE,eo,ao.to hm j0 dF _ _ bq⟩,aq.agX,QR,wj⟩,rfl⟩,aU.to hm j0 dF acg,fun x ae h=>?_⟩,fun h=>?_,fun x ae h=>?_,fun x ae=>?_,H.mod.trans' hm fun x ae=>?_⟩,⟨hm.mono fun x ae=>j0 x ae,fun x ae=>?_⟩⟩
 ·rcases List.mem_cons.1 ae with rfl | ae
  ·exact bM x (by simp) h
  rcases List.mem_cons.1 ae with rfl | ae
  ·exact bM x (by simp) h
  exact ql x ae x (by simp [h]) rfl
 ·simp only [List.mem_append,List.mem_cons] at h
  rcases h with h | rfl | rfl | h | h
  ·exact H.s6 (by simp [h])
  ·exact hj g (by simp) rfl
  ·exact hj g (by simp) rfl
  ·exact ql g h g (by simp) rfl
  exact H.s6 (by simp [h])
 ·simp only [List.mem_cons,List.mem_append] at h
  rcases h with rfl | rfl | h | h
  ·exact eZ x (by simp) ae
  ·exact eZ x (by simp) ae
  ·exact ql x h x (by simp [ae]) rfl
  exact H.xk x ae (by simp [h])
 ·simp only [List.mem_cons,List.mem_append] at ae
  rcases ae with ae | rfl | rfl | ae | ae
  ·exact H.te x (by simp [ae])
  ·exact H.te x (by simp)
  ·exact H.te x (by simp)
  ·rcases ck x ae with h1 | h1
   ·exact H.te x (by simp [h1])
   exact Nat.le_trans H.mod.size h1
  exact H.te x (by simp [ae])
 ·rcases List.mem_cons.1 ae with rfl | ae
  ·exact .inl (by simp)
  exact .inr (H.te x (by simp only [List.mem_cons,List.mem_append] at ae ⊢;exact .inr (.inl ae)))
 simp only [List.mem_cons,List.mem_append] at ae ⊢
 rcases ae with ae | rfl | rfl | ae | ae
 ·simp [ae]
 ·simp
 ·simp
 ·exact(ck x ae).imp (fun h=>by simp [h]) id
 simp [ae]
theorem np.Lo (H:np T w0 w g s k st fP cs fp) (DK:Mod (g::a1 fP) w w') (aS:aF w' g T.rd [S s,.int .i64 (iC:Int),iE])
  (eo:Own w' T.any 1 iE cs.length cs.reverse) (ck:∀ x∈a1 iE,x∈a1 fP∨w.heap.size≤x):np T w0 w' g s iC st iE cs fp∧me w w' g fP fp iE fp:=by
 have bJ:=H.lt
 have j0:∀ x∈g::a1 fP,x∈g::(a1 fP++fp):=fun x ae=>by rcases List.mem_cons.1 ae with rfl | ae <;> simp [*]
 have alh:g∉a1 iE:=fun h=>by
  rcases ck g h with h | h
  ·exact H.s6 (by simp [h])
  have:=H.rd.lt;omega
 have dF:∀ x∈g::(a1 iE++fp),x∈g::(a1 fP++fp)∨w.heap.size≤x:=fun x ae=>by
  simp only [List.mem_cons,List.mem_append] at ae ⊢
  rcases ae with rfl | ae | ae
  ·simp
  ·rcases ck x ae with h | h
   ·simp [h]
   exact .inr h
  simp [ae]
 refine⟨⟨aS,eo,H.s5.to DK j0 dF (fun x ae h=>?_),fun h=>?_,fun x ae h=>?_,fun x ae=>?_,H.mod.trans' DK fun x ae=>?_⟩,⟨DK.mono j0,fun x ae=>?_⟩⟩
 ·rcases List.mem_cons.1 h with rfl | h
  ·exact H.s6 (by simp [ae])
  exact H.xk x h ae
 ·rcases List.mem_append.1 h with h | h
  ·exact alh h
  exact H.s6 (by simp [h])
 ·rcases ck x ae with cL | cL
  ·exact H.xk x cL h
  have:=bJ x (by simp [h]);omega
 ·have:=H.mod.size
  rcases List.mem_append.1 ae with ae | ae
  ·rcases ck x ae with h | h
   ·exact H.te x (by simp [h])
   omega
  exact H.te x (by simp [ae])
 ·rcases List.mem_cons.1 ae with rfl | ae
  ·exact .inl (by simp)
  exact .inr (H.te x (by simp [ae]))
 rcases List.mem_append.1 ae with ae | ae
 ·exact(ck x ae).imp (fun h=>by simp [h]) id
 exact .inl (by simp [ae])
theorem np.Lp {z:Nat} (H:np T w0 w g s k st fP cs fp) (dk:z∈T.z) (hm:Mod [z] w w'):np T w0 w' g s k st fP cs fp:=by
 have Bt:=H.s5.z z dk;have ali:z≠g:=fun e=>H.s6 (by subst e;simp [Bt]);have tt:z∉a1 fP:=fun h=>H.xk z h Bt;refine⟨H.rd.mod hm (by simpa using Ne.symm ali),H.own.mod hm (fun x ae e=>tt (by rw [List.mem_singleton.1 e] at ae;exact ae)),?_,H.s6,H.xk,H.te,H.mod.trans' hm fun x ae=>.inr (by rw [List.mem_singleton.1 ae];exact H.te z (by simp [Bt]))⟩;have key:∀ {st:List lV} {cs:List Value} {h8:List Nat},oL T (g::(a1 fP++fp)) w st cs h8→(∀ x∈h8,x∈fp)→oL T (g::(a1 fP++fp)) w' st cs h8:=by
  intro st
  induction st with
  | nil=>exact fun h _=>⟨h.1,h.2.1,fun x ae=>Nat.lt_of_lt_of_le (h.2.2 x ae) hm.size⟩
  | cons fm st dK=>
   intro cs h8 h bf;obtain⟨c,cs',m,xO,rfl,rfl,h1,aq,aU⟩:=h;refine⟨c,cs',m,xO,rfl,rfl,h1.to hm (fun x ae=>by rw [List.mem_singleton.1 ae];simp [Bt]) (fun x ae e=>?_) (fun x ae=>.inl ae),dK aq (fun x ae=>bf x (by simp [ae])),aU⟩;rw [List.mem_singleton.1 e] at ae;exact aU z ae (aq.z z dk)
 exact key H.s5 (fun x ae=>ae)
theorem np.push {N:Nat} {fm:lV} {c:Value} {m:List Nat} (H:np T w0 w g s k st fP cs fp) (DK:Mod (g::a1 fP) w w') (bf:w.heap.size≤N) (hm:∀ x∈m,w.heap.size≤x∧x<N) (aS:aF w' g T.rd [S s,.int .i64 (iC:Int),iE])
  (eo:Own w' T.any 1 iE (cs.length+1) (cs.reverse ++ [c])) (ck:∀ x∈a1 iE,x∈a1 fP∨N≤x) (dI:∀ A,xN T A w' fm c m):np T w0 w' g s iC (fm::st) iE (c::cs) (m++fp)∧me w w' g fP fp iE (m++fp):=by
 have bJ:=H.lt
 have j0:∀ x∈g::a1 fP,x∈g::(a1 fP++fp):=fun x ae=>by rcases List.mem_cons.1 ae with rfl | ae <;> simp [*]
 have dF:∀ x∈g::(a1 iE++(m++fp)),x∈g::(a1 fP++fp)∨w.heap.size≤x:=fun x ae=>by
  simp only [List.mem_cons,List.mem_append] at ae ⊢
  rcases ae with rfl | ae | ae | ae
  ·simp
  ·rcases ck x ae with h | h
   ·simp [h]
   exact .inr (by omega)
  ·exact .inr (hm x ae).1
  simp [ae]
 have Xm:∀ x∈m,x∉g::(a1 fP++fp):=fun x ae h=>by have:=bJ x h;have:=(hm x ae).1;omega
 refine⟨⟨aS,by simpa using eo,⟨c,cs,m,fp,rfl,rfl,dI _,H.s5.to DK j0 dF (fun x ae h=>?_),fun x ae h=>Xm x ae (by simp [h])⟩,fun h=>?_,fun x ae h=>?_,fun x ae=>?_,H.mod.trans' DK fun x ae=>?_⟩,⟨DK.mono j0,fun x ae=>?_⟩⟩
 ·rcases List.mem_cons.1 h with rfl | h
  ·exact H.s6 (by simp [ae])
  exact H.xk x h ae
 ·simp only [List.mem_append] at h
  rcases h with h | h | h
  ·rcases ck g h with h | h
   ·exact H.s6 (by simp [h])
   have:=H.rd.lt;omega
  ·exact Xm g h (by simp)
  exact H.s6 (by simp [h])
 ·simp only [List.mem_append] at h
  rcases ck x ae with cL | cL
  ·rcases h with h | h
   ·exact Xm x h (by simp [cL])
   exact H.xk x cL h
  rcases h with h | h
  ·have:=(hm x h).2;omega
  have:=bJ x (by simp [h]);omega
 ·simp only [List.mem_append] at ae
  have:=H.mod.size
  rcases ae with ae | ae | ae
  ·rcases ck x ae with h | h
   ·exact H.te x (by simp [h])
   omega
  ·have:=(hm x ae).1;omega
  exact H.te x (by simp [ae])
 ·rcases List.mem_cons.1 ae with rfl | ae
  ·exact .inl (by simp)
  exact .inr (H.te x (by simp [ae]))
 have:=dF x (by simp only [List.mem_cons];exact .inr ae)
 rcases this with h | h
 ·rcases List.mem_cons.1 h with rfl | h
  ·exact .inr (by
    exfalso
    simp only [List.mem_append] at ae
    rcases ae with ae | ae | ae
    ·rcases ck x ae with h | h
     ·exact H.s6 (by simp [h])
     have:=H.rd.lt;omega
    ·exact Xm x ae (by simp)
    exact H.s6 (by simp [ae]))
  exact .inl h
 exact .inr h
end
end Go.Proofs.YtnihidkbkhcfoaaGreatDoor.V
namespace Go.Proofs.YtnihidkbkhcfoaaGreatDoor.V
open Go Go.Lib
theorem uQ {d:Nat} (h:d<10):(UInt8.ofNat (48+d)).toNat=48+d:=by
 rw [UInt8.toNat_ofNat'];omega
theorem qi (u:Nat):∀ c∈decDigits u,bA c=true:=by
 induction u using Nat.strongRecOn with
 | _ u dK=>
  intro c bj;rw [decDigits] at bj
  split at bj
  ·rename_i h
   simp only [List.mem_singleton] at bj;subst bj;unfold bA;rw [uQ h];simp;omega
  rename_i h
  rcases List.mem_append.1 bj with bj | bj
  ·exact dK (u / 10) (by omega) c bj
  simp only [List.mem_singleton] at bj;subst bj;unfold bA;rw [uQ (Nat.mod_lt _ (by decide))];simp;omega
theorem sI (u:Nat):decDigits u≠[]:=by
 rw [decDigits]
 split <;> simp
theorem MY (u:Nat) (h:10≤u):(decDigits u)[0]?≠some 48:=by
 induction u using Nat.strongRecOn with
 | _ u dK=>
  rw [decDigits,dif_neg (by omega),List.getElem?_append_left (List.length_pos_iff.2 (sI _))]
  by_cases h1:10≤u / 10
  ·exact dK (u / 10) (by omega) h1
  rw [decDigits,dif_pos (by omega)];intro he;simp only [List.getElem?_cons_zero,Option.some.injEq] at he;have:=congrArg UInt8.toNat he;rw [uQ (by omega)] at this;simp at this;omega
theorem QC (u:Nat) (h:u<10):(decDigits u).length=1:=by rw [decDigits,dif_pos h];rfl
theorem Xc (u:Nat):∀ r:List UInt8,u<18446744073709551616→parseUint10 0 (decDigits u++r)=parseUint10 u r:=by
 induction u using Nat.strongRecOn with
 | _ u dK=>
  intro r hu;rw [decDigits]
  split
  ·rename_i h
   rw [List.singleton_append,parseUint10,uQ h,if_pos (by omega),if_neg (by omega),if_neg (by omega)]
   congr 1
   omega
  rename_i h
  rw [List.append_assoc,dK (u / 10) (by omega) _ (by omega),List.singleton_append,parseUint10,uQ (Nat.mod_lt _ (by decide)),if_pos (by omega),if_neg (by omega),if_neg (by omega)]
  congr 1
  omega
theorem F4 {u:Nat} (h:u<18446744073709551616):parseMag (decDigits u) = .ok u:=by
 unfold parseMag;rw [if_neg (sI u)];have:=Xc u [] h;rw [List.append_nil] at this;rw [this,parseUint10]
theorem qO {n:Int} (b3 : -9007199254740991≤n) (h1:n≤9007199254740991):atoiAll (itoa n) = .ok n:=by
 unfold itoa
 split
 ·rename_i h
  unfold atoiAll;simp only;rw [if_pos (by right;rfl),F4 (by omega)];simp only;rw [if_neg (by simp),if_neg (by simp;omega),if_pos (by rfl)]
  congr 1
  omega
 rename_i h
 have hm:=F4 (u:=n.toNat) (by omega);have bY:=qi n.toNat;cases cg:decDigits n.toNat with
 | nil=>exact absurd cg (sI _)
 | cons c r=>
  rw [cg] at hm bY;have bj:=bY c (by simp);simp only [bA,Bool.and_eq_true,decide_eq_true_eq] at bj;unfold atoiAll;simp only;rw [if_neg (by omega),hm];simp only;rw [if_neg (by omega),if_neg (by omega),if_neg (by omega)]
  congr 1
  omega
theorem MZ {m n:Int} (b3 : -9007199254740991≤n) (h1:n≤9007199254740991) (g0 : -9007199254740991≤m) (g1:m≤9007199254740991) (h:itoa m=itoa n):m=n:=by
 have aq:=qO g0 g1;rw [h,qO b3 h1] at aq;injection aq with aq
 exact aq.symm
theorem zd {n:Int} {w:aa} (b3 : -9007199254740991≤n) (h1:n≤9007199254740991) (h:itoa n=w):uP w=some n:=by
 unfold uP;have hex:∃ n:Int,-9007199254740991≤n∧n≤9007199254740991∧itoa n=w:=⟨n,b3,h1,h⟩;rw [dif_pos hex];obtain⟨a,b,c⟩:=hex.choose_spec;rw [MZ b3 h1 a b (c.trans h.symm)]
theorem F5 {n:Int} {w:aa} (h:uP w=some n) : -9007199254740991≤n∧n≤9007199254740991∧itoa n=w:=by
 unfold uP at h
 split at h
 ·rename_i hex
  injection h with h
  subst h;exact hex.choose_spec
 cases h
theorem kJ {v:Int} {w:aa} (h:atoiAll w = .ok v):uP w=if itoa v=w∧-9007199254740991≤v∧v≤9007199254740991 then some v else none:=by
 split
 ·rename_i bK
  exact zd bK.2.1 bK.2.2 bK.1
 rename_i bK
 cases dk:uP w with
 | none=>rfl
 | some n=>
  obtain⟨a,b,c⟩:=F5 dk;rw [← c,qO a b] at h;injection h with h
  subst h;exact absurd ⟨c,a,b⟩ bK
theorem mY {w:aa} (h:∀ v,atoiAll w≠.ok v):uP w=none:=by
 cases dk:uP w with
 | none=>rfl
 | some n=>
  obtain⟨a,b,c⟩:=F5 dk;rw [← c] at h;exact absurd (qO a b) (h n)
theorem Lk {p:UInt8→Bool}:∀ {l r:aa},(∀ c∈l,p c=true)→(∀ c,r[0]? = some c→p c=false)→(l++r).takeWhile p=l
 | [],[],_,_=>rfl
 | [],c::r,_,h=>by rw [List.nil_append,List.takeWhile_cons,if_neg (by simp [h c rfl])]
 | c::l,r,h,fh=>by rw [List.cons_append,List.takeWhile_cons,if_pos (h c (by simp)),Lk (fun x ae=>h x (by simp [ae])) fh]
theorem ze {p:UInt8→Bool} {s l r:aa} {k:Nat} (h:s.drop k=l++r) (cg:∀ c∈l,p c=true) (bq:∀ c,r[0]? = some c→p c=false):aj p s k=k+l.length:=by
 unfold aj;rw [h,Lk cg bq]
theorem bZ {s t:aa} {k:Nat} (h:s.length≤k) (cf:t≠[]):aC s k t=false:=by
 rw [Bool.eq_false_iff];intro fh;have:=c6 fh cf;have:0<t.length:=List.length_pos_iff.2 cf;omega
theorem F6 {n:Int} (b3 : -9007199254740991≤n) (h1:n≤9007199254740991):gH (itoa n)=(true,false):=by
 obtain⟨a,u,hw,ay,aqV⟩:∃ (a u:Nat),(itoa n).drop a=decDigits u∧(if aC (itoa n) 0 [45] then 1 else 0)=a∧a≤(itoa n).length:=by
  unfold itoa
  split
  ·exact⟨1,n.natAbs,rfl,by rw [if_pos (by rfl)],by simp⟩
  refine⟨0,n.toNat,by simp,?_,by simp⟩;rw [if_neg];rw [gl];intro h;have:=qi n.toNat 45 (List.mem_of_getElem? h)
  revert this
  decide
 have bY:=qi u;have b1:=sI u;have hlen:(itoa n).length=a+(decDigits u).length:=by
  have:=congrArg List.length hw;rw [List.length_drop] at this;omega
 have Fg:0<(decDigits u).length:=List.length_pos_iff.2 b1;have he:aj bA (itoa n) a=(itoa n).length:=by
  rw [ze (l:=decDigits u) (r:=[]) (by simpa using hw) bY (by simp),hlen]
 unfold gH;simp only;rw [ay,he,if_neg,bZ (Nat.le_refl _) (by simp),if_neg (by simp)]
 ·simp only [Bool.false_eq_true,if_false];rw [bZ (Nat.le_refl _) (by simp),bZ (Nat.le_refl _) (by simp)];simp
 rintro(h | ⟨aq,aU⟩)
 ·omega
 have hu:10≤u:=by
  rcases Nat.lt_or_ge u 10 with hu | hu
  ·have:=QC u hu;omega
  exact hu
 have:=MY u hu;rw [← hw,List.getElem?_drop] at this;exact this (by simpa using aU)
theorem IS {n:Int} (b3 : -9007199254740991≤n) (h1:n≤9007199254740991):h6 (itoa n) = .ok n:=by
 unfold h6;rw [F6 b3 h1,if_neg (by simp),zd b3 h1 rfl]
theorem QD {n:Int}:∀ c∈itoa n,eK c=true:=by
 intro c bj;unfold itoa at bj
 split at bj
 ·rcases List.mem_cons.1 bj with rfl | bj
  ·rfl
  unfold eK;rw [qi _ c bj];rfl
 unfold eK;rw [qi _ c bj];rfl
theorem QE (n:Int):itoa n≠[]:=by
 unfold itoa
 split
 ·simp
 exact sI _
theorem IT {n:Int} {s r:aa} {k:Nat} (b3 : -9007199254740991≤n) (h1:n≤9007199254740991) (h:s.drop k=itoa n++r) (bq:∀ c,r[0]? = some c→eK c=false):iM s k = .ok (JV.hp n,k+(itoa n).length):=by
 unfold iM;rw [ze h QD bq,Nat.add_sub_cancel_left,h,List.take_left',IS b3 h1]
 ·rfl
 rfl
end Go.Proofs.YtnihidkbkhcfoaaGreatDoor.V
namespace Go.Proofs.YtnihidkbkhcfoaaGreatDoor.V
open Go
/-! ## four digits -/
theorem r6:∀ (f:Nat) (s:aa) (n:Nat),s.length<f→eL f s n=none
 | 0,_,_,h=>by omega
 | f+1,[],n,_=>rfl
 | f+1,c::r,n,h=>by
  rw [eL]
  cases kH c with
  | none=>rfl
  | some d=>exact r6 f r _ (by simpa using h)
theorem zk:∀ (f:Nat) (s:aa) (n:Nat),eL f (s.take f) n=eL f s n
 | 0,_,_=>by simp [eL]
 | f+1,[],n=>rfl
 | f+1,c::r,n=>by
  rw [List.take_succ_cons,eL,eL]
  cases kH c with
  | none=>rfl
  | some d=>exact zk f r _
theorem F' {c:UInt8} {d:Nat} (h:kH c=some d):d<16:=by
 unfold kH at h
 split at h
 ·injection h with h;omega
 split at h
 ·injection h with h;omega
 split at h
 ·injection h with h;omega
 cases h
theorem M9 {c:UInt8} (h:128≤c.toNat):kH c=none:=by
 unfold kH;rw [if_neg (by omega),if_neg (by omega),if_neg (by omega)]
theorem Ga:∀ (f:Nat) (s:aa) (n m:Nat),eL f s n=some m→m<16 ^ f*(n+1)
 | 0,_,n,m,h=>by
  simp only [eL,Option.some.injEq] at h
  omega
 | f+1,[],n,m,h=>by simp [eL] at h
 | f+1,c::r,n,m,h=>by
  rw [eL] at h
  cases bY:kH c with
  | none=>rw [bY] at h;cases h
  | some d=>
   rw [bY] at h
   have h1:=Ga f r _ _ h
   have aq:=F' bY
   have aU:16 ^ f*(16*n+d+1)≤16 ^ f*(16*(n+1)):=Nat.mul_le_mul_left _ (by omega)
   rw [Nat.pow_succ,Nat.mul_assoc]
   omega
theorem uV {s:aa} {m:Nat} (h:eL 4 s 0=some m):m<65536:=by
 have:=Ga 4 s 0 m h;omega
theorem Gb {f p n:Nat} {s:aa} {b:UInt8} (h:s[p]? = some b):eL (f+1) (s.drop p) n=match kH b with | none=>none | some d=>eL f (s.drop (p+1)) (16*n+d):=by
 first | (rw [gk h,eL];done) | (rw [gk h,eL];cases kH b <;> rfl)
theorem aaA:∀ b,b<128→(match kH (UInt8.ofNat b)with | none=>decide (Lib.indexByte iI (UInt8.ofNat (b ||| 32))<0)||decide (b<48) | some d=>decide (Lib.indexByte iI (UInt8.ofNat (b ||| 32))=(d:Int))&&decide (48≤b))=true:=by decide +kernel
theorem QT {b:UInt8} (aS:b.toNat<128) (h:kH b=none):Lib.indexByte iI (UInt8.ofNat (b.toNat ||| 32))<0∨b.toNat<48:=by
 have:=aaA b.toNat aS;rw [UInt8.ofNat_toNat,h] at this;simpa using this
theorem Ch {b:UInt8} {d:Nat} (aS:b.toNat<128) (h:kH b=some d):Lib.indexByte iI (UInt8.ofNat (b.toNat ||| 32))=(d:Int)∧48≤b.toNat:=by
 have:=aaA b.toNat aS;rw [UInt8.ofNat_toNat,h] at this;simpa using this
theorem wrap32_in (z:Int) (h : -2147483648≤z∧z≤2147483647):IntKind.i32.wrap z=z:=by
 simp only [IntKind.wrap,IntKind.bits,IntKind.signed];simp;omega
theorem QU {c:Nat} (h:c≤1114111):IntKind.i32.wrap ((BitVec.ofInt IntKind.i32.bits (c:Int) ||| BitVec.ofInt IntKind.i32.bits 32).toNat)=((c ||| 32:Nat):Int):=by
 have b3:(BitVec.ofInt 32 (c:Int) ||| BitVec.ofInt 32 32).toNat=c ||| 32:=by
  rw [BitVec.toNat_or];have h1:(BitVec.ofInt 32 (c:Int)).toNat=c:=by
   rw [BitVec.toNat_ofInt];omega
  have aq:(BitVec.ofInt 32 32).toNat=32:=by decide
  rw [h1,aq]
 have bJ:c ||| 32<2 ^ 21:=Nat.or_lt_two_pow (by omega) (by omega);show IntKind.i32.wrap ((BitVec.ofInt 32 (c:Int) ||| BitVec.ofInt 32 32).toNat:Int)=_;rw [b3,wrap32_in _ (by omega)]
theorem Gc {c:Nat}:(c ||| 32) / 2048=c / 2048:=by
 have:=Nat.shiftRight_or_distrib (a:=c) (b:=32) (i:=11);rw [Nat.shiftRight_eq_div_pow,Nat.shiftRight_eq_div_pow] at this;simpa using this
theorem QV {c:Nat} (h:128≤c):128≤c ||| 32:=Nat.le_trans h Nat.left_le_or
theorem QW {c:Nat} (h:c≤1114111):c ||| 32≤1114111:=by
 have h1:=Gc (c:=c)
 by_cases aq:c / 2048=543
 ·omega
 omega
theorem QX {c:Nat} (h:¬ (55296≤c∧c≤57343)):¬ (55296≤c ||| 32∧c ||| 32≤57343):=by
 have h1:=Gc (c:=c);omega
theorem QY {c:Nat} (h:c<128):c ||| 32<128:=Nat.or_lt_two_pow (n:=7) h (by decide)
theorem aci {n d:Nat} (ck:n<1048576) (bY:d<16):IntKind.i32.wrap ((BitVec.ofInt IntKind.i32.bits ((16*n:Nat):Int) ||| BitVec.ofInt IntKind.i32.bits (d:Int)).toNat)=((16*n+d:Nat):Int):=by
 have h:(BitVec.ofInt 32 ((16*n:Nat):Int) ||| BitVec.ofInt 32 (d:Int)).toNat=16*n+d:=by
  rw [BitVec.toNat_or];have h1:(BitVec.ofInt 32 ((16*n:Nat):Int)).toNat=16*n:=by
   rw [BitVec.toNat_ofInt];omega
  have aq:(BitVec.ofInt 32 (d:Int)).toNat=d:=by
   rw [BitVec.toNat_ofInt];omega
  rw [h1,aq];exact(Nat.two_pow_add_eq_or_of_lt (i:=4) bY n).symm
 show IntKind.i32.wrap ((BitVec.ofInt 32 ((16*n:Nat):Int) ||| BitVec.ofInt 32 (d:Int)).toNat:Int)=_;rw [h,wrap32_in _ (by omega)]
/-! ## letters behind a backslash -/
abbrev Lq:aa:=[34,92,47,98,102,110,114,116]
abbrev aaB:aa:=[34,92,47,8,12,10,13,9]
theorem wk (c:UInt8):(r2 c=none∧Lib.indexByte Lq c<0)∨∃ i d:Nat,r2 c=some d∧Lib.indexByte Lq c=(i:Int)∧i<8∧aaB[i]? = some (UInt8.ofNat d)∧d<256:=by
 by_cases h1:c=34
 ·subst h1;exact .inr ⟨0,34,by decide⟩
 by_cases aq:c=92
 ·subst aq;exact .inr ⟨1,92,by decide⟩
 by_cases aU:c=47
 ·subst aU;exact .inr ⟨2,47,by decide⟩
 by_cases bM:c=98
 ·subst bM;exact .inr ⟨3,8,by decide⟩
 by_cases cL:c=102
 ·subst cL;exact .inr ⟨4,12,by decide⟩
 by_cases eW:c=110
 ·subst eW;exact .inr ⟨5,10,by decide⟩
 by_cases kz:c=114
 ·subst kz;exact .inr ⟨6,13,by decide⟩
 by_cases kq:c=116
 ·subst kq;exact .inr ⟨7,9,by decide⟩
 left;refine⟨by unfold r2;simp [*],?_⟩;have e:∀ d:UInt8,¬ c=d→(d == c)=false:=fun d h=>by simp [Ne.symm h]
 simp only [Lib.indexByte,e _ h1,e _ aq,e _ aU,e _ bM,e _ cL,e _ eW,e _ kz,e _ kq,Bool.false_eq_true,if_false,beq_self_eq_true,if_true];omega
def fU (s:aa):Nat×Nat:=if (lH (92::s)).2=0 then (0,0)else ((lH (92::s)).1,(lH (92::s)).2-1)
theorem M':fU []=(0,0):=rfl
theorem Ci {c:UInt8} {r:aa} {d:Nat} (h:r2 c=some d):fU (c::r)=(d,1):=by
 have:lH (92::c::r)=(d,2):=by unfold lH;simp only;rw [h]
 unfold fU;rw [this];rfl
theorem x5 {c:UInt8} {r:aa} (h:r2 c=none):lH (92::c::r)=match nH (92::c::r)with
   | none=>(0,0)
   | some n=>
    if 56320≤n∧n≤57343 then (0,0)
    else if n<55296∨57343<n then (n,6)
    else match nH (r.drop 4)with
     | none=>(0,0)
     | some m=>if m<56320∨57343<m then (0,0)else (65536+1024*(n-55296)+(m-56320),12):=by
 unfold lH
 simp only
 rw [h]
 rfl
theorem QZ {c:UInt8} {r:aa} (h:c≠117):nH (92::c::r)=none:=by
 unfold nH
 split
 ·rename_i aq
  injection aq with _ aq
  injection aq with aq _
  exact absurd aq h
 rfl
theorem x6 {r:aa}:nH (92::117::r)=eL 4 r 0:=rfl
theorem Cj {l:aa} (h:(List.isPrefixOf [92,117] l)=false):nH l=none:=by
 unfold nH
 split
 ·simp [List.isPrefixOf] at h
 rfl
theorem zl {l:aa} (h:(List.isPrefixOf [92,117] l)=true):nH l=eL 4 (l.drop 2) 0:=by
 rw [List.isPrefixOf_iff_prefix] at h;obtain⟨t,rfl⟩:=h;rfl
/-! ## blanks, words of numbers -/
theorem Xn (s:aa) (c:UInt8):decide (Lib.indexByte s c≥0)=s.any (fun b=>b == c):=by
 induction s with
 | nil=>rfl
 | cons b s dK=>
  rw [List.any_cons,← dK,show Lib.indexByte (b::s) c=(if b == c then 0 else if Lib.indexByte s c == -1 then -1 else Lib.indexByte s c+1) from rfl]
  by_cases h:(b == c)=true
  ·rw [if_pos h,h];rfl
  rw [if_neg h];have dI:(b == c)=false:=by simpa using h
  rw [dI,Bool.false_or]
  by_cases aq:(Lib.indexByte s c == -1)=true
  ·rw [if_pos aq];have:Lib.indexByte s c = -1:=by simpa using aq
   rw [this]
  rw [if_neg aq];have aU:Lib.indexByte s c≠-1:=by simpa using aq
  have bM:=Lib.indexByte_ge s c;rw [decide_eq_true (by omega),decide_eq_true (by omega)]
theorem Q5 (a b:UInt8):(a == b)=(b == a):=by
 by_cases h:a=b
 ·subst h;rfl
 rw [beq_eq_false_iff_ne.2 h,beq_eq_false_iff_ne.2 (Ne.symm h)]
theorem Q6 (c:UInt8):decide (Lib.indexByte [32,9,10,13] c≥0)=aX c:=by
 rw [Xn];simp [aX,Q5,Bool.or_assoc]
theorem acj:∀ c:Nat,c<256→decide (Lib.indexByte [43,45,46,48,49,50,51,52,53,54,55,56,57,69,101] (UInt8.ofNat c)≥0)=eK (UInt8.ofNat c):=by decide +kernel
theorem Lr (c:UInt8):decide (Lib.indexByte [43,45,46,48,49,50,51,52,53,54,55,56,57,69,101] c≥0)=eK c:=by
 have:=acj c.toNat (UInt8.toNat_lt c)
 rwa [UInt8.ofNat_toNat] at this
theorem Q7 (c:UInt8):([48,49,50,51,52,53,54,55,56,57]:aa).contains c=bA c:=by
 have:∀ n:Nat,n<256→([48,49,50,51,52,53,54,55,56,57]:aa).contains (UInt8.ofNat n)=bA (UInt8.ofNat n):=by decide +kernel
 have:=this c.toNat (UInt8.toNat_lt c)
 rwa [UInt8.ofNat_toNat] at this
theorem Q8 (p:UInt8→Bool) (s:aa) (k:Nat):(s.drop k).dropWhile p=s.drop (aj p s k):=by
 unfold aj;generalize cg:s.drop k=l;have h:∀ l:aa,l.dropWhile p=l.drop (l.takeWhile p).length:=fun l=>by
  induction l with
  | nil=>rfl
  | cons c r dK=>
   rw [List.dropWhile_cons,List.takeWhile_cons]
   split
   ·rw [dK];simp
   rfl
 rw [h,← cg,List.drop_drop]
theorem ack (s:aa) (k:Nat):Lib.trimLeftS (s.drop k) [48,49,50,51,52,53,54,55,56,57]=s.drop (aj bA s k):=by
 rw [← Q8];unfold Lib.trimLeftS
 congr 1
 funext c
 exact Q7 c
theorem pA:∀ c:Nat,c<256→(IntKind.u8.wrap ((BitVec.ofInt IntKind.u8.bits (c:Int) ||| BitVec.ofInt IntKind.u8.bits 32).toNat)=101↔(c=101∨c=69)):=by decide +kernel
theorem Xo {s:aa} {p:Nat} {b:UInt8} (aS:s[p]? = some b) (h:¬ b.toNat<128):∃ c m,Utf8.decode ⟨⟨s⟩⟩ p=(c,m)∧128≤c∧c≤1114111∧¬ (55296≤c∧c≤57343):=by
 have cp:=(List.getElem?_eq_some_iff.1 aS).1;have bY:=gk aS
 by_cases b3:(aJ (s.drop p)).2=0
 ·exact⟨65533,1,zm cp b3,by decide,by decide,by decide⟩
 obtain⟨_,_,h1,aq⟩:=wm (ib cp) b3;refine⟨_,_,x7 cp b3,?_,h1,aq⟩;rcases Nat.lt_or_ge (aJ (s.drop p)).1 128 with aU | aU
 ·obtain⟨x,ae,aca⟩:=mb (ib cp) b3 aU;rw [bY] at ae;have:x=b:=by
   cases ck:(aJ (b::s.drop (p+1))).2 with
   | zero=>rw [ck] at ae;simp at ae
   | succ m=>rw [ck,List.take_succ_cons] at ae;injection ae with ae;exact ae.symm
  subst this;omega
 exact aU
theorem tQ {p n d4:Nat} {s:aa} {b:UInt8} {W:Option Nat} (cp:p<4) (aS:s[p]? = some b) (ae:kH b=none) (hinv:eL (4-p) (s.drop p) n=W):W=none:=by
 rw [← hinv,show 4-p=(3-p)+1 by omega,Gb aS,ae]
theorem IZ {p n d:Nat} {s:aa} {b:UInt8} {W:Option Nat} (cp:p<4) (aS:s[p]? = some b) (ae:kH b=some d) (hinv:eL (4-p) (s.drop p) n=W):eL (4-(p+1)) (s.drop (p+1)) (16*n+d)=W:=by
 rw [← hinv,show 4-p=(3-p)+1 by omega,Gb aS,ae,show 4-(p+1)=3-p by omega]
theorem Ls {b:UInt8} (aS:b.toNat<128) (h:Lib.indexByte iI (UInt8.ofNat (b.toNat ||| 32))<0∨b.toNat<48):kH b=none:=by
 cases ae:kH b with
 | none=>rfl
 | some d=>
  have:=Ch aS ae;omega
theorem Q9 {b:UInt8} (aS:b.toNat<128) (h1:¬ Lib.indexByte iI (UInt8.ofNat (b.toNat ||| 32))<0) (aq:¬ b.toNat<48):∃ d,kH b=some d∧d<16∧Lib.indexByte iI (UInt8.ofNat (b.toNat ||| 32))=(d:Int):=by
 cases ae:kH b with
 | none=>exact absurd (QT aS ae) (by omega)
 | some d=>exact⟨d,rfl,F' ae,(Ch aS ae).1⟩
theorem acm {n:Nat} (h:n<65536):IntKind.i32.wrap ((n:Int)*2 ^ (min ((4:Int)).toNat IntKind.i32.bits))=((16*n:Nat):Int):=by
 have:(2:Int) ^ (min ((4:Int)).toNat IntKind.i32.bits)=16:=by decide
 rw [this,wrap32_in _ (by omega)];omega
theorem Lt {n:Nat} (h:n<2048):IntKind.i32.wrap ((n:Int)*2 ^ (min ((10:Int)).toNat IntKind.i32.bits))=((1024*n:Nat):Int):=by
 have:(2:Int) ^ (min ((10:Int)).toNat IntKind.i32.bits)=1024:=by decide
 rw [this,wrap32_in _ (by omega)];omega
theorem acn {n p d:Nat} (h:n<16 ^ p) (bY:d<16):16*n+d<16 ^ (p+1):=by
 rw [Nat.pow_succ];omega
theorem Na {n p:Nat} (h:n<16 ^ p) (cp:p≤3):n<4096:=Nat.lt_of_lt_of_le h (Nat.pow_le_pow_right (by decide) cp)
theorem wo {s:aa} {n m:Nat} (h:eL 4 s n=some m):4≤s.length:=by
 rcases Nat.lt_or_ge s.length 4 with h1 | h1
 ·rw [r6 4 s n h1] at h;cases h
 exact h1
theorem mf {c:UInt8} {r:aa} (ck:r2 c=none) (h:c≠117∨eL 4 r 0=none∨∃ n,eL 4 r 0=some n∧56320≤n∧n≤57343):fU (c::r)=(0,0):=by
 have b3:lH (92::c::r)=(0,0):=by
  rw [x5 ck]
  by_cases bj:c=117
  ·subst bj;rw [x6];rcases h with h | h | ⟨n,h1,aq⟩
   ·exact absurd rfl h
   ·rw [h]
   rw [h1];simp only;rw [if_pos aq]
  rw [QZ bj]
 unfold fU;rw [b3];rfl
theorem m' {r:aa} {n:Nat} (h:eL 4 r 0=some n) (aS:n<55296∨57343<n):fU (117::r)=(n,5):=by
 have b3:lH (92::117::r)=(n,6):=by
  rw [x5 rfl,x6,h];simp only;rw [if_neg (by omega),if_pos aS]
 unfold fU;rw [b3];rfl
theorem hW {r:aa} {n:Nat} (h:eL 4 r 0=some n) (aS:55296≤n∧n<56320) (aq:nH (r.drop 4)=none∨∃ m,nH (r.drop 4)=some m∧(m<56320∨57343<m)):fU (117::r)=(0,0):=by
 have b3:lH (92::117::r)=(0,0):=by
  rw [x5 rfl,x6,h];simp only;rw [if_neg (by omega),if_neg (by omega)];rcases aq with aq | ⟨m,aq,aU⟩
  ·rw [aq]
  rw [aq];simp only;rw [if_pos aU]
 unfold fU;rw [b3];rfl
theorem tR {r:aa} {n m:Nat} (h:eL 4 r 0=some n) (aS:55296≤n∧n<56320) (aq:nH (r.drop 4)=some m) (aU:56320≤m∧m≤57343):fU (117::r)=(65536+1024*(n-55296)+(m-56320),11):=by
 have b3:lH (92::117::r)=(65536+1024*(n-55296)+(m-56320),12):=by
  rw [x5 rfl,x6,h];simp only;rw [if_neg (by omega),if_neg (by omega),aq];simp only;rw [if_neg (by omega)]
 unfold fU;rw [b3];rfl
theorem oM (p l:aa):decide (p.length≤l.length∧l.take p.length=p)=List.isPrefixOf p l:=by
 rw [Bool.eq_iff_iff,decide_eq_true_eq,List.isPrefixOf_iff_prefix,List.prefix_iff_eq_take];constructor
 ·rintro⟨_,h⟩;exact h.symm
 intro h;refine⟨?_,h.symm⟩;have:=congrArg List.length h;rw [List.length_take] at this;omega
theorem Ra (s:aa):(fU s).1≤1114111∧¬ (55296≤(fU s).1∧(fU s).1≤57343)∧(fU s).2≤s.length:=by
 cases s with
 | nil=>rw [M'];decide
 | cons c r=>
  cases bj:r2 c with
  | some d=>
   rw [Ci bj];rcases wk c with⟨h,_⟩ | ⟨i,s4,h,_,_,_,aq⟩
   ·rw [h] at bj;cases bj
   rw [bj] at h;injection h with h
   subst h;exact⟨by simp only;omega,by simp only;omega,by simp⟩
  | none=>
   by_cases aaC:c=117
   rotate_left
   ·rw [mf bj (.inl aaC)];simp
   subst aaC;cases ae:eL 4 r 0 with
   | none=>rw [mf bj (.inr (.inl ae))];simp
   | some n=>
    have cg:=wo ae;have ck:=uV ae
    by_cases aS:n<55296∨57343<n
    ·rw [m' ae aS];exact⟨by simp only;omega,by simp only;omega,by simp only [List.length_cons];omega⟩
    by_cases I0:56320≤n
    ·rw [mf bj (.inr (.inr ⟨n,ae,I0,by omega⟩))];simp
    cases hu:nH (r.drop 4)with
    | none=>rw [hW ae (by omega) (.inl hu)];simp
    | some m=>
     by_cases hm:m<56320∨57343<m
     ·rw [hW ae (by omega) (.inr ⟨m,hu,hm⟩)];simp
     rw [tR ae (by omega) hu (by omega)];have qm:6≤(r.drop 4).length:=by
      unfold nH at hu
      split at hu
      ·rename_i MV e
       have:=wo hu;rw [e];simp only [List.length_cons];omega
      cases hu
     rw [List.length_drop] at qm;exact⟨by simp only;omega,by simp only;omega,by simp only [List.length_cons];omega⟩
/-! ## a text between quotes, round by round -/
theorem Nb {f:Nat} {s:aa} {i:Nat} {out:aa} (h:s.length≤i):fT f (s.drop i) i out=none:=by
 rw [List.drop_eq_nil_of_le h];cases f <;> rfl
theorem Gd {f:Nat} {s:aa} {i:Nat} {out:aa} (h:s[i]? = some 34):fT (f+1) (s.drop i) i out=some (out,i+1):=by
 rw [gk h,fT,if_pos rfl]
theorem zn {f:Nat} {s:aa} {i:Nat} {out:aa} {c:UInt8} (h:s[i]? = some c) (h1:c≠34) (aq:c≠92):fT (f+1) (s.drop i) i out=if (aJ (s.drop i)).2=0∨(aJ (s.drop i)).1<32 then none else fT f (s.drop (i+(aJ (s.drop i)).2)) (i+(aJ (s.drop i)).2) (out++jf (aJ (s.drop i)).1):=by
 have e:=gk h;rw [← List.drop_drop];generalize s.drop i=l at e ⊢;subst e;rw [fT,if_neg h1,if_neg aq];simp only [ne_eq,aq,not_false_eq_true,true_and]
theorem Nc {f:Nat} {s:aa} {i:Nat} {out:aa} (h:s[i]? = some 92):fT (f+1) (s.drop i) i out=if (fU (s.drop (i+1))).2=0 then none else fT f (s.drop (i+((fU (s.drop (i+1))).2+1))) (i+((fU (s.drop (i+1))).2+1)) (out++jf (fU (s.drop (i+1))).1):=by
 have e:=gk h;have b2:∀ k,s.drop (i+k)=(92::s.drop (i+1)).drop k:=fun k=>by rw [← e,List.drop_drop]
 rw [b2 ((fU (s.drop (i+1))).2+1),e,fT,if_neg (by decide),if_pos rfl];simp only [ne_eq,not_true_eq_false,false_and,or_false];unfold fU;generalize ae:lH (92::s.drop (i+1))=x
 by_cases b3:x.2=0
 ·rw [if_pos b3,if_pos b3];rfl
 have b1:¬ (x.2-1=0):=by
  have:x.2≠1:=fun h1=>by
   rw [← ae] at h1;unfold lH at h1
   split at h1
   ·split at h1
    ·cases h1
    split at h1
    ·cases h1
    split at h1
    ·cases h1
    split at h1
    ·cases h1
    split at h1
    ·cases h1
    split at h1 <;> cases h1
   cases h1
  omega
 rw [if_neg b3,if_neg b3];simp only;rw [if_neg b1,show x.2-1+1=x.2 by omega]
theorem Nd {s:aa} {i:Nat} (h:i<s.length) (b3:(aJ (s.drop i)).2=0):Utf8.decode ⟨⟨s.drop i⟩⟩ 0=(65533,1):=by
 have:=zm (s:=s.drop i) (p:=0) (by rw [List.length_drop];omega) (by simpa using b3);exact this
theorem wq {s:aa} {i:Nat} (h:i<s.length) (b3:(aJ (s.drop i)).2≠0):Utf8.decode ⟨⟨s.drop i⟩⟩ 0=aJ (s.drop i):=by
 have:=x7 (s:=s.drop i) (p:=0) (by rw [List.length_drop];omega) (by simpa using b3);simpa using this
theorem pB {s:aa} {i:Nat} {c:UInt8} (h:s[i]? = some c) (bj:c.toNat<128):aJ (s.drop i)=(c.toNat,1):=by
 rw [gk h];exact fW bj
theorem Ck {s:aa} {i:Nat} {c:UInt8} (h:s[i]? = some c) (b3:(aJ (s.drop i)).2≠0) (cg:(aJ (s.drop i)).1<128):(aJ (s.drop i)).1=c.toNat:=by
 have b1:s.drop i≠[]:=by rw [gk h];simp
 obtain⟨x,ae,aca⟩:=mb b1 b3 cg;rw [← aca];have:x=c:=by
  rw [gk h] at ae;cases ck:(aJ (c::s.drop (i+1))).2 with
  | zero=>rw [ck] at ae;simp at ae
  | succ m=>rw [ck,List.take_succ_cons] at ae;injection ae with ae;exact ae.symm
 rw [this]
theorem Nf {s:aa} {i:Nat} (h:i<s.length) (b3:(aJ (s.drop i)).2≠0) (bj:(aJ (s.drop i)).1=65533):¬ (aJ (s.drop i)).2<2:=by
 have b1:=ib h;have:=qP b1 b3;have cg:=congrArg List.length this;rw [bj,show(jf 65533).length=3 by decide,List.length_take] at cg;omega
theorem xl {s:aa} {v:Int} (h:Lib.atoiAll s = .ok v) : -9223372036854775808≤v∧v≤9223372036854775807:=by
 unfold Lib.atoiAll at h
 split at h
 ·cases h
 simp only at h
 split at h
 ·cases h
 ·cases h
 split at h
 ·cases h
 split at h
 ·cases h
 rename_i h1 aq
 injection h with h
 subst h
 split
 ·rename_i Rb;simp only [Rb,true_and] at aq;omega
 rename_i Rb;simp only [Rb,not_false_eq_true,true_and] at h1;omega
theorem aco {s:aa} {a:Nat} (ay:a=if aC s 0 [45] then 1 else 0):Lib.trimPrefix s [45]=s.drop a:=by
 unfold Lib.trimPrefix Lib.hasPrefix;unfold aC at ay;rw [List.drop_zero] at ay;rw [ay]
 split <;> simp
theorem Ng {s:aa} {a:Nat} (ay:a=if aC s 0 [45] then 1 else 0):a≤s.length:=by
 rw [ay]
 split
 ·rename_i h;exact c6 h (by simp)
 omega
section
variable {w:aa} {a e bk b2:Nat}
theorem xm (ay:a=if aC w 0 [45] then 1 else 0) (he:e=aj bA w a) (h:e=a∨(a+1<e∧w[a]? = some 48)):(gH w).1=false:=by
 subst he;subst ay;unfold gH;simp only;rw [if_pos h]
theorem xn (ay:a=if aC w 0 [45] then 1 else 0) (he:e=aj bA w a) (h:¬ (e=a∨(a+1<e∧w[a]? = some 48))) (hm:aC w e [46]=true) (hk:aj bA w (e+1)=e+1):(gH w).1=false:=by
 subst he;subst ay;unfold gH;simp only;rw [if_neg h,if_pos ⟨hm,hk⟩]
theorem dh (ay:a=if aC w 0 [45] then 1 else 0) (he:e=aj bA w a) (h:¬ (e=a∨(a+1<e∧w[a]? = some 48))) (aq:¬ (aC w e [46]=true∧aj bA w (e+1)=e+1)) (qR:bk=if aC w e [46] then aj bA w (e+1)else e) (e4:(aC w bk [101]||aC w bk [69])=false):(gH w).1=decide (bk=w.length):=by
 subst qR;subst he;subst ay;unfold gH;simp only;rw [if_neg h,if_neg aq,if_neg (by rw [e4];simp)]
theorem et (ay:a=if aC w 0 [45] then 1 else 0) (he:e=aj bA w a) (h:¬ (e=a∨(a+1<e∧w[a]? = some 48))) (aq:¬ (aC w e [46]=true∧aj bA w (e+1)=e+1)) (qR:bk=if aC w e [46] then aj bA w (e+1)else e) (e4:(aC w bk [101]||aC w bk [69])=true) (fs:b2=if aC w (bk+1) [43]||aC w (bk+1) [45] then bk+2 else bk+1) (hk:aj bA w b2=b2):(gH w).1=false:=by
 subst fs;subst qR;subst he;subst ay;unfold gH;simp only;rw [if_neg h,if_neg aq,if_pos e4,if_pos hk]
theorem di (ay:a=if aC w 0 [45] then 1 else 0) (he:e=aj bA w a) (h:¬ (e=a∨(a+1<e∧w[a]? = some 48))) (aq:¬ (aC w e [46]=true∧aj bA w (e+1)=e+1)) (qR:bk=if aC w e [46] then aj bA w (e+1)else e) (e4:(aC w bk [101]||aC w bk [69])=true) (fs:b2=if aC w (bk+1) [43]||aC w (bk+1) [45] then bk+2 else bk+1) (hk:¬ aj bA w b2=b2):(gH w).1=decide (aj bA w b2=w.length):=by
 subst fs;subst qR;subst he;subst ay;unfold gH;simp only;rw [if_neg h,if_neg aq,if_pos e4,if_neg hk]
end
theorem drop_nil {s:aa} {k:Nat} (hk:k≤s.length):s.drop k = []↔k=s.length:=by
 rw [List.drop_eq_nil_iff];omega
theorem bC {s:aa} {k:Nat} {c d:UInt8} (h:s[k]? = some d):aC s k [c]=decide (d=c):=by
 rw [IP,h];simp
theorem zo (c:Nat):(jf c).length≤4:=Nh c
end Go.Proofs.YtnihidkbkhcfoaaGreatDoor.V
