/-
  A part of the proof: the reading of JSON texts: it goes on, it ends; and the same with a stack; regions that draw and end with two operations in either order: one operation that all these wait for, some that touch no memory, then the two; maps with texts as keys: what a block that is one holds, and the operations on it; a map made, written, counted; its entries one by one; a reader in memory: its place, its stack of lists and maps under way; a reader in memory: a map's frame on top; a frame more; a number's text, read; steps of the reading: digits of base 16, escapes, blanks, words of numbers; steps of the reading: runes that are no ASCII, escapes by parts, texts between quotes by rounds. No condition of its own.
-/
import Derived.Test.YtkjgljnkocnnpaaGreatDoorM5
import Derived.Test.YtkjgljnkocnnpaaGreatDoorM2
import Derived.Maps.RangeRun
import Derived.Test.YtkjgljnkocnnpaaGreatDoorM3
import Derived.Lib.AtoiAll
import Derived.Lib.SlTrimSet
set_option linter.all false
namespace Go.Proofs.YtkjgljnkocnnpaaGreatDoor.V
open Go
theorem UM {s:ab} {k:Nat} {m:List (ab×JV)} {t:ab} {ef:Nat} (h:h5 s k m = .ok (t,ef)):∃ jt,dP s (ai aT s k)=some (t,jt)∧(look m t).isSome=false∧aC s (ai aT s jt) [58]=true∧ef=ai aT s jt+1:=by
 unfold h5 at h
 split at h
 ·cases h
 rename_i t' jt aq
 split at h
 ·cases h
 rename_i bb
 split at h
 ·rename_i bP
  injection h with h
  injection h with cZ fy
  subst cZ;exact⟨jt,aq,by simpa using bb,bP,fy.symm⟩
 cases h
theorem zx:∀ (f:Nat) (l:ab) (i:Nat) (out t:ab) (k:Nat),gx f l i out=some (t,k)→i<k∧k≤i+l.length
 | 0,_,_,_,_,_,h=>by simp [gx] at h
 | _+1,[],_,_,_,_,h=>by simp [gx] at h
 | f+1,c::r,i,out,t,k,h=>by
  rw [gx] at h
  split at h
  ·injection h with h
   injection h with _ h
   subst h
   simp
  dsimp only at h
  generalize (if c=92 then fK (c::r)else aM (c::r))=x at h
  split at h
  ·cases h
  rename_i ae
  have ea:=zx f _ _ _ _ _ h
  rw [List.length_drop] at ea
  by_cases pf:x.2≤(c::r).length
  ·omega
  rw [List.drop_eq_nil_of_le (by omega)] at h
  cases f <;> simp [gx] at h
theorem mI {s:ab} {k:Nat} {t:ab} {ef:Nat} (h:dP s k=some (t,ef)):k+1<ef∧ef≤s.length∧s[k]? = some 34:=by
 unfold dP at h
 split at h
 ·rename_i cg
  have hk:=(List.getElem?_eq_some_iff.1 cg).1;have:=zx _ _ _ _ _ _ h;rw [List.length_drop] at this;exact⟨this.1,by omega,cg⟩
 cases h
theorem ra {s:ab} {k:Nat} {m:List (ab×JV)} {t:ab} {ef:Nat} (h:h5 s k m = .ok (t,ef)):k<ef∧ef≤s.length:=by
 obtain⟨jt,h1,_,bb,rfl⟩:=UM h;obtain⟨bP,cZ,_⟩:=mI h1;have:=b9 bb (by simp);have:=dc aT s k;have:=dc aT s jt;simp only [List.length_singleton] at *;omega
theorem IS:(dw []).1=false:=by rfl
theorem zy {s:ab} {k:Nat} {v:JV} {ef:Nat} (h:jW s k = .ok (v,ef)) (hk:k≤s.length):k<ef∧ef≤s.length:=by
 unfold jW at h;cases h1:iU ((s.drop k).take (ai cU s k-k))with
 | error e=>rw [h1] at h;cases h
 | ok n=>
  rw [h1] at h;injection h with h
  injection h with _ h
  subst h;refine⟨?_,dD hk⟩;have:=dc cU s k;rcases Nat.lt_or_ge k (ai cU s k)with h | h
  ·exact h
  rw [show ai cU s k-k=0 by omega,List.take_zero] at h1;unfold iU at h1;rw [aL IS] at h1;cases h1
theorem sf (s:ab):∀ f:Nat,(∀ k deep x ef,k≤s.length→jl f s k deep=some (.ok (x,ef))→k<ef∧ef≤s.length)∧
  (∀ k deep acc x ef,k≤s.length→oP f s k deep acc=some (.ok (x,ef))→k<ef∧ef≤s.length)∧
  (∀ k deep m x ef,k≤s.length→oQ f s k deep m=some (.ok (x,ef))→k<ef∧ef≤s.length)
 | 0=>⟨fun _ _ _ _ _ h=>by simp [jl] at h,fun _ _ _ _ _ _ h=>by simp [oP] at h,fun _ _ _ _ _ _ h=>by simp [oQ] at h⟩
 | f+1=>by
  obtain⟨tu,w2,w3⟩:=sf s f
  refine⟨fun o8 deep x ef hk h=>?_,fun k deep acc x ef hk h=>?_,fun k deep m x ef hk h=>?_⟩
  ·rw [jl] at h
   have dY:=dc aT s o8
   generalize UN:ai aT s o8=k at h dY
   have agA:k≤s.length:=by rw [← UN];exact dD hk
   dsimp only at h
   split at h
   ·rename_i h1
    have:=b9 h1 (by decide)
    injection h with h;injection h with h;injection h with _ h
    simp only [List.length_cons,List.length_nil] at this
    omega
   split at h
   ·rename_i h1
    have:=b9 h1 (by decide)
    injection h with h;injection h with h;injection h with _ h
    simp only [List.length_cons,List.length_nil] at this
    omega
   split at h
   ·rename_i h1
    have:=b9 h1 (by decide)
    injection h with h;injection h with h;injection h with _ h
    simp only [List.length_cons,List.length_nil] at this
    omega
   split at h
   ·split at h
    ·cases h
    rename_i bh
    injection h with h;injection h with h;injection h with _ h
    have:=mI bh
    omega
   split at h
   rotate_left
   ·injection h with h
    have:=zy h agA
    omega
   rename_i aW
   have nL:k+1≤s.length:=by
    rcases Bool.or_eq_true_iff.1 aW with aW | aW <;> exact b9 aW (by decide)
   split at h
   ·cases h
   split at h
   ·split at h
    ·rename_i h1
     have:=b9 h1 (by decide)
     have:=dc aT s (k+1)
     injection h with h;injection h with h;injection h with _ h
     simp only [List.length_cons,List.length_nil] at *
     omega
    have:=w2 _ _ _ _ _ (dD nL) h
    have:=dc aT s (k+1)
    omega
   split at h
   ·rename_i h1
    have:=b9 h1 (by decide)
    have:=dc aT s (k+1)
    injection h with h;injection h with h;injection h with _ h
    simp only [List.length_cons,List.length_nil] at *
    omega
   have:=w3 _ _ _ _ _ (dD nL) h
   have:=dc aT s (k+1)
   omega
  ·rw [oP] at h
   split at h
   ·cases h
   ·cases h
   rename_i y jt h1
   obtain⟨aq,bb⟩:=tu _ _ _ _ hk h1
   have:=dc aT s jt
   dsimp only at h
   split at h
   ·rename_i bP
    have:=b9 bP (by decide)
    injection h with h;injection h with h;injection h with _ h
    simp only [List.length_cons,List.length_nil] at *
    omega
   split at h
   ·rename_i bP
    have cZ:=b9 bP (by decide)
    have:=w2 _ _ _ _ _ cZ h
    simp only [List.length_cons,List.length_nil] at *
    omega
   cases h
  rw [oQ] at h
  split at h
  ·cases h
  rename_i t jt IT
  obtain⟨cZ,fy⟩:=ra IT
  split at h
  ·cases h
  ·cases h
  rename_i y pA h1
  obtain⟨aq,bb⟩:=tu _ _ _ _ fy h1
  have:=dc aT s pA
  dsimp only at h
  split at h
  ·rename_i bP
   have:=b9 bP (by decide)
   injection h with h;injection h with h;injection h with _ h
   simp only [List.length_cons,List.length_nil] at *
   omega
  split at h
  ·rename_i bP
   have cZ:=b9 bP (by decide)
   have:=w3 _ _ _ _ _ cZ h
   simp only [List.length_cons,List.length_nil] at *
   omega
  cases h
theorem EB (s:ab):∀ f:Nat,(∀ k deep,k≤s.length→2*(s.length-k)+2≤f→jl f s k deep≠none)∧
  (∀ k deep acc,k≤s.length→2*(s.length-k)+3≤f→oP f s k deep acc≠none)∧
  (∀ k deep m,k≤s.length→2*(s.length-k)+3≤f→oQ f s k deep m≠none)
 | 0=>⟨fun _ _ _ h=>by omega,fun _ _ _ _ h=>by omega,fun _ _ _ _ h=>by omega⟩
 | f+1=>by
  obtain⟨tu,w2,w3⟩:=EB s f
  obtain⟨awj,_,_⟩:=sf s f
  refine⟨fun o8 deep hk dn=>?_,fun k deep acc hk dn=>?_,fun k deep m hk dn=>?_⟩
  ·rw [jl]
   have dY:=dc aT s o8
   have agA:ai aT s o8≤s.length:=dD hk
   generalize ai aT s o8=k at dY agA
   dsimp only
   split;· simp
   split;· simp
   split;· simp
   split;· split <;> simp
   split
   ·rename_i aW
    have nL:k+1≤s.length:=by
     rcases Bool.or_eq_true_iff.1 aW with aW | aW <;> exact b9 aW (by decide)
    have:=dc aT s (k+1)
    split;· simp
    split
    ·split;· simp
     exact w2 _ _ _ (dD nL) (by omega)
    split;· simp
    exact w3 _ _ _ (dD nL) (by omega)
   simp
  ·rw [oP]
   have qW:=tu k deep hk (by omega)
   split
   ·rename_i h;exact absurd h qW
   ·simp
   rename_i y jt h1
   obtain⟨aq,bb⟩:=awj _ _ _ _ hk h1
   have:=dc aT s jt
   dsimp only
   split;· simp
   split
   ·rename_i bP
    have cZ:=b9 bP (by decide)
    simp only [List.length_cons,List.length_nil] at cZ
    exact w2 _ _ _ cZ (by omega)
   simp
  rw [oQ]
  split
  ·simp
  rename_i t jt IT
  obtain⟨cZ,fy⟩:=ra IT
  have qW:=tu jt deep fy (by omega)
  split
  ·rename_i h;exact absurd h qW
  ·simp
  rename_i y pA h1
  obtain⟨aq,bb⟩:=awj _ _ _ _ fy h1
  have:=dc aT s pA
  dsimp only
  split;· simp
  split
  ·rename_i bP
   have cZ:=b9 bP (by decide)
   simp only [List.length_cons,List.length_nil] at cZ
   exact w3 _ _ _ cZ (by omega)
  simp
def e0 (acc:List (ab×JV)):List (ab×JV):=acc.foldl (fun m p=>dO m p.1 p.2) []
theorem oR (acc:List (ab×JV)) (p:ab×JV):e0 (acc ++ [p])=dO (e0 acc) p.1 p.2:=by simp [e0,List.foldl_append]
inductive nF where
 | L (l:List JV)
 | M (m:List (ab×JV)) (key:ab)
 | A (m:List (ab×JV)) (key:ab)
noncomputable def oS (s:ab) (o8 n:Nat):Except Int (Sum (JV×Nat) (nF×Nat)):=
 let k:=ai aT s o8
 if aC s k JV.kM then .ok (.inl (JV.fg,k+4))
 else if aC s k JV.jT then .ok (.inl (.mk 1 true 0 [] [] [],k+4))
 else if aC s k JV.hP then .ok (.inl (.mk 1 false 0 [] [] [],k+5))
 else if aC s k [34] then
  match dP s k with
  | none=>.error 4
  | some (t,ef)=>.ok (.inl (JV.aN t,ef))
 else if aC s k [91]||aC s k [123] then
  if n=32 then .error 5
  else
   let ef:=ai aT s (k+1)
   if aC s k [91] then
    if aC s ef [93] then .ok (.inl (JV.de [],ef+1))else .ok (.inr (.L [],ef))
   else
    if aC s ef [125] then .ok (.inl (JV.obj [],ef+1))
    else match h5 s ef [] with
     | .error e=>.error e
     | .ok (t,jt)=>.ok (.inr (.M [] t,jt))
 else match jW s k with
  | .error e=>.error e
  | .ok x=>.ok (.inl x)
inductive jx (s:ab):Option JV→Nat→List nF→tA→Prop where
 | err {k:Nat} {st:List nF} {e:Int}:oS s k st.length = .error e→jx s none k st (.error e)
 | whole {k ef:Nat} {st:List nF} {v:JV} {r:tA}:oS s k st.length = .ok (.inl (v,ef))→jx s (some v) ef st r→jx s none k st r
 | push {k ef:Nat} {st:List nF} {x:nF} {r:tA}:oS s k st.length = .ok (.inr (x,ef))→jx s none ef (x::st) r→jx s none k st r
 | done {k:Nat} {v:JV}:jx s (some v) k [] (.ok (v,k))
 | OC {k:Nat} {v:JV} {acc:List JV} {st:List nF} {r:tA}:aC s (ai aT s k) [93]=true→jx s (some (JV.de (acc ++ [v]))) (ai aT s k+1) st r→jx s (some v) k (.L acc::st) r
 | BN {k:Nat} {v:JV} {acc:List JV} {st:List nF} {r:tA}:aC s (ai aT s k) [93]=false→aC s (ai aT s k) [44]=true→jx s none (ai aT s k+1) (.L (acc ++ [v])::st) r→jx s (some v) k (.L acc::st) r
 | OD {k:Nat} {v:JV} {acc:List JV} {st:List nF}:aC s (ai aT s k) [93]=false→aC s (ai aT s k) [44]=false→jx s (some v) k (.L acc::st) (.error 4)
 | IU {k:Nat} {v:JV} {acc:List (ab×JV)} {t:ab} {st:List nF} {r:tA}:aC s (ai aT s k) [125]=true→jx s (some (JV.obj (e0 (acc ++ [(t,v)])))) (ai aT s k+1) st r→jx s (some v) k (.M acc t::st) r
 | yy {k kS:Nat} {v:JV} {acc:List (ab×JV)} {t t':ab} {st:List nF} {r:tA}:aC s (ai aT s k) [125]=false→aC s (ai aT s k) [44]=true→h5 s (ai aT s k+1) (e0 (acc ++ [(t,v)])) = .ok (t',kS)→jx s none kS (.M (acc ++ [(t,v)]) t'::st) r→jx s (some v) k (.M acc t::st) r
 | IV {k:Nat} {v:JV} {acc:List (ab×JV)} {t:ab} {st:List nF} {e:Int}:aC s (ai aT s k) [125]=false→aC s (ai aT s k) [44]=true→h5 s (ai aT s k+1) (e0 (acc ++ [(t,v)])) = .error e→jx s (some v) k (.M acc t::st) (.error e)
 | IW {k:Nat} {v:JV} {acc:List (ab×JV)} {t:ab} {st:List nF}:aC s (ai aT s k) [125]=false→aC s (ai aT s k) [44]=false→jx s (some v) k (.M acc t::st) (.error 4)
def UO (s:ab) (k:Nat) (arY st:List nF) (r:tA):Prop:=(∀ e,r = .error e→jx s none k st (.error e))∧∀ v ef,r = .ok (v,ef)→∀ aBn,jx s (some v) ef arY aBn→jx s none k st aBn
theorem al' (s:ab):∀ f:Nat,(∀ k deep r,jl f s k deep=some r→∀ st,st.length=deep→UO s k st st r)∧
  (∀ k deep acc r,oP f s k deep acc=some r→∀ st,st.length+1=deep→UO s k st (.L acc::st) r)∧
  (∀ k deep acc r,oQ f s k deep (e0 acc)=some r→∀ st,st.length+1=deep→(∀ e,h5 s k (e0 acc) = .error e→r = .error e)∧∀ t ef,h5 s k (e0 acc) = .ok (t,ef)→UO s ef st (.M acc t::st) r)
 | 0=>⟨fun _ _ _ h=>by simp [jl] at h,fun _ _ _ _ h=>by simp [oP] at h,fun _ _ _ _ h=>by simp [oQ] at h⟩
 | f+1=>by
  obtain⟨tu,w2,w3⟩:=al' s f
  refine⟨fun o8 deep r h st hf=>?_,fun k deep acc r h st hf=>?_,fun k deep acc r h st hf=>?_⟩
  ·subst hf
   have ev:=Eq.refl (oS s o8 st.length)
   conv at ev=>rhs;unfold oS
   rw [jl] at h
   generalize ai aT s o8=k at h ev
   dsimp only at h ev
   have lit:∀ v ef,oS s o8 st.length = .ok (.inl (v,ef))→r = .ok (v,ef)→UO s o8 st st r:=fun v ef aW bo=>
    ⟨fun e he=>(by rw [bo] at he;cases he),fun v' kS he aBn dR=>by
     rw [bo] at he
     injection he with he
     injection he with h1 aq
     subst h1;subst aq
     exact .whole aW dR⟩
   have bad:∀ e,oS s o8 st.length = .error e→r = .error e→UO s o8 st st r:=fun e aW bo=>
    ⟨fun yu he=>by
     rw [bo] at he
     injection he with he
     subst he
     exact .err aW,fun v' kS he aBn dR=>by rw [bo] at he;cases he⟩
   split at h
   ·rename_i c1
    rw [aL c1] at ev
    injection h with h
    exact lit _ _ ev h.symm
   rename_i c1
   rw [ak c1] at ev
   split at h
   ·rename_i c2
    rw [aL c2] at ev
    injection h with h
    exact lit _ _ ev h.symm
   rename_i c2
   rw [ak c2] at ev
   split at h
   ·rename_i c3
    rw [aL c3] at ev
    injection h with h
    exact lit _ _ ev h.symm
   rename_i c3
   rw [ak c3] at ev
   split at h
   ·rename_i c4
    rw [aL c4] at ev
    split at h
    ·rename_i bh
     rw [bh] at ev
     injection h with h
     exact bad _ ev h.symm
    rename_i t ef bh
    rw [bh] at ev
    injection h with h
    exact lit _ _ ev h.symm
   rename_i c4
   rw [ak c4] at ev
   split at h
   rotate_left
   ·rename_i c5
    rw [ak c5] at ev
    injection h with h
    cases cu:jW s k with
    | error e=>rw [cu] at ev h;exact bad _ ev h.symm
    | ok x=>obtain⟨v,ef⟩:=x;rw [cu] at ev h;exact lit _ _ ev h.symm
   rename_i c5
   rw [aL c5] at ev
   split at h
   ·rename_i alW
    rw [aL alW] at ev
    injection h with h
    exact bad _ ev h.symm
   rename_i alW
   rw [ak alW] at ev
   split at h
   ·rename_i arZ
    rw [aL arZ] at ev
    split at h
    ·rename_i acm
     rw [aL acm] at ev
     injection h with h
     exact lit _ _ ev h.symm
    rename_i acm
    rw [ak acm] at ev
    obtain⟨h1,aq⟩:=w2 _ _ _ _ h st rfl
    exact⟨fun e he=>.push ev (h1 e he),fun v ef he aBn dR=>.push ev (aq v ef he aBn dR)⟩
   rename_i arZ
   rw [ak arZ] at ev
   split at h
   ·rename_i acm
    rw [aL acm] at ev
    injection h with h
    exact lit _ _ ev h.symm
   rename_i acm
   rw [ak acm] at ev
   obtain⟨cg,h1⟩:=w3 _ _ [] _ h st rfl
   cases hk:h5 s (ai aT s (k+1)) [] with
   | error e=>
    rw [hk] at ev
    exact bad _ ev (cg e hk)
   | ok p=>
    obtain⟨t,jt⟩:=p
    rw [hk] at ev
    obtain⟨aq,bb⟩:=h1 t jt hk
    exact⟨fun e he=>.push ev (aq e he),fun v ef he aBn dR=>.push ev (bb v ef he aBn dR)⟩
  ·rw [oP] at h
   split at h
   ·cases h
   ·rename_i e bI
    injection h with h
    subst h
    obtain⟨h1,_⟩:=tu _ _ _ bI (.L acc::st) (by simpa using hf)
    exact⟨fun yu he=>by injection he with he;subst he;exact h1 _ rfl,fun v ef he=>by cases he⟩
   rename_i y jt bI
   obtain⟨_,aq⟩:=tu _ _ _ bI (.L acc::st) (by simpa using hf)
   have aq:=aq y jt rfl
   dsimp only at h
   split at h
   ·rename_i c1
    injection h with h
    subst h
    exact⟨fun e he=>(by cases he),fun v ef he aBn dR=>by
     injection he with he
     injection he with bu ee
     subst bu;subst ee
     exact aq aBn (.OC c1 dR)⟩
   rename_i c1
   split at h
   ·rename_i c2
    obtain⟨bb,bP⟩:=w2 _ _ _ _ h st hf
    exact⟨fun e he=>aq _ (.BN (by simpa using c1) c2 (bb e he)),fun v ef he aBn dR=>aq _ (.BN (by simpa using c1) c2 (bP v ef he aBn dR))⟩
   rename_i c2
   injection h with h
   subst h
   exact⟨fun e he=>by injection he with he;subst he;exact aq _ (.OD (by simpa using c1) (by simpa using c2)),fun v ef he=>by cases he⟩
  rw [oQ] at h
  refine⟨fun e he=>?_,fun t ef hk=>?_⟩
  ·rw [he] at h
   injection h with h
   exact h.symm
  rw [hk] at h
  dsimp only at h
  split at h
  ·cases h
  ·rename_i e bI
   injection h with h
   subst h
   obtain⟨h1,_⟩:=tu _ _ _ bI (.M acc t::st) (by simpa using hf)
   exact⟨fun yu he=>by injection he with he;subst he;exact h1 _ rfl,fun v ef he=>by cases he⟩
  rename_i y jt bI
  obtain⟨_,aq⟩:=tu _ _ _ bI (.M acc t::st) (by simpa using hf)
  have aq:=aq y jt rfl
  split at h
  ·rename_i c1
   injection h with h
   subst h
   exact⟨fun e he=>(by cases he),fun v ef he aBn dR=>by
    injection he with he
    injection he with bu ee
    subst bu;subst ee
    refine aq aBn (.IU c1 ?_)
    rw [oR]
    exact dR⟩
  rename_i c1
  split at h
  ·rename_i c2
   have bh:dO (e0 acc) t y=e0 (acc ++ [(t,y)]):=(oR acc (t,y)).symm
   rw [bh] at h
   obtain⟨bb,bP⟩:=w3 _ _ _ _ h st hf
   cases dh:h5 s (ai aT s jt+1) (e0 (acc ++ [(t,y)]))with
   | error e=>
    have:=bb e dh
    subst this
    exact⟨fun yu he=>by injection he with he;subst he;exact aq _ (.IV (by simpa using c1) c2 dh),fun v ef he=>by cases he⟩
   | ok p=>
    obtain⟨t',kS⟩:=p
    obtain⟨cZ,fy⟩:=bP t' kS dh
    exact⟨fun e he=>aq _ (.yy (by simpa using c1) c2 dh (cZ e he)),fun v ef he aBn dR=>aq _ (.yy (by simpa using c1) c2 dh (fy v ef he aBn dR))⟩
  rename_i c2
  injection h with h
  subst h
  exact⟨fun e he=>by injection he with he;subst he;exact aq _ (.IW (by simpa using c1) (by simpa using c2)),fun v ef he=>by cases he⟩
noncomputable def vZ (s:ab):tA:=(jl (2*s.length+2) s 0 0).getD (.error 0)
theorem w4 (s:ab):jl (2*s.length+2) s 0 0=some (vZ s):=by
 unfold vZ;have:=(EB s (2*s.length+2)).1 0 0 (by omega) (by omega);cases h:jl (2*s.length+2) s 0 0 with
 | none=>exact absurd h this
 | some r=>rfl
theorem UP (s:ab):jx s none 0 [] (vZ s):=by
 obtain⟨h1,aq⟩:=(al' s _).1 _ _ _ (w4 s) [] rfl;cases h:vZ s with
 | error e=>exact h1 e h
 | ok p=>exact aq p.1 p.2 (by rw [h]) _ .done
noncomputable def parse (s:ab):Except Int JV:=
 if 65536<s.length then .error 3
 else match vZ s with
  | .error e=>.error e
  | .ok (v,k)=>if ai aT s k<s.length then .error 4 else .ok v
section
variable {P:Program} {ops:Array Oper} {md:Region.Mode} {aBn:World→World→Prop} {C:World→Prop} {n:Nat} {ds:List Deferred} {Q:Exit→Act→World→Prop} {w w':World} {l:List (Nat×Value)} {a:Act}
def CK (P:Program) (ops:Array Oper) (n:Nat) (ds:List Deferred) (Q:Exit→Act→World→Prop) (tC:List Nat) (x y:Nat):Exit→Act→World→Prop
 | .normal,a,w=>∃ l,Has n ds l a∧adm P n (fun l=>fI P ops Q (pick ops [x,y]) n ds l w∧fI P ops Q (pick ops [y,x]) n ds l w) (pick ops tC) l
 | e,a,w=>Q e a w
theorem Wu {tC:List Nat} {x y:Nat} (h:adm P n (fun l=>fI P ops Q (pick ops [x,y]) n ds l w∧fI P ops Q (pick ops [y,x]) n ds l w) (pick ops tC) l):fI P ops (CK P ops n ds Q tC x y) [] n ds l w:=fun a aE=>⟨l,aE,h⟩
theorem R0 {tC:List Nat} {x y i:Nat} {K:Act→World→Prop} (h:∀ a w,CK P ops n ds Q tC x y .normal a w→K a w) (kf:wpOp P ops (CK P ops n ds Q tC x y) i (CK P ops n ds Q tC x y .normal) a w):wpOp P ops Q i K a w:=by
 have afp:LetsOut (CK P ops n ds Q tC x y)→LetsOut Q:=fun⟨a,w,h⟩=>⟨a,w,h⟩;unfold wpOp at *
 split
 ·exact h _ _ (by simpa [*] using kf)
 rename_i o fv
 simp only [fv] at kf
 split
 rotate_left
 ·rename_i hw
  simp only [hw,if_false] at kf;exact h _ _ kf
 rename_i hw
 simp only [hw,if_true] at kf;refine kf.imp (fun h1=>?_) (fun h1=>⟨h1.1,afp h1.2⟩);unfold Oper.wp at *;generalize (execOp a.eval o).run P w=r at *;cases r with
 | ok n w'=>
  cases n with
  | value v=>exact h _ _ h1
  | skip=>exact h _ _ h1
  | defer d=>exact h _ _ h1
  | enter f args=>
   refine Calls.mono h1 fun e cX he=>?_;cases e with
   | returned v=>exact h _ _ he
   | panicked c=>exact he
   | outgrown=>exact afp he
  | row azM args=>exact Rows.mono h1 fun v cX bI=>h _ _ bI
  | _=>exact h1
 | halt s w'=>
  cases s with
  | panic v=>exact h1
  | _=>exact h1
def Kg (ops:Array Oper) (t0:Nat) (tC:List Nat) (x y:Nat) (listed:Array Bool):Bool:=
 decide (Region.ready .any ops listed = [t0])&&y2 .any ops tC (listed.setIfInBounds t0 true) &&
 decide (Region.ready .any ops (nx (listed.setIfInBounds t0 true) tC) = [x,y]) &&
 sx .any ops [y] ((nx (listed.setIfInBounds t0 true) tC).setIfInBounds x true)&&sx .any ops [x] ((nx (listed.setIfInBounds t0 true) tC).setIfInBounds y true)
theorem rH {i:Nat} {o:Oper} {rest:List Oper} (fv:ops[i]? = some o) (h:wpList P ops Q (o::rest) a w):wpOp P ops Q i (wpList P ops Q rest) a w:=by
 unfold wpOp;simp only [fv];exact h
theorem Ng {x y:Nat} {Tj:Array Bool} (h1:Region.ready .any ops Tj = [x,y]) (aq:sx .any ops [y] (Tj.setIfInBounds x true)=true) (bb:sx .any ops [x] (Tj.setIfInBounds y true)=true)
  (ae:wpList P ops Q (pick ops [x,y]) a w) (ba:wpList P ops Q (pick ops [y,x]) a w):wpAny P .any ops Q 2 Tj a w:=by
 have ato:x∈Region.ready .any ops Tj:=by rw [h1];simp
 have atp:y∈Region.ready .any ops Tj:=by rw [h1];simp
 obtain⟨_,azN,anz,_⟩:=mem_ready.1 ato
 obtain⟨_,azO,anA,_⟩:=mem_ready.1 atp
 refine⟨fun h=>(by rw [h1] at h;cases h),fun i hi=>?_⟩
 rw [h1] at hi
 rcases cB hi with rfl | hi
 ·have cc:pick ops [i,y]=azN::pick ops [y]:=by simp [pick,List.filterMap_cons,anz]
  rw [cc] at ae
  exact wpOp_mono (fun a w h=>ny [y] _ a w aq h) (rH anz ae)
 obtain rfl:i=y:=by simpa using hi
 have cc:pick ops [i,x]=azO::pick ops [x]:=by simp [pick,List.filterMap_cons,anA]
 rw [cc] at ba
 exact wpOp_mono (fun a w h=>ny [x] _ a w bb h) (rH anA ba)
theorem CL (Fm:∀ c a w,¬ Q (.panic c) a w) (vz:∀ (j:Nat) (o:Oper) cs b,ops[j]? = some o→o.op≠.select cs b) {t0 x y:Nat} {tC:List Nat} {listed:Array Bool} (ev:Kg ops t0 tC x y listed=true)
  (h:wpList P ops (CK P ops n ds Q tC x y) (pick ops [t0]) a w):wpAny P .any ops Q (tC.length+2+1) listed a w:=by
 unfold Kg at ev
 simp only [Bool.and_eq_true,decide_eq_true_eq] at ev
 obtain⟨⟨⟨⟨dN,fz⟩,mW⟩,HP⟩,atq⟩:=ev
 have bo:t0∈Region.ready .any ops listed:=by rw [dN];simp
 obtain⟨_,o,fv,_⟩:=mem_ready.1 bo
 have cc:pick ops [t0] = [o]:=by simp [pick,fv]
 rw [cc] at h
 refine⟨fun h=>(by rw [dN] at h;cases h),fun i hi=>?_⟩
 rw [dN] at hi
 obtain rfl:i=t0:=by simpa using hi
 refine R0 (fun ye w' he=>?_) (rH fv h)
 obtain⟨l',y0,ado⟩:=he
 exact rm (n:=n) (ds:=ds) Fm vz tC _ l' ye y0 fz ado fun Tj a2 DP hk=>Ng mW HP atq (hk.1 a2 DP) (hk.2 a2 DP)
def CM (md:Region.Mode) (ops:Array Oper) (B:Array Bool→Bool):List Nat→Array Bool→Bool
 | [],listed=>B listed
 | i::bh,listed=>(Region.ready md ops listed).contains i&&Region.free md ops listed i&&CM md ops B bh (listed.setIfInBounds i true)
theorem CN {B:Array Bool→Bool} {vP iz:List Nat} {Fin:lj→Prop} (aW:∀ listed,B listed=true→∀ j∈Region.ready md ops listed,j∈iz) (hw:∀ listed,sy md ops vP iz listed→(∃ i∈vP,listed.getD i true=false)→∀ t∈iz,t∉Region.ready md ops listed) :
  ∀ (bh:List Nat) (listed:Array Bool) (N:lj),(∀ i∈bh,i∈vP)→(∀ i∈bh,i∉iz)→sy md ops vP iz listed→
  CM md ops B bh listed=true→TW P ops aBn C n Fin (pick ops bh) N→
  Fk P md ops aBn C n iz (fun oZ afg=>B oZ=true∧Fin afg) bh.length listed N
 | [],listed,N,_,_,_,ev,h=>⟨by simpa [CM] using ev,h⟩
 | i::bh,listed,N,k9,M7,inv,ev,h=>by
  simp only [CM,Bool.and_eq_true] at ev
  obtain⟨⟨bo,dn⟩,Hc⟩:=ev
  have qt:i∈Region.ready md ops listed:=by simpa using bo
  obtain⟨mz,o,fv,_⟩:=mem_ready.1 qt
  have cc:pick ops (i::bh)=o::pick ops bh:=by simp [pick,List.filterMap_cons,fv]
  rw [cc] at h
  obtain⟨V,rF,iI⟩:=h
  exact zR fv (M7 i (by simp)) (fun listed inv hu=>hw listed inv ⟨i,k9 i (by simp),hu⟩) (fun oZ afg pS=>aW _ pS.1) bh.length listed N inv (Region.free_spec fv dn) qt rF
   (CN aW hw bh _ _ (fun i hi=>k9 i (by simp [hi])) (fun i hi=>M7 i (by simp [hi])) (inv.set qt (M7 i (by simp))) Hc iI)
def XL (ops:Array Oper) (gC bh:List Nat) (t0:Nat) (tC:List Nat) (x y:Nat):Bool:=
 Region.noSelect ops&&decide (gC.length+(bh.length+(tC.length+2+1))=ops.size)&&y2 .any ops gC (Array.replicate ops.size false) &&
 J' .any ops (nx (Array.replicate ops.size false) gC)&&(t0::(tC ++ [x,y])).all (fun t=>!(nx (Array.replicate ops.size false) gC).getD t true) &&
 bh.all (fun i=>!(t0::(tC ++ [x,y])).contains i)&&CD .any ops t0 bh&&(tC ++ [x,y]).all (fun t=>Region.waitsFor .any ops t t0)&&CM .any ops (Kg ops t0 tC x y) bh (nx (Array.replicate ops.size false) gC)
theorem Jo {id:Nat} {lo:List Oper} (gC bh:List Nat) (t0:Nat) (tC:List Nat) (x y:Nat) (hm:P.follows .mixedOrders=true) (ev:XL lo.toArray gC bh t0 tC x y=true) (Fm:∀ c a w,¬ Q (.panic c) a w)
  (h:adm P n (fun l=>hj P lo.toArray w n (fun N=>∀ a w',a.defers=ds→Mod [] w w'→N.all n a w'→wpList P lo.toArray (CK P lo.toArray n ds Q tC x y) (pick lo.toArray [t0]) a w') (pick lo.toArray bh) l []) (pick lo.toArray gC) l):k2 P (.region id lo.toArray true) Q n ds l w:=by
 intro a aE
 unfold XL at ev
 simp only [Bool.and_eq_true,decide_eq_true_eq] at ev
 obtain⟨⟨⟨⟨⟨⟨⟨⟨vz,hlen⟩,cc⟩,lJ⟩,Dz⟩,ahR⟩,M8⟩,ahS⟩,Kb⟩:=ev
 refine wp_region_any hm ?_
 rw [← hlen]
 have jV:(nx (Array.replicate lo.toArray.size false) gC).size=lo.toArray.size:=by rw [wx];simp
 have Xz:∀ t∈t0::(tC ++ [x,y]),(nx (Array.replicate lo.toArray.size false) gC).getD t true=false:=fun t bW=>by
  have:=List.all_eq_true.1 Dz t bW
  simpa using this
 have JW:sy .any lo.toArray bh (t0::(tC ++ [x,y])) (nx (Array.replicate lo.toArray.size false) gC):=by
  refine⟨jV,fun j u1 eD cb e he aW=>?_,Xz⟩
  have h1:=List.all_eq_true.1 lJ j (List.mem_range.2 (Array.getElem?_eq_some_iff.1 eD).1)
  rw [cb,eD] at h1
  simp only [Bool.not_true,Bool.false_or,Array.all_eq_true_iff_forall_mem] at h1
  have aq:=h1 e he
  rw [aW] at aq
  simpa using aq
 have hw:∀ listed,sy .any lo.toArray bh (t0::(tC ++ [x,y])) listed→(∃ i∈bh,listed.getD i true=false)→∀ t∈t0::(tC ++ [x,y]),t∉Region.ready .any lo.toArray listed:=by
  rintro listed inv ⟨i,hi,mz⟩ t bW
  rcases cB bW with rfl | GO
  ·exact rl inv.size inv.closed bh M8 i hi mz
  intro bo
  obtain⟨_,ann,Xx,lD⟩:=mem_ready.1 bo
  obtain⟨xB,Xl,e,he,aW,RU⟩:=Region.waitsFor_spec (List.all_eq_true.1 ahS t GO)
  have:xB=ann:=Option.some.inj (Xl.symm.trans Xx)
  subst this
  have aq:=lD e he aW
  rw [RU,getD_both (inv.tail t0 (by simp))] at aq
  cases aq
 have M9:(Array.replicate (gC.length+(bh.length+(tC.length+2+1))) false)=Array.replicate lo.toArray.size false:=by rw [hlen]
 rw [M9]
 refine rm (n:=n) (ds:=ds) Fm (Region.noSelect_spec vz) gC _ l a aE cc h fun l a aE kp=>?_
 have Jr:∀ listed,Kg lo.toArray t0 tC x y listed=true→∀ j∈Region.ready .any lo.toArray listed,j∈t0::(tC ++ [x,y]):=fun listed aW j eD=>by
  unfold Kg at aW
  simp only [Bool.and_eq_true,decide_eq_true_eq] at aW
  rw [aW.1.1.1.1] at eD
  simp only [List.mem_singleton] at eD
  rw [eD]
  simp
 have H:=CN (md:=.any) Jr hw bh _ (tx l []) (fun i hi=>hi) (fun i hi=>by
  have:=List.all_eq_true.1 ahR i hi
  simpa using this) JW Kb kp
 exact ux (n:=n) (ds:=ds) (w0:=w) (Q:=Q) (g:=tC.length+2+1) (later w) (fun listed N a w' _ bT h4 _ gy pS=>CL (n:=n) (ds:=ds) Fm (Region.noSelect_spec vz) pS.1 (pS.2 a w' bT h4 gy)) _ _ (tx l []) a _ (u2 l) aE.defers (Mod.drew [] w) (Mod.drew [] w) (AX aE) H
end
def xH (es:Array MapEntry):List (Value×Value):=es.toList.map fun e=>(e.key,e.val)
def rows (m:List (ab×Value)):List (Value×Value):=m.map fun p=>(S p.1,p.2)
structure k8 (w:World) (b:Nat) (m:List (ab×Value)):Prop where
 at_:∃ es clock,w.heap[b]? = some (.map es clock)∧xH es=rows m∧(∀ e∈es.toList,e.born<clock)∧(es.toList.map (·.born)).Nodup
 keys:(m.map (·.1)).Nodup
variable {P:Program} {w w':World} {b:Nat} {m:List (ab×Value)} {k:ab} {M:List Nat}
theorem k8.lt (h:k8 w b m):b<w.heap.size:=by
 obtain⟨es,c,h1,_⟩:=h.at_;exact(Array.getElem?_eq_some_iff.1 h1).1
theorem k8.mod (h:k8 w b m) (k:Mod M w w') (aW:b∉M):k8 w' b m:=by
 have bM:=h.lt;obtain⟨es,c,h1,aq⟩:=h.at_;exact⟨⟨es,c,(k.block b bM aW).trans h1,aq⟩,h.keys⟩
theorem k8.I (h:k8 w b m) (k:Mod [] w w'):k8 w' b m:=h.mod k (by simp)
theorem Pd (k l:ab):((⟨⟨k⟩⟩:ByteArray) == ⟨⟨l⟩⟩)=decide (k=l):=by
 by_cases h:k=l
 ·subst h;rw [decide_eq_true rfl];exact(MapKept.bytes_beq _ _).2 rfl
 rw [decide_eq_false h];cases aW:((⟨⟨k⟩⟩:ByteArray) == ⟨⟨l⟩⟩)with
 | false=>rfl
 | true=>
  have:=(MapKept.bytes_beq _ _).1 aW;injection this with this
  injection this with this
  exact absurd this h
theorem CF (k l:ab):Instr.sameNow .string (S k) (S l)=some (decide (k=l)):=by
 unfold S;simp only [Instr.sameNow,Pd]
theorem DY {l:List MapEntry} {m:List (ab×Value)} (h:l.map (fun e=>(e.key,e.val))=rows m) (k:ab) (i:Nat) :
  ∃ j,Instr.findNow .string (S k) l i=some ((look m k).map fun v=>(j,v))∧(∀ v,look m k=some v→i≤j∧∃ p,m[j-i]? = some p∧p.1=k∧p.2=v∧∀ q,q<j-i→∀ Rr,m[q]? = some Rr→Rr.1≠k):=by
 induction l generalizing m i with
 | nil=>
  cases m with
  | nil=>exact⟨0,rfl,fun v bI=>by simp [look] at bI⟩
  | cons p r=>simp [rows] at h
 | cons e r ea=>
  cases m with
  | nil=>simp [rows] at h
  | cons p s=>
   simp only [rows,List.map_cons,List.cons.injEq,Prod.mk.injEq] at h
   obtain⟨⟨h1,aq⟩,bb⟩:=h
   rw [Instr.findNow,h1]
   by_cases cc:p.1=k
   ·refine⟨i,?_,fun v bI=>?_⟩
    ·have:Instr.sameNow .string (S k) (S p.1)=some true:=by rw [CF,decide_eq_true cc.symm]
     rw [this]
     simp only [look,aL cc,Option.map_some]
     rw [aq]
    simp only [look,aL cc,Option.some.injEq] at bI
    exact⟨Nat.le_refl _,p,by simp,cc,bI,fun q e8=>by omega⟩
   have:Instr.sameNow .string (S k) (S p.1)=some false:=by rw [CF,decide_eq_false (fun e=>cc e.symm)]
   rw [this]
   obtain⟨j,bP,cZ⟩:=ea (m:=s) (by simpa [rows] using bb) (i+1)
   refine⟨j,?_,fun v bI=>?_⟩
   ·simp only [bP,look,ak cc]
   simp only [look,ak cc] at bI
   obtain⟨fy,Rr,lL,lZ,l2,jP⟩:=cZ v bI
   refine⟨by omega,Rr,?_,lZ,l2,fun q e8 HS ah1=>?_⟩
   ·rw [show j-i=(j-(i+1))+1 by omega]
    simpa using lL
   cases q with
   | zero=>simp at ah1;subst ah1;exact cc
   | succ q=>exact jP q (by omega) HS (by simpa using ah1)
section
variable {ops:Array Oper} {Q:Exit→Act→World→Prop} {n:Nat} {ds:List Deferred} {l:List (Nat×Value)} {rest:List Oper} {d:Nat} {ty:TypeId} {pos:String} {af:Array Edge} {dd:Option Nat} {gg:Option (Nat×Bool)} {x y:Operand} {t XJ afo:TypeId} {z v:Value}
def anu (w:World) (u:Value) (m:List (ab×Value)):Prop:=(u = .map none∧m = [])∨∃ b,u = .map (some b)∧k8 w b m
theorem qC (hk:P.underlying XJ=some .string) (e:Bool) (k:ab):(Instr.checkKey e 10000 XJ (S k)).run P w = .ok () w:=by
 unfold Instr.checkKey;simp [underlying,hk,S]
theorem run_findKey (hk:P.underlying XJ=some .string) {l:List MapEntry} {m:List (ab×Value)} (h:l.map (fun e=>(e.key,e.val))=rows m) (k:ab) :
  ∃ j,(Instr.findKey XJ (S k) l).run P w = .ok ((look m k).map fun v=>(j,v)) w∧(∀ v,look m k=some v→∃ p,m[j]? = some p∧p.1=k∧p.2=v∧∀ q,q<j→∀ Rr,m[q]? = some Rr→Rr.1≠k):=by
 obtain⟨j,h1,aq⟩:=DY h k 0
 refine⟨j,?_,fun v bI=>?_⟩
 ·unfold Instr.findKey
  simp [underlying,hk,h1]
 obtain⟨_,p,bb,bP,cZ,fy⟩:=aq v bI
 exact⟨p,bb,bP,cZ,fy⟩
theorem Fp (cP:(P.info? afo).bind (·.zero)=some z) (w:World):(zeroValue afo).run P w = .ok z w:=by
 obtain⟨i,aq,bb⟩:=Option.bind_eq_some_iff.1 cP;simp [zeroValue,typeInfo,aq,bb]
theorem amq (bW:P.underlying t=some (.map XJ afo)) (hk:P.underlying XJ=some .string) (XA:(P.info? afo).bind (·.zero)=some z) (ae:bf l x=some v) (hm:anu w v m) (ba:bf l y=some (S k)) :
  bE P l ⟨dd,.lookup t x y false,ty,pos,af,gg⟩ w ((look m k).getD z) w:=fun ρ h=>by
 have cP:=Fp XA
 rcases hm with⟨rfl,rfl⟩ | ⟨b,rfl,hm⟩
 ·simp [execOp,h _ _ ae,h _ _ ba,Instr.lookup,underlying,bW,qC hk,Instr.findKey,hk,Instr.findNow,cP,look]
 obtain⟨es,c,h1,aq,_⟩:=hm.at_
 obtain⟨j,bb,bP⟩:=run_findKey (P:=P) (w:=w) hk aq k
 cases cb:look m k with
 | none=>simp [execOp,h _ _ ae,h _ _ ba,Instr.lookup,underlying,bW,getObj,Sem.run,Result.andThen,h1,qC hk,bb,cb,cP]
 | some u=>simp [execOp,h _ _ ae,h _ _ ba,Instr.lookup,underlying,bW,getObj,Sem.run,Result.andThen,h1,qC hk,bb,cb]
def w9 {β:Type} (m:List (ab×β)) (k:ab) (v:β):List (ab×β):=if (look m k).isSome then m.map (fun p=>if p.1=k then (p.1,v)else p)else m ++ [(k,v)]
theorem CG {β:Type} {m:List (ab×β)} {k:ab} {v:β} (h:(m.map (·.1)).Nodup):((w9 m k v).map (·.1)).Nodup:=by
 unfold w9
 split
 ·have:(m.map fun p=>if p.1=k then (p.1,v)else p).map (·.1)=m.map (·.1):=by
   rw [List.map_map];apply List.map_congr_left;intro p _;simp only [Function.comp]
   split <;> rfl
  rw [this];exact h
 rename_i cu
 rw [List.map_append,List.nodup_append];refine⟨h,by simp,fun a aE b aW=>?_⟩;simp only [List.map_cons,List.map_nil,List.mem_singleton] at aW;subst aW;intro e;subst e;obtain⟨p,cc,atl⟩:=List.mem_map.1 aE;have cb:look m a=none:=by simpa using cu
 exact s6 cb p cc atl
end
end Go.Proofs.YtkjgljnkocnnpaaGreatDoor.V
namespace Go.Proofs.YtkjgljnkocnnpaaGreatDoor.V
open Go
open Go.ChangeMaps (setBlock)
section
variable {P:Program} {w w':World} {b:Nat} {m:List (ab×Value)} {k:ab} {M:List Nat}
variable {ops:Array Oper} {Q:Exit→Act→World→Prop} {n:Nat} {ds:List Deferred} {l:List (Nat×Value)} {rest:List Oper} {d:Nat} {ty:TypeId} {pos:String} {af:Array Edge} {dd:Option Nat} {gg:Option (Nat×Bool)} {x y z:Operand} {t XJ afo:TypeId} {v:Value}
theorem k8.nil (w:World):k8 (w.alloc (.map #[] 0)) w.heap.size []:=
 ⟨⟨#[],0,heap_alloc_new w _,rfl,by simp,by simp⟩,by simp⟩
theorem acW (bT:Nat.blt d n=true) (h:∀ b w',k8 w' b []→b=w.heap.size→Mod [] w w'→fI P ops Q rest n ds ((d,.map (some b))::l) w'):fI P ops Q (⟨some d,.makeMap t none,ty,pos,af,none⟩::rest) n ds l w:=
 hg (v:=.map (some w.heap.size)) (w':=w.alloc (.map #[] 0)) (fun ρ gw=>by simp [execOp,Instr.makeMap,newObj,Sem.run,Result.andThen]) bT (h _ _ (k8.nil w) rfl (Mod.alloc w _))
theorem xI {o xB:Obj} {g:Nat} (dY:w.heap[g]? = some o):(setBlock w g xB).heap[g]? = some xB:=by
 have bM:=(Array.getElem?_eq_some_iff.1 dY).1;simp [setBlock,Array.getElem?_setIfInBounds,bM]
theorem vE {o xB:Obj} {g:Nat} (dY:w.heap[g]? = some o):Mod [g] w (setBlock w g xB):=by
 refine⟨rfl,rfl,rfl,by simp [setBlock],fun i hi cu=>?_⟩;have:i≠g:=fun e=>cu (by simp [e]);simp [setBlock,Array.getElem?_setIfInBounds,Ne.symm this]
theorem run_set {xB:Obj} {g:Nat} {es:Array MapEntry} {c:Nat} (dY:w.heap[g]? = some (.map es c)):(setObj g xB).run P w = .ok () (setBlock w g xB):=by
 simp [setObj,Sem.run,dY,setBlock]
theorem Nd {es:Array MapEntry} {e:MapEntry}:xH (es.push e)=xH es ++ [(e.key,e.val)]:=by simp [xH]
theorem Hh {es:Array MapEntry} {j:Nat} {p:ab×Value} (h:xH es=rows m) (hk:(m.map (·.1)).Nodup) (eD:m[j]? = some p) (cc:p.1=k):xH (es.modify j fun e=>{e with key:=S k,val:=v})=rows (m.map fun q=>if q.1=k then (q.1,v)else q):=by
 unfold xH rows at h ⊢;apply List.ext_getElem?;intro i;have hi:=kZ (fun z=>z[i]?) h;simp only [List.getElem?_map] at hi;simp only [List.getElem?_map,Array.getElem?_toList,Array.getElem?_modify] at hi ⊢
 by_cases z6:j=i
 ·subst z6;rw [aL rfl];rw [eD] at hi ⊢;cases he:es[j]? with
  | none=>rw [he] at hi;simp at hi
  | some e=>simp [cc]
 rw [ak z6];cases e8:m[i]? with
 | none=>rw [e8] at hi;simp at hi ⊢;exact hi
 | some q=>
  rw [e8] at hi;have cH:¬ q.1=k:=fun e=>by
   have h1:=(List.getElem?_eq_some_iff.1 eD);have aq:=(List.getElem?_eq_some_iff.1 e8);obtain⟨anv,Wq⟩:=h1;obtain⟨anw,anx⟩:=aq;have ado:=List.pairwise_iff_getElem.1 hk;rcases Nat.lt_or_gt_of_ne z6 with bM | bM
   ·exact ado j i (by simpa using anv) (by simpa using anw) bM (by simp [Wq,anx,cc,e])
   exact ado i j (by simpa using anw) (by simpa using anv) bM (by simp [Wq,anx,cc,e])
  rw [hi];simp [cH]
theorem xJ {es:Array MapEntry} {j:Nat} {f:MapEntry→MapEntry} (dn:∀ e,(f e).born=e.born):(es.modify j f).toList.map (·.born)=es.toList.map (·.born):=by
 apply List.ext_getElem?;intro i;simp only [List.getElem?_map,Array.getElem?_toList,Array.getElem?_modify]
 split
 ·cases es[i]? <;> simp [dn]
 rfl
theorem acN (bW:P.underlying t=some (.map XJ afo)) (hk:P.underlying XJ=some .string) (ae:bf l x=some (.map (some b))) (hm:k8 w b m) (ba:bf l y=some (S k)) (cP:bf l z=some v)
  (h:∀ w',k8 w' b (w9 m k v)→Mod [b] w w'→fI P ops Q rest n ds l w'):fI P ops Q (⟨none,.mapUpdate t x y z,ty,pos,af,none⟩::rest) n ds l w:=by
 obtain⟨es,c,h1,aq,bb,bP⟩:=hm.at_
 obtain⟨j,cZ,fy⟩:=run_findKey (P:=P) (w:=w) hk aq k
 cases cb:look m k with
 | none=>
  rw [cb] at cZ
  have ev:k8 (setBlock w b (.map (es.push {key:=S k,val:=v,born:=c}) (c+1))) b (w9 m k v):=by
   refine⟨⟨_,_,xI h1,?_,fun e he=>?_,?_⟩,CG hm.keys⟩
   ·rw [Nd,aq]
    unfold w9
    rw [cb]
    simp [rows]
   ·simp only [Array.toList_push,List.mem_append,List.mem_singleton] at he
    rcases he with he | rfl
    ·have:=bb e he;omega
    exact Nat.lt_succ_self _
   simp only [Array.toList_push,List.map_append,List.map_cons,List.map_nil,List.nodup_append]
   refine⟨bP,by simp,fun a aE q e8=>?_⟩
   simp only [List.mem_singleton] at e8
   subst e8
   obtain⟨e,he,rfl⟩:=List.mem_map.1 aE
   have:=bb e he
   omega
  intro a aE
  refine wpList_plain rfl fun K nI=>?_
  have bo:(execOp a.eval ⟨none,.mapUpdate t x y z,ty,pos,af,none⟩).run P w = .ok .skip (setBlock w b (.map (es.push {key:=S k,val:=v,born:=c}) (c+1))):=by
   simp [execOp,aE.rX ae,aE.rX ba,aE.rX cP,Instr.mapUpdate,underlying,bW,getObj,Sem.run,Result.andThen,h1,qC hk,cZ,run_set h1]
  simp only [Oper.wp,bo,Oper.upon]
  exact nI _ _ (h _ ev (vE h1) _ (by simpa [Act.put] using aE))
 | some u=>
  rw [cb] at cZ
  obtain⟨p,lL,lZ,l2,jP⟩:=fy u cb
  have ev:k8 (setBlock w b (.map (es.modify j fun e=>{e with key:=S k,val:=v}) c)) b (w9 m k v):=by
   refine⟨⟨_,_,xI h1,?_,fun e he=>?_,?_⟩,CG hm.keys⟩
   ·rw [Hh aq hm.keys lL lZ]
    unfold w9
    rw [cb]
    rfl
   ·have aW:=xJ (es:=es) (j:=j) (f:=fun e=>{e with key:=S k,val:=v}) (fun _=>rfl)
    have:e.born∈es.toList.map (·.born):=by rw [← aW];exact List.mem_map_of_mem he
    obtain⟨yu,atm,asv⟩:=List.mem_map.1 this
    have:=bb yu atm
    omega
   rw [xJ (f:=fun e=>{e with key:=S k,val:=v}) (fun _=>rfl)]
   exact bP
  have IT:((es[j]?).map (·.key)).getD (S k)=S k:=by
   have hi:=kZ (fun z=>z[j]?) aq
   simp only [xH,rows,List.getElem?_map,lL,Array.getElem?_toList] at hi
   cases he:es[j]? with
   | none=>rfl
   | some e=>
    rw [he] at hi
    simp only [Option.map_some,Option.some.injEq,Prod.mk.injEq] at hi
    simp [hi.1,lZ]
  have ah2:(Instr.keyThatStays (S k) (S k)).run P w = .ok (S k) w:=by
   have:Instr.sameBits 10000 (S k) (S k)=true:=by
    unfold S
    simp only [Instr.sameBits,Pd]
    simp
   simp [Instr.keyThatStays,this]
  intro a aE
  refine wpList_plain rfl fun K nI=>?_
  have bo:(execOp a.eval ⟨none,.mapUpdate t x y z,ty,pos,af,none⟩).run P w = .ok .skip (setBlock w b (.map (es.modify j fun e=>{e with key:=S k,val:=v}) c)):=by
   simp [execOp,aE.rX ae,aE.rX ba,aE.rX cP,Instr.mapUpdate,underlying,bW,getObj,Sem.run,Result.andThen,h1,qC hk,cZ,IT,ah2,run_set h1]
  simp only [Oper.wp,bo,Oper.upon]
  exact nI _ _ (h _ ev (vE h1) _ (by simpa [Act.put] using aE))
end
end Go.Proofs.YtkjgljnkocnnpaaGreatDoor.V
namespace Go.Proofs.YtkjgljnkocnnpaaGreatDoor.V
open Go
structure aeW where
 rd:Nat
 any:Nat
 pi:Nat
 pm:Nat
 it:Nat
 mt:Nat
 v:Nat
 aqr:Nat
 z:List Nat
def Qy (T:TypeId) (M:List Nat) (w:World) {α:Type} (r:Except Int α) (Q:α→Value→World→Prop):Ending→World→Prop
 | .returned u,w'=>∃ a,r = .ok a∧Q a u w'∧Mod M w w'
 | .panicked c,w'=>∃ e,r = .error e∧e≠0∧c=EL T e∧Mod M w w'
 | .outgrown,_=>False
def pj (K:List ab):List (ab×Value):=K.map fun k=>(k,.bool true)
theorem wb (k:ab):∀ K:List ab,look (pj K) k=if k∈K then some (.bool true)else none
 | []=>rfl
 | x::K=>by
  show(if x=k then some (Value.bool true)else look (pj K) k)=_
  rw [wb k K]
  by_cases h:x=k
  ·rw [aL h,aL (by simp [h])]
  rw [ak h]
  by_cases aq:k∈K
  ·rw [aL aq,aL (by simp [aq])]
  rw [ak aq,ak (by simp [aq];exact fun e=>h e.symm)]
theorem Qz {K:List ab} {k:ab} (h:k∉K):w9 (pj K) k (.bool true)=pj (K ++ [k]):=by
 unfold w9;rw [wb,ak h];simp [pj]
theorem Mp (k:ab):∀ acc:List (ab×JV),(look (e0 acc) k).isSome=decide (k∈acc.map (·.1)):=by
 intro acc;rw [← List.reverse_reverse acc];generalize acc.reverse=l
 induction l with
 | nil=>rfl
 | cons p l ea=>
  rw [List.reverse_cons,oR,EM]
  by_cases h:k=p.1
  ·rw [aL h];simp [h]
  rw [ak h,ea];rw [Bool.eq_iff_iff,decide_eq_true_eq,decide_eq_true_eq];simp only [List.map_append,List.mem_append,List.map_cons,List.map_nil,List.mem_singleton,h,or_false]
structure aqs (T:aeW) (A:List Nat) (w:World) (g:Nat) (acc:List JV) (eM:Value):Prop where
 ar:aF w g T.it [eM]
 own:∃ vs,Own w T.v 6 eM acc.length vs∧ao A w (acc.map JV.D).flatten vs
 aa9:g∉bk eM
structure agE (T:aeW) (A:List Nat) (w:World) (g b:Nat) (acc:List (ab×JV)) (K:List ab) (t:ab) (eM:Value):Prop where
 ar:aF w g T.mt [eM,.map (some b),S t]
 map:k8 w b (pj K)
 own:∃ vs,Own w T.aqr 7 eM acc.length vs∧ao A w (acc.map JV.jq).flatten vs
 amd:g≠b
 aa9:g∉bk eM
 ame:b∉bk eM
section
variable {T:aeW} {A A' M:List Nat} {w0 w w':World} {g:Nat} {s:ab} {k:Nat}
theorem aqs.to {acc:List JV} {eM:Value} (H:aqs T A w g acc eM) (h:Mod M w w') (eX:∀ x∈M,x∈A) (hm:∀ x∈g::bk eM,x∉M) (dy:∀ x∈A',x∈A∨w.heap.size≤x):aqs T A' w' g acc eM:=by
 obtain⟨vs,h1,aq⟩:=H.own;exact⟨H.ar.mod h (hm g (by simp)),⟨vs,h1.mod h (fun x ae=>hm x (by simp [ae])),ao.to h eX dy _ _ aq⟩,H.aa9⟩
theorem agE.to {acc:List (ab×JV)} {K:List ab} {t:ab} {b:Nat} {eM:Value} (H:agE T A w g b acc K t eM) (h:Mod M w w') (eX:∀ x∈M,x∈A) (hm:∀ x∈g::b::bk eM,x∉M) (dy:∀ x∈A',x∈A∨w.heap.size≤x):agE T A' w' g b acc K t eM:=by
 obtain⟨vs,h1,aq⟩:=H.own;exact⟨H.ar.mod h (hm g (by simp)),H.map.mod h (hm b (by simp)),⟨vs,h1.mod h (fun x ae=>hm x (by simp [ae])),ao.to h eX dy _ _ aq⟩,H.amd,H.aa9,H.ame⟩
def Ae (T:aeW) (A:List Nat) (w:World):nF→Value→List Nat→Prop
 | .L acc,c,m=>∃ g eM,c = .iface T.pi (.pointer (some ⟨g,0,none⟩))∧aqs T A w g acc eM∧m=g::bk eM
 | .M acc t,c,m=>∃ g b eM,c = .iface T.pm (.pointer (some ⟨g,0,none⟩))∧agE T A w g b acc (acc.map (·.1) ++ [t]) t eM∧m=g::b::bk eM
 | .A acc t,c,m=>∃ g b eM,c = .iface T.pm (.pointer (some ⟨g,0,none⟩))∧agE T A w g b acc (acc.map (·.1)) t eM∧m=g::b::bk eM
theorem Ae.to {fm:nF} {c:Value} {m:List Nat} (H:Ae T A w fm c m) (h:Mod M w w') (eX:∀ x∈M,x∈A) (hm:∀ x∈m,x∉M) (dy:∀ x∈A',x∈A∨w.heap.size≤x):Ae T A' w' fm c m:=by
 cases fm with
 | L acc=>obtain⟨g,eM,h1,aq,rfl⟩:=H;exact⟨g,eM,h1,aq.to h eX hm dy,rfl⟩
 | M acc t=>obtain⟨g,b,eM,h1,aq,rfl⟩:=H;exact⟨g,b,eM,h1,aq.to h eX hm dy,rfl⟩
 | A acc t=>obtain⟨g,b,eM,h1,aq,rfl⟩:=H;exact⟨g,b,eM,h1,aq.to h eX hm dy,rfl⟩
theorem Ae.lt {fm:nF} {c:Value} {m:List Nat} (H:Ae T A w fm c m):∀ x∈m,x<w.heap.size:=by
 cases fm with
 | L acc=>
  obtain⟨g,eM,_,aq,rfl⟩:=H;obtain⟨vs,bb,_⟩:=aq.own;intro x ae;rcases cB ae with rfl | ae
  ·exact aq.ar.lt
  exact bb.lt x ae
 | M acc t=>
  obtain⟨g,b,eM,_,aq,rfl⟩:=H;obtain⟨vs,bb,_⟩:=aq.own;intro x ae;rcases cB ae with rfl | ae
  ·exact aq.ar.lt
  rcases cB ae with rfl | ae
  ·exact aq.map.lt
  exact bb.lt x ae
 | A acc t=>
  obtain⟨g,b,eM,_,aq,rfl⟩:=H;obtain⟨vs,bb,_⟩:=aq.own;intro x ae;rcases cB ae with rfl | ae
  ·exact aq.ar.lt
  rcases cB ae with rfl | ae
  ·exact aq.map.lt
  exact bb.lt x ae
def qw (T:aeW) (A:List Nat) (w:World):List nF→List Value→List Nat→Prop
 | [],cs,fp=>cs = []∧fp=T.z∧∀ x∈T.z,x<w.heap.size
 | fm::st,cs,fp=>∃ c cs' m jE,cs=c::cs'∧fp=m++jE∧Ae T A w fm c m∧qw T A w st cs' jE∧∀ x∈m,x∉jE
theorem qw.to (h:Mod M w w') (eX:∀ x∈M,x∈A) (dy:∀ x∈A',x∈A∨w.heap.size≤x):∀ {st:List nF} {cs:List Value} {fp:List Nat},qw T A w st cs fp→(∀ x∈fp,x∉M)→qw T A' w' st cs fp
 | [],_,_,H,_=>⟨H.1,H.2.1,fun x ae=>Nat.lt_of_lt_of_le (H.2.2 x ae) h.size⟩
 | fm::st,_,_,H,hm=>by
  obtain⟨c,cs',m,jE,rfl,rfl,h1,aq,bb⟩:=H
  exact⟨c,cs',m,jE,rfl,rfl,h1.to h eX (fun x ae=>hm x (by simp [ae])) dy,aq.to h eX dy (fun x ae=>hm x (by simp [ae])),bb⟩
theorem qw.len:∀ {st:List nF} {cs:List Value} {fp:List Nat},qw T A w st cs fp→cs.length=st.length
 | [],_,_,H=>by rw [H.1];rfl
 | fm::st,_,_,H=>by
  obtain⟨c,cs',m,jE,rfl,rfl,h1,aq,bb⟩:=H
  simp [aq.len]
theorem qw.lt:∀ {st:List nF} {cs:List Value} {fp:List Nat},qw T A w st cs fp→∀ x∈fp,x<w.heap.size
 | [],_,_,H=>by rw [H.2.1];exact H.2.2
 | fm::st,_,_,H=>by
  obtain⟨c,cs',m,jE,rfl,rfl,h1,aq,bb⟩:=H
  intro x ae
  rcases List.mem_append.1 ae with ae | ae
  ·exact h1.lt x ae
  exact aq.lt x ae
theorem qw.z:∀ {st:List nF} {cs:List Value} {fp:List Nat},qw T A w st cs fp→∀ x∈T.z,x∈fp
 | [],_,_,H=>by rw [H.2.1];exact fun x ae=>ae
 | fm::st,_,_,H=>by
  obtain⟨c,cs',m,jE,rfl,rfl,h1,aq,bb⟩:=H
  exact fun x ae=>List.mem_append_right _ (aq.z x ae)
structure o9 (T:aeW) (w0 w:World) (g:Nat) (s:ab) (k:Nat) (st:List nF) (hg:Value) (cs:List Value) (fp:List Nat):Prop where
 rd:aF w g T.rd [S s,.int .i64 (k:Int),hg]
 own:Own w T.any 1 hg cs.length cs.reverse
 vj:qw T (g::(bk hg++fp)) w st cs fp
 vk:g∉bk hg++fp
 wH:∀ x∈bk hg,x∉fp
 uQ:∀ x∈bk hg++fp,w0.heap.size≤x
 mod:Mod [g] w0 w
structure n1 (w w':World) (g:Nat) (hg:Value) (fp:List Nat) (j7:Value) (jE:List Nat):Prop where
 mod:Mod (g::(bk hg++fp)) w w'
 new:∀ x∈bk j7++jE,x∈bk hg++fp∨w.heap.size≤x
variable {st:List nF} {hg j7:Value} {cs cs':List Value} {fp jE:List Nat} {kS:Nat}
theorem o9.init (B:aF w g T.rd [S s,.int .i64 (0:Int),.slice none 0 0]) (hm:Mod [g] w0 w) (cP:∀ x∈T.z,w0.heap.size≤x∧x<w.heap.size∧x≠g):o9 T w0 w g s 0 [] (.slice none 0 0) [] T.z:=
 ⟨B,Own.nil _ _ _,⟨rfl,rfl,fun x ae=>(cP x ae).2.1⟩,fun h=>(cP g (by simpa [bk] using h)).2.2 rfl,by simp [bk],fun x ae=>(cP x (by simpa [bk] using ae)).1,hm⟩
theorem o9.len (H:o9 T w0 w g s k st hg cs fp):cs.length=st.length:=H.vj.len
theorem o9.lt (H:o9 T w0 w g s k st hg cs fp):∀ x∈g::(bk hg++fp),x<w.heap.size:=fun x ae=>by
 rcases cB ae with rfl | ae
 ·exact H.rd.lt
 rcases List.mem_append.1 ae with ae | ae
 ·exact H.own.lt x ae
 exact H.vj.lt x ae
theorem n1.of (h:Mod [g] w w'):n1 w w' g hg fp hg fp:=⟨h.mono (by simp),fun x ae=>.inl ae⟩
theorem n1.refl (w:World) (g:Nat) (hg:Value) (fp:List Nat):n1 w w g hg fp hg fp:=⟨Mod.refl _ _,fun x ae=>.inl ae⟩
theorem n1.trans {cX:World} {amf:Value} {Af:List Nat} (h:n1 w w' g hg fp j7 jE) (fW:n1 w' cX g j7 jE amf Af):n1 w cX g hg fp amf Af:=
 ⟨h.mod.trans' fW.mod fun x ae=>by
  rcases cB ae with rfl | ae
  ·exact .inl (by simp)
  exact(h.new x ae).imp (fun h=>by simp only [List.mem_cons];exact .inr h) id,fun x ae=>(fW.new x ae).elim (h.new x) fun ae=>.inr (Nat.le_trans h.mod.size ae)⟩
theorem n1.ar {h:Nat} {aBo:TypeId} {us:List Value} (S:n1 w w' g hg fp j7 jE) (B:aF w h aBo us) (cu:h∉g::(bk hg++fp)):aF w' h aBo us∧h∉g::(bk j7++jE):=by
 have bM:=B.lt;refine⟨B.mod S.mod cu,fun ae=>?_⟩;rcases cB ae with rfl | ae
 ·exact cu (by simp)
 rcases S.new h ae with h1 | h1
 ·exact cu (by simp only [List.mem_cons];exact .inr h1)
 omega
theorem n1.I1 {d:List D} {us:List Value} (S:n1 w w' g hg fp j7 jE) (aBn:ao (g::(bk hg++fp)) w d us):ao (g::(bk j7++jE)) w' d us:=
 ao.to S.mod (fun x ae=>ae) (fun x ae=>by
  rcases cB ae with rfl | ae
  ·exact .inl (by simp)
  exact(S.new x ae).imp (fun h=>by simp only [List.mem_cons];exact .inr h) id) _ _ aBn
theorem o9.tY (H:o9 T w0 w g s k st hg cs fp) (B:aF w' g T.rd [S s,.int .i64 (kS:Int),hg]) (h:Mod [g] w w'):o9 T w0 w' g s kS st hg cs fp:=
 ⟨B,H.own.mod h (fun x ae e=>H.vk (by simp only [List.mem_singleton] at e;subst e;simp [ae])),H.vj.to h (by simp) (fun x ae=>.inl ae) (fun x ae e=>H.vk (by simp only [List.mem_singleton] at e;subst e;simp [ae])),H.vk,H.wH,H.uQ,H.mod.trans h⟩
theorem o9.I (H:o9 T w0 w g s k st hg cs fp) (h:Mod [] w w'):o9 T w0 w' g s k st hg cs fp:=H.tY (H.rd.I h) (h.mono (by simp))
theorem o9.Ve {acc:List JV} (H:o9 T w0 w g s k (.L acc::st) hg cs fp):∃ g1 eM vs fE gB,cs = .iface T.pi (.pointer (some ⟨g1,0,none⟩))::fE∧fp=g1::(bk eM++gB)∧aF w g1 T.it [eM]∧Own w T.v 6 eM acc.length vs∧ao (g::(bk hg++fp)) w (acc.map JV.D).flatten vs∧g1∉bk eM∧g1≠g∧(∀ x∈T.z,x∉g1::bk eM)∧
  (∀ (w':World) (mv:Value) (us:List Value) (v:JV),Mod (g1::bk eM) w w'→aF w' g1 T.it [mv]→Own w' T.v 6 mv (acc.length+1) (vs++us)→(∀ x∈bk mv,x∈bk eM∨w.heap.size≤x)→ao (g::(bk hg++fp)) w v.D us→
   o9 T w0 w' g s k (.L (acc ++ [v])::st) hg cs (g1::(bk mv++gB))∧n1 w w' g hg fp hg (g1::(bk mv++gB)))∧
  (∀ (w':World) (j7:Value),Mod [g] w w'→aF w' g T.rd [S s,.int .i64 (k:Int),j7]→Own w' T.any 1 j7 fE.length fE.reverse→bk j7=bk hg→
   o9 T w0 w' g s k st j7 fE gB∧n1 w w' g hg fp j7 gB∧aF w' g1 T.it [eM]∧bq (g::(bk j7++gB)) w' (.jH 6 (acc.map JV.D)) eM):=by
 obtain⟨c,fE,m,gB,rfl,rfl,⟨g1,eM,rfl,aq,rfl⟩,bb,bP⟩:=H.vj
 obtain⟨vs,cZ,fy⟩:=aq.own
 have bM:=H.lt
 have xa:g1≠g:=fun e=>H.vk (by subst e;simp)
 have iE:∀ x∈g1::bk eM,x≠g:=fun x ae e=>H.vk (by subst e;simp only [List.mem_append];exact .inr (.inl ae))
 have fR:∀ x∈g1::bk eM,x∉bk hg:=fun x ae e=>H.wH x e (by simp only [List.mem_append];exact .inl ae)
 refine⟨g1,eM,vs,fE,gB,rfl,rfl,aq.ar,cZ,fy,aq.aa9,xa,fun x ae h=>bP x h (bb.z x ae),fun w' mv us v hm aW fv cu bo=>?_,fun w' j7 hm aW fv km=>?_⟩
 rotate_left
 ·have dy:∀ x∈g::(bk j7++gB),x∈g::(bk hg++((g1::bk eM)++gB))∨w.heap.size≤x:=fun x ae=>by
   rw [km] at ae
   simp only [List.mem_cons,List.mem_append] at ae ⊢
   rcases ae with rfl | ae | ae <;> simp [*]
  have amg:∀ x∈g1::bk eM,x∉[g]:=fun x ae e=>iE x ae (by simpa using e)
  refine⟨⟨aW,fv,bb.to hm (by simp) dy (fun x ae e=>H.vk (by simp only [List.mem_singleton] at e;subst e;simp [ae])),fun h=>?_,fun x ae h=>?_,fun x ae=>?_,H.mod.trans hm⟩,⟨hm.mono (by simp),fun x ae=>?_⟩,aq.ar.mod hm (amg g1 (by simp)),Own.rep (cZ.mod hm (fun x ae=>amg x (by simp [ae]))) (ao.to hm (by simp) dy _ _ fy) (fun r bo=>?_) (by simp) (fun x ae h=>?_)⟩
  ·rw [km] at h;simp only [List.mem_append] at h;exact H.vk (by rcases h with h | h <;> simp [h])
  ·rw [km] at ae;exact H.wH x ae (by simp [h])
  ·rw [km] at ae;simp only [List.mem_append] at ae;exact H.uQ x (by rcases ae with h | h <;> simp [h])
  ·rw [km] at ae;simp only [List.mem_append] at ae ⊢;rcases ae with h | h <;> simp [h]
  ·obtain⟨y,_,rfl⟩:=List.mem_map.1 bo;exact JV.sO y
  rw [km] at h
  simp only [List.mem_cons,List.mem_append] at h
  rcases h with rfl | h | h
  ·exact iE x (by simp [ae]) rfl
  ·exact fR x (by simp [ae]) h
  exact bP x (by simp [ae]) h
 have k9:∀ x∈g1::bk eM,x∈g::(bk hg++((g1::bk eM)++gB)):=fun x ae=>by simp only [List.mem_cons,List.mem_append] at ae ⊢;exact .inr (.inr (.inl ae))
 have dy:∀ x∈g::(bk hg++(g1::(bk mv++gB))),x∈g::(bk hg++((g1::bk eM)++gB))∨w.heap.size≤x:=fun x ae=>by
  simp only [List.mem_cons,List.mem_append] at ae ⊢
  rcases ae with rfl | ae | rfl | ae | ae
  ·simp
  ·simp [ae]
  ·simp
  ·exact(cu x ae).imp (fun h=>by simp [h]) id
  simp [ae]
 have si:∀ x∈bk mv,∀ y,y∈g::(bk hg++gB)→x≠y:=fun x ae y ba e=>by
  subst e
  rcases cu x ae with h1 | h1
  ·simp only [List.mem_cons,List.mem_append] at ba
   rcases ba with rfl | ba | ba
   ·exact iE x (by simp [h1]) rfl
   ·exact fR x (by simp [h1]) ba
   exact bP x (by simp [h1]) ba
  have:=bM x (by simp only [List.mem_cons,List.mem_append] at ba ⊢;rcases ba with rfl | ba | ba;exact .inl rfl;exact .inr (.inl ba);exact .inr (.inr (.inr ba)))
  omega
 have Vf:g1∉bk mv:=fun ae=>by
  rcases cu g1 ae with h1 | h1
  ·exact aq.aa9 h1
  have:=aq.ar.lt;omega
 refine⟨⟨H.rd.mod hm (fun h=>iE g h rfl),H.own.mod hm (fun x ae h=>fR x h ae),⟨_,fE,g1::bk mv,gB,rfl,rfl,⟨g1,mv,rfl,⟨aW,⟨vs++us,by simpa using fv,?_⟩,Vf⟩,rfl⟩,bb.to hm k9 dy (fun x ae h=>bP x h ae),fun x ae h=>?_⟩,fun h=>?_,fun x ae h=>?_,fun x ae=>?_,H.mod.trans' hm fun x ae=>.inr ?_⟩,⟨hm.mono fun x ae=>k9 x ae,fun x ae=>?_⟩⟩
 ·rw [List.map_append,List.flatten_append]
  refine ao.to hm k9 dy _ _ (ao.append fy ?_)
  simpa using bo
 ·rcases cB ae with rfl | ae
  ·exact bP x (by simp) h
  exact si x ae x (by simp [h]) rfl
 ·simp only [List.mem_append,List.mem_cons] at h
  rcases h with h | rfl | h | h
  ·exact H.vk (by simp [h])
  ·exact xa rfl
  ·exact si g h g (by simp) rfl
  exact H.vk (by simp [h])
 ·simp only [List.mem_cons,List.mem_append] at h
  rcases h with rfl | h | h
  ·exact fR x (by simp) ae
  ·exact si x h x (by simp [ae]) rfl
  exact H.wH x ae (by simp [h])
 ·simp only [List.mem_cons,List.mem_append] at ae
  rcases ae with ae | rfl | ae | ae
  ·exact H.uQ x (by simp [ae])
  ·exact H.uQ x (by simp)
  ·rcases cu x ae with h1 | h1
   ·exact H.uQ x (by simp [h1])
   exact Nat.le_trans H.mod.size h1
  exact H.uQ x (by simp [ae])
 ·exact H.uQ x (by simp only [List.mem_cons,List.mem_append] at ae ⊢;exact .inr (.inl ae))
 simp only [List.mem_cons,List.mem_append] at ae ⊢
 rcases ae with ae | rfl | ae | ae
 ·simp [ae]
 ·simp
 ·exact(cu x ae).imp (fun h=>by simp [h]) id
 simp [ae]
end
section
variable {T:aeW} {A A' M:List Nat} {w0 w w':World} {g:Nat} {s:ab} {k:Nat}
variable {st:List nF} {hg j7:Value} {cs cs':List Value} {fp jE:List Nat} {kS:Nat}
theorem o9.Vg {fm:nF} {acc:List (ab×JV)} {K:List ab} {t:ab} (H:o9 T w0 w g s k (fm::st) hg cs fp)
  (dn:∀ (A:List Nat) (w:World) (c:Value) (m:List Nat),Ae T A w fm c m→∃ g b eM,c = .iface T.pm (.pointer (some ⟨g,0,none⟩))∧agE T A w g b acc K t eM∧m=g::b::bk eM) :
  ∃ g1 b eM vs fE gB,cs = .iface T.pm (.pointer (some ⟨g1,0,none⟩))::fE∧fp=g1::b::(bk eM++gB)∧aF w g1 T.mt [eM,.map (some b),S t]∧k8 w b (pj K)∧Own w T.aqr 7 eM acc.length vs∧ao (g::(bk hg++fp)) w (acc.map JV.jq).flatten vs∧g1∉bk eM∧g1≠g∧b≠g∧g1≠b∧b∉bk eM∧(∀ x∈bk eM,x≠g)∧(∀ x∈T.z,x∉g1::b::bk eM)∧
  (∀ (w':World) (mv:Value) (kW:List Value) (kS:Nat) (agF:nF) (OG:List (ab×JV)) (ar1:List ab) (t':ab),Mod (g::g1::b::bk eM) w w'→aF w' g T.rd [S s,.int .i64 (kS:Int),hg]→aF w' g1 T.mt [mv,.map (some b),S t']→k8 w' b (pj ar1)→Own w' T.aqr 7 mv OG.length kW→(∀ x∈bk mv,x∈bk eM∨w.heap.size≤x)→ao (g::(bk hg++fp)) w (OG.map JV.jq).flatten kW→
   (∀ (A:List Nat) (w:World) (c:Value) (m:List Nat),(∃ g b eM,c = .iface T.pm (.pointer (some ⟨g,0,none⟩))∧agE T A w g b OG ar1 t' eM∧m=g::b::bk eM)→Ae T A w agF c m)→
   o9 T w0 w' g s kS (agF::st) hg cs (g1::b::(bk mv++gB))∧n1 w w' g hg fp hg (g1::b::(bk mv++gB)))∧
  (∀ (w':World) (j7:Value) (kW:List Value) (gZ:List (ab×JV)),Mod (g::bk eM) w w'→aF w' g T.rd [S s,.int .i64 (k:Int),j7]→Own w' T.any 1 j7 fE.length fE.reverse→bk j7=bk hg→Own w' T.aqr 7 eM gZ.length kW→ao (g::(bk hg++fp)) w (gZ.map JV.jq).flatten kW→
   o9 T w0 w' g s k st j7 fE gB∧n1 w w' g hg fp j7 gB∧bq (g::(bk j7++gB)) w' (.jH 7 (gZ.map JV.jq)) eM):=by
 obtain⟨c,fE,m,gB,rfl,rfl,amh,bb,bP⟩:=H.vj
 obtain⟨g1,b,eM,rfl,aq,rfl⟩:=dn _ _ _ _ amh
 clear amh
 obtain⟨vs,cZ,fy⟩:=aq.own
 have bM:=H.lt
 have iE:∀ x∈g1::b::bk eM,x≠g:=fun x ae e=>H.vk (by subst e;simp only [List.mem_append];exact .inr (.inl ae))
 have fR:∀ x∈g1::b::bk eM,x∉bk hg:=fun x ae e=>H.wH x e (by simp only [List.mem_append];exact .inl ae)
 have k9:∀ x∈g::g1::b::bk eM,x∈g::(bk hg++((g1::b::bk eM)++gB)):=fun x ae=>by
  rcases cB ae with rfl | ae
  ·simp
  simp only [List.mem_cons,List.mem_append] at ae ⊢
  rcases ae with rfl | rfl | ae <;> simp [*]
 refine⟨g1,b,eM,vs,fE,gB,rfl,rfl,aq.ar,aq.map,cZ,fy,aq.aa9,iE g1 (by simp),iE b (by simp),aq.amd,aq.ame,fun x ae=>iE x (by simp [ae]),fun x ae h=>bP x h (bb.z x ae),fun w' mv kW kS agF OG ar1 t' hm ev aW eX fv cu bo ar2=>?_,fun w' j7 kW gZ hm aW fv km ami bo=>?_⟩
 rotate_left
 ·have dy:∀ x∈g::(bk j7++gB),x∈g::(bk hg++((g1::b::bk eM)++gB))∨w.heap.size≤x:=fun x ae=>by
   rw [km] at ae
   simp only [List.mem_cons,List.mem_append] at ae ⊢
   rcases ae with rfl | ae | ae <;> simp [*]
  have DI:∀ x∈g::bk eM,x∈g::(bk hg++((g1::b::bk eM)++gB)):=fun x ae=>k9 x (by rcases cB ae with rfl | ae <;> simp [*])
  have agG:∀ x∈gB,x∉g::bk eM:=fun x ae h=>by
   rcases cB h with rfl | h
   ·exact H.vk (by simp [ae])
   exact bP x (by simp [h]) ae
  refine⟨⟨aW,fv,bb.to hm DI dy agG,fun h=>?_,fun x ae h=>?_,fun x ae=>?_,H.mod.trans' hm fun x ae=>?_⟩,⟨hm.mono DI,fun x ae=>?_⟩,Own.rep ami (ao.to hm DI dy _ _ bo) (fun r bo=>?_) (by simp) (fun x ae h=>?_)⟩
  ·rw [km] at h;simp only [List.mem_append] at h;exact H.vk (by rcases h with h | h <;> simp [h])
  ·rw [km] at ae;exact H.wH x ae (by simp [h])
  ·rw [km] at ae;simp only [List.mem_append] at ae;exact H.uQ x (by rcases ae with h | h <;> simp [h])
  ·rcases cB ae with rfl | ae
   ·exact .inl (by simp)
   exact .inr (H.uQ x (by simp [ae]))
  ·rw [km] at ae;simp only [List.mem_append] at ae ⊢;rcases ae with h | h <;> simp [h]
  ·obtain⟨y,_,rfl⟩:=List.mem_map.1 bo;exact JV.AJ y
  rw [km] at h
  simp only [List.mem_cons,List.mem_append] at h
  rcases h with rfl | h | h
  ·exact iE x (by simp [ae]) rfl
  ·exact fR x (by simp [ae]) h
  exact bP x (by simp [ae]) h
 have dy:∀ x∈g::(bk hg++(g1::b::(bk mv++gB))),x∈g::(bk hg++((g1::b::bk eM)++gB))∨w.heap.size≤x:=fun x ae=>by
  simp only [List.mem_cons,List.mem_append] at ae ⊢
  rcases ae with ae | ae | ae | ae | ae | ae
  ·exact .inl (.inl ae)
  ·exact .inl (.inr (.inl ae))
  ·exact .inl (.inr (.inr (.inl (.inl ae))))
  ·exact .inl (.inr (.inr (.inl (.inr (.inl ae)))))
  ·exact(cu x ae).imp (fun h=>.inr (.inr (.inl (.inr (.inr h))))) id
  exact .inl (.inr (.inr (.inr ae)))
 have si:∀ x∈bk mv,∀ y,y∈g::(bk hg++gB)→x≠y:=fun x ae y ba e=>by
  subst e
  rcases cu x ae with h1 | h1
  ·simp only [List.mem_cons,List.mem_append] at ba
   rcases ba with rfl | ba | ba
   ·exact iE x (by simp [h1]) rfl
   ·exact fR x (by simp [h1]) ba
   exact bP x (by simp [h1]) ba
  have:=bM x (by simp only [List.mem_cons,List.mem_append] at ba ⊢;rcases ba with rfl | ba | ba;exact .inl rfl;exact .inr (.inl ba);exact .inr (.inr (.inr ba)))
  omega
 have Vf:g1∉bk mv:=fun ae=>by
  rcases cu g1 ae with h1 | h1
  ·exact aq.aa9 h1
  have:=aq.ar.lt;omega
 have yB:b∉bk mv:=fun ae=>by
  rcases cu b ae with h1 | h1
  ·exact aq.ame h1
  have:=aq.map.lt;omega
 have ar3:∀ x∈bk hg,x∉g::g1::b::bk eM:=fun x ae h=>by
  rcases cB h with rfl | h
  ·exact H.vk (by simp [ae])
  exact fR x h ae
 have agG:∀ x∈gB,x∉g::g1::b::bk eM:=fun x ae h=>by
  rcases cB h with rfl | h
  ·exact H.vk (by simp [ae])
  exact bP x h ae
 refine⟨⟨ev,H.own.mod hm ar3,⟨_,fE,g1::b::bk mv,gB,rfl,rfl,ar2 _ _ _ _ ⟨g1,b,mv,rfl,⟨aW,eX,⟨kW,fv,ao.to hm k9 dy _ _ bo⟩,aq.amd,Vf,yB⟩,rfl⟩,bb.to hm k9 dy agG,fun x ae h=>?_⟩,fun h=>?_,fun x ae h=>?_,fun x ae=>?_,H.mod.trans' hm fun x ae=>?_⟩,⟨hm.mono fun x ae=>k9 x ae,fun x ae=>?_⟩⟩
 ·rcases cB ae with rfl | ae
  ·exact bP x (by simp) h
  rcases cB ae with rfl | ae
  ·exact bP x (by simp) h
  exact si x ae x (by simp [h]) rfl
 ·simp only [List.mem_append,List.mem_cons] at h
  rcases h with h | rfl | rfl | h | h
  ·exact H.vk (by simp [h])
  ·exact iE g (by simp) rfl
  ·exact iE g (by simp) rfl
  ·exact si g h g (by simp) rfl
  exact H.vk (by simp [h])
 ·simp only [List.mem_cons,List.mem_append] at h
  rcases h with rfl | rfl | h | h
  ·exact fR x (by simp) ae
  ·exact fR x (by simp) ae
  ·exact si x h x (by simp [ae]) rfl
  exact H.wH x ae (by simp [h])
 ·simp only [List.mem_cons,List.mem_append] at ae
  rcases ae with ae | rfl | rfl | ae | ae
  ·exact H.uQ x (by simp [ae])
  ·exact H.uQ x (by simp)
  ·exact H.uQ x (by simp)
  ·rcases cu x ae with h1 | h1
   ·exact H.uQ x (by simp [h1])
   exact Nat.le_trans H.mod.size h1
  exact H.uQ x (by simp [ae])
 ·rcases cB ae with rfl | ae
  ·exact .inl (by simp)
  exact .inr (H.uQ x (by simp only [List.mem_cons,List.mem_append] at ae ⊢;exact .inr (.inl ae)))
 simp only [List.mem_cons,List.mem_append] at ae ⊢
 rcases ae with ae | rfl | rfl | ae | ae
 ·simp [ae]
 ·simp
 ·simp
 ·exact(cu x ae).imp (fun h=>by simp [h]) id
 simp [ae]
theorem o9.OH (H:o9 T w0 w g s k st hg cs fp) (GA:Mod (g::bk hg) w w') (aW:aF w' g T.rd [S s,.int .i64 (kS:Int),j7])
  (fv:Own w' T.any 1 j7 cs.length cs.reverse) (cu:∀ x∈bk j7,x∈bk hg∨w.heap.size≤x):o9 T w0 w' g s kS st j7 cs fp∧n1 w w' g hg fp j7 fp:=by
 have bM:=H.lt
 have k9:∀ x∈g::bk hg,x∈g::(bk hg++fp):=fun x ae=>by rcases cB ae with rfl | ae <;> simp [*]
 have ar4:g∉bk j7:=fun h=>by
  rcases cu g h with h | h
  ·exact H.vk (by simp [h])
  have:=H.rd.lt;omega
 have dy:∀ x∈g::(bk j7++fp),x∈g::(bk hg++fp)∨w.heap.size≤x:=fun x ae=>by
  simp only [List.mem_cons,List.mem_append] at ae ⊢
  rcases ae with rfl | ae | ae
  ·simp
  ·rcases cu x ae with h | h
   ·simp [h]
   exact .inr h
  simp [ae]
 refine⟨⟨aW,fv,H.vj.to GA k9 dy (fun x ae h=>?_),fun h=>?_,fun x ae h=>?_,fun x ae=>?_,H.mod.trans' GA fun x ae=>?_⟩,⟨GA.mono k9,fun x ae=>?_⟩⟩
 ·rcases cB h with rfl | h
  ·exact H.vk (by simp [ae])
  exact H.wH x h ae
 ·rcases List.mem_append.1 h with h | h
  ·exact ar4 h
  exact H.vk (by simp [h])
 ·rcases cu x ae with cZ | cZ
  ·exact H.wH x cZ h
  have:=bM x (by simp [h]);omega
 ·have:=H.mod.size
  rcases List.mem_append.1 ae with ae | ae
  ·rcases cu x ae with h | h
   ·exact H.uQ x (by simp [h])
   omega
  exact H.uQ x (by simp [ae])
 ·rcases cB ae with rfl | ae
  ·exact .inl (by simp)
  exact .inr (H.uQ x (by simp [ae]))
 rcases List.mem_append.1 ae with ae | ae
 ·exact(cu x ae).imp (fun h=>by simp [h]) id
 exact .inl (by simp [ae])
theorem o9.OI {z:Nat} (H:o9 T w0 w g s k st hg cs fp) (cP:z∈T.z) (hm:Mod [z] w w'):o9 T w0 w' g s k st hg cs fp:=by
 have DJ:=H.vj.z z cP;have ar5:z≠g:=fun e=>H.vk (by subst e;simp [DJ]);have vJ:z∉bk hg:=fun h=>H.wH z h DJ;refine⟨H.rd.mod hm (by simpa using Ne.symm ar5),H.own.mod hm (fun x ae e=>vJ (by rw [dx e] at ae;exact ae)),?_,H.vk,H.wH,H.uQ,H.mod.trans' hm fun x ae=>.inr (by rw [dx ae];exact H.uQ z (by simp [DJ]))⟩;have key:∀ {st:List nF} {cs:List Value} {jE:List Nat},qw T (g::(bk hg++fp)) w st cs jE→(∀ x∈jE,x∈fp)→qw T (g::(bk hg++fp)) w' st cs jE:=by
  intro st
  induction st with
  | nil=>exact fun h _=>⟨h.1,h.2.1,fun x ae=>Nat.lt_of_lt_of_le (h.2.2 x ae) hm.size⟩
  | cons fm st ea=>
   intro cs jE h bh;obtain⟨c,cs',m,Af,rfl,rfl,h1,aq,bb⟩:=h;refine⟨c,cs',m,Af,rfl,rfl,h1.to hm (fun x ae=>by rw [dx ae];simp [DJ]) (fun x ae e=>?_) (fun x ae=>.inl ae),ea aq (fun x ae=>bh x (by simp [ae])),bb⟩;rw [dx e] at ae;exact bb z ae (aq.z z cP)
 exact key H.vj (fun x ae=>ae)
theorem o9.push {N:Nat} {fm:nF} {c:Value} {m:List Nat} (H:o9 T w0 w g s k st hg cs fp) (GA:Mod (g::bk hg) w w') (bh:w.heap.size≤N) (hm:∀ x∈m,w.heap.size≤x∧x<N) (aW:aF w' g T.rd [S s,.int .i64 (kS:Int),j7])
  (fv:Own w' T.any 1 j7 (cs.length+1) (cs.reverse ++ [c])) (cu:∀ x∈bk j7,x∈bk hg∨N≤x) (dn:∀ A,Ae T A w' fm c m):o9 T w0 w' g s kS (fm::st) j7 (c::cs) (m++fp)∧n1 w w' g hg fp j7 (m++fp):=by
 have bM:=H.lt
 have k9:∀ x∈g::bk hg,x∈g::(bk hg++fp):=fun x ae=>by rcases cB ae with rfl | ae <;> simp [*]
 have dy:∀ x∈g::(bk j7++(m++fp)),x∈g::(bk hg++fp)∨w.heap.size≤x:=fun x ae=>by
  simp only [List.mem_cons,List.mem_append] at ae ⊢
  rcases ae with rfl | ae | ae | ae
  ·simp
  ·rcases cu x ae with h | h
   ·simp [h]
   exact .inr (by omega)
  ·exact .inr (hm x ae).1
  simp [ae]
 have acx:∀ x∈m,x∉g::(bk hg++fp):=fun x ae h=>by have:=bM x h;have:=(hm x ae).1;omega
 refine⟨⟨aW,by simpa using fv,⟨c,cs,m,fp,rfl,rfl,dn _,H.vj.to GA k9 dy (fun x ae h=>?_),fun x ae h=>acx x ae (by simp [h])⟩,fun h=>?_,fun x ae h=>?_,fun x ae=>?_,H.mod.trans' GA fun x ae=>?_⟩,⟨GA.mono k9,fun x ae=>?_⟩⟩
 ·rcases cB h with rfl | h
  ·exact H.vk (by simp [ae])
  exact H.wH x h ae
 ·simp only [List.mem_append] at h
  rcases h with h | h | h
  ·rcases cu g h with h | h
   ·exact H.vk (by simp [h])
   have:=H.rd.lt;omega
  ·exact acx g h (by simp)
  exact H.vk (by simp [h])
 ·simp only [List.mem_append] at h
  rcases cu x ae with cZ | cZ
  ·rcases h with h | h
   ·exact acx x h (by simp [cZ])
   exact H.wH x cZ h
  rcases h with h | h
  ·have:=(hm x h).2;omega
  have:=bM x (by simp [h]);omega
 ·simp only [List.mem_append] at ae
  have:=H.mod.size
  rcases ae with ae | ae | ae
  ·rcases cu x ae with h | h
   ·exact H.uQ x (by simp [h])
   omega
  ·have:=(hm x ae).1;omega
  exact H.uQ x (by simp [ae])
 ·rcases cB ae with rfl | ae
  ·exact .inl (by simp)
  exact .inr (H.uQ x (by simp [ae]))
 have:=dy x (by simp only [List.mem_cons];exact .inr ae)
 rcases this with h | h
 ·rcases cB h with rfl | h
  ·exact .inr (by
    exfalso
    simp only [List.mem_append] at ae
    rcases ae with ae | ae | ae
    ·rcases cu x ae with h | h
     ·exact H.vk (by simp [h])
     have:=H.rd.lt;omega
    ·exact acx x ae (by simp)
    exact H.vk (by simp [ae]))
  exact .inl h
 exact .inr h
end
end Go.Proofs.YtkjgljnkocnnpaaGreatDoor.V
namespace Go.Proofs.YtkjgljnkocnnpaaGreatDoor.V
open Go Go.Lib
theorem w5 {d:Nat} (h:d<10):(UInt8.ofNat (48+d)).toNat=48+d:=by
 rw [UInt8.toNat_ofNat'];omega
theorem sg (u:Nat):∀ c∈decDigits u,ct c=true:=by
 induction u using Nat.strongRecOn with
 | _ u ea=>
  intro c aZ;rw [decDigits] at aZ
  split at aZ
  ·rename_i h
   simp only [List.mem_singleton] at aZ;subst aZ;unfold ct;rw [w5 h];simp;omega
  rename_i h
  rcases List.mem_append.1 aZ with aZ | aZ
  ·exact ea (u / 10) (by omega) c aZ
  simp only [List.mem_singleton] at aZ;subst aZ;unfold ct;rw [w5 (Nat.mod_lt _ (by decide))];simp;omega
theorem uP (u:Nat):decDigits u≠[]:=by
 rw [decDigits]
 split <;> simp
theorem Qq (u:Nat) (h:10≤u):(decDigits u)[0]?≠some 48:=by
 induction u using Nat.strongRecOn with
 | _ u ea=>
  rw [decDigits,dif_neg (by omega),List.getElem?_append_left (List.length_pos_iff.2 (uP _))]
  by_cases h1:10≤u / 10
  ·exact ea (u / 10) (by omega) h1
  rw [decDigits,dif_pos (by omega)];intro he;simp only [List.getElem?_cons_zero,Option.some.injEq] at he;have:=kZ UInt8.toNat he;rw [w5 (by omega)] at this;simp at this;omega
theorem UQ (u:Nat) (h:u<10):(decDigits u).length=1:=by rw [decDigits,dif_pos h];rfl
theorem acn (u:Nat):∀ r:List UInt8,u<18446744073709551616→parseUint10 0 (decDigits u++r)=parseUint10 u r:=by
 induction u using Nat.strongRecOn with
 | _ u ea=>
  intro r hu;rw [decDigits]
  split
  ·rename_i h
   rw [List.singleton_append,parseUint10,w5 h,aL (by omega),ak (by omega),ak (by omega)]
   congr 1
   omega
  rename_i h
  rw [List.append_assoc,ea (u / 10) (by omega) _ (by omega),List.singleton_append,parseUint10,w5 (Nat.mod_lt _ (by decide)),aL (by omega),ak (by omega),ak (by omega)]
  congr 1
  omega
theorem IX {u:Nat} (h:u<18446744073709551616):parseMag (decDigits u) = .ok u:=by
 unfold parseMag;rw [ak (uP u)];have:=acn u [] h;rw [List.append_nil] at this;rw [this,parseUint10]
theorem sP {n:Int} (cg : -9007199254740991≤n) (h1:n≤9007199254740991):atoiAll (itoa n) = .ok n:=by
 unfold itoa
 split
 ·rename_i h
  unfold atoiAll;simp only;rw [aL (by right;rfl),IX (by omega)];simp only;rw [ak (by simp),ak (by simp;omega),aL (by rfl)]
  congr 1
  omega
 rename_i h
 have hm:=IX (u:=n.toNat) (by omega);have bT:=sg n.toNat;cases cb:decDigits n.toNat with
 | nil=>exact absurd cb (uP _)
 | cons c r=>
  rw [cb] at hm bT;have aZ:=bT c (by simp);simp only [ct,Bool.and_eq_true,decide_eq_true_eq] at aZ;unfold atoiAll;simp only;rw [ak (by omega),hm];simp only;rw [ak (by omega),ak (by omega),ak (by omega)]
  congr 1
  omega
theorem Qr {m n:Int} (cg : -9007199254740991≤n) (h1:n≤9007199254740991) (g0 : -9007199254740991≤m) (g1:m≤9007199254740991) (h:itoa m=itoa n):m=n:=by
 have aq:=sP g0 g1;rw [h,sP cg h1] at aq;injection aq with aq
 exact aq.symm
theorem v7 {n:Int} {w:ab} (cg : -9007199254740991≤n) (h1:n≤9007199254740991) (h:itoa n=w):tT w=some n:=by
 unfold tT;have hex:∃ n:Int,-9007199254740991≤n∧n≤9007199254740991∧itoa n=w:=⟨n,cg,h1,h⟩;rw [dif_pos hex];obtain⟨a,b,c⟩:=hex.choose_spec;rw [Qr cg h1 a b (c.trans h.symm)]
theorem BO {n:Int} {w:ab} (h:tT w=some n) : -9007199254740991≤n∧n≤9007199254740991∧itoa n=w:=by
 unfold tT at h
 split at h
 ·rename_i hex
  injection h with h
  subst h;exact hex.choose_spec
 cases h
theorem sh {v:Int} {w:ab} (h:atoiAll w = .ok v):tT w=if itoa v=w∧-9007199254740991≤v∧v≤9007199254740991 then some v else none:=by
 split
 ·rename_i bI
  exact v7 bI.2.1 bI.2.2 bI.1
 rename_i bI
 cases cP:tT w with
 | none=>rfl
 | some n=>
  obtain⟨a,b,c⟩:=BO cP;rw [← c,sP a b] at h;injection h with h
  subst h;exact absurd ⟨c,a,b⟩ bI
theorem tU {w:ab} (h:∀ v,atoiAll w≠.ok v):tT w=none:=by
 cases cP:tT w with
 | none=>rfl
 | some n=>
  obtain⟨a,b,c⟩:=BO cP;rw [← c] at h;exact absurd (sP a b) (h n)
theorem OE {p:UInt8→Bool}:∀ {l r:ab},(∀ c∈l,p c=true)→(∀ c,r[0]? = some c→p c=false)→(l++r).takeWhile p=l
 | [],[],_,_=>rfl
 | [],c::r,_,h=>by rw [List.nil_append,List.takeWhile_cons,ak (by simp [h c rfl])]
 | c::l,r,h,fW=>by rw [List.cons_append,List.takeWhile_cons,aL (h c (by simp)),OE (fun x ae=>h x (by simp [ae])) fW]
theorem BP {p:UInt8→Bool} {s l r:ab} {k:Nat} (h:s.drop k=l++r) (cb:∀ c∈l,p c=true) (bo:∀ c,r[0]? = some c→p c=false):ai p s k=k+l.length:=by
 unfold ai;rw [h,OE cb bo]
theorem fX {s t:ab} {k:Nat} (h:s.length≤k) (bW:t≠[]):aC s k t=false:=by
 rw [Bool.eq_false_iff];intro fW;have:=b9 fW bW;have:0<t.length:=List.length_pos_iff.2 bW;omega
theorem zz {n:Int} (cg : -9007199254740991≤n) (h1:n≤9007199254740991):dw (itoa n)=(true,false):=by
 obtain⟨a,u,hw,aE,azu⟩:∃ (a u:Nat),(itoa n).drop a=decDigits u∧(if aC (itoa n) 0 [45] then 1 else 0)=a∧a≤(itoa n).length:=by
  unfold itoa
  split
  ·exact⟨1,n.natAbs,rfl,by rw [aL (by rfl)],by simp⟩
  refine⟨0,n.toNat,by simp,?_,by simp⟩;rw [ak];rw [gK];intro h;have:=sg n.toNat 45 (List.mem_of_getElem? h)
  revert this
  decide
 have bT:=sg u;have cH:=uP u;have hlen:(itoa n).length=a+(decDigits u).length:=by
  have:=kZ List.length hw;rw [List.length_drop] at this;omega
 have H8:0<(decDigits u).length:=List.length_pos_iff.2 cH;have he:ai ct (itoa n) a=(itoa n).length:=by
  rw [BP (l:=decDigits u) (r:=[]) (by simpa using hw) bT (by simp),hlen]
 unfold dw;simp only;rw [aE,he,ak,fX (Nat.le_refl _) (by simp),ak (by simp)]
 ·simp only [Bool.false_eq_true,if_false];rw [fX (Nat.le_refl _) (by simp),fX (Nat.le_refl _) (by simp)];simp
 rintro(h | ⟨aq,bb⟩)
 ·omega
 have hu:10≤u:=by
  rcases Nat.lt_or_ge u 10 with hu | hu
  ·have:=UQ u hu;omega
  exact hu
 have:=Qq u hu;rw [← hw,List.getElem?_drop] at this;exact this (by simpa using bb)
theorem Mj {w:ab} (h:(dw w).2=true):tT w=none:=by
 cases cP:tT w with
 | none=>rfl
 | some n=>
  obtain⟨a,b,c⟩:=BO cP;rw [← c,zz a b] at h;cases h
theorem Mk {n:Int} (cg : -9007199254740991≤n) (h1:n≤9007199254740991):iU (itoa n) = .ok n:=by
 unfold iU;rw [zz cg h1,ak (by simp),v7 cg h1 rfl]
theorem UR {n:Int}:∀ c∈itoa n,cU c=true:=by
 intro c aZ;unfold itoa at aZ
 split at aZ
 ·rcases cB aZ with rfl | aZ
  ·rfl
  unfold cU;rw [sg _ c aZ];rfl
 unfold cU;rw [sg _ c aZ];rfl
theorem US (n:Int):itoa n≠[]:=by
 unfold itoa
 split
 ·simp
 exact uP _
theorem Ml {n:Int} {s r:ab} {k:Nat} (cg : -9007199254740991≤n) (h1:n≤9007199254740991) (h:s.drop k=itoa n++r) (bo:∀ c,r[0]? = some c→cU c=false):jW s k = .ok (JV.hr n,k+(itoa n).length):=by
 unfold jW;rw [BP h UR bo,Nat.add_sub_cancel_left,h,List.take_left',Mk cg h1]
 ·rfl
 rfl
end Go.Proofs.YtkjgljnkocnnpaaGreatDoor.V
namespace Go.Proofs.YtkjgljnkocnnpaaGreatDoor.V
open Go
/-! ## four digits -/
theorem rb:∀ (f:Nat) (s:ab) (n:Nat),s.length<f→e' f s n=none
 | 0,_,_,h=>by omega
 | f+1,[],n,_=>rfl
 | f+1,c::r,n,h=>by
  rw [e']
  cases gP c with
  | none=>rfl
  | some d=>exact rb f r _ (by simpa using h)
theorem BT:∀ (f:Nat) (s:ab) (n:Nat),e' f (s.take f) n=e' f s n
 | 0,_,_=>by simp [e']
 | f+1,[],n=>rfl
 | f+1,c::r,n=>by
  rw [List.take_succ_cons,e',e']
  cases gP c with
  | none=>rfl
  | some d=>exact BT f r _
theorem I2 {c:UInt8} {d:Nat} (h:gP c=some d):d<16:=by
 unfold gP at h
 split at h
 ·injection h with h;omega
 split at h
 ·injection h with h;omega
 split at h
 ·injection h with h;omega
 cases h
theorem QA {c:UInt8} (h:128≤c.toNat):gP c=none:=by
 unfold gP;rw [ak (by omega),ak (by omega),ak (by omega)]
theorem I3:∀ (f:Nat) (s:ab) (n m:Nat),e' f s n=some m→m<16 ^ f*(n+1)
 | 0,_,n,m,h=>by
  simp only [e',Option.some.injEq] at h
  omega
 | f+1,[],n,m,h=>by simp [e'] at h
 | f+1,c::r,n,m,h=>by
  rw [e'] at h
  cases bT:gP c with
  | none=>rw [bT] at h;cases h
  | some d=>
   rw [bT] at h
   have h1:=I3 f r _ _ h
   have aq:=I2 bT
   have bb:16 ^ f*(16*n+d+1)≤16 ^ f*(16*(n+1)):=Nat.mul_le_mul_left _ (by omega)
   rw [Nat.pow_succ,Nat.mul_assoc]
   omega
theorem xb {s:ab} {m:Nat} (h:e' 4 s 0=some m):m<65536:=by
 have:=I3 4 s 0 m h;omega
theorem xc {f p n:Nat} {s:ab} {b:UInt8} (h:s[p]? = some b):e' (f+1) (s.drop p) n=match gP b with | none=>none | some d=>e' f (s.drop (p+1)) (16*n+d):=by
 first | (rw [gn h,e'];done) | (rw [gn h,e'];cases gP b <;> rfl)
theorem aeX:∀ b,b<128→(match gP (UInt8.ofNat b)with | none=>decide (Lib.indexByte kd (UInt8.ofNat (b ||| 32))<0)||decide (b<48) | some d=>decide (Lib.indexByte kd (UInt8.ofNat (b ||| 32))=(d:Int))&&decide (48≤b))=true:=by decide +kernel
theorem Vh {b:UInt8} (aW:b.toNat<128) (h:gP b=none):Lib.indexByte kd (UInt8.ofNat (b.toNat ||| 32))<0∨b.toNat<48:=by
 have:=aeX b.toNat aW;rw [UInt8.ofNat_toNat,h] at this;simpa using this
theorem EN {b:UInt8} {d:Nat} (aW:b.toNat<128) (h:gP b=some d):Lib.indexByte kd (UInt8.ofNat (b.toNat ||| 32))=(d:Int)∧48≤b.toNat:=by
 have:=aeX b.toNat aW;rw [UInt8.ofNat_toNat,h] at this;simpa using this
theorem wrap32_in (z:Int) (h : -2147483648≤z∧z≤2147483647):IntKind.i32.wrap z=z:=by
 simp only [IntKind.wrap,IntKind.bits,IntKind.signed];simp;omega
theorem Vi {c:Nat} (h:c≤1114111):IntKind.i32.wrap ((BitVec.ofInt IntKind.i32.bits (c:Int) ||| BitVec.ofInt IntKind.i32.bits 32).toNat)=((c ||| 32:Nat):Int):=by
 have cg:(BitVec.ofInt 32 (c:Int) ||| BitVec.ofInt 32 32).toNat=c ||| 32:=by
  rw [BitVec.toNat_or];have h1:(BitVec.ofInt 32 (c:Int)).toNat=c:=by
   rw [BitVec.toNat_ofInt];omega
  have aq:(BitVec.ofInt 32 32).toNat=32:=by decide
  rw [h1,aq]
 have bM:c ||| 32<2 ^ 21:=Nat.or_lt_two_pow (by omega) (by omega);show IntKind.i32.wrap ((BitVec.ofInt 32 (c:Int) ||| BitVec.ofInt 32 32).toNat:Int)=_;rw [cg,wrap32_in _ (by omega)]
theorem I4 {c:Nat}:(c ||| 32) / 2048=c / 2048:=by
 have:=Nat.shiftRight_or_distrib (a:=c) (b:=32) (i:=11);rw [Nat.shiftRight_eq_div_pow,Nat.shiftRight_eq_div_pow] at this;simpa using this
theorem Vj {c:Nat} (h:128≤c):128≤c ||| 32:=Nat.le_trans h Nat.left_le_or
theorem Vk {c:Nat} (h:c≤1114111):c ||| 32≤1114111:=by
 have h1:=I4 (c:=c)
 by_cases aq:c / 2048=543
 ·omega
 omega
theorem Vl {c:Nat} (h:¬ (55296≤c∧c≤57343)):¬ (55296≤c ||| 32∧c ||| 32≤57343):=by
 have h1:=I4 (c:=c);omega
theorem Vm {c:Nat} (h:c<128):c ||| 32<128:=Nat.or_lt_two_pow (n:=7) h (by decide)
theorem agH {n d:Nat} (cu:n<1048576) (bT:d<16):IntKind.i32.wrap ((BitVec.ofInt IntKind.i32.bits ((16*n:Nat):Int) ||| BitVec.ofInt IntKind.i32.bits (d:Int)).toNat)=((16*n+d:Nat):Int):=by
 have h:(BitVec.ofInt 32 ((16*n:Nat):Int) ||| BitVec.ofInt 32 (d:Int)).toNat=16*n+d:=by
  rw [BitVec.toNat_or];have h1:(BitVec.ofInt 32 ((16*n:Nat):Int)).toNat=16*n:=by
   rw [BitVec.toNat_ofInt];omega
  have aq:(BitVec.ofInt 32 (d:Int)).toNat=d:=by
   rw [BitVec.toNat_ofInt];omega
  rw [h1,aq];exact(Nat.two_pow_add_eq_or_of_lt (i:=4) bT n).symm
 show IntKind.i32.wrap ((BitVec.ofInt 32 ((16*n:Nat):Int) ||| BitVec.ofInt 32 (d:Int)).toNat:Int)=_;rw [h,wrap32_in _ (by omega)]
/-! ## letters behind a backslash -/
abbrev OJ:ab:=[34,92,47,98,102,110,114,116]
abbrev aeY:ab:=[34,92,47,8,12,10,13,9]
theorem yC (c:UInt8):(l5 c=none∧Lib.indexByte OJ c<0)∨∃ i d:Nat,l5 c=some d∧Lib.indexByte OJ c=(i:Int)∧i<8∧aeY[i]? = some (UInt8.ofNat d)∧d<256:=by
 by_cases h1:c=34
 ·subst h1;exact .inr ⟨0,34,by decide⟩
 by_cases aq:c=92
 ·subst aq;exact .inr ⟨1,92,by decide⟩
 by_cases bb:c=47
 ·subst bb;exact .inr ⟨2,47,by decide⟩
 by_cases bP:c=98
 ·subst bP;exact .inr ⟨3,8,by decide⟩
 by_cases cZ:c=102
 ·subst cZ;exact .inr ⟨4,12,by decide⟩
 by_cases fy:c=110
 ·subst fy;exact .inr ⟨5,10,by decide⟩
 by_cases lL:c=114
 ·subst lL;exact .inr ⟨6,13,by decide⟩
 by_cases lZ:c=116
 ·subst lZ;exact .inr ⟨7,9,by decide⟩
 left;refine⟨by unfold l5;simp [*],?_⟩;have e:∀ d:UInt8,¬ c=d→(d == c)=false:=fun d h=>by simp [Ne.symm h]
 simp only [Lib.indexByte,e _ h1,e _ aq,e _ bb,e _ bP,e _ cZ,e _ fy,e _ lL,e _ lZ,Bool.false_eq_true,if_false,beq_self_eq_true,if_true];omega
def ha (s:ab):Nat×Nat:=if (fK (92::s)).2=0 then (0,0)else ((fK (92::s)).1,(fK (92::s)).2-1)
theorem QB:ha []=(0,0):=rfl
theorem EO {c:UInt8} {r:ab} {d:Nat} (h:l5 c=some d):ha (c::r)=(d,1):=by
 have:fK (92::c::r)=(d,2):=by unfold fK;simp only;rw [h]
 unfold ha;rw [this];rfl
theorem AK {c:UInt8} {r:ab} (h:l5 c=none):fK (92::c::r)=match ej (92::c::r)with
   | none=>(0,0)
   | some n=>
    if 56320≤n∧n≤57343 then (0,0)
    else if n<55296∨57343<n then (n,6)
    else match ej (r.drop 4)with
     | none=>(0,0)
     | some m=>if m<56320∨57343<m then (0,0)else (65536+1024*(n-55296)+(m-56320),12):=by
 unfold fK
 simp only
 rw [h]
 rfl
theorem Vn {c:UInt8} {r:ab} (h:c≠117):ej (92::c::r)=none:=by
 unfold ej
 split
 ·rename_i aq
  injection aq with _ aq
  injection aq with aq _
  exact absurd aq h
 rfl
theorem AL {r:ab}:ej (92::117::r)=e' 4 r 0:=rfl
theorem QC {l:ab} (h:(List.isPrefixOf [92,117] l)=false):ej l=none:=by
 unfold ej
 split
 ·simp [List.isPrefixOf] at h
 rfl
theorem Mq {l:ab} (h:(List.isPrefixOf [92,117] l)=true):ej l=e' 4 (l.drop 2) 0:=by
 rw [List.isPrefixOf_iff_prefix] at h;obtain⟨t,rfl⟩:=h;rfl
/-! ## blanks, words of numbers -/
theorem acy (s:ab) (c:UInt8):decide (Lib.indexByte s c≥0)=s.any (fun b=>b == c):=by
 induction s with
 | nil=>rfl
 | cons b s ea=>
  rw [List.any_cons,← ea,show Lib.indexByte (b::s) c=(if b == c then 0 else if Lib.indexByte s c == -1 then -1 else Lib.indexByte s c+1) from rfl]
  by_cases h:(b == c)=true
  ·rw [aL h,h];rfl
  rw [ak h];have dn:(b == c)=false:=by simpa using h
  rw [dn,Bool.false_or]
  by_cases aq:(Lib.indexByte s c == -1)=true
  ·rw [aL aq];have:Lib.indexByte s c = -1:=by simpa using aq
   rw [this]
  rw [ak aq];have bb:Lib.indexByte s c≠-1:=by simpa using aq
  have bP:=Lib.indexByte_ge s c;rw [decide_eq_true (by omega),decide_eq_true (by omega)]
theorem Vo (a b:UInt8):(a == b)=(b == a):=by
 by_cases h:a=b
 ·subst h;rfl
 rw [beq_eq_false_iff_ne.2 h,beq_eq_false_iff_ne.2 (Ne.symm h)]
theorem Vp (c:UInt8):decide (Lib.indexByte [32,9,10,13] c≥0)=aT c:=by
 rw [acy];simp [aT,Vo,Bool.or_assoc]
theorem agI:∀ c:Nat,c<256→decide (Lib.indexByte [43,45,46,48,49,50,51,52,53,54,55,56,57,69,101] (UInt8.ofNat c)≥0)=cU (UInt8.ofNat c):=by decide +kernel
theorem OK (c:UInt8):decide (Lib.indexByte [43,45,46,48,49,50,51,52,53,54,55,56,57,69,101] c≥0)=cU c:=by
 have:=agI c.toNat (UInt8.toNat_lt c)
 rwa [UInt8.ofNat_toNat] at this
theorem Vq (c:UInt8):([48,49,50,51,52,53,54,55,56,57]:ab).contains c=ct c:=by
 have:∀ n:Nat,n<256→([48,49,50,51,52,53,54,55,56,57]:ab).contains (UInt8.ofNat n)=ct (UInt8.ofNat n):=by decide +kernel
 have:=this c.toNat (UInt8.toNat_lt c)
 rwa [UInt8.ofNat_toNat] at this
theorem Vr (p:UInt8→Bool) (s:ab) (k:Nat):(s.drop k).dropWhile p=s.drop (ai p s k):=by
 unfold ai;generalize cb:s.drop k=l;have h:∀ l:ab,l.dropWhile p=l.drop (l.takeWhile p).length:=fun l=>by
  induction l with
  | nil=>rfl
  | cons c r ea=>
   rw [List.dropWhile_cons,List.takeWhile_cons]
   split
   ·rw [ea];simp
   rfl
 rw [h,← cb,List.drop_drop]
theorem agJ (s:ab) (k:Nat):Lib.trimLeftS (s.drop k) [48,49,50,51,52,53,54,55,56,57]=s.drop (ai ct s k):=by
 rw [← Vr];unfold Lib.trimLeftS
 congr 1
 funext c
 exact Vq c
theorem OL:∀ c:Nat,c<256→(IntKind.u8.wrap ((BitVec.ofInt IntKind.u8.bits (c:Int) ||| BitVec.ofInt IntKind.u8.bits 32).toNat)=101↔(c=101∨c=69)):=by decide +kernel
theorem acz {s:ab} {p:Nat} {b:UInt8} (aW:s[p]? = some b) (h:¬ b.toNat<128):∃ c m,Utf8.decode ⟨⟨s⟩⟩ p=(c,m)∧128≤c∧c≤1114111∧¬ (55296≤c∧c≤57343):=by
 have cc:=(List.getElem?_eq_some_iff.1 aW).1;have bT:=gn aW
 by_cases cg:(aM (s.drop p)).2=0
 ·exact⟨65533,1,BU cc cg,by decide,by decide,by decide⟩
 obtain⟨_,_,h1,aq⟩:=yD (jI cc) cg;refine⟨_,_,AM cc cg,?_,h1,aq⟩;rcases Nat.lt_or_ge (aM (s.drop p)).1 128 with bb | bb
 ·obtain⟨x,ae,agB⟩:=nZ (jI cc) cg bb;rw [bT] at ae;have:x=b:=by
   cases cu:(aM (b::s.drop (p+1))).2 with
   | zero=>rw [cu] at ae;simp at ae
   | succ m=>rw [cu,List.take_succ_cons] at ae;injection ae with ae;exact ae.symm
  subst this;omega
 exact bb
theorem wc {p n d4:Nat} {s:ab} {b:UInt8} {W:Option Nat} (cc:p<4) (aW:s[p]? = some b) (ae:gP b=none) (hinv:e' (4-p) (s.drop p) n=W):W=none:=by
 rw [← hinv,show 4-p=(3-p)+1 by omega,xc aW,ae]
theorem Mr {p n d:Nat} {s:ab} {b:UInt8} {W:Option Nat} (cc:p<4) (aW:s[p]? = some b) (ae:gP b=some d) (hinv:e' (4-p) (s.drop p) n=W):e' (4-(p+1)) (s.drop (p+1)) (16*n+d)=W:=by
 rw [← hinv,show 4-p=(3-p)+1 by omega,xc aW,ae,show 4-(p+1)=3-p by omega]
theorem OM {b:UInt8} (aW:b.toNat<128) (h:Lib.indexByte kd (UInt8.ofNat (b.toNat ||| 32))<0∨b.toNat<48):gP b=none:=by
 cases ae:gP b with
 | none=>rfl
 | some d=>
  have:=EN aW ae;omega
theorem Vs {b:UInt8} (aW:b.toNat<128) (h1:¬ Lib.indexByte kd (UInt8.ofNat (b.toNat ||| 32))<0) (aq:¬ b.toNat<48):∃ d,gP b=some d∧d<16∧Lib.indexByte kd (UInt8.ofNat (b.toNat ||| 32))=(d:Int):=by
 cases ae:gP b with
 | none=>exact absurd (Vh aW ae) (by omega)
 | some d=>exact⟨d,rfl,I2 ae,(EN aW ae).1⟩
theorem agK {n:Nat} (h:n<65536):IntKind.i32.wrap ((n:Int)*2 ^ (min ((4:Int)).toNat IntKind.i32.bits))=((16*n:Nat):Int):=by
 have:(2:Int) ^ (min ((4:Int)).toNat IntKind.i32.bits)=16:=by decide
 rw [this,wrap32_in _ (by omega)];omega
theorem acA {n:Nat} (h:n<2048):IntKind.i32.wrap ((n:Int)*2 ^ (min ((10:Int)).toNat IntKind.i32.bits))=((1024*n:Nat):Int):=by
 have:(2:Int) ^ (min ((10:Int)).toNat IntKind.i32.bits)=1024:=by decide
 rw [this,wrap32_in _ (by omega)];omega
theorem Vt {n p d:Nat} (h:n<16 ^ p) (bT:d<16):16*n+d<16 ^ (p+1):=by
 rw [Nat.pow_succ];omega
theorem EP {n p:Nat} (h:n<16 ^ p) (cc:p≤3):n<4096:=Nat.lt_of_lt_of_le h (Nat.pow_le_pow_right (by decide) cc)
theorem yE {s:ab} {n m:Nat} (h:e' 4 s n=some m):4≤s.length:=by
 rcases Nat.lt_or_ge s.length 4 with h1 | h1
 ·rw [rb 4 s n h1] at h;cases h
 exact h1
theorem n2 {c:UInt8} {r:ab} (cu:l5 c=none) (h:c≠117∨e' 4 r 0=none∨∃ n,e' 4 r 0=some n∧56320≤n∧n≤57343):ha (c::r)=(0,0):=by
 have cg:fK (92::c::r)=(0,0):=by
  rw [AK cu]
  by_cases aZ:c=117
  ·subst aZ;rw [AL];rcases h with h | h | ⟨n,h1,aq⟩
   ·exact absurd rfl h
   ·rw [h]
   rw [h1];simp only;rw [aL aq]
  rw [Vn aZ]
 unfold ha;rw [cg];rfl
theorem tZ {r:ab} {n:Nat} (h:e' 4 r 0=some n) (aW:n<55296∨57343<n):ha (117::r)=(n,5):=by
 have cg:fK (92::117::r)=(n,6):=by
  rw [AK rfl,AL,h];simp only;rw [ak (by omega),aL aW]
 unfold ha;rw [cg];rfl
theorem n5 {r:ab} {n:Nat} (h:e' 4 r 0=some n) (aW:55296≤n∧n<56320) (aq:ej (r.drop 4)=none∨∃ m,ej (r.drop 4)=some m∧(m<56320∨57343<m)):ha (117::r)=(0,0):=by
 have cg:fK (92::117::r)=(0,0):=by
  rw [AK rfl,AL,h];simp only;rw [ak (by omega),ak (by omega)];rcases aq with aq | ⟨m,aq,bb⟩
  ·rw [aq]
  rw [aq];simp only;rw [aL bb]
 unfold ha;rw [cg];rfl
theorem BV {r:ab} {n m:Nat} (h:e' 4 r 0=some n) (aW:55296≤n∧n<56320) (aq:ej (r.drop 4)=some m) (bb:56320≤m∧m≤57343):ha (117::r)=(65536+1024*(n-55296)+(m-56320),11):=by
 have cg:fK (92::117::r)=(65536+1024*(n-55296)+(m-56320),12):=by
  rw [AK rfl,AL,h];simp only;rw [ak (by omega),ak (by omega),aq];simp only;rw [ak (by omega)]
 unfold ha;rw [cg];rfl
theorem xd (p l:ab):decide (p.length≤l.length∧l.take p.length=p)=List.isPrefixOf p l:=by
 rw [Bool.eq_iff_iff,decide_eq_true_eq,List.isPrefixOf_iff_prefix,List.prefix_iff_eq_take];constructor
 ·rintro⟨_,h⟩;exact h.symm
 intro h;refine⟨?_,h.symm⟩;have:=kZ List.length h;rw [List.length_take] at this;omega
theorem I5 (s:ab):(ha s).1≤1114111∧¬ (55296≤(ha s).1∧(ha s).1≤57343)∧(ha s).2≤s.length:=by
 cases s with
 | nil=>rw [QB];decide
 | cons c r=>
  cases aZ:l5 c with
  | some d=>
   rw [EO aZ];rcases yC c with⟨h,_⟩ | ⟨i,vi,h,_,_,_,aq⟩
   ·rw [h] at aZ;cases aZ
   rw [aZ] at h;injection h with h
   subst h;exact⟨by simp only;omega,by simp only;omega,by simp⟩
  | none=>
   by_cases aeZ:c=117
   rotate_left
   ·rw [n2 aZ (.inl aeZ)];simp
   subst aeZ;cases ae:e' 4 r 0 with
   | none=>rw [n2 aZ (.inr (.inl ae))];simp
   | some n=>
    have cb:=yE ae;have cu:=xb ae
    by_cases aW:n<55296∨57343<n
    ·rw [tZ ae aW];exact⟨by simp only;omega,by simp only;omega,by simp only [List.length_cons];omega⟩
    by_cases Ms:56320≤n
    ·rw [n2 aZ (.inr (.inr ⟨n,ae,Ms,by omega⟩))];simp
    cases hu:ej (r.drop 4)with
    | none=>rw [n5 ae (by omega) (.inl hu)];simp
    | some m=>
     by_cases hm:m<56320∨57343<m
     ·rw [n5 ae (by omega) (.inr ⟨m,hu,hm⟩)];simp
     rw [BV ae (by omega) hu (by omega)];have l6:6≤(r.drop 4).length:=by
      unfold ej at hu
      split at hu
      ·rename_i Qn e
       have:=yE hu;rw [e];simp only [List.length_cons];omega
      cases hu
     rw [List.length_drop] at l6;exact⟨by simp only;omega,by simp only;omega,by simp only [List.length_cons];omega⟩
/-! ## a text between quotes, round by round -/
theorem ER {f:Nat} {s:ab} {i:Nat} {out:ab} (h:s.length≤i):gx f (s.drop i) i out=none:=by
 rw [List.drop_eq_nil_of_le h];cases f <;> rfl
theorem zC {f:Nat} {s:ab} {i:Nat} {out:ab} (h:s[i]? = some 34):gx (f+1) (s.drop i) i out=some (out,i+1):=by
 rw [gn h,gx,aL rfl]
theorem BW {f:Nat} {s:ab} {i:Nat} {out:ab} {c:UInt8} (h:s[i]? = some c) (h1:c≠34) (aq:c≠92):gx (f+1) (s.drop i) i out=if (aM (s.drop i)).2=0∨(aM (s.drop i)).1<32 then none else gx f (s.drop (i+(aM (s.drop i)).2)) (i+(aM (s.drop i)).2) (out++fl (aM (s.drop i)).1):=by
 have e:=gn h;rw [← List.drop_drop];generalize s.drop i=l at e ⊢;subst e;rw [gx,ak h1,ak aq];simp only [ne_eq,aq,not_false_eq_true,true_and]
theorem QD {f:Nat} {s:ab} {i:Nat} {out:ab} (h:s[i]? = some 92):gx (f+1) (s.drop i) i out=if (ha (s.drop (i+1))).2=0 then none else gx f (s.drop (i+((ha (s.drop (i+1))).2+1))) (i+((ha (s.drop (i+1))).2+1)) (out++fl (ha (s.drop (i+1))).1):=by
 have e:=gn h;have ee:∀ k,s.drop (i+k)=(92::s.drop (i+1)).drop k:=fun k=>by rw [← e,List.drop_drop]
 rw [ee ((ha (s.drop (i+1))).2+1),e,gx,ak (by decide),aL rfl];simp only [ne_eq,not_true_eq_false,false_and,or_false];unfold ha;generalize ae:fK (92::s.drop (i+1))=x
 by_cases cg:x.2=0
 ·rw [aL cg,aL cg];rfl
 have cH:¬ (x.2-1=0):=by
  have:x.2≠1:=fun h1=>by
   rw [← ae] at h1;unfold fK at h1
   split at h1
   ·split at h1
    ·cases h1
    split at h1
    ·cases h1
    split at h1
    ·cases h1
    split at h1
    ·cases h1
    split at h1
    ·cases h1
    split at h1 <;> cases h1
   cases h1
  omega
 rw [ak cg,ak cg];simp only;rw [ak cH,show x.2-1+1=x.2 by omega]
theorem QE {s:ab} {i:Nat} (h:i<s.length) (cg:(aM (s.drop i)).2=0):Utf8.decode ⟨⟨s.drop i⟩⟩ 0=(65533,1):=by
 have:=BU (s:=s.drop i) (p:=0) (by rw [List.length_drop];omega) (by simpa using cg);exact this
theorem yF {s:ab} {i:Nat} (h:i<s.length) (cg:(aM (s.drop i)).2≠0):Utf8.decode ⟨⟨s.drop i⟩⟩ 0=aM (s.drop i):=by
 have:=AM (s:=s.drop i) (p:=0) (by rw [List.length_drop];omega) (by simpa using cg);simpa using this
theorem re {s:ab} {i:Nat} {c:UInt8} (h:s[i]? = some c) (aZ:c.toNat<128):aM (s.drop i)=(c.toNat,1):=by
 rw [gn h];exact hs aZ
theorem ES {s:ab} {i:Nat} {c:UInt8} (h:s[i]? = some c) (cg:(aM (s.drop i)).2≠0) (cb:(aM (s.drop i)).1<128):(aM (s.drop i)).1=c.toNat:=by
 have cH:s.drop i≠[]:=by rw [gn h];simp
 obtain⟨x,ae,agB⟩:=nZ cH cg cb;rw [← agB];have:x=c:=by
  rw [gn h] at ae;cases cu:(aM (c::s.drop (i+1))).2 with
  | zero=>rw [cu] at ae;simp at ae
  | succ m=>rw [cu,List.take_succ_cons] at ae;injection ae with ae;exact ae.symm
 rw [this]
theorem QF {s:ab} {i:Nat} (h:i<s.length) (cg:(aM (s.drop i)).2≠0) (aZ:(aM (s.drop i)).1=65533):¬ (aM (s.drop i)).2<2:=by
 have cH:=jI h;have:=sQ cH cg;have cb:=kZ List.length this;rw [aZ,show(fl 65533).length=3 by decide,List.length_take] at cb;omega
theorem zD {s:ab} {v:Int} (h:Lib.atoiAll s = .ok v) : -9223372036854775808≤v∧v≤9223372036854775807:=by
 unfold Lib.atoiAll at h
 split at h
 ·cases h
 simp only at h
 split at h
 ·cases h
 ·cases h
 split at h
 ·cases h
 split at h
 ·cases h
 rename_i h1 aq
 injection h with h
 subst h
 split
 ·rename_i Vu;simp only [Vu,true_and] at aq;omega
 rename_i Vu;simp only [Vu,not_false_eq_true,true_and] at h1;omega
theorem agL {s:ab} {a:Nat} (aE:a=if aC s 0 [45] then 1 else 0):Lib.trimPrefix s [45]=s.drop a:=by
 unfold Lib.trimPrefix Lib.hasPrefix;unfold aC at aE;rw [List.drop_zero] at aE;rw [aE]
 split <;> simp
theorem ET {s:ab} {a:Nat} (aE:a=if aC s 0 [45] then 1 else 0):a≤s.length:=by
 rw [aE]
 split
 ·rename_i h;exact b9 h (by simp)
 omega
section
variable {w:ab} {a e bu ee:Nat}
theorem zE (aE:a=if aC w 0 [45] then 1 else 0) (he:e=ai ct w a) (h:e=a∨(a+1<e∧w[a]? = some 48)):(dw w).1=false:=by
 subst he;subst aE;unfold dw;simp only;rw [aL h]
theorem I6 (aE:a=if aC w 0 [45] then 1 else 0) (he:e=ai ct w a) (h:¬ (e=a∨(a+1<e∧w[a]? = some 48))) (hm:aC w e [46]=true) (hk:ai ct w (e+1)=e+1):(dw w).1=false:=by
 subst he;subst aE;unfold dw;simp only;rw [ak h,aL ⟨hm,hk⟩]
theorem we (aE:a=if aC w 0 [45] then 1 else 0) (he:e=ai ct w a) (h:¬ (e=a∨(a+1<e∧w[a]? = some 48))) (aq:¬ (aC w e [46]=true∧ai ct w (e+1)=e+1)) (l7:bu=if aC w e [46] then ai ct w (e+1)else e) (gR:(aC w bu [101]||aC w bu [69])=false):(dw w).1=decide (bu=w.length):=by
 subst l7;subst he;subst aE;unfold dw;simp only;rw [ak h,ak aq,ak (by rw [gR];simp)]
theorem I7 (aE:a=if aC w 0 [45] then 1 else 0) (he:e=ai ct w a) (h:¬ (e=a∨(a+1<e∧w[a]? = some 48))) (aq:¬ (aC w e [46]=true∧ai ct w (e+1)=e+1)) (l7:bu=if aC w e [46] then ai ct w (e+1)else e) (gR:(aC w bu [101]||aC w bu [69])=true) (l8:ee=if aC w (bu+1) [43]||aC w (bu+1) [45] then bu+2 else bu+1) (hk:ai ct w ee=ee):(dw w).1=false:=by
 subst l8;subst l7;subst he;subst aE;unfold dw;simp only;rw [ak h,ak aq,aL gR,aL hk]
theorem wg (aE:a=if aC w 0 [45] then 1 else 0) (he:e=ai ct w a) (h:¬ (e=a∨(a+1<e∧w[a]? = some 48))) (aq:¬ (aC w e [46]=true∧ai ct w (e+1)=e+1)) (l7:bu=if aC w e [46] then ai ct w (e+1)else e) (gR:(aC w bu [101]||aC w bu [69])=true) (l8:ee=if aC w (bu+1) [43]||aC w (bu+1) [45] then bu+2 else bu+1) (hk:¬ ai ct w ee=ee):(dw w).1=decide (ai ct w ee=w.length):=by
 subst l8;subst l7;subst he;subst aE;unfold dw;simp only;rw [ak h,ak aq,aL gR,ak hk]
end
theorem drop_nil {s:ab} {k:Nat} (hk:k≤s.length):s.drop k = []↔k=s.length:=by
 rw [List.drop_eq_nil_iff];omega
theorem fL {s:ab} {k:Nat} {c d:UInt8} (h:s[k]? = some d):aC s k [c]=decide (d=c):=by
 rw [Mi,h];simp
theorem nq (c:Nat):(fl c).length≤4:=QG c
end Go.Proofs.YtkjgljnkocnnpaaGreatDoor.V
