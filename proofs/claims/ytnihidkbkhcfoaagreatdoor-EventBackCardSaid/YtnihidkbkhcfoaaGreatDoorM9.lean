/-
  A part of the proof: members' rows as the library's sort sees them: rows of seven cells; the sorted row is the map; the members' sort: the shelf's contract, in the words of the own base; byKey walked; the reader's push, walked; the reader's key, walked. No condition of its own.
-/
import Derived.Test.YtnihidkbkhcfoaaGreatDoorM8
import Derived.Test.YtnihidkbkhcfoaaGreatDoorM3
import Derived.Test.YtnihidkbkhcfoaaGreatDoorM5
import Derived.Shelf.SlSortCmp.WholeK
import Derived.Test.YtnihidkbkhcfoaaGreatDoorM1
import Derived.Shelf.SlGeneric
import Derived.Shelf.Strings.Trim
import Derived.Shelf.Small.Utf8
import Derived.Shelf.Small.Bits
import Derived.Shelf.Small.Strs
import Derived.Shelf.Small.Wraps
import Derived.Shelf.Utf8.AppendRune
import Derived.Shelf.Strconv.Atoi
import Derived.Shelf.Strconv.Itoa0
import Derived.Shelf.Strconv.Itoa1
import Derived.Shelf.LaysM
import Derived.Shelf.Strconv.Itoa2
import Derived.Shelf.Strconv.Itoa3
import Derived.Shelf.Strconv.AtoiErrFast
import Derived.Shelf.Strconv.ParseIntEmpty
import Derived.Shelf.Strconv.AtoiFail
import Derived.Shelf.Strconv.Clone
import Derived.Shelf.Strconv.SyntaxError
import Derived.Shelf.LaysC
import Derived.Shelf.Strconv.ToError
import Derived.Shelf.Strconv.Lower
import Derived.Shelf.Strconv.ParseUint10
import Derived.Shelf.Strconv.ParseUint10Empty
import Derived.Shelf.Strconv.ParseUint10Any
import Derived.Shelf.Strconv.ParseInt10
import Derived.Shelf.Strconv.AtoiLong
import Derived.Shelf.Strconv.AtoiInnerAll
import Derived.Shelf.Strconv.RangeError
import Derived.Shelf.Strconv.ToErrorRange
import Derived.Shelf.Strconv.AtoiAll
import Derived.Shelf.Strconv.ErrVarAll
import Derived.Shelf.Strings.Search1
import Derived.Shelf.Strings.Search2
import Derived.Shelf.Strings.Cut
import Derived.Shelf.Strings.Shaped
import Derived.Shelf.Strings.Prefix
import Derived.Shelf.Strings.Runes
import Derived.Shelf.Strings.AsciiSet
import Derived.Shelf.Unicode.DecodeSlow
import Derived.Shelf.Unicode.DecodeAny
import Derived.Shelf.Slices.Clone
import Derived.Shelf.SlSortCmp.NoneTotal
set_option linter.unusedVariables false
set_option linter.unusedSimpArgs false
set_option maxRecDepth 10000
namespace Go.Proofs.YtnihidkbkhcfoaaGreatDoor.V
open Go Go.Proofs
theorem QB:aP Tryz.prog 204:=aP.of Tryz.func204 (by kernel_rfl) (by kernel_rfl)
theorem fJ:aP Tryz.prog 205:=aP.of Tryz.func205 (by kernel_rfl) (by kernel_rfl)
set_option maxHeartbeats 2000000 in
theorem Ct (w:World) (s:U) (aN:s.length≤1000000):Calls Tryz.prog 181 [S s].toArray w (bI fun u w'=>u = .bool (fH s).1∧Mod [] w w'):=by
 refine enter Tryz.func181 rfl rfl rfl (l:=[(0,_)]) ⟨rfl,trivial⟩ ?_;have E:=Mod.refl [] w;refine ae fun aX=>bb rfl (R aX (ae fun aM=>aQ rfl (cD (bt QB rfl) (Lk _ s [45]) fun aE J=>?_)));replace E:=E.then J;obtain⟨a,ax⟩:∃ a,a=if av s 0 [45] then 1 else 0:=⟨_,rfl⟩
 have P4:=IG ax;rw [Vn ax];obtain⟨e,he⟩:∃ e,e=ag a' s a:=⟨_,rfl⟩;have abA:=bG a' s a;have abB:ag a' s a≤s.length:=bZ (by omega);rw [← he] at abA abB;refine bb rfl (R aM (ae fun a7=>aQ rfl (cD (bt fJ rfl) (dy _ s a aN P4) fun cY J=>?_)));replace E:=E.then J;rw [← he];refine aq 5 rfl (R a7 (ay fun bC=>ae fun bU=>aq 2 rfl ?_));refine dR (fun cO:((e-a:Nat):Int)=0=>?_) (fun cO=>?_)
 ·refine aq 9 rfl (R bU (aO rfl ?_));have b9:e=a∨(a+1<e∧s[a]? = some 48):=by
   first | (left;omega) | (right;exact⟨by omega,by rw [Mm,cQ (show(d.toNat:Int)=(48:UInt8).toNat by rw [Mn];rfl)]⟩)
  exact ae fun ca=>bb rfl (R ca (bg (a1 (by simp) (ar rfl rfl ⟨by rw [uT ax he b9],E⟩))))
 refine aq 3 rfl ?_;refine dR (fun tR:((e-a:Nat):Int) > 1=>?_) (fun tR=>?_);rotate_left
 ·refine aq 6 rfl (R bU (aJ rfl ?_));have b9:¬ (e=a∨(a+1<e∧s[a]? = some 48)):=by
   rintro(h | ⟨h,fb⟩)
   ·omega
   first | omega | (rw [Mm] at fb;injection fb with fb;subst fb;exact Mn rfl)
  refine cJ (az bC (ay fun Tl=>ae fun abR=>aQ rfl (cD (bt AD rfl) (Ak _ (s.drop e) [46]) fun pP J=>?_)));replace E:=E.then J;refine aq 5 rfl (R abR (ae fun abS=>aQ rfl (R abS ?_)));refine aU rfl (fun rP=>?_) (fun rP=>?_);rotate_left
  ·have AE:av s e [46]=false:=rP;obtain⟨aV,oU⟩:∃ aV,aV=e:=⟨_,rfl⟩;rw [← oU];have aj:¬ (av s e [46]=true∧ag a' s (e+1)=e+1):=fun h=>by rw [AE] at h;cases h.1
   have ct:aV=if av s e [46] then ag a' s (e+1)else e:=by rw [if_neg (by rw [AE];simp)];exact oU
   have rO:aV≤s.length:=by omega
   refine cJ (az Tl (ay fun zg=>ae fun Ms=>aQ rfl (ao (e3 rfl rfl) ?_)));refine dR (fun jR:s.drop (aV)≠[]=>?_) (fun jR=>?_);rotate_left
   ·refine aq 6 rfl (R Ms (aJ rfl ?_));have ed:(av s aV [101]||av s aV [69])=false:=by
     first | (rw [ba il,ba il,bX (fun h=>ab (.inl (by rw [h];rfl))),bX (fun h=>ab (.inr (by rw [h];rfl)))];rfl) | (rw [br (show s.length≤aV by have:=Classical.not_not.1 jR;rw [drop_nil (by omega)] at this;omega) (by simp),br (show s.length≤aV by have:=Classical.not_not.1 jR;rw [drop_nil (by omega)] at this;omega) (by simp)];rfl)
    exact cJ (az zg (ae fun Wc=>aQ rfl (ao (dM rfl rfl) (bb rfl (R Wc (bg (ar rfl rfl ⟨by first | (rw [cy ax he b9 aj ct ed eN bP];exact congrArg Value.bool (decide_eq_decide.2 (drop_nil (by omega)))) | (rw [cx ax he b9 aj ct ed];exact congrArg Value.bool (decide_eq_decide.2 (drop_nil (by omega)))),E⟩)))))))
   obtain⟨x,il⟩:∃ x,s[aV]? = some x:=⟨_,List.getElem?_eq_getElem (by rw [Ne,drop_nil (by omega)] at jR;omega)⟩;refine aq 2 rfl ?_;refine aw ((c8 (c:=x) Tryz.underlying9 rfl rfl (by decide) (by rw [show((0:Int)).toNat=0 from rfl,List.getElem?_drop,Nat.add_zero];exact il))) ?_;refine aw (pk rfl rfl) (aw (oC rfl rfl) ?_)
   by_cases ab:(x.toNat=101∨x.toNat=69)
   rotate_left
   ·refine jZ (bX (fun h=>ab ((nt x.toNat (UInt8.toNat_lt x)).1 h))) (ao (lU rfl rfl rfl) (R Ms (aJ rfl ?_)));have ed:(av s aV [101]||av s aV [69])=false:=by
     first | (rw [ba il,ba il,bX (fun h=>ab (.inl (by rw [h];rfl))),bX (fun h=>ab (.inr (by rw [h];rfl)))];rfl) | (rw [br (show s.length≤aV by have:=Classical.not_not.1 jR;rw [drop_nil (by omega)] at this;omega) (by simp),br (show s.length≤aV by have:=Classical.not_not.1 jR;rw [drop_nil (by omega)] at this;omega) (by simp)];rfl)
    exact cJ (az zg (ae fun Wb=>aQ rfl (ao (dM rfl rfl) (bb rfl (R Wb (bg (ar rfl rfl ⟨by first | (rw [cy ax he b9 aj ct ed eN bP];exact congrArg Value.bool (decide_eq_decide.2 (drop_nil (by omega)))) | (rw [cx ax he b9 aj ct ed];exact congrArg Value.bool (decide_eq_decide.2 (drop_nil (by omega)))),E⟩)))))))
   refine jZ (bB ((nt x.toNat (UInt8.toNat_lt x)).2 ab)) (ao (lU rfl rfl rfl) (R Ms (aO rfl ?_)));have ed:(av s aV [101]||av s aV [69])=true:=by
    rw [ba il,ba il];rcases ab with h | h
    ·rw [bB (cQ (by rw [h];rfl))];rfl
    rw [Bool.or_eq_true];right;exact bB (cQ (by rw [h];rfl))
   have Mq:aV+1≤s.length:=(List.getElem?_eq_some_iff.1 il).1;refine ae fun acf=>aQ rfl (ao ((cv (n:=1) Tryz.underlying9 rfl rfl (by rw [List.length_drop];omega)).to (v':=S (s.drop (aV+1))) (by rw [List.drop_drop])) (bb rfl (R acf (ay fun G5=>ae fun G6=>aQ rfl (ao (e3 rfl rfl) ?_)))));refine dR (fun j8:s.drop (aV+1)≠[]=>?_) (fun j8=>?_);rotate_left
   ·refine aq 10 rfl (R G6 (aJ rfl ?_));have kl:(av s (aV+1) [43]||av s (aV+1) [45])=false:=by
     first | (rw [ba fy,ba fy,bX (fun h=>jm (by rw [h];rfl)),bX (fun h=>mH (by rw [h];rfl))];rfl) | (rw [br (show s.length≤aV+1 by have:=Classical.not_not.1 j8;rw [drop_nil (by omega)] at this;omega) (by simp),br (show s.length≤aV+1 by have:=Classical.not_not.1 j8;rw [drop_nil (by omega)] at this;omega) (by simp)];rfl)
    obtain⟨bs,fX⟩:∃ bs,bs=aV+1:=⟨_,rfl⟩;have eN:bs=if av s (aV+1) [43]||av s (aV+1) [45] then aV+2 else aV+1:=by rw [if_neg (by rw [kl];simp)];exact fX
    refine cJ (az G5 (ay fun VO=>?_));have ie:bs≤s.length:=by omega
    rw [← fX];have jt:=bG a' s bs;have ju:ag a' s bs≤s.length:=bZ (by omega);refine b8 (aQ rfl (cD (bt fJ rfl) (dy _ s bs aN ie) fun Mt J=>?_));replace E:=E.then J;refine aq 5 rfl (R VO (ae fun VU=>aq 2 rfl (R VU ?_)));refine bm rfl (fun hK=>?_) (fun hK=>?_)
    ·have bP:ag a' s bs=bs:=by omega
     exact ae fun V'=>bb rfl (R V' (bg (a1 (by simp) (ar rfl rfl ⟨by rw [dE ax he b9 aj ct ed eN bP],E⟩))))
    have bP:¬ ag a' s bs=bs:=by omega
    exact cJ (az zg (ae fun Wa=>aQ rfl (ao (dM rfl rfl) (bb rfl (R Wa (bg (ar rfl rfl ⟨by first | (rw [cy ax he b9 aj ct ed eN bP];exact congrArg Value.bool (decide_eq_decide.2 (drop_nil (by omega)))) | (rw [cx ax he b9 aj ct ed];exact congrArg Value.bool (decide_eq_decide.2 (drop_nil (by omega)))),E⟩)))))))
   obtain⟨y,fy⟩:∃ x,s[aV+1]? = some x:=⟨_,List.getElem?_eq_getElem (by rw [Ne,drop_nil (by omega)] at j8;omega)⟩;refine aq 2 rfl ?_;refine aw ((c8 (c:=y) Tryz.underlying9 rfl rfl (by decide) (by rw [show((0:Int)).toNat=0 from rfl,List.getElem?_drop,Nat.add_zero];exact fy))) ?_;refine aw (oC rfl rfl) ?_;refine dR (fun jm:(y.toNat:Int)=43=>?_) (fun jm=>?_)
   ·refine aq 6 rfl (R G6 (aO rfl ?_));have kl:(av s (aV+1) [43]||av s (aV+1) [45])=true:=by
     rw [ba fy,ba fy,Bool.or_eq_true,decide_eq_true_eq,decide_eq_true_eq]
     first | (left;exact cQ (by rw [jm];rfl)) | (right;exact cQ (by rw [mH];rfl))
    have wS:aV+2≤s.length:=(List.getElem?_eq_some_iff.1 fy).1;obtain⟨bs,fX⟩:∃ bs,bs=aV+2:=⟨_,rfl⟩;have eN:bs=if av s (aV+1) [43]||av s (aV+1) [45] then aV+2 else aV+1:=by rw [if_pos kl];exact fX
    refine b8 (aQ rfl (ao ((cv (n:=1) Tryz.underlying9 rfl rfl (by rw [List.length_drop];omega)).to (v':=S (s.drop (aV+2))) (by rw [List.drop_drop])) (bb rfl (R G5 (ay fun acg=>?_)))));have ie:bs≤s.length:=by omega
    rw [← fX];have jt:=bG a' s bs;have ju:ag a' s bs≤s.length:=bZ (by omega);refine b8 (aQ rfl (cD (bt fJ rfl) (dy _ s bs aN ie) fun vd J=>?_));replace E:=E.then J;refine aq 5 rfl (R acg (ae fun ach=>aq 2 rfl (R ach ?_)));refine bm rfl (fun hK=>?_) (fun hK=>?_)
    ·have bP:ag a' s bs=bs:=by omega
     exact ae fun aci=>bb rfl (R aci (bg (a1 (by simp) (ar rfl rfl ⟨by rw [dE ax he b9 aj ct ed eN bP],E⟩))))
    have bP:¬ ag a' s bs=bs:=by omega
    exact cJ (az zg (ae fun acj=>aQ rfl (ao (dM rfl rfl) (bb rfl (R acj (bg (ar rfl rfl ⟨by first | (rw [cy ax he b9 aj ct ed eN bP];exact congrArg Value.bool (decide_eq_decide.2 (drop_nil (by omega)))) | (rw [cx ax he b9 aj ct ed];exact congrArg Value.bool (decide_eq_decide.2 (drop_nil (by omega)))),E⟩)))))))
   refine aq 2 rfl ?_;refine aw ((c8 (c:=y) Tryz.underlying9 rfl rfl (by decide) (by rw [show((0:Int)).toNat=0 from rfl,List.getElem?_drop,Nat.add_zero];exact fy))) ?_;refine aw (oC rfl rfl) ?_;refine dR (fun mH:(y.toNat:Int)=45=>?_) (fun mH=>?_);rotate_left
   ·refine aq 2 rfl (R G6 (aJ rfl ?_));have kl:(av s (aV+1) [43]||av s (aV+1) [45])=false:=by
     first | (rw [ba fy,ba fy,bX (fun h=>jm (by rw [h];rfl)),bX (fun h=>mH (by rw [h];rfl))];rfl) | (rw [br (show s.length≤aV+1 by have:=Classical.not_not.1 j8;rw [drop_nil (by omega)] at this;omega) (by simp),br (show s.length≤aV+1 by have:=Classical.not_not.1 j8;rw [drop_nil (by omega)] at this;omega) (by simp)];rfl)
    obtain⟨bs,fX⟩:∃ bs,bs=aV+1:=⟨_,rfl⟩;have eN:bs=if av s (aV+1) [43]||av s (aV+1) [45] then aV+2 else aV+1:=by rw [if_neg (by rw [kl];simp)];exact fX
    refine cJ (az G5 (ay fun Vw=>?_));have ie:bs≤s.length:=by omega
    rw [← fX];have jt:=bG a' s bs;have ju:ag a' s bs≤s.length:=bZ (by omega);refine b8 (aQ rfl (cD (bt fJ rfl) (dy _ s bs aN ie) fun AF J=>?_));replace E:=E.then J;refine aq 5 rfl (R Vw (ae fun Vx=>aq 2 rfl (R Vx ?_)));refine bm rfl (fun hK=>?_) (fun hK=>?_)
    ·have bP:ag a' s bs=bs:=by omega
     exact ae fun Vy=>bb rfl (R Vy (bg (a1 (by simp) (ar rfl rfl ⟨by rw [dE ax he b9 aj ct ed eN bP],E⟩))))
    have bP:¬ ag a' s bs=bs:=by omega
    exact cJ (az zg (ae fun Vz=>aQ rfl (ao (dM rfl rfl) (bb rfl (R Vz (bg (ar rfl rfl ⟨by first | (rw [cy ax he b9 aj ct ed eN bP];exact congrArg Value.bool (decide_eq_decide.2 (drop_nil (by omega)))) | (rw [cx ax he b9 aj ct ed];exact congrArg Value.bool (decide_eq_decide.2 (drop_nil (by omega)))),E⟩)))))))
   refine aq 2 rfl (R G6 (aO rfl ?_));have kl:(av s (aV+1) [43]||av s (aV+1) [45])=true:=by
    rw [ba fy,ba fy,Bool.or_eq_true,decide_eq_true_eq,decide_eq_true_eq]
    first | (left;exact cQ (by rw [jm];rfl)) | (right;exact cQ (by rw [mH];rfl))
   have wS:aV+2≤s.length:=(List.getElem?_eq_some_iff.1 fy).1;obtain⟨bs,fX⟩:∃ bs,bs=aV+2:=⟨_,rfl⟩;have eN:bs=if av s (aV+1) [43]||av s (aV+1) [45] then aV+2 else aV+1:=by rw [if_pos kl];exact fX
   refine b8 (aQ rfl (ao ((cv (n:=1) Tryz.underlying9 rfl rfl (by rw [List.length_drop];omega)).to (v':=S (s.drop (aV+2))) (by rw [List.drop_drop])) (bb rfl (R G5 (ay fun ack=>?_)))));have ie:bs≤s.length:=by omega
   rw [← fX];have jt:=bG a' s bs;have ju:ag a' s bs≤s.length:=bZ (by omega);refine b8 (aQ rfl (cD (bt fJ rfl) (dy _ s bs aN ie) fun yj J=>?_));replace E:=E.then J;refine aq 5 rfl (R ack (ae fun acm=>aq 2 rfl (R acm ?_)));refine bm rfl (fun hK=>?_) (fun hK=>?_)
   ·have bP:ag a' s bs=bs:=by omega
    exact ae fun Vu=>bb rfl (R Vu (bg (a1 (by simp) (ar rfl rfl ⟨by rw [dE ax he b9 aj ct ed eN bP],E⟩))))
   have bP:¬ ag a' s bs=bs:=by omega
   exact cJ (az zg (ae fun Vv=>aQ rfl (ao (dM rfl rfl) (bb rfl (R Vv (bg (ar rfl rfl ⟨by first | (rw [cy ax he b9 aj ct ed eN bP];exact congrArg Value.bool (decide_eq_decide.2 (drop_nil (by omega)))) | (rw [cx ax he b9 aj ct ed];exact congrArg Value.bool (decide_eq_decide.2 (drop_nil (by omega)))),E⟩)))))))
  skip
  refine ay fun abT=>?_;have rS:Lib.trimPrefix (s.drop e) [46]=s.drop (e+1):=by
   unfold Lib.trimPrefix;rw [if_pos rP,List.drop_drop];rfl
  rw [rS];have Mo:e+1≤s.length:=cg (t:=[46]) rP (by simp);have abC:=bG a' s (e+1);have Mp:ag a' s (e+1)≤s.length:=bZ (by omega);refine b8 (aQ rfl (cD (bt fJ rfl) (dy _ s (e+1) aN Mo) fun si J=>?_));replace E:=E.then J;refine aq 5 rfl (R abT (ae fun abU=>aq 2 rfl (R abU ?_)));refine bm rfl (fun Vt=>?_) (fun Vt=>?_)
  ·have bA:ag a' s (e+1)=e+1:=by omega
   exact ae fun abV=>bb rfl (R abV (bg (a1 (by simp) (ar rfl rfl ⟨by rw [uU ax he b9 rP bA],E⟩))))
  have bY:¬ ag a' s (e+1)=e+1:=by omega
  have rO:ag a' s (e+1)≤s.length:=Mp;have AE:av s e [46]=true:=rP;obtain⟨aV,oU⟩:∃ aV,aV=ag a' s (e+1):=⟨_,rfl⟩;rw [← oU] at bY ⊢;have aj:¬ (av s e [46]=true∧ag a' s (e+1)=e+1):=fun h=>bY (by rw [oU];omega);have ct:aV=if av s e [46] then ag a' s (e+1)else e:=by rw [if_pos AE];exact oU
  refine cJ (az Tl (ay fun zf=>ae fun Mr=>aQ rfl (ao (e3 rfl rfl) ?_)));refine dR (fun jR:s.drop (aV)≠[]=>?_) (fun jR=>?_);rotate_left
  ·refine aq 6 rfl (R Mr (aJ rfl ?_));have ed:(av s aV [101]||av s aV [69])=false:=by
    first | (rw [ba il,ba il,bX (fun h=>ab (.inl (by rw [h];rfl))),bX (fun h=>ab (.inr (by rw [h];rfl)))];rfl) | (rw [br (show s.length≤aV by have:=Classical.not_not.1 jR;rw [drop_nil (by omega)] at this;omega) (by simp),br (show s.length≤aV by have:=Classical.not_not.1 jR;rw [drop_nil (by omega)] at this;omega) (by simp)];rfl)
   exact cJ (az zf (ae fun ace=>aQ rfl (ao (dM rfl rfl) (bb rfl (R ace (bg (ar rfl rfl ⟨by first | (rw [cy ax he b9 aj ct ed eN bP];exact congrArg Value.bool (decide_eq_decide.2 (drop_nil (by omega)))) | (rw [cx ax he b9 aj ct ed];exact congrArg Value.bool (decide_eq_decide.2 (drop_nil (by omega)))),E⟩)))))))
  obtain⟨x,il⟩:∃ x,s[aV]? = some x:=⟨_,List.getElem?_eq_getElem (by rw [Ne,drop_nil (by omega)] at jR;omega)⟩;refine aq 2 rfl ?_;refine aw ((c8 (c:=x) Tryz.underlying9 rfl rfl (by decide) (by rw [show((0:Int)).toNat=0 from rfl,List.getElem?_drop,Nat.add_zero];exact il))) ?_;refine aw (pk rfl rfl) (aw (oC rfl rfl) ?_)
  by_cases ab:(x.toNat=101∨x.toNat=69)
  rotate_left
  ·refine jZ (bX (fun h=>ab ((nt x.toNat (UInt8.toNat_lt x)).1 h))) (ao (lU rfl rfl rfl) (R Mr (aJ rfl ?_)));have ed:(av s aV [101]||av s aV [69])=false:=by
    first | (rw [ba il,ba il,bX (fun h=>ab (.inl (by rw [h];rfl))),bX (fun h=>ab (.inr (by rw [h];rfl)))];rfl) | (rw [br (show s.length≤aV by have:=Classical.not_not.1 jR;rw [drop_nil (by omega)] at this;omega) (by simp),br (show s.length≤aV by have:=Classical.not_not.1 jR;rw [drop_nil (by omega)] at this;omega) (by simp)];rfl)
   exact cJ (az zf (ae fun acd=>aQ rfl (ao (dM rfl rfl) (bb rfl (R acd (bg (ar rfl rfl ⟨by first | (rw [cy ax he b9 aj ct ed eN bP];exact congrArg Value.bool (decide_eq_decide.2 (drop_nil (by omega)))) | (rw [cx ax he b9 aj ct ed];exact congrArg Value.bool (decide_eq_decide.2 (drop_nil (by omega)))),E⟩)))))))
  refine jZ (bB ((nt x.toNat (UInt8.toNat_lt x)).2 ab)) (ao (lU rfl rfl rfl) (R Mr (aO rfl ?_)));have ed:(av s aV [101]||av s aV [69])=true:=by
   rw [ba il,ba il];rcases ab with h | h
   ·rw [bB (cQ (by rw [h];rfl))];rfl
   rw [Bool.or_eq_true];right;exact bB (cQ (by rw [h];rfl))
  have Mq:aV+1≤s.length:=(List.getElem?_eq_some_iff.1 il).1;refine ae fun abW=>aQ rfl (ao ((cv (n:=1) Tryz.underlying9 rfl rfl (by rw [List.length_drop];omega)).to (v':=S (s.drop (aV+1))) (by rw [List.drop_drop])) (bb rfl (R abW (ay fun G3=>ae fun G4=>aQ rfl (ao (e3 rfl rfl) ?_)))));refine dR (fun j8:s.drop (aV+1)≠[]=>?_) (fun j8=>?_);rotate_left
  ·refine aq 10 rfl (R G4 (aJ rfl ?_));have kl:(av s (aV+1) [43]||av s (aV+1) [45])=false:=by
    first | (rw [ba fy,ba fy,bX (fun h=>jm (by rw [h];rfl)),bX (fun h=>mH (by rw [h];rfl))];rfl) | (rw [br (show s.length≤aV+1 by have:=Classical.not_not.1 j8;rw [drop_nil (by omega)] at this;omega) (by simp),br (show s.length≤aV+1 by have:=Classical.not_not.1 j8;rw [drop_nil (by omega)] at this;omega) (by simp)];rfl)
   obtain⟨bs,fX⟩:∃ bs,bs=aV+1:=⟨_,rfl⟩;have eN:bs=if av s (aV+1) [43]||av s (aV+1) [45] then aV+2 else aV+1:=by rw [if_neg (by rw [kl];simp)];exact fX
   refine cJ (az G3 (ay fun ab9=>?_));have ie:bs≤s.length:=by omega
   rw [← fX];have jt:=bG a' s bs;have ju:ag a' s bs≤s.length:=bZ (by omega);refine b8 (aQ rfl (cD (bt fJ rfl) (dy _ s bs aN ie) fun EM J=>?_));replace E:=E.then J;refine aq 5 rfl (R ab9 (ae fun ab'=>aq 2 rfl (R ab' ?_)));refine bm rfl (fun hK=>?_) (fun hK=>?_)
   ·have bP:ag a' s bs=bs:=by omega
    exact ae fun aca=>bb rfl (R aca (bg (a1 (by simp) (ar rfl rfl ⟨by rw [dE ax he b9 aj ct ed eN bP],E⟩))))
   have bP:¬ ag a' s bs=bs:=by omega
   exact cJ (az zf (ae fun acb=>aQ rfl (ao (dM rfl rfl) (bb rfl (R acb (bg (ar rfl rfl ⟨by first | (rw [cy ax he b9 aj ct ed eN bP];exact congrArg Value.bool (decide_eq_decide.2 (drop_nil (by omega)))) | (rw [cx ax he b9 aj ct ed];exact congrArg Value.bool (decide_eq_decide.2 (drop_nil (by omega)))),E⟩)))))))
  obtain⟨y,fy⟩:∃ x,s[aV+1]? = some x:=⟨_,List.getElem?_eq_getElem (by rw [Ne,drop_nil (by omega)] at j8;omega)⟩;refine aq 2 rfl ?_;refine aw ((c8 (c:=y) Tryz.underlying9 rfl rfl (by decide) (by rw [show((0:Int)).toNat=0 from rfl,List.getElem?_drop,Nat.add_zero];exact fy))) ?_;refine aw (oC rfl rfl) ?_;refine dR (fun jm:(y.toNat:Int)=43=>?_) (fun jm=>?_)
  ·refine aq 6 rfl (R G4 (aO rfl ?_));have kl:(av s (aV+1) [43]||av s (aV+1) [45])=true:=by
    rw [ba fy,ba fy,Bool.or_eq_true,decide_eq_true_eq,decide_eq_true_eq]
    first | (left;exact cQ (by rw [jm];rfl)) | (right;exact cQ (by rw [mH];rfl))
   have wS:aV+2≤s.length:=(List.getElem?_eq_some_iff.1 fy).1;obtain⟨bs,fX⟩:∃ bs,bs=aV+2:=⟨_,rfl⟩;have eN:bs=if av s (aV+1) [43]||av s (aV+1) [45] then aV+2 else aV+1:=by rw [if_pos kl];exact fX
   refine b8 (aQ rfl (ao ((cv (n:=1) Tryz.underlying9 rfl rfl (by rw [List.length_drop];omega)).to (v':=S (s.drop (aV+2))) (by rw [List.drop_drop])) (bb rfl (R G3 (ay fun abX=>?_)))));have ie:bs≤s.length:=by omega
   rw [← fX];have jt:=bG a' s bs;have ju:ag a' s bs≤s.length:=bZ (by omega);refine b8 (aQ rfl (cD (bt fJ rfl) (dy _ s bs aN ie) fun tE J=>?_));replace E:=E.then J;refine aq 5 rfl (R abX (ae fun abY=>aq 2 rfl (R abY ?_)));refine bm rfl (fun hK=>?_) (fun hK=>?_)
   ·have bP:ag a' s bs=bs:=by omega
    exact ae fun abZ=>bb rfl (R abZ (bg (a1 (by simp) (ar rfl rfl ⟨by rw [dE ax he b9 aj ct ed eN bP],E⟩))))
   have bP:¬ ag a' s bs=bs:=by omega
   exact cJ (az zf (ae fun ab0=>aQ rfl (ao (dM rfl rfl) (bb rfl (R ab0 (bg (ar rfl rfl ⟨by first | (rw [cy ax he b9 aj ct ed eN bP];exact congrArg Value.bool (decide_eq_decide.2 (drop_nil (by omega)))) | (rw [cx ax he b9 aj ct ed];exact congrArg Value.bool (decide_eq_decide.2 (drop_nil (by omega)))),E⟩)))))))
  refine aq 2 rfl ?_;refine aw ((c8 (c:=y) Tryz.underlying9 rfl rfl (by decide) (by rw [show((0:Int)).toNat=0 from rfl,List.getElem?_drop,Nat.add_zero];exact fy))) ?_;refine aw (oC rfl rfl) ?_;refine dR (fun mH:(y.toNat:Int)=45=>?_) (fun mH=>?_);rotate_left
  ·refine aq 2 rfl (R G4 (aJ rfl ?_));have kl:(av s (aV+1) [43]||av s (aV+1) [45])=false:=by
    first | (rw [ba fy,ba fy,bX (fun h=>jm (by rw [h];rfl)),bX (fun h=>mH (by rw [h];rfl))];rfl) | (rw [br (show s.length≤aV+1 by have:=Classical.not_not.1 j8;rw [drop_nil (by omega)] at this;omega) (by simp),br (show s.length≤aV+1 by have:=Classical.not_not.1 j8;rw [drop_nil (by omega)] at this;omega) (by simp)];rfl)
   obtain⟨bs,fX⟩:∃ bs,bs=aV+1:=⟨_,rfl⟩;have eN:bs=if av s (aV+1) [43]||av s (aV+1) [45] then aV+2 else aV+1:=by rw [if_neg (by rw [kl];simp)];exact fX
   refine cJ (az G3 (ay fun ab5=>?_));have ie:bs≤s.length:=by omega
   rw [← fX];have jt:=bG a' s bs;have ju:ag a' s bs≤s.length:=bZ (by omega);refine b8 (aQ rfl (cD (bt fJ rfl) (dy _ s bs aN ie) fun vc J=>?_));replace E:=E.then J;refine aq 5 rfl (R ab5 (ae fun ab6=>aq 2 rfl (R ab6 ?_)));refine bm rfl (fun hK=>?_) (fun hK=>?_)
   ·have bP:ag a' s bs=bs:=by omega
    exact ae fun ab7=>bb rfl (R ab7 (bg (a1 (by simp) (ar rfl rfl ⟨by rw [dE ax he b9 aj ct ed eN bP],E⟩))))
   have bP:¬ ag a' s bs=bs:=by omega
   exact cJ (az zf (ae fun ab8=>aQ rfl (ao (dM rfl rfl) (bb rfl (R ab8 (bg (ar rfl rfl ⟨by first | (rw [cy ax he b9 aj ct ed eN bP];exact congrArg Value.bool (decide_eq_decide.2 (drop_nil (by omega)))) | (rw [cx ax he b9 aj ct ed];exact congrArg Value.bool (decide_eq_decide.2 (drop_nil (by omega)))),E⟩)))))))
  refine aq 2 rfl (R G4 (aO rfl ?_));have kl:(av s (aV+1) [43]||av s (aV+1) [45])=true:=by
   rw [ba fy,ba fy,Bool.or_eq_true,decide_eq_true_eq,decide_eq_true_eq]
   first | (left;exact cQ (by rw [jm];rfl)) | (right;exact cQ (by rw [mH];rfl))
  have wS:aV+2≤s.length:=(List.getElem?_eq_some_iff.1 fy).1;obtain⟨bs,fX⟩:∃ bs,bs=aV+2:=⟨_,rfl⟩;have eN:bs=if av s (aV+1) [43]||av s (aV+1) [45] then aV+2 else aV+1:=by rw [if_pos kl];exact fX
  refine b8 (aQ rfl (ao ((cv (n:=1) Tryz.underlying9 rfl rfl (by rw [List.length_drop];omega)).to (v':=S (s.drop (aV+2))) (by rw [List.drop_drop])) (bb rfl (R G3 (ay fun ab1=>?_)))));have ie:bs≤s.length:=by omega
  rw [← fX];have jt:=bG a' s bs;have ju:ag a' s bs≤s.length:=bZ (by omega);refine b8 (aQ rfl (cD (bt fJ rfl) (dy _ s bs aN ie) fun rz J=>?_));replace E:=E.then J;refine aq 5 rfl (R ab1 (ae fun ab2=>aq 2 rfl (R ab2 ?_)));refine bm rfl (fun hK=>?_) (fun hK=>?_)
  ·have bP:ag a' s bs=bs:=by omega
   exact ae fun ab3=>bb rfl (R ab3 (bg (a1 (by simp) (ar rfl rfl ⟨by rw [dE ax he b9 aj ct ed eN bP],E⟩))))
  have bP:¬ ag a' s bs=bs:=by omega
  exact cJ (az zf (ae fun ab4=>aQ rfl (ao (dM rfl rfl) (bb rfl (R ab4 (bg (ar rfl rfl ⟨by first | (rw [cy ax he b9 aj ct ed eN bP];exact congrArg Value.bool (decide_eq_decide.2 (drop_nil (by omega)))) | (rw [cx ax he b9 aj ct ed];exact congrArg Value.bool (decide_eq_decide.2 (drop_nil (by omega)))),E⟩)))))))
 obtain⟨d,Mm⟩:∃ x,s[a]? = some x:=⟨_,List.getElem?_eq_getElem (by omega)⟩;refine aq 2 rfl ?_;refine aw ((c8 (c:=d) Tryz.underlying9 rfl rfl (by decide) (by rw [show((0:Int)).toNat=0 from rfl,List.getElem?_drop,Nat.add_zero];exact Mm))) ?_;refine aw (oC rfl rfl) ?_;refine dR (fun Mn:(d.toNat:Int)=48=>?_) (fun Mn=>?_)
 ·refine aq 2 rfl (R bU (aO rfl ?_));have b9:e=a∨(a+1<e∧s[a]? = some 48):=by
   first | (left;omega) | (right;exact⟨by omega,by rw [Mm,cQ (show(d.toNat:Int)=(48:UInt8).toNat by rw [Mn];rfl)]⟩)
  exact ae fun cA=>bb rfl (R cA (bg (a1 (by simp) (ar rfl rfl ⟨by rw [uT ax he b9],E⟩))))
 refine aq 2 rfl (R bU (aJ rfl ?_));have b9:¬ (e=a∨(a+1<e∧s[a]? = some 48)):=by
  rintro(h | ⟨h,fb⟩)
  ·omega
  first | omega | (rw [Mm] at fb;injection fb with fb;subst fb;exact Mn rfl)
 refine cJ (az bC (ay fun cM=>ae fun db=>aQ rfl (cD (bt AD rfl) (Ak _ (s.drop e) [46]) fun gv J=>?_)));replace E:=E.then J;refine aq 5 rfl (R db (ae fun cq=>aQ rfl (R cq ?_)));refine aU rfl (fun rP=>?_) (fun rP=>?_);rotate_left
 ·have AE:av s e [46]=false:=rP;obtain⟨aV,oU⟩:∃ aV,aV=e:=⟨_,rfl⟩;rw [← oU];have aj:¬ (av s e [46]=true∧ag a' s (e+1)=e+1):=fun h=>by rw [AE] at h;cases h.1
  have ct:aV=if av s e [46] then ag a' s (e+1)else e:=by rw [if_neg (by rw [AE];simp)];exact oU
  have rO:aV≤s.length:=by omega
  refine cJ (az cM (ay fun oa=>ae fun q3=>aQ rfl (ao (e3 rfl rfl) ?_)));refine dR (fun jR:s.drop (aV)≠[]=>?_) (fun jR=>?_);rotate_left
  ·refine aq 6 rfl (R q3 (aJ rfl ?_));have ed:(av s aV [101]||av s aV [69])=false:=by
    first | (rw [ba il,ba il,bX (fun h=>ab (.inl (by rw [h];rfl))),bX (fun h=>ab (.inr (by rw [h];rfl)))];rfl) | (rw [br (show s.length≤aV by have:=Classical.not_not.1 jR;rw [drop_nil (by omega)] at this;omega) (by simp),br (show s.length≤aV by have:=Classical.not_not.1 jR;rw [drop_nil (by omega)] at this;omega) (by simp)];rfl)
   exact cJ (az oa (ae fun abQ=>aQ rfl (ao (dM rfl rfl) (bb rfl (R abQ (bg (ar rfl rfl ⟨by first | (rw [cy ax he b9 aj ct ed eN bP];exact congrArg Value.bool (decide_eq_decide.2 (drop_nil (by omega)))) | (rw [cx ax he b9 aj ct ed];exact congrArg Value.bool (decide_eq_decide.2 (drop_nil (by omega)))),E⟩)))))))
  obtain⟨x,il⟩:∃ x,s[aV]? = some x:=⟨_,List.getElem?_eq_getElem (by rw [Ne,drop_nil (by omega)] at jR;omega)⟩;refine aq 2 rfl ?_;refine aw ((c8 (c:=x) Tryz.underlying9 rfl rfl (by decide) (by rw [show((0:Int)).toNat=0 from rfl,List.getElem?_drop,Nat.add_zero];exact il))) ?_;refine aw (pk rfl rfl) (aw (oC rfl rfl) ?_)
  by_cases ab:(x.toNat=101∨x.toNat=69)
  rotate_left
  ·refine jZ (bX (fun h=>ab ((nt x.toNat (UInt8.toNat_lt x)).1 h))) (ao (lU rfl rfl rfl) (R q3 (aJ rfl ?_)));have ed:(av s aV [101]||av s aV [69])=false:=by
    first | (rw [ba il,ba il,bX (fun h=>ab (.inl (by rw [h];rfl))),bX (fun h=>ab (.inr (by rw [h];rfl)))];rfl) | (rw [br (show s.length≤aV by have:=Classical.not_not.1 jR;rw [drop_nil (by omega)] at this;omega) (by simp),br (show s.length≤aV by have:=Classical.not_not.1 jR;rw [drop_nil (by omega)] at this;omega) (by simp)];rfl)
   exact cJ (az oa (ae fun abP=>aQ rfl (ao (dM rfl rfl) (bb rfl (R abP (bg (ar rfl rfl ⟨by first | (rw [cy ax he b9 aj ct ed eN bP];exact congrArg Value.bool (decide_eq_decide.2 (drop_nil (by omega)))) | (rw [cx ax he b9 aj ct ed];exact congrArg Value.bool (decide_eq_decide.2 (drop_nil (by omega)))),E⟩)))))))
  refine jZ (bB ((nt x.toNat (UInt8.toNat_lt x)).2 ab)) (ao (lU rfl rfl rfl) (R q3 (aO rfl ?_)));have ed:(av s aV [101]||av s aV [69])=true:=by
   rw [ba il,ba il];rcases ab with h | h
   ·rw [bB (cQ (by rw [h];rfl))];rfl
   rw [Bool.or_eq_true];right;exact bB (cQ (by rw [h];rfl))
  have Mq:aV+1≤s.length:=(List.getElem?_eq_some_iff.1 il).1;refine ae fun GF=>aQ rfl (ao ((cv (n:=1) Tryz.underlying9 rfl rfl (by rw [List.length_drop];omega)).to (v':=S (s.drop (aV+1))) (by rw [List.drop_drop])) (bb rfl (R GF (ay fun yP=>ae fun yQ=>aQ rfl (ao (e3 rfl rfl) ?_)))));refine dR (fun j8:s.drop (aV+1)≠[]=>?_) (fun j8=>?_);rotate_left
  ·refine aq 10 rfl (R yQ (aJ rfl ?_));have kl:(av s (aV+1) [43]||av s (aV+1) [45])=false:=by
    first | (rw [ba fy,ba fy,bX (fun h=>jm (by rw [h];rfl)),bX (fun h=>mH (by rw [h];rfl))];rfl) | (rw [br (show s.length≤aV+1 by have:=Classical.not_not.1 j8;rw [drop_nil (by omega)] at this;omega) (by simp),br (show s.length≤aV+1 by have:=Classical.not_not.1 j8;rw [drop_nil (by omega)] at this;omega) (by simp)];rfl)
   obtain⟨bs,fX⟩:∃ bs,bs=aV+1:=⟨_,rfl⟩;have eN:bs=if av s (aV+1) [43]||av s (aV+1) [45] then aV+2 else aV+1:=by rw [if_neg (by rw [kl];simp)];exact fX
   refine cJ (az yP (ay fun abL=>?_));have ie:bs≤s.length:=by omega
   rw [← fX];have jt:=bG a' s bs;have ju:ag a' s bs≤s.length:=bZ (by omega);refine b8 (aQ rfl (cD (bt fJ rfl) (dy _ s bs aN ie) fun rv J=>?_));replace E:=E.then J;refine aq 5 rfl (R abL (ae fun abM=>aq 2 rfl (R abM ?_)));refine bm rfl (fun hK=>?_) (fun hK=>?_)
   ·have bP:ag a' s bs=bs:=by omega
    exact ae fun abN=>bb rfl (R abN (bg (a1 (by simp) (ar rfl rfl ⟨by rw [dE ax he b9 aj ct ed eN bP],E⟩))))
   have bP:¬ ag a' s bs=bs:=by omega
   exact cJ (az oa (ae fun abO=>aQ rfl (ao (dM rfl rfl) (bb rfl (R abO (bg (ar rfl rfl ⟨by first | (rw [cy ax he b9 aj ct ed eN bP];exact congrArg Value.bool (decide_eq_decide.2 (drop_nil (by omega)))) | (rw [cx ax he b9 aj ct ed];exact congrArg Value.bool (decide_eq_decide.2 (drop_nil (by omega)))),E⟩)))))))
  obtain⟨y,fy⟩:∃ x,s[aV+1]? = some x:=⟨_,List.getElem?_eq_getElem (by rw [Ne,drop_nil (by omega)] at j8;omega)⟩;refine aq 2 rfl ?_;refine aw ((c8 (c:=y) Tryz.underlying9 rfl rfl (by decide) (by rw [show((0:Int)).toNat=0 from rfl,List.getElem?_drop,Nat.add_zero];exact fy))) ?_;refine aw (oC rfl rfl) ?_;refine dR (fun jm:(y.toNat:Int)=43=>?_) (fun jm=>?_)
  ·refine aq 6 rfl (R yQ (aO rfl ?_));have kl:(av s (aV+1) [43]||av s (aV+1) [45])=true:=by
    rw [ba fy,ba fy,Bool.or_eq_true,decide_eq_true_eq,decide_eq_true_eq]
    first | (left;exact cQ (by rw [jm];rfl)) | (right;exact cQ (by rw [mH];rfl))
   have wS:aV+2≤s.length:=(List.getElem?_eq_some_iff.1 fy).1;obtain⟨bs,fX⟩:∃ bs,bs=aV+2:=⟨_,rfl⟩;have eN:bs=if av s (aV+1) [43]||av s (aV+1) [45] then aV+2 else aV+1:=by rw [if_pos kl];exact fX
   refine b8 (aQ rfl (ao ((cv (n:=1) Tryz.underlying9 rfl rfl (by rw [List.length_drop];omega)).to (v':=S (s.drop (aV+2))) (by rw [List.drop_drop])) (bb rfl (R yP (ay fun GG=>?_)))));have ie:bs≤s.length:=by omega
   rw [← fX];have jt:=bG a' s bs;have ju:ag a' s bs≤s.length:=bZ (by omega);refine b8 (aQ rfl (cD (bt fJ rfl) (dy _ s bs aN ie) fun lL J=>?_));replace E:=E.then J;refine aq 5 rfl (R GG (ae fun K9=>aq 2 rfl (R K9 ?_)));refine bm rfl (fun hK=>?_) (fun hK=>?_)
   ·have bP:ag a' s bs=bs:=by omega
    exact ae fun GH=>bb rfl (R GH (bg (a1 (by simp) (ar rfl rfl ⟨by rw [dE ax he b9 aj ct ed eN bP],E⟩))))
   have bP:¬ ag a' s bs=bs:=by omega
   exact cJ (az oa (ae fun GI=>aQ rfl (ao (dM rfl rfl) (bb rfl (R GI (bg (ar rfl rfl ⟨by first | (rw [cy ax he b9 aj ct ed eN bP];exact congrArg Value.bool (decide_eq_decide.2 (drop_nil (by omega)))) | (rw [cx ax he b9 aj ct ed];exact congrArg Value.bool (decide_eq_decide.2 (drop_nil (by omega)))),E⟩)))))))
  refine aq 2 rfl ?_;refine aw ((c8 (c:=y) Tryz.underlying9 rfl rfl (by decide) (by rw [show((0:Int)).toNat=0 from rfl,List.getElem?_drop,Nat.add_zero];exact fy))) ?_;refine aw (oC rfl rfl) ?_;refine dR (fun mH:(y.toNat:Int)=45=>?_) (fun mH=>?_);rotate_left
  ·refine aq 2 rfl (R yQ (aJ rfl ?_));have kl:(av s (aV+1) [43]||av s (aV+1) [45])=false:=by
    first | (rw [ba fy,ba fy,bX (fun h=>jm (by rw [h];rfl)),bX (fun h=>mH (by rw [h];rfl))];rfl) | (rw [br (show s.length≤aV+1 by have:=Classical.not_not.1 j8;rw [drop_nil (by omega)] at this;omega) (by simp),br (show s.length≤aV+1 by have:=Classical.not_not.1 j8;rw [drop_nil (by omega)] at this;omega) (by simp)];rfl)
   obtain⟨bs,fX⟩:∃ bs,bs=aV+1:=⟨_,rfl⟩;have eN:bs=if av s (aV+1) [43]||av s (aV+1) [45] then aV+2 else aV+1:=by rw [if_neg (by rw [kl];simp)];exact fX
   refine cJ (az yP (ay fun abH=>?_));have ie:bs≤s.length:=by omega
   rw [← fX];have jt:=bG a' s bs;have ju:ag a' s bs≤s.length:=bZ (by omega);refine b8 (aQ rfl (cD (bt fJ rfl) (dy _ s bs aN ie) fun j1 J=>?_));replace E:=E.then J;refine aq 5 rfl (R abH (ae fun abI=>aq 2 rfl (R abI ?_)));refine bm rfl (fun hK=>?_) (fun hK=>?_)
   ·have bP:ag a' s bs=bs:=by omega
    exact ae fun abJ=>bb rfl (R abJ (bg (a1 (by simp) (ar rfl rfl ⟨by rw [dE ax he b9 aj ct ed eN bP],E⟩))))
   have bP:¬ ag a' s bs=bs:=by omega
   exact cJ (az oa (ae fun abK=>aQ rfl (ao (dM rfl rfl) (bb rfl (R abK (bg (ar rfl rfl ⟨by first | (rw [cy ax he b9 aj ct ed eN bP];exact congrArg Value.bool (decide_eq_decide.2 (drop_nil (by omega)))) | (rw [cx ax he b9 aj ct ed];exact congrArg Value.bool (decide_eq_decide.2 (drop_nil (by omega)))),E⟩)))))))
  refine aq 2 rfl (R yQ (aO rfl ?_));have kl:(av s (aV+1) [43]||av s (aV+1) [45])=true:=by
   rw [ba fy,ba fy,Bool.or_eq_true,decide_eq_true_eq,decide_eq_true_eq]
   first | (left;exact cQ (by rw [jm];rfl)) | (right;exact cQ (by rw [mH];rfl))
  have wS:aV+2≤s.length:=(List.getElem?_eq_some_iff.1 fy).1;obtain⟨bs,fX⟩:∃ bs,bs=aV+2:=⟨_,rfl⟩;have eN:bs=if av s (aV+1) [43]||av s (aV+1) [45] then aV+2 else aV+1:=by rw [if_pos kl];exact fX
  refine b8 (aQ rfl (ao ((cv (n:=1) Tryz.underlying9 rfl rfl (by rw [List.length_drop];omega)).to (v':=S (s.drop (aV+2))) (by rw [List.drop_drop])) (bb rfl (R yP (ay fun abD=>?_)))));have ie:bs≤s.length:=by omega
  rw [← fX];have jt:=bG a' s bs;have ju:ag a' s bs≤s.length:=bZ (by omega);refine b8 (aQ rfl (cD (bt fJ rfl) (dy _ s bs aN ie) fun iy J=>?_));replace E:=E.then J;refine aq 5 rfl (R abD (ae fun abE=>aq 2 rfl (R abE ?_)));refine bm rfl (fun hK=>?_) (fun hK=>?_)
  ·have bP:ag a' s bs=bs:=by omega
   exact ae fun abF=>bb rfl (R abF (bg (a1 (by simp) (ar rfl rfl ⟨by rw [dE ax he b9 aj ct ed eN bP],E⟩))))
  have bP:¬ ag a' s bs=bs:=by omega
  exact cJ (az oa (ae fun abG=>aQ rfl (ao (dM rfl rfl) (bb rfl (R abG (bg (ar rfl rfl ⟨by first | (rw [cy ax he b9 aj ct ed eN bP];exact congrArg Value.bool (decide_eq_decide.2 (drop_nil (by omega)))) | (rw [cx ax he b9 aj ct ed];exact congrArg Value.bool (decide_eq_decide.2 (drop_nil (by omega)))),E⟩)))))))
 skip
 refine ay fun cj=>?_;have rS:Lib.trimPrefix (s.drop e) [46]=s.drop (e+1):=by
  unfold Lib.trimPrefix;rw [if_pos rP,List.drop_drop];rfl
 rw [rS];have Mo:e+1≤s.length:=cg (t:=[46]) rP (by simp);have abC:=bG a' s (e+1);have Mp:ag a' s (e+1)≤s.length:=bZ (by omega);refine b8 (aQ rfl (cD (bt fJ rfl) (dy _ s (e+1) aN Mo) fun iH J=>?_));replace E:=E.then J;refine aq 5 rfl (R cj (ae fun dH=>aq 2 rfl (R dH ?_)));refine bm rfl (fun Vt=>?_) (fun Vt=>?_)
 ·have bA:ag a' s (e+1)=e+1:=by omega
  exact ae fun cL=>bb rfl (R cL (bg (a1 (by simp) (ar rfl rfl ⟨by rw [uU ax he b9 rP bA],E⟩))))
 have bY:¬ ag a' s (e+1)=e+1:=by omega
 have rO:ag a' s (e+1)≤s.length:=Mp;have AE:av s e [46]=true:=rP;obtain⟨aV,oU⟩:∃ aV,aV=ag a' s (e+1):=⟨_,rfl⟩;rw [← oU] at bY ⊢;have aj:¬ (av s e [46]=true∧ag a' s (e+1)=e+1):=fun h=>bY (by rw [oU];omega);have ct:aV=if av s e [46] then ag a' s (e+1)else e:=by rw [if_pos AE];exact oU
 refine cJ (az cM (ay fun dz=>ae fun dS=>aQ rfl (ao (e3 rfl rfl) ?_)));refine dR (fun jR:s.drop (aV)≠[]=>?_) (fun jR=>?_);rotate_left
 ·refine aq 6 rfl (R dS (aJ rfl ?_));have ed:(av s aV [101]||av s aV [69])=false:=by
   first | (rw [ba il,ba il,bX (fun h=>ab (.inl (by rw [h];rfl))),bX (fun h=>ab (.inr (by rw [h];rfl)))];rfl) | (rw [br (show s.length≤aV by have:=Classical.not_not.1 jR;rw [drop_nil (by omega)] at this;omega) (by simp),br (show s.length≤aV by have:=Classical.not_not.1 jR;rw [drop_nil (by omega)] at this;omega) (by simp)];rfl)
  exact cJ (az dz (ae fun sh=>aQ rfl (ao (dM rfl rfl) (bb rfl (R sh (bg (ar rfl rfl ⟨by first | (rw [cy ax he b9 aj ct ed eN bP];exact congrArg Value.bool (decide_eq_decide.2 (drop_nil (by omega)))) | (rw [cx ax he b9 aj ct ed];exact congrArg Value.bool (decide_eq_decide.2 (drop_nil (by omega)))),E⟩)))))))
 obtain⟨x,il⟩:∃ x,s[aV]? = some x:=⟨_,List.getElem?_eq_getElem (by rw [Ne,drop_nil (by omega)] at jR;omega)⟩;refine aq 2 rfl ?_;refine aw ((c8 (c:=x) Tryz.underlying9 rfl rfl (by decide) (by rw [show((0:Int)).toNat=0 from rfl,List.getElem?_drop,Nat.add_zero];exact il))) ?_;refine aw (pk rfl rfl) (aw (oC rfl rfl) ?_)
 by_cases ab:(x.toNat=101∨x.toNat=69)
 rotate_left
 ·refine jZ (bX (fun h=>ab ((nt x.toNat (UInt8.toNat_lt x)).1 h))) (ao (lU rfl rfl rfl) (R dS (aJ rfl ?_)));have ed:(av s aV [101]||av s aV [69])=false:=by
   first | (rw [ba il,ba il,bX (fun h=>ab (.inl (by rw [h];rfl))),bX (fun h=>ab (.inr (by rw [h];rfl)))];rfl) | (rw [br (show s.length≤aV by have:=Classical.not_not.1 jR;rw [drop_nil (by omega)] at this;omega) (by simp),br (show s.length≤aV by have:=Classical.not_not.1 jR;rw [drop_nil (by omega)] at this;omega) (by simp)];rfl)
  exact cJ (az dz (ae fun q2=>aQ rfl (ao (dM rfl rfl) (bb rfl (R q2 (bg (ar rfl rfl ⟨by first | (rw [cy ax he b9 aj ct ed eN bP];exact congrArg Value.bool (decide_eq_decide.2 (drop_nil (by omega)))) | (rw [cx ax he b9 aj ct ed];exact congrArg Value.bool (decide_eq_decide.2 (drop_nil (by omega)))),E⟩)))))))
 refine jZ (bB ((nt x.toNat (UInt8.toNat_lt x)).2 ab)) (ao (lU rfl rfl rfl) (R dS (aO rfl ?_)));have ed:(av s aV [101]||av s aV [69])=true:=by
  rw [ba il,ba il];rcases ab with h | h
  ·rw [bB (cQ (by rw [h];rfl))];rfl
  rw [Bool.or_eq_true];right;exact bB (cQ (by rw [h];rfl))
 have Mq:aV+1≤s.length:=(List.getElem?_eq_some_iff.1 il).1;refine ae fun eD=>aQ rfl (ao ((cv (n:=1) Tryz.underlying9 rfl rfl (by rw [List.length_drop];omega)).to (v':=S (s.drop (aV+1))) (by rw [List.drop_drop])) (bb rfl (R eD (ay fun fl=>ae fun e0=>aQ rfl (ao (e3 rfl rfl) ?_)))));refine dR (fun j8:s.drop (aV+1)≠[]=>?_) (fun j8=>?_);rotate_left
 ·refine aq 10 rfl (R e0 (aJ rfl ?_));have kl:(av s (aV+1) [43]||av s (aV+1) [45])=false:=by
   first | (rw [ba fy,ba fy,bX (fun h=>jm (by rw [h];rfl)),bX (fun h=>mH (by rw [h];rfl))];rfl) | (rw [br (show s.length≤aV+1 by have:=Classical.not_not.1 j8;rw [drop_nil (by omega)] at this;omega) (by simp),br (show s.length≤aV+1 by have:=Classical.not_not.1 j8;rw [drop_nil (by omega)] at this;omega) (by simp)];rfl)
  obtain⟨bs,fX⟩:∃ bs,bs=aV+1:=⟨_,rfl⟩;have eN:bs=if av s (aV+1) [43]||av s (aV+1) [45] then aV+2 else aV+1:=by rw [if_neg (by rw [kl];simp)];exact fX
  refine cJ (az fl (ay fun pS=>?_));have ie:bs≤s.length:=by omega
  rw [← fX];have jt:=bG a' s bs;have ju:ag a' s bs≤s.length:=bZ (by omega);refine b8 (aQ rfl (cD (bt fJ rfl) (dy _ s bs aN ie) fun pD J=>?_));replace E:=E.then J;refine aq 5 rfl (R pS (ae fun mA=>aq 2 rfl (R mA ?_)));refine bm rfl (fun hK=>?_) (fun hK=>?_)
  ·have bP:ag a' s bs=bs:=by omega
   exact ae fun n'=>bb rfl (R n' (bg (a1 (by simp) (ar rfl rfl ⟨by rw [dE ax he b9 aj ct ed eN bP],E⟩))))
  have bP:¬ ag a' s bs=bs:=by omega
  exact cJ (az dz (ae fun pg=>aQ rfl (ao (dM rfl rfl) (bb rfl (R pg (bg (ar rfl rfl ⟨by first | (rw [cy ax he b9 aj ct ed eN bP];exact congrArg Value.bool (decide_eq_decide.2 (drop_nil (by omega)))) | (rw [cx ax he b9 aj ct ed];exact congrArg Value.bool (decide_eq_decide.2 (drop_nil (by omega)))),E⟩)))))))
 obtain⟨y,fy⟩:∃ x,s[aV+1]? = some x:=⟨_,List.getElem?_eq_getElem (by rw [Ne,drop_nil (by omega)] at j8;omega)⟩;refine aq 2 rfl ?_;refine aw ((c8 (c:=y) Tryz.underlying9 rfl rfl (by decide) (by rw [show((0:Int)).toNat=0 from rfl,List.getElem?_drop,Nat.add_zero];exact fy))) ?_;refine aw (oC rfl rfl) ?_;refine dR (fun jm:(y.toNat:Int)=43=>?_) (fun jm=>?_)
 ·refine aq 6 rfl (R e0 (aO rfl ?_));have kl:(av s (aV+1) [43]||av s (aV+1) [45])=true:=by
   rw [ba fy,ba fy,Bool.or_eq_true,decide_eq_true_eq,decide_eq_true_eq]
   first | (left;exact cQ (by rw [jm];rfl)) | (right;exact cQ (by rw [mH];rfl))
  have wS:aV+2≤s.length:=(List.getElem?_eq_some_iff.1 fy).1;obtain⟨bs,fX⟩:∃ bs,bs=aV+2:=⟨_,rfl⟩;have eN:bs=if av s (aV+1) [43]||av s (aV+1) [45] then aV+2 else aV+1:=by rw [if_pos kl];exact fX
  refine b8 (aQ rfl (ao ((cv (n:=1) Tryz.underlying9 rfl rfl (by rw [List.length_drop];omega)).to (v':=S (s.drop (aV+2))) (by rw [List.drop_drop])) (bb rfl (R fl (ay fun gW=>?_)))));have ie:bs≤s.length:=by omega
  rw [← fX];have jt:=bG a' s bs;have ju:ag a' s bs≤s.length:=bZ (by omega);refine b8 (aQ rfl (cD (bt fJ rfl) (dy _ s bs aN ie) fun jO J=>?_));replace E:=E.then J;refine aq 5 rfl (R gW (ae fun hx=>aq 2 rfl (R hx ?_)));refine bm rfl (fun hK=>?_) (fun hK=>?_)
  ·have bP:ag a' s bs=bs:=by omega
   exact ae fun gy=>bb rfl (R gy (bg (a1 (by simp) (ar rfl rfl ⟨by rw [dE ax he b9 aj ct ed eN bP],E⟩))))
  have bP:¬ ag a' s bs=bs:=by omega
  exact cJ (az dz (ae fun gz=>aQ rfl (ao (dM rfl rfl) (bb rfl (R gz (bg (ar rfl rfl ⟨by first | (rw [cy ax he b9 aj ct ed eN bP];exact congrArg Value.bool (decide_eq_decide.2 (drop_nil (by omega)))) | (rw [cx ax he b9 aj ct ed];exact congrArg Value.bool (decide_eq_decide.2 (drop_nil (by omega)))),E⟩)))))))
 refine aq 2 rfl ?_;refine aw ((c8 (c:=y) Tryz.underlying9 rfl rfl (by decide) (by rw [show((0:Int)).toNat=0 from rfl,List.getElem?_drop,Nat.add_zero];exact fy))) ?_;refine aw (oC rfl rfl) ?_;refine dR (fun mH:(y.toNat:Int)=45=>?_) (fun mH=>?_);rotate_left
 ·refine aq 2 rfl (R e0 (aJ rfl ?_));have kl:(av s (aV+1) [43]||av s (aV+1) [45])=false:=by
   first | (rw [ba fy,ba fy,bX (fun h=>jm (by rw [h];rfl)),bX (fun h=>mH (by rw [h];rfl))];rfl) | (rw [br (show s.length≤aV+1 by have:=Classical.not_not.1 j8;rw [drop_nil (by omega)] at this;omega) (by simp),br (show s.length≤aV+1 by have:=Classical.not_not.1 j8;rw [drop_nil (by omega)] at this;omega) (by simp)];rfl)
  obtain⟨bs,fX⟩:∃ bs,bs=aV+1:=⟨_,rfl⟩;have eN:bs=if av s (aV+1) [43]||av s (aV+1) [45] then aV+2 else aV+1:=by rw [if_neg (by rw [kl];simp)];exact fX
  refine cJ (az fl (ay fun iK=>?_));have ie:bs≤s.length:=by omega
  rw [← fX];have jt:=bG a' s bs;have ju:ag a' s bs≤s.length:=bZ (by omega);refine b8 (aQ rfl (cD (bt fJ rfl) (dy _ s bs aN ie) fun ix J=>?_));replace E:=E.then J;refine aq 5 rfl (R iK (ae fun k7=>aq 2 rfl (R k7 ?_)));refine bm rfl (fun hK=>?_) (fun hK=>?_)
  ·have bP:ag a' s bs=bs:=by omega
   exact ae fun pR=>bb rfl (R pR (bg (a1 (by simp) (ar rfl rfl ⟨by rw [dE ax he b9 aj ct ed eN bP],E⟩))))
  have bP:¬ ag a' s bs=bs:=by omega
  exact cJ (az dz (ae fun mz=>aQ rfl (ao (dM rfl rfl) (bb rfl (R mz (bg (ar rfl rfl ⟨by first | (rw [cy ax he b9 aj ct ed eN bP];exact congrArg Value.bool (decide_eq_decide.2 (drop_nil (by omega)))) | (rw [cx ax he b9 aj ct ed];exact congrArg Value.bool (decide_eq_decide.2 (drop_nil (by omega)))),E⟩)))))))
 refine aq 2 rfl (R e0 (aO rfl ?_));have kl:(av s (aV+1) [43]||av s (aV+1) [45])=true:=by
  rw [ba fy,ba fy,Bool.or_eq_true,decide_eq_true_eq,decide_eq_true_eq]
  first | (left;exact cQ (by rw [jm];rfl)) | (right;exact cQ (by rw [mH];rfl))
 have wS:aV+2≤s.length:=(List.getElem?_eq_some_iff.1 fy).1;obtain⟨bs,fX⟩:∃ bs,bs=aV+2:=⟨_,rfl⟩;have eN:bs=if av s (aV+1) [43]||av s (aV+1) [45] then aV+2 else aV+1:=by rw [if_pos kl];exact fX
 refine b8 (aQ rfl (ao ((cv (n:=1) Tryz.underlying9 rfl rfl (by rw [List.length_drop];omega)).to (v':=S (s.drop (aV+2))) (by rw [List.drop_drop])) (bb rfl (R fl (ay fun hJ=>?_)))));have ie:bs≤s.length:=by omega
 rw [← fX];have jt:=bG a' s bs;have ju:ag a' s bs≤s.length:=bZ (by omega);refine b8 (aQ rfl (cD (bt fJ rfl) (dy _ s bs aN ie) fun jV J=>?_));replace E:=E.then J;refine aq 5 rfl (R hJ (ae fun ib=>aq 2 rfl (R ib ?_)));refine bm rfl (fun hK=>?_) (fun hK=>?_)
 ·have bP:ag a' s bs=bs:=by omega
  exact ae fun iJ=>bb rfl (R iJ (bg (a1 (by simp) (ar rfl rfl ⟨by rw [dE ax he b9 aj ct ed eN bP],E⟩))))
 have bP:¬ ag a' s bs=bs:=by omega
 exact cJ (az dz (ae fun j3=>aQ rfl (ao (dM rfl rfl) (bb rfl (R j3 (bg (ar rfl rfl ⟨by first | (rw [cy ax he b9 aj ct ed eN bP];exact congrArg Value.bool (decide_eq_decide.2 (drop_nil (by omega)))) | (rw [cx ax he b9 aj ct ed];exact congrArg Value.bool (decide_eq_decide.2 (drop_nil (by omega)))),E⟩)))))))
set_option maxRecDepth 10000
theorem jk:Tryz.prog.underlying 176=some (.interface (Tryz.prog.methodsAt 176)):=by kernel_rfl
theorem G7:aP Tryz.prog 156:=aP.of Tryz.func156 (by kernel_rfl) (by kernel_rfl)
theorem G8:aP Tryz.prog 181:=aP.of Tryz.func181 (by kernel_rfl) (by kernel_rfl)
theorem tS:aP Tryz.prog 30:=aP.of Tryz.func30 (by kernel_rfl) (by kernel_rfl)
theorem Fh (w:World) (g:Nat) (s:U) (k:Nat) (sk:Value) (B:aD w g 75 [S s,.int .i64 (k:Int),sk]) (aN:s.length≤65536) (hk:k≤s.length) (ed:Env w) (cN:IJ<g):Calls Tryz.prog 149 [.pointer (some ⟨g,0,none⟩)].toArray w (Ix 124 [g] w (hA s k) (fun x u w'=>∃ us,u = .agg us.toArray∧(∀ (A:List Nat) (w:World),ak A w x.1.D us)∧aD w' g 75 [S s,.int .i64 (x.2:Int),sk])):=by
 refine enter Tryz.func149 rfl rfl rfl (l:=[(0,_)]) ⟨rfl,trivial⟩ ?_;have E:=Mod.refl [g] w;refine ae fun aX=>bl cK rfl fun g1 aE bO=>?_;have bR:=bO.le E;have jv:=bO.ne B;replace B:=B.I bO.mod;replace E:=E.then bO.mod;have aa:=bO.aA;refine R aX (ay fun aM=>?_);have bS:g1≠g:=Ne.symm jv;have Fi:=bR;refine b8 (aq 2 rfl (ao (au cn rfl) (ao (bh dY rfl (B.cell rfl)) (bb rfl (R aM (ay fun a7=>fU (cz (σ:=Nat) (fun p=>[(0,.pointer (some ⟨g,0,none⟩)),(2,.pointer (some ⟨g1,0,none⟩)),(3,.int .i64 (k:Int))]) (fun p aE=>(k≤p∧p≤s.length∧ag dW s p=ag dW s k)∧aD aE g1 25 [.int .i64 0,.bool false,.int .i64 0,S [],.slice none 0 0,.slice none 0 0]∧aD aE g 75 [S s,.int .i64 (p:Int),sk]∧Mod [g] w aE) (fun p=>s.length-p) (k) ⟨rfl,rfl,rfl,trivial⟩ (⟨⟨Nat.le_refl _,hk,rfl⟩,aa,B,E⟩) ?_)))))));rintro p cY ⟨⟨ahu,bJ,wG⟩,aa,B,E⟩;refine ay fun bC=>ay fun bU=>?_
 by_cases bk:(p:Int)<(s.length:Int)
 rotate_left
 ·refine bK wide (by kernel_rfl) (fM 2 rfl rfl (ah (fun J=>(au cn rfl)) (ah (fun J=>(bh dY rfl ((B.I J).cell rfl))) (fM 2 rfl rfl (ah (fun J=>(au eO rfl)) (ah (fun J=>(bh bH rfl ((B.I J).cell rfl))) (ah (fun J=>(bF Tryz.underlying9 rfl)) (fM 2 rfl rfl (eX rfl (bX bk) (eX rfl (bX bk) (eX rfl (bX bk) (eX rfl (bX bk) (eX rfl (bX bk) ?_)))))))))))));refine eX rfl (bX bk) (eX rfl (bX bk) (eX rfl (bX bk) (eX rfl (bX bk) (eX rfl (bX bk) (eX rfl (bX bk) (ah (fun J=>(ky (bX bk) rfl rfl)) (bN rfl fun yj J=>?_)))))));replace B:=B.I J;replace aa:=aa.I J;replace E:=E.then J;refine az bU (aJ rfl ?_);have rS:p=ag dW s k:=by
   rw [← wG]
   first | exact(jq (by omega)).symm | exact(jG a6 l1).symm
  refine bV (a1 (by simp) (a1 (by simp) (cr (az a7 (ay fun dH=>?_)))));have IK:((s.drop k).take (ag dW s k-k)).length≤1000000:=by rw [List.length_take,List.length_drop];omega
  refine bK wide (by kernel_rfl) (fM 2 rfl rfl (ah (fun J=>(au eO rfl)) (ah (fun J=>(bh bH rfl ((B.I J).cell rfl))) (fM 3 rfl rfl (ah (fun J=>(au cn rfl)) (ah (fun J=>(bh dY rfl ((B.I J).cell rfl))) (ah (fun J=>((Ar Tryz.underlying9 rfl rfl rfl (by simp only [hb,hP];omega)).to (v':=S ((s.drop k).take (ag dW s k-k))) (by simp only [hb,hP,Int.toNat_natCast];rw [rS]))) (ah (fun J=>(cI rfl)) (bN rfl fun AF J=>?_)))))))));replace B:=B.I J;replace aa:=aa.I J;replace E:=E.then J;refine az dH (ae fun cL=>aQ rfl (fP (bt G7 rfl) (GK _ ((s.drop k).take (ag dW s k-k)) IK (ed.mG cN E).err) rfl fun cC Mt aB=>?_));obtain⟨n,ahv,rfl,Fj,J⟩:=aB;replace B:=B.I J;replace aa:=aa.I J;replace E:=E.then J;refine aq 5 rfl (R cL (ay fun dz=>fU (ae fun dS=>aQ rfl (cD (bt G8 rfl) (Ct _ ((s.drop k).take (ag dW s k-k)) IK) fun Mv J=>?_))));replace B:=B.I J;replace aa:=aa.I J;replace E:=E.then J;refine aq 2 rfl (R dS ?_);refine aU rfl (fun Fk=>?_) (fun Fk=>?_)
  ·have rU:(fH ((s.drop k).take (ag dW s k-k))).1=false:=by simpa using Fk
   refine b8 ?_;refine e4 (bt fg rfl) (ee _ 4) rfl (fun di aB=>aB.elim) (fun kZ Fm aB=>?_) fun cC Fm aB=>?_
   ·obtain⟨rfl,rfl⟩:=aB;exact b5 (by simp) (a1 (by simp) (dt ⟨4,by unfold hA gQ;rw [if_pos rU];rfl,by decide,rfl,E⟩))
   exact aB.elim
  have rU:¬ (fH ((s.drop k).take (ag dW s k-k))).1=false:=by simpa using Fk
  refine ay fun eD=>?_
  by_cases wT:ahv = .nilIface
  rotate_left
  ·obtain⟨kz,⟨ahw,ahx,rfl⟩,_⟩:=Fj.resolve_left (fun h=>wT h.2);refine b8 (aQ rfl (ao ((Mu jk rfl)) (aq 15 rfl (R eD (aO rfl ?_)))));have lB:gQ ((s.drop k).take (ag dW s k-k)) = .error 7:=by
    unfold gQ;rw [if_neg rU]
    first | rw [la kz] | (rw [iZ tT,if_neg (by rintro⟨h1,aj,aF⟩;first | exact hs h1 | omega)])
   refine b8 ?_;refine e4 (bt fg rfl) (ee _ 7) rfl (fun di aB=>aB.elim) (fun kZ Mz aB=>?_) fun cC Mz aB=>?_
   ·obtain⟨rfl,rfl⟩:=aB;exact b5 (by simp) (a1 (by simp) (dt ⟨7,by unfold hA;rw [lB];rfl,by decide,rfl,E⟩))
   exact aB.elim
  obtain tT:Lib.atoiAll ((s.drop k).take (ag dW s k-k)) = .ok n:=Fj.elim (·.1) (fun h=>by obtain⟨_,⟨ahw,ahx,e⟩,_⟩:=h;rw [wT] at e;cases e);obtain⟨b9,iD⟩:=uS tT;subst wT
  by_cases hs:Lib.itoa n≠((s.drop k).take (ag dW s k-k))
  ·refine b8 (aQ rfl (ao ((p3 jk rfl)) (aq 2 rfl (fF (bt lY rfl) (lZ _ n b9 iD (ed.mG cN E).vh) fun Mw J=>?_))));replace B:=B.I J;replace aa:=aa.I J;replace E:=E.then J;refine aw (dQ rfl) (aw (e3 rfl rfl) (aq 2 rfl (Tm rfl (bB hs) (Tm rfl (bB hs) (ao (lU (bB hs) rfl rfl) (aq 5 rfl (R eD (aO rfl ?_))))))));have lB:gQ ((s.drop k).take (ag dW s k-k)) = .error 7:=by
    unfold gQ;rw [if_neg rU]
    first | rw [la kz] | (rw [iZ tT,if_neg (by rintro⟨h1,aj,aF⟩;first | exact hs h1 | omega)])
   refine b8 ?_;refine e4 (bt fg rfl) (ee _ 7) rfl (fun di aB=>aB.elim) (fun kZ IL aB=>?_) fun cC IL aB=>?_
   ·obtain⟨rfl,rfl⟩:=aB;exact b5 (by simp) (a1 (by simp) (dt ⟨7,by unfold hA;rw [lB];rfl,by decide,rfl,E⟩))
   exact aB.elim
  by_cases mE:n > 9007199254740991
  ·refine b8 (aQ rfl (ao ((p3 jk rfl)) (aq 2 rfl (fF (bt lY rfl) (lZ _ n b9 iD (ed.mG cN E).vh) fun Mx J=>?_))));replace B:=B.I J;replace aa:=aa.I J;replace E:=E.then J;refine aw (dQ rfl) (aw (e3 rfl rfl) (aq 2 rfl (zh rfl (bX hs) (dQ rfl) (zh rfl (bX hs) (hY rfl rfl) (ao (ky (bX hs) rfl rfl) (aQ rfl (Tm rfl (bB mE) (Tm rfl (bB mE) (ao (lU (bB mE) rfl rfl) (bb rfl (R eD (aO rfl ?_))))))))))));have lB:gQ ((s.drop k).take (ag dW s k-k)) = .error 7:=by
    unfold gQ;rw [if_neg rU]
    first | rw [la kz] | (rw [iZ tT,if_neg (by rintro⟨h1,aj,aF⟩;first | exact hs h1 | omega)])
   refine b8 ?_;refine e4 (bt fg rfl) (ee _ 7) rfl (fun di aB=>aB.elim) (fun kZ IM aB=>?_) fun cC IM aB=>?_
   ·obtain⟨rfl,rfl⟩:=aB;exact b5 (by simp) (a1 (by simp) (dt ⟨7,by unfold hA;rw [lB];rfl,by decide,rfl,E⟩))
   exact aB.elim
  by_cases Ex:n < -9007199254740991
  ·refine b8 (aQ rfl (ao ((p3 jk rfl)) (aq 2 rfl (fF (bt lY rfl) (lZ _ n b9 iD (ed.mG cN E).vh) fun My J=>?_))));replace B:=B.I J;replace aa:=aa.I J;replace E:=E.then J;refine aw (dQ rfl) (aw (e3 rfl rfl) (aq 2 rfl (zh rfl (bX hs) (dQ rfl) (zh rfl (bX hs) (hY rfl rfl) (ao (ky (bX hs) rfl rfl) (aQ rfl (zh rfl (bX mE) (dQ rfl) (zh rfl (bX mE) (dK rfl rfl) (ao (ky (bX mE) rfl rfl) (bb rfl (R eD ?_)))))))))));refine bm rfl (fun sF=>?_) (fun sF=>absurd Ex sF);have lB:gQ ((s.drop k).take (ag dW s k-k)) = .error 7:=by
    unfold gQ;rw [if_neg rU]
    first | rw [la kz] | (rw [iZ tT,if_neg (by rintro⟨h1,aj,aF⟩;first | exact hs h1 | omega)])
   refine b8 ?_;refine e4 (bt fg rfl) (ee _ 7) rfl (fun di aB=>aB.elim) (fun kZ IN aB=>?_) fun cC IN aB=>?_
   ·obtain⟨rfl,rfl⟩:=aB;exact b5 (by simp) (a1 (by simp) (dt ⟨7,by unfold hA;rw [lB];rfl,by decide,rfl,E⟩))
   exact aB.elim
  refine b8 (aQ rfl (ao ((p3 jk rfl)) (aq 2 rfl (fF (bt lY rfl) (lZ _ n b9 iD (ed.mG cN E).vh) fun QC J=>?_))));replace B:=B.I J;replace aa:=aa.I J;replace E:=E.then J;refine aw (dQ rfl) (aw (e3 rfl rfl) (aq 2 rfl (zh rfl (bX hs) (dQ rfl) (zh rfl (bX hs) (hY rfl rfl) (ao (ky (bX hs) rfl rfl) (aQ rfl (zh rfl (bX mE) (dQ rfl) (zh rfl (bX mE) (dK rfl rfl) (ao (ky (bX mE) rfl rfl) (bb rfl (R eD (bm rfl (fun sF=>absurd sF Ex) (fun sF=>?_)))))))))))));have lB:gQ ((s.drop k).take (ag dW s k-k)) = .ok n:=by
   unfold gQ;rw [if_neg rU,iZ tT,if_pos ⟨Classical.not_not.1 hs,by omega,by omega⟩]
  refine cJ (b5 (by simp) (az dz (ae fun fl=>aQ rfl (cD (bt AG rfl) (vD _ n) fun QD J=>?_))));replace B:=B.I J;replace aa:=aa.I J;replace E:=E.then J;refine bd (vs:=[_,_,_,_,_,_]) aK aa rfl rfl rfl (by simp [Value.oneCell']) (by simp) fun IP Wd=>?_;replace B:=B.ne Wd.mod (Ne.symm bS);replace E:=E.own Wd.mod Fi;replace aa:aD IP g1 _ [_,_,_,_,_,_]:=Wd.aA;exact R fl (bg (Fl (vs:=[_,_,_,_,_,_]) rfl aK rfl rfl (aa.cs rfl) ⟨(JV.fs n,ag dW s k),by unfold hA;rw [lB];rfl,⟨_,rfl,fun A w=>JV.qF,by rw [← rS];exact B⟩,E⟩))
 obtain⟨c,a6⟩:∃ c,s[p]? = some c:=⟨_,List.getElem?_eq_getElem (by omega)⟩;rcases l1:dW c with _ | _
 rotate_left
 ·refine bK wide (by kernel_rfl) (fM 2 rfl rfl (ah (fun J=>(au cn rfl)) (ah (fun J=>(bh dY rfl ((B.I J).cell rfl))) (fM 2 rfl rfl (ah (fun J=>(au eO rfl)) (ah (fun J=>(bh bH rfl ((B.I J).cell rfl))) (ah (fun J=>(bF Tryz.underlying9 rfl)) (fM 2 rfl rfl (aI (bB bk) (fun J=>(dQ rfl)) (aI (bB bk) (fun J=>(dx rfl)) (aI (bB bk) (fun J=>(au eO rfl)) (aI (bB bk) (fun J=>(bh bH rfl ((B.I J).cell rfl))) (aI (bB bk) (fun J=>(dQ rfl)) ?_)))))))))))));refine aI (bB bk) (fun J=>(dx rfl)) (aI (bB bk) (fun J=>(au cn rfl)) (aI (bB bk) (fun J=>(bh dY rfl ((B.I J).cell rfl))) (aI (bB bk) (fun J=>(c8 Tryz.underlying9 rfl rfl (by omega) (by rw [Int.toNat_natCast];exact a6))) (HY rfl (bB bk) (fun di J=>bt qD rfl) (fun di J=>yR _ [43,45,46,48,49,50,51,52,53,54,55,56,57,69,101] c) rfl rfl (aI (bB bk) (fun J=>(et rfl rfl)) (ah (fun J=>(lU (bB bk) rfl rfl)) (bN rfl fun EM J=>?_)))))));replace B:=B.I J;replace aa:=aa.I J;replace E:=E.then J;refine az bU ?_;refine aU rfl (fun yr=>?_) (fun yr=>absurd (((GZ c).trans l1).symm.trans yr) (by decide))
  skip
  refine cJ (az bC (fU (b8 (aq 2 rfl (ao (au cn rfl) (ao (bh dY rfl (B.cell rfl)) (ao (c7 (r:=((p+1:Nat):Int)) rfl rfl (by rw [wrap64_in _ (by omega)];omega)) (ao (dx rfl) (ao (au cn rfl) (ea dY B rfl rfl rfl (by simp) fun vd q0=>?_))))))))));replace aa:=aa.ne q0.mod bS;replace E:=E.trans q0.mod;replace B:aD vd g _ [_,_,_]:=q0.aA;exact eG (b5 (by simp) (jW (σ:=Nat) (s:=p) (p+1) ⟨rfl,rfl,rfl,trivial⟩ ⟨⟨by omega,by omega,by rw [tH a6 l1];exact wG⟩,aa,B,E⟩ (by omega)))
 refine bK wide (by kernel_rfl) (fM 2 rfl rfl (ah (fun J=>(au cn rfl)) (ah (fun J=>(bh dY rfl ((B.I J).cell rfl))) (fM 2 rfl rfl (ah (fun J=>(au eO rfl)) (ah (fun J=>(bh bH rfl ((B.I J).cell rfl))) (ah (fun J=>(bF Tryz.underlying9 rfl)) (fM 2 rfl rfl (aI (bB bk) (fun J=>(dQ rfl)) (aI (bB bk) (fun J=>(dx rfl)) (aI (bB bk) (fun J=>(au eO rfl)) (aI (bB bk) (fun J=>(bh bH rfl ((B.I J).cell rfl))) (aI (bB bk) (fun J=>(dQ rfl)) ?_)))))))))))));refine aI (bB bk) (fun J=>(dx rfl)) (aI (bB bk) (fun J=>(au cn rfl)) (aI (bB bk) (fun J=>(bh dY rfl ((B.I J).cell rfl))) (aI (bB bk) (fun J=>(c8 Tryz.underlying9 rfl rfl (by omega) (by rw [Int.toNat_natCast];exact a6))) (HY rfl (bB bk) (fun di J=>bt qD rfl) (fun di J=>yR _ [43,45,46,48,49,50,51,52,53,54,55,56,57,69,101] c) rfl rfl (aI (bB bk) (fun J=>(et rfl rfl)) (ah (fun J=>(lU (bB bk) rfl rfl)) (bN rfl fun gv J=>?_)))))));replace B:=B.I J;replace aa:=aa.I J;replace E:=E.then J;refine az bU (aU rfl (fun yr=>absurd (((GZ c).trans l1).symm.trans yr) (by decide)) (fun yr=>?_));have rS:p=ag dW s k:=by
  rw [← wG]
  first | exact(jq (by omega)).symm | exact(jG a6 l1).symm
 refine bV (a1 (by simp) (a1 (by simp) (cr (az a7 (ay fun ca=>?_)))));have IK:((s.drop k).take (ag dW s k-k)).length≤1000000:=by rw [List.length_take,List.length_drop];omega
 refine bK wide (by kernel_rfl) (fM 2 rfl rfl (ah (fun J=>(au eO rfl)) (ah (fun J=>(bh bH rfl ((B.I J).cell rfl))) (fM 3 rfl rfl (ah (fun J=>(au cn rfl)) (ah (fun J=>(bh dY rfl ((B.I J).cell rfl))) (ah (fun J=>((Ar Tryz.underlying9 rfl rfl rfl (by simp only [hb,hP];omega)).to (v':=S ((s.drop k).take (ag dW s k-k))) (by simp only [hb,hP,Int.toNat_natCast];rw [rS]))) (ah (fun J=>(cI rfl)) (bN rfl fun iH J=>?_)))))))));replace B:=B.I J;replace aa:=aa.I J;replace E:=E.then J;refine az ca (ae fun cA=>aQ rfl (fP (bt G7 rfl) (GK _ ((s.drop k).take (ag dW s k-k)) IK (ed.mG cN E).err) rfl fun cC jO aB=>?_));obtain⟨n,ahv,rfl,Fj,J⟩:=aB;replace B:=B.I J;replace aa:=aa.I J;replace E:=E.then J;refine aq 5 rfl (R cA (ay fun cM=>fU (ae fun db=>aQ rfl (cD (bt G8 rfl) (Ct _ ((s.drop k).take (ag dW s k-k)) IK) fun jV J=>?_))));replace B:=B.I J;replace aa:=aa.I J;replace E:=E.then J;refine aq 2 rfl (R db ?_);refine aU rfl (fun Fk=>?_) (fun Fk=>?_)
 ·have rU:(fH ((s.drop k).take (ag dW s k-k))).1=false:=by simpa using Fk
  refine b8 ?_;refine e4 (bt fg rfl) (ee _ 4) rfl (fun di aB=>aB.elim) (fun kZ ix aB=>?_) fun cC ix aB=>?_
  ·obtain⟨rfl,rfl⟩:=aB;exact b5 (by simp) (a1 (by simp) (dt ⟨4,by unfold hA gQ;rw [if_pos rU];rfl,by decide,rfl,E⟩))
  exact aB.elim
 have rU:¬ (fH ((s.drop k).take (ag dW s k-k))).1=false:=by simpa using Fk
 refine ay fun cq=>?_
 by_cases wT:ahv = .nilIface
 rotate_left
 ·obtain⟨kz,⟨ahw,ahx,rfl⟩,_⟩:=Fj.resolve_left (fun h=>wT h.2);refine b8 (aQ rfl (ao ((Mu jk rfl)) (aq 15 rfl (R cq (aO rfl ?_)))));have lB:gQ ((s.drop k).take (ag dW s k-k)) = .error 7:=by
   unfold gQ;rw [if_neg rU]
   first | rw [la kz] | (rw [iZ tT,if_neg (by rintro⟨h1,aj,aF⟩;first | exact hs h1 | omega)])
  refine b8 ?_;refine e4 (bt fg rfl) (ee _ 7) rfl (fun di aB=>aB.elim) (fun kZ vc aB=>?_) fun cC vc aB=>?_
  ·obtain⟨rfl,rfl⟩:=aB;exact b5 (by simp) (a1 (by simp) (dt ⟨7,by unfold hA;rw [lB];rfl,by decide,rfl,E⟩))
  exact aB.elim
 obtain tT:Lib.atoiAll ((s.drop k).take (ag dW s k-k)) = .ok n:=Fj.elim (·.1) (fun h=>by obtain⟨_,⟨ahw,ahx,e⟩,_⟩:=h;rw [wT] at e;cases e);obtain⟨b9,iD⟩:=uS tT;subst wT
 by_cases hs:Lib.itoa n≠((s.drop k).take (ag dW s k-k))
 ·refine b8 (aQ rfl (ao ((p3 jk rfl)) (aq 2 rfl (fF (bt lY rfl) (lZ _ n b9 iD (ed.mG cN E).vh) fun pD J=>?_))));replace B:=B.I J;replace aa:=aa.I J;replace E:=E.then J;refine aw (dQ rfl) (aw (e3 rfl rfl) (aq 2 rfl (Tm rfl (bB hs) (Tm rfl (bB hs) (ao (lU (bB hs) rfl rfl) (aq 5 rfl (R cq (aO rfl ?_))))))));have lB:gQ ((s.drop k).take (ag dW s k-k)) = .error 7:=by
   unfold gQ;rw [if_neg rU]
   first | rw [la kz] | (rw [iZ tT,if_neg (by rintro⟨h1,aj,aF⟩;first | exact hs h1 | omega)])
  refine b8 ?_;refine e4 (bt fg rfl) (ee _ 7) rfl (fun di aB=>aB.elim) (fun kZ lL aB=>?_) fun cC lL aB=>?_
  ·obtain⟨rfl,rfl⟩:=aB;exact b5 (by simp) (a1 (by simp) (dt ⟨7,by unfold hA;rw [lB];rfl,by decide,rfl,E⟩))
  exact aB.elim
 by_cases mE:n > 9007199254740991
 ·refine b8 (aQ rfl (ao ((p3 jk rfl)) (aq 2 rfl (fF (bt lY rfl) (lZ _ n b9 iD (ed.mG cN E).vh) fun iy J=>?_))));replace B:=B.I J;replace aa:=aa.I J;replace E:=E.then J;refine aw (dQ rfl) (aw (e3 rfl rfl) (aq 2 rfl (zh rfl (bX hs) (dQ rfl) (zh rfl (bX hs) (hY rfl rfl) (ao (ky (bX hs) rfl rfl) (aQ rfl (Tm rfl (bB mE) (Tm rfl (bB mE) (ao (lU (bB mE) rfl rfl) (bb rfl (R cq (aO rfl ?_))))))))))));have lB:gQ ((s.drop k).take (ag dW s k-k)) = .error 7:=by
   unfold gQ;rw [if_neg rU]
   first | rw [la kz] | (rw [iZ tT,if_neg (by rintro⟨h1,aj,aF⟩;first | exact hs h1 | omega)])
  refine b8 ?_;refine e4 (bt fg rfl) (ee _ 7) rfl (fun di aB=>aB.elim) (fun kZ j1 aB=>?_) fun cC j1 aB=>?_
  ·obtain⟨rfl,rfl⟩:=aB;exact b5 (by simp) (a1 (by simp) (dt ⟨7,by unfold hA;rw [lB];rfl,by decide,rfl,E⟩))
  exact aB.elim
 by_cases Ex:n < -9007199254740991
 ·refine b8 (aQ rfl (ao ((p3 jk rfl)) (aq 2 rfl (fF (bt lY rfl) (lZ _ n b9 iD (ed.mG cN E).vh) fun rv J=>?_))));replace B:=B.I J;replace aa:=aa.I J;replace E:=E.then J;refine aw (dQ rfl) (aw (e3 rfl rfl) (aq 2 rfl (zh rfl (bX hs) (dQ rfl) (zh rfl (bX hs) (hY rfl rfl) (ao (ky (bX hs) rfl rfl) (aQ rfl (zh rfl (bX mE) (dQ rfl) (zh rfl (bX mE) (dK rfl rfl) (ao (ky (bX mE) rfl rfl) (bb rfl (R cq ?_)))))))))));refine bm rfl (fun sF=>?_) (fun sF=>absurd Ex sF);have lB:gQ ((s.drop k).take (ag dW s k-k)) = .error 7:=by
   unfold gQ;rw [if_neg rU]
   first | rw [la kz] | (rw [iZ tT,if_neg (by rintro⟨h1,aj,aF⟩;first | exact hs h1 | omega)])
  refine b8 ?_;refine e4 (bt fg rfl) (ee _ 7) rfl (fun di aB=>aB.elim) (fun kZ pP aB=>?_) fun cC pP aB=>?_
  ·obtain⟨rfl,rfl⟩:=aB;exact b5 (by simp) (a1 (by simp) (dt ⟨7,by unfold hA;rw [lB];rfl,by decide,rfl,E⟩))
  exact aB.elim
 refine b8 (aQ rfl (ao ((p3 jk rfl)) (aq 2 rfl (fF (bt lY rfl) (lZ _ n b9 iD (ed.mG cN E).vh) fun si J=>?_))));replace B:=B.I J;replace aa:=aa.I J;replace E:=E.then J;refine aw (dQ rfl) (aw (e3 rfl rfl) (aq 2 rfl (zh rfl (bX hs) (dQ rfl) (zh rfl (bX hs) (hY rfl rfl) (ao (ky (bX hs) rfl rfl) (aQ rfl (zh rfl (bX mE) (dQ rfl) (zh rfl (bX mE) (dK rfl rfl) (ao (ky (bX mE) rfl rfl) (bb rfl (R cq (bm rfl (fun sF=>absurd sF Ex) (fun sF=>?_)))))))))))));have lB:gQ ((s.drop k).take (ag dW s k-k)) = .ok n:=by
  unfold gQ;rw [if_neg rU,iZ tT,if_pos ⟨Classical.not_not.1 hs,by omega,by omega⟩]
 refine cJ (b5 (by simp) (az cM (ae fun cj=>aQ rfl (cD (bt AG rfl) (vD _ n) fun tE J=>?_))));replace B:=B.I J;replace aa:=aa.I J;replace E:=E.then J;refine bd (vs:=[_,_,_,_,_,_]) aK aa rfl rfl rfl (by simp [Value.oneCell']) (by simp) fun rz vi=>?_;replace B:=B.ne vi.mod (Ne.symm bS);replace E:=E.own vi.mod Fi;replace aa:aD rz g1 _ [_,_,_,_,_,_]:=vi.aA;exact R cj (bg (Fl (vs:=[_,_,_,_,_,_]) rfl aK rfl rfl (aa.cs rfl) ⟨(JV.fs n,ag dW s k),by unfold hA;rw [lB];rfl,⟨_,rfl,fun A w=>JV.qF,by rw [← rS];exact B⟩,E⟩))
theorem om (w:World) (x:Bool):Calls Tryz.prog 30 [.bool x].toArray w (bI fun u w'=>u = .agg #[.int .i64 1,.bool x,.int .i64 0,S [],.slice none 0 0,.slice none 0 0]∧Mod [] w w'):=by
 refine enter Tryz.func30 rfl rfl rfl (l:=[(0,_)]) ⟨rfl,trivial⟩ ?_;have E:=Mod.refl [] w;refine ae fun aX=>bl cK rfl fun g1 aE bO=>?_;have bR:=bO.le E;replace E:=E.then bO.mod;have aa:=bO.aA;refine R aX (ae fun aM=>aQ rfl (ao (bj (cs:=[_,_,_,_,_,_]) iI cK rfl rfl) (bd (vs:=[_,_,_,_,_,_]) aK aa rfl rfl rfl (by simp [Value.oneCell']) (by simp) fun cY Eh=>?_)));replace E:=E.own Eh.mod bR;replace aa:aD cY g1 _ [_,_,_,_,_,_]:=Eh.aA;exact R aM (bg (kr (vs:=[_,_,_,_,_,_]) rfl aK rfl rfl (aa.cs rfl) ⟨rfl,E⟩))
def W3:List U:=[JV.kF,JV.jo,JV.hD]
def V3:List JV:=[JV.fQ,.mk 1 true 0 [] [] [],.mk 1 false 0 [] [] []]
/-- the word that stands at a place -/
def gl (s:U) (k:Nat):Option (JV×Nat):=
 if av s k JV.kF then some (JV.fQ,k+4)else if av s k JV.jo then some (.mk 1 true 0 [] [] [],k+4)else if av s k JV.hD then some (.mk 1 false 0 [] [] [],k+5)else none
theorem JV.wU {A:List Nat} {w:World} {b:Bool}:ak A w (JV.mk 1 b 0 [] [] []).D [.int .i64 1,.bool b,.int .i64 0,S [],.slice none 0 0,.slice none 0 0]:=
 JV.b6 (A:=A) (w:=w) (v:=.mk 1 b 0 [] [] []) (al:=none) (am:=none) (cl:=0) (cm:=0) aS.dI aS.dI
theorem Cu (s x:U) (k:Nat):decide (x.length≤(s.drop k).length∧(s.drop k).take x.length=x)=av s k x:=mC x (s.drop k)
theorem QE (w:World) (g:Nat) (s:U) (k:Nat) (sk:Value) (B:aD w g 75 [S s,.int .i64 (k:Int),sk]) (aN:s.length≤65536) (hk:k≤s.length):Calls Tryz.prog 146 [.pointer (some ⟨g,0,none⟩)].toArray w (bI fun u w'=>∃ us,u = .tuple #[.agg us.toArray,.bool (gl s k).isSome]∧((gl s k).isSome=true→∃ v q,gl s k=some (v,q)∧(∀ (A:List Nat) (w:World),ak A w v.D us)∧aD w' g 75 [S s,.int .i64 (q:Int),sk])∧((gl s k).isSome=false→gl s k=none∧us = [.int .i64 0,.bool false,.int .i64 0,S [],.slice none 0 0,.slice none 0 0]∧aD w' g 75 [S s,.int .i64 (k:Int),sk])∧Mod [g] w w'):=by
 refine enter Tryz.func146 rfl rfl rfl (l:=[(0,_)]) ⟨rfl,trivial⟩ ?_;have E:=Mod.refl [g] w;refine ae fun aX=>bl cK rfl fun g1 aE bO=>?_;have bR:=bO.le E;have jv:=bO.ne B;replace B:=B.I bO.mod;replace E:=E.then bO.mod;have aa:=bO.aA;refine bb rfl (R aX (ay fun aM=>ay fun a7=>?_));have bS:g1≠g:=Ne.symm jv;have Fi:=bR;refine b8 (cF (cs:=[_,_,_]) j4 Fo rfl rfl rfl (by decide) rfl fun g2 cY cU=>?_);have cp:=cU.le E;have rV:=cU.ne B;have cb:=cU.ne aa;replace B:=B.I cU.mod;replace aa:=aa.I cU.mod;replace E:=E.then cU.mod;have ai:=cU.aA;have MA:g2≠g:=Ne.symm rV;have G9:g1≠g2:=cb;have sG:=cp;refine ao (bx Tryz.underlying26 rfl) (aQ rfl (R a7 (fU (cz (σ:=Nat) (fun i=>[(0,.pointer (some ⟨g,0,none⟩)),(2,.pointer (some ⟨g1,0,none⟩)),(6,.slice (some ⟨g2,0,none⟩) 3 3),(7,.int .i64 3),(8,.int .i64 (i:Int))]) (fun i aE=>(i≤3∧∀ (j:Nat) (y:U),j<i→W3[j]? = some y→av s k y=false)∧aD aE g1 25 [.int .i64 0,.bool false,.int .i64 0,S [],.slice none 0 0,.slice none 0 0]∧aD aE g2 9 [S JV.kF,S JV.jo,S JV.hD]∧aD aE g 75 [S s,.int .i64 (k:Int),sk]∧Mod [g] w aE) (fun i=>3-i) (0) ⟨rfl,rfl,rfl,rfl,rfl,trivial⟩ (⟨⟨by omega,fun j y h=>by omega⟩,aa,ai,B,E⟩) ?_))));rintro i gv ⟨⟨hi,Fp⟩,aa,ai,B,E⟩;refine ae fun bC=>ao (dK rfl rfl) (R bC (ay fun bU=>?_));refine bm rfl (fun lQ=>?_) (fun lQ=>?_);rotate_left
 ·obtain rfl:i=3:=by omega
  have Wg:gl s k=none:=by unfold gl;rw [if_neg (by rw [Fp 0 _ (by omega) rfl];simp),if_neg (by rw [Fp 1 _ (by omega) rfl];simp),if_neg (by rw [Fp 2 _ (by omega) rfl];simp)]
  refine bV (a1 (by simp) (a1 (by simp) (cr (az aM (ae fun cL=>ao (bj (cs:=[_,_,_,_,_,_]) iI cK rfl rfl) (bd (vs:=[_,_,_,_,_,_]) aK aa rfl rfl rfl (by simp [Value.oneCell']) (by simp) fun yj tV=>?_))))));replace B:=B.ne tV.mod (Ne.symm bS);replace ai:=ai.ne tV.mod (Ne.symm G9);replace E:=E.own tV.mod Fi;replace aa:aD yj g1 _ [_,_,_,_,_,_]:=tV.aA;exact bb rfl (R cL (bg (iO (vs:=[_,_,_,_,_,_]) rfl aK rfl rfl (aa.cs rfl) rfl ⟨_,by rw [Wg];rfl,⟨fun h=>(by rw [Wg] at h;cases h),fun _=>⟨Wg,rfl,B⟩,E⟩⟩)))
 obtain⟨x,ab⟩:∃ x,W3[i]? = some x:=⟨_,List.getElem?_eq_getElem (show i<3 by omega)⟩;refine cJ (az bU (ay fun ca=>fU (ae fun cA=>aQ rfl (ao (cf j4 rfl rfl (by omega)) ?_))));refine ao (bh bH rfl (by rw [Int.toNat_natCast,Addr.add_lit,Nat.zero_add,Nat.mul_one];exact ai.cell (v:=S x) (by rw [show([S JV.kF,S JV.jo,S JV.hD]:List Value)=W3.map S from rfl,List.getElem?_map,ab];rfl))) ?_;refine aq 2 rfl (R cA (ay fun cM=>bK wide (by kernel_rfl) (fM 2 rfl rfl (ah (fun J=>(au eO rfl)) (ah (fun J=>(bh bH rfl ((B.I J).cell rfl))) (fM 2 rfl rfl (ah (fun J=>(au cn rfl)) (ah (fun J=>(bh dY rfl ((B.I J).cell rfl))) (ah (fun J=>(cv Tryz.underlying9 rfl rfl hk)) (ah (fun J=>(dQ rfl)) (Gy (fun di J=>bt sB rfl) (fun di J=>sC _ (s.drop k) x) rfl rfl (bN rfl fun iH J=>?_))))))))))));replace B:=B.I J;replace aa:=aa.I J;replace ai:=ai.I J;replace E:=E.then J;refine az cM ?_;refine aU rfl (fun Fq=>?_) (fun Fq=>?_);rotate_left
 ·rw [Cu] at Fq;have jE:av s k x=false:=Fq;refine cJ (b5 (by simp) (az ca (b8 (ao (bT rfl rfl (by omega)) (aQ rfl (eG ?_))))));exact jW (σ:=Nat) (s:=i) (i+1) ⟨rfl,rfl,rfl,rfl,rfl,trivial⟩ ⟨⟨by omega,fun j y h aR=>by
   by_cases dG:j<i
   ·exact Fp j y dG aR
   obtain rfl:j=i:=by omega
   rw [ab] at aR;injection aR with aR
   subst aR;exact jE⟩,aa,ai,B,E⟩ (by omega)
 rw [Cu] at Fq;have jE:av s k x=true:=Fq;have rW:=cg jE (by intro e;subst e;have:=(List.mem_of_getElem? ab);simp [W3,JV.kF,JV.jo,JV.hD] at this);refine ay fun db=>?_
 by_cases hs:i=0
 ·subst hs;obtain rfl:x=JV.kF:=by simpa [W3] using ab.symm
  refine b8 (aq 2 rfl (ao (au cn rfl) (ao (bh dY rfl (B.cell rfl)) (aQ rfl (ao (bF Tryz.underlying9 rfl) (ao (c7 (r:=((k+4:Nat):Int)) rfl rfl (by rw [wrap64_in _ (by omega)];first | rfl | (simp;done) | omega)) (ao (dx rfl) (ao (au cn rfl) (ea dY B rfl rfl rfl (by simp) fun jO hl=>?_)))))))));replace aa:=aa.ne hl.mod bS;replace ai:=ai.ne hl.mod MA;replace E:=E.trans hl.mod;replace B:aD jO g _ [_,_,_]:=hl.aA;refine R db (ae fun cq=>ao (bj (cs:=[_,_,_,_,_,_]) iI cK rfl rfl) (cD (bt tS rfl) (om _ true) fun jV J=>?_));replace B:=B.I J;replace aa:=aa.I J;replace ai:=ai.I J;replace E:=E.then J;refine cD (bt tS rfl) (om _ false) fun ix J=>?_;replace B:=B.I J;replace aa:=aa.I J;replace ai:=ai.I J;replace E:=E.then J;refine cF (cs:=[_,_,_,_,_,_,_,_,_,_,_,_,_,_,_,_,_,_]) ks cK rfl rfl rfl (by decide) rfl fun g3 pD eT=>?_;have dA:=eT.le E;have We:=eT.ne B;have eJ:=eT.ne aa;have cc:=eT.ne ai;replace B:=B.I eT.mod;replace aa:=aa.I eT.mod;replace ai:=ai.I eT.mod;replace E:=E.then eT.mod;have bq:=eT.aA;refine aQ rfl (ao (cf ks rfl rfl (by omega)) (ao ((a8 (vs:=[_,_,_,_,_,_]) aK rfl rfl (bq.cs (o:=0) rfl))) (bd (vs:=[_,_,_,_,_,_]) aK aa rfl rfl rfl (by simp [Value.oneCell']) (by simp) fun lL nH=>?_)));replace B:=B.ne nH.mod (Ne.symm bS);replace ai:=ai.ne nH.mod (Ne.symm G9);replace bq:=bq.ne nH.mod (Ne.symm eJ);replace E:=E.own nH.mod Fi;replace aa:aD lL g1 _ [_,_,_,_,_,_]:=nH.aA;refine bb rfl (R cq (bg (b5 (by simp) (a1 (by simp) (a1 (by simp) (b5 (by simp) (a1 (by simp) ?_)))))));have wV:gl s k=some (JV.fQ,k+4):=by unfold gl;rw [if_pos jE]
  exact iO (vs:=[_,_,_,_,_,_]) rfl aK rfl rfl (aa.cs rfl) rfl ⟨_,by rw [wV];rfl,⟨fun _=>⟨_,_,wV,fun A w=>JV.gp,B⟩,fun h=>(by rw [wV] at h;cases h),E⟩⟩
 by_cases mE:i=1
 rotate_left
 ·obtain rfl:i=2:=by omega
  obtain rfl:x=JV.hD:=by simpa [W3] using ab.symm
  refine b8 (aq 2 rfl (ao (au cn rfl) (ao (bh dY rfl (B.cell rfl)) (aQ rfl (ao (bF Tryz.underlying9 rfl) (ao (c7 (r:=((k+5:Nat):Int)) rfl rfl (by rw [wrap64_in _ (by omega)];first | rfl | (simp;done) | omega)) (ao (dx rfl) (ao (au cn rfl) (ea dY B rfl rfl rfl (by simp) fun tE tU=>?_)))))))));replace aa:=aa.ne tU.mod bS;replace ai:=ai.ne tU.mod MA;replace E:=E.trans tU.mod;replace B:aD tE g _ [_,_,_]:=tU.aA;refine R db (ae fun dH=>ao (bj (cs:=[_,_,_,_,_,_]) iI cK rfl rfl) (cD (bt tS rfl) (om _ true) fun rz J=>?_));replace B:=B.I J;replace aa:=aa.I J;replace ai:=ai.I J;replace E:=E.then J;refine cD (bt tS rfl) (om _ false) fun vc J=>?_;replace B:=B.I J;replace aa:=aa.I J;replace ai:=ai.I J;replace E:=E.then J;refine cF (cs:=[_,_,_,_,_,_,_,_,_,_,_,_,_,_,_,_,_,_]) ks cK rfl rfl rfl (by decide) rfl fun g5 EM fh=>?_;have ru:=fh.le E;have ahy:=fh.ne B;have qv:=fh.ne aa;have oG:=fh.ne ai;replace B:=B.I fh.mod;replace aa:=aa.I fh.mod;replace ai:=ai.I fh.mod;replace E:=E.then fh.mod;have ez:=fh.aA;refine aQ rfl (ao (cf ks rfl rfl (by omega)) (ao ((a8 (vs:=[_,_,_,_,_,_]) aK rfl rfl (ez.cs (o:=12) rfl))) (bd (vs:=[_,_,_,_,_,_]) aK aa rfl rfl rfl (by simp [Value.oneCell']) (by simp) fun vd q0=>?_)));replace B:=B.ne q0.mod (Ne.symm bS);replace ai:=ai.ne q0.mod (Ne.symm G9);replace ez:=ez.ne q0.mod (Ne.symm qv);replace E:=E.own q0.mod Fi;replace aa:aD vd g1 _ [_,_,_,_,_,_]:=q0.aA;refine bb rfl (R dH (bg (b5 (by simp) (a1 (by simp) (a1 (by simp) (b5 (by simp) (a1 (by simp) ?_)))))));have wV:gl s k=some (JV.mk 1 false 0 [] [] [],k+5):=by unfold gl;rw [if_neg (by rw [Fp 0 _ (by omega) rfl];simp),if_neg (by rw [Fp 1 _ (by omega) rfl];simp),if_pos jE]
  exact iO (vs:=[_,_,_,_,_,_]) rfl aK rfl rfl (aa.cs rfl) rfl ⟨_,by rw [wV];rfl,⟨fun _=>⟨_,_,wV,fun A w=>JV.wU,B⟩,fun h=>(by rw [wV] at h;cases h),E⟩⟩
 subst mE;obtain rfl:x=JV.jo:=by simpa [W3] using ab.symm
 refine b8 (aq 2 rfl (ao (au cn rfl) (ao (bh dY rfl (B.cell rfl)) (aQ rfl (ao (bF Tryz.underlying9 rfl) (ao (c7 (r:=((k+4:Nat):Int)) rfl rfl (by rw [wrap64_in _ (by omega)];first | rfl | (simp;done) | omega)) (ao (dx rfl) (ao (au cn rfl) (ea dY B rfl rfl rfl (by simp) fun iy k1=>?_)))))))));replace aa:=aa.ne k1.mod bS;replace ai:=ai.ne k1.mod MA;replace E:=E.trans k1.mod;replace B:aD iy g _ [_,_,_]:=k1.aA;refine R db (ae fun cj=>ao (bj (cs:=[_,_,_,_,_,_]) iI cK rfl rfl) (cD (bt tS rfl) (om _ true) fun j1 J=>?_));replace B:=B.I J;replace aa:=aa.I J;replace ai:=ai.I J;replace E:=E.then J;refine cD (bt tS rfl) (om _ false) fun rv J=>?_;replace B:=B.I J;replace aa:=aa.I J;replace ai:=ai.I J;replace E:=E.then J;refine cF (cs:=[_,_,_,_,_,_,_,_,_,_,_,_,_,_,_,_,_,_]) ks cK rfl rfl rfl (by decide) rfl fun g4 pP N4=>?_;have fu:=N4.le E;have Wf:=N4.ne B;have gd:=N4.ne aa;have ep:=N4.ne ai;replace B:=B.I N4.mod;replace aa:=aa.I N4.mod;replace ai:=ai.I N4.mod;replace E:=E.then N4.mod;have aW:=N4.aA;refine aQ rfl (ao (cf ks rfl rfl (by omega)) (ao ((a8 (vs:=[_,_,_,_,_,_]) aK rfl rfl (aW.cs (o:=6) rfl))) (bd (vs:=[_,_,_,_,_,_]) aK aa rfl rfl rfl (by simp [Value.oneCell']) (by simp) fun si MB=>?_)));replace B:=B.ne MB.mod (Ne.symm bS);replace ai:=ai.ne MB.mod (Ne.symm G9);replace aW:=aW.ne MB.mod (Ne.symm gd);replace E:=E.own MB.mod Fi;replace aa:aD si g1 _ [_,_,_,_,_,_]:=MB.aA;refine bb rfl (R cj (bg (b5 (by simp) (a1 (by simp) (a1 (by simp) (b5 (by simp) (a1 (by simp) ?_)))))));have wV:gl s k=some (JV.mk 1 true 0 [] [] [],k+4):=by unfold gl;rw [if_neg (by rw [Fp 0 _ (by omega) rfl];simp),if_pos jE]
 exact iO (vs:=[_,_,_,_,_,_]) rfl aK rfl rfl (aa.cs rfl) rfl ⟨_,by rw [wV];rfl,⟨fun _=>⟨_,_,wV,fun A w=>JV.wU,B⟩,fun h=>(by rw [wV] at h;cases h),E⟩⟩
end Go.Proofs.YtnihidkbkhcfoaaGreatDoor.V
namespace Go.Proofs.YtnihidkbkhcfoaaGreatDoor.V
open Go Go.Proofs Go.Sort
abbrev c6:={x:(U×JV)×List Value // x.2.length=6∧∀ v∈x.2,v.oneCell'=true}
instance:Inhabited c6:=⟨⟨(([],JV.fQ),[.int .i64 0,.int .i64 0,.int .i64 0,.int .i64 0,.int .i64 0,.int .i64 0]),rfl,by decide⟩⟩
def c6.key (x:c6):U:=x.1.1.1
def c6.enc (x:c6):List Value:=S x.key::x.1.2
theorem c6.wo (x:c6):x.enc.length=7:=by simp [c6.enc,x.2.1]
theorem c6.Lq (x:c6):∀ v∈x.enc,v.oneCell'=true:=fun v bw=>by
 rcases List.mem_cons.1 bw with rfl | bw
 ·rfl
 exact x.2.2 v bw
def Ih (x y:c6):Int:=Lib.compareBytes x.key y.key
theorem vJ (x y:c6):ltOf Ih x y=fA x.key y.key:=by
 unfold ltOf Ih;rw [tD,Bool.eq_iff_iff,decide_eq_true_eq,pO]
theorem F6 {a b c:U} (h:fA a b=false) (k:fA b c=false):fA a c=false:=by
 cases jE:fA a c with
 | false=>rfl
 | true=>
  rcases ou a b with h1 | h1 | h1
  ·rw [h1] at h;cases h
  ·subst h1;rw [jE] at k;cases k
  rw [fo h1 jE] at k;cases k
theorem Lr:SWO (ltOf Ih):=by
 refine⟨fun x=>?_,fun x y z h k=>?_,fun x y z h k=>?_⟩
 ·rw [vJ];exact cS _
 ·rw [vJ] at h k ⊢;exact fo h k
 rw [vJ] at h k ⊢;exact F6 h k
theorem zz {α:Type} (enc:α→List Value) {k:Nat} (hk:∀ x,(enc x).length=k) (bD:0<k):∀ (l:List α) (t:Nat),(l.map enc).flatten[t]? = (l[t / k]?).bind fun x=>(enc x)[t % k]?
 | [],t=>by simp
 | x::l,t=>by
  rw [List.map_cons,List.flatten_cons]
  rcases Nat.lt_or_ge t k with h | h
  ·rw [List.getElem?_append_left (by rw [hk];exact h),Nat.div_eq_of_lt h,Nat.mod_eq_of_lt h]
   rfl
  rw [List.getElem?_append_right (by rw [hk];exact h),hk,zz enc hk bD l (t-k)]
  obtain⟨u,rfl⟩:∃ u,t=u+k:=⟨t-k,by omega⟩
  rw [Nat.add_sub_cancel,Nat.add_mod_right,Nat.add_div_right _ bD]
  rfl
theorem nA (d:Array c6):(flatK c6.enc 7 d).toList=(d.toList.map c6.enc).flatten:=by
 apply List.ext_getElem?;intro t;rw [zz c6.enc c6.wo (by decide)];rcases Nat.lt_or_ge t (d.size*7)with h | h
 ·have h1:t / 7<d.size:=by omega
  have aj:t % 7<7:=Nat.mod_lt _ (by decide);have e:=get_flatK c6.enc 7 d t h;rw [getElem!_pos (flatK c6.enc 7 d) t (by rw [size_flatK];exact h),getElem!_pos d _ h1] at e;rw [Array.getElem?_toList,Array.getElem?_toList,Array.getElem?_eq_getElem (by rw [size_flatK];exact h),e,Array.getElem?_eq_getElem h1];have aF:t % 7<(c6.enc d[t / 7]).length:=by rw [c6.wo];exact aj
  show _=(c6.enc d[t / 7])[t % 7]?;rw [List.getElem?_eq_getElem aF,getElem!_pos (c6.enc d[t / 7]) _ aF]
 rw [List.getElem?_eq_none (by simp;omega),List.getElem?_eq_none (by simp;omega)];rfl
theorem uL {w:World} {e n g o c:Nat} {d:Array c6} (O:Own w e 7 (.slice (some ⟨g,o,none⟩) n c) n (d.toList.map c6.enc).flatten):HoldsK c6.enc 7 w g o d∧g<w.heap.size∧d.size=n:=by
 have bM:=O.len;rw [← nA,Array.length_toList,size_flatK] at bM;rcases O.2 with⟨h,_⟩ | ⟨ER,sV,c',cs,h,dT,h1,aj,aF,bn⟩
 ·cases h
 cases h;refine⟨fun j dG=>⟨?_,dT.frozen _⟩,dT.lt,by omega⟩;rw [← nA] at bn;apply dT.cell;have sM:(flatK c6.enc 7 d).toList[j]? = some (flatK c6.enc 7 d)[j]!:=by rw [Array.getElem?_toList,Array.getElem?_eq_getElem dG,getElem!_pos (flatK c6.enc 7 d) j dG]
 rw [size_flatK] at dG;rw [← bn,List.getElem?_take,if_pos (by omega),List.getElem?_drop] at sM;exact sM
theorem B3 {w:World} {e n g o c m:Nat} {d rA:Array c6} {os:Array Obj} (O:Own w e 7 (.slice (some ⟨g,o,none⟩) n c) n (d.toList.map c6.enc).flatten) (aN:rA.size=d.size) :
  Own (sortWorldK c6.enc 7 w g o m rA os) e 7 (.slice (some ⟨g,o,none⟩) n c) n (rA.toList.map c6.enc).flatten∧Mod [g] w (sortWorldK c6.enc 7 w g o m rA os):=by
 have bL:=(uL O).2.2
 have bM:=O.len
 rcases O.2 with⟨h,_⟩ | ⟨ER,sV,c',cs,h,dT,h1,aj,aF,bn⟩
 ·cases h
 cases h
 have bk:=dT.lt
 have BE:g<(putRowK c6.enc 7 (Sort.ahead w m) g o rA).heap.size:=by rw [size_putRowK];exact bk
 have jE:(putRowK c6.enc 7 (Sort.ahead w m) g o rA).heap=w.heap.modify g (onCells (putCells id o (flatK c6.enc 7 rA))):=rfl
 have adk:Mod [g] w (sortWorldK c6.enc 7 w g o m rA os):=by
  refine⟨rfl,rfl,rfl,?_,fun i hi ab=>?_⟩
  ·unfold sortWorldK
   rw [size_grow,size_putRowK]
   exact Nat.le_add_right _ _
  unfold sortWorldK
  rw [heap_grow_old _ _ (by rw [size_putRowK];exact hi),jE,Array.getElem?_modify,if_neg (fun e=>ab (by simp [e]))]
 refine⟨⟨by rw [← nA];simp [aN,bL],.inr ⟨g,o,c,(putCells id o (flatK c6.enc 7 rA) cs.toArray).toList,rfl,?_,h1,aj,?_,?_⟩⟩,adk⟩
 ·unfold aD sortWorldK
  rw [heap_grow_old _ _ BE,jE,Array.getElem?_modify,if_pos rfl,dT]
  rfl
 ·simp only [putCells,Array.toList_mapIdx,List.length_mapIdx]
  exact aF
 rw [← nA]
 apply List.ext_getElem?
 intro t
 rw [List.getElem?_take]
 rcases Nat.lt_or_ge t (n*7)with h | h
 ·rw [if_pos h,List.getElem?_drop]
  have ch:o+t<cs.length:=by have:=Nat.mul_le_mul_right 7 h1;omega
  have eB:t<(flatK c6.enc 7 rA).size:=by rw [size_flatK,aN,bL];exact h
  rw [Array.getElem?_toList,Array.getElem?_toList,Array.getElem?_eq_getElem eB]
  simp only [putCells,Array.getElem?_mapIdx,List.getElem?_toArray,List.getElem?_eq_getElem ch,Option.map_some]
  rw [if_pos ⟨by omega,by omega⟩,Nat.add_sub_cancel_left,getElem!_pos (flatK c6.enc 7 rA) t eB]
  rfl
 rw [if_neg (by omega),List.getElem?_eq_none (by simp [aN,bL];omega)]
theorem B2 {A:List Nat} {w:World}:∀ (acc:List (U×JV)) (vs:List Value),ak A w (acc.map JV.hG).flatten vs→∃ rows:List c6,rows.map (·.1.1)=acc∧(rows.map c6.enc).flatten=vs∧∀ r∈rows,ak A w (JV.hG r.1.1) r.enc
 | [],vs,h=>⟨[],rfl,(List.eq_nil_of_length_eq_zero (by simpa using h.length)).symm,by simp⟩
 | p::acc,vs,h=>by
  rw [List.map_cons,List.flatten_cons] at h
  obtain⟨h1,aj⟩:=h.cut
  rw [JV.vx] at h1 aj
  obtain⟨rows,aV,bs,kk⟩:=B2 acc _ aj
  obtain⟨u,us,GU,aay,alI⟩:=h1
  have hu:u=S p.1:=by simp only [aS] at aay;exact aay.1
  subst hu
  refine⟨⟨(p,us),JV.cells_one alI⟩::rows,by rw [List.map_cons,aV],?_,fun r bf=>?_⟩
  ·rw [List.map_cons,List.flatten_cons,bs]
   show(S p.1::us)++_=_
   rw [← GU,List.take_append_drop]
  rcases List.mem_cons.1 bf with rfl | bf
  ·exact⟨_,us,rfl,aay,alI⟩
  exact kk r bf
theorem wq {A:List Nat} {w:World}:∀ (rows:List c6),(∀ r∈rows,ak A w (JV.hG r.1.1) r.enc)→ak A w ((rows.map (·.1.1)).map JV.hG).flatten (rows.map c6.enc).flatten
 | [],_=>ak.lN
 | r::rows,h=>by
  simp only [List.map_cons,List.flatten_cons]
  exact(h r (List.mem_cons_self ..)).append (wq rows fun x ab=>h x (List.mem_cons_of_mem _ ab))
theorem C5 (k:U) (x:JV):∀ acc:List (U×JV),(acc.map (·.1)).Nodup→(look (dB acc) k=some x↔(k,x)∈acc):=by
 intro acc;rw [← List.reverse_reverse acc];generalize acc.reverse=l
 induction l with
 | nil=>intro _;simp [dB,look]
 | cons p l dh=>
  intro bW;rw [List.reverse_cons,List.map_append,List.nodup_append] at bW;rw [List.reverse_cons,k9,y']
  by_cases h:k=p.1
  ·rw [if_pos h];have aj:(k,x)∉l.reverse:=fun ab=>bW.2.2 k (List.mem_map.2 ⟨_,ab,rfl⟩) p.1 (by simp) h;simp only [List.mem_append,aj,false_or,List.mem_singleton,Option.some.injEq];constructor
   ·rintro rfl;rw [h]
   rintro rfl;rfl
  rw [if_neg h,dh bW.1];simp only [List.mem_append,List.mem_singleton];constructor
  ·exact .inl
  rintro(ab | rfl)
  ·exact ab
  exact absurd rfl h
theorem F7 (acc:List (U×JV)):cZ (dB acc):=by
 rw [← List.reverse_reverse acc];generalize acc.reverse=l
 induction l with
 | nil=>exact List.Pairwise.nil
 | cons p l dh=>rw [List.reverse_cons,k9];exact oe dh
theorem C6 {acc m:List (U×JV)} (bW:(acc.map (·.1)).Nodup) (bJ:m.Perm acc) (ax:cZ m):m=dB acc:=by
 refine qI ax (F7 acc) fun k=>?_;have h1:∀ x,look m k=some x↔look (dB acc) k=some x:=fun x=>by
  rw [C5 k x acc bW,← bJ.mem_iff];exact⟨dF,fun h=>mc ax h⟩
 cases aj:look m k with
 | some x=>exact((h1 x).1 aj).symm
 | none=>
  cases aF:look (dB acc) k with
  | none=>rfl
  | some x=>rw [(h1 x).2 aF] at aj;cases aj
theorem Ap {acc:List (U×JV)} {rows:List c6} {rA:Array c6} (bW:(acc.map (·.1)).Nodup) (bf:rows.map (·.1.1)=acc) (bJ:PermIn 0 rows.toArray.size rows.toArray rA) (aN:SortedIn (ltOf Ih) 0 rows.toArray.size rA) :
  rA.toList.Perm rows∧rA.toList.map (·.1.1)=dB acc:=by
 obtain⟨h1,_,aF⟩:=bJ
 have F8:rA.toList.Perm rows:=by
  have aV:rows.toArray.extract 0 rows.toArray.size=rows.toArray:=Array.extract_size
  have bs:rA.extract 0 rows.toArray.size=rA:=by rw [← h1];exact Array.extract_size
  rw [aV,bs] at aF
  exact aF
 refine⟨F8,C6 bW (bf▸F8.map _) ?_⟩
 have ES:(rA.toList.map c6.key).Nodup:=by
  rw [← bf,List.map_map] at bW
  exact((F8.map c6.key).nodup_iff).2 bW
 unfold cZ
 rw [List.pairwise_map,List.pairwise_iff_getElem]
 intro i j hi dG u9
 have bn:=aN i j (Nat.zero_le _) u9 (by rw [← h1];simpa using dG)
 rw [vJ,getElem!_pos _ _ (by simpa using dG),getElem!_pos _ _ (by simpa using hi)] at bn
 have ch:=(List.pairwise_iff_getElem.1 ES) i j (by simpa using hi) (by simpa using dG) u9
 rw [List.getElem_map,List.getElem_map] at ch
 rcases ou (c6.key rA.toList[i]) (c6.key rA.toList[j])with h | h | h
 ·exact h
 ·exact absurd h ch
 rw [Array.getElem_toList,Array.getElem_toList] at h
 rw [h] at bn;cases bn
end Go.Proofs.YtnihidkbkhcfoaaGreatDoor.V
set_option maxRecDepth 10000
namespace Go.Proofs
open Go.Shelf
def Tryz.EO:Go.Shelf.Ren:=⟨fun | 6=>150 | 15=>183 | 14=>182 | 28=>214 | 29=>215 | 20=>206 | 21=>207 | 22=>208 | 23=>209 | 24=>210 | 25=>211 | 26=>212 | 27=>213 | 46=>236 | 47=>237 | 48=>238 | 49=>239 | 50=>240 | 57=>253 | n=>n,fun | 22=>23 | 24=>51 | 25=>141 | 3=>3 | 39=>114 | 0=>0 | 53=>117 | 55=>154 | 4=>4 | 46=>212 | 45=>211 | 50=>87 | 5=>5 | 9=>9 | 66=>232 | 70=>236 | 76=>258 | 77=>171 | n=>n,fun | n=>n⟩
theorem Tryz.dB:Go.Proofs.SlLaysF0.n6 Tryz.prog Tryz.EO:={
 mixed:=by kernel_rfl
 f6:=⟨Tryz.f150.name,by decide,Tryz.func150.trans (congrArg some (by kernel_rfl))⟩
 f14:=⟨Tryz.f182.name,by decide,Tryz.func182.trans (congrArg some (by kernel_rfl))⟩
 f15:=Tryz.func183.trans (congrArg some (by kernel_rfl))
 f20:=⟨Tryz.f206.name,by decide,Tryz.func206.trans (congrArg some (by kernel_rfl))⟩
 f21:=⟨Tryz.f207.name,by decide,Tryz.func207.trans (congrArg some (by kernel_rfl))⟩
 f22:=⟨Tryz.f208.name,by decide,Tryz.func208.trans (congrArg some (by kernel_rfl))⟩
 f23:=⟨Tryz.f209.name,by decide,Tryz.func209.trans (congrArg some (by kernel_rfl))⟩
 f24:=⟨Tryz.f210.name,by decide,Tryz.func210.trans (congrArg some (by kernel_rfl))⟩
 f25:=⟨Tryz.f211.name,by decide,Tryz.func211.trans (congrArg some (by kernel_rfl))⟩
 f26:=⟨Tryz.f212.name,by decide,Tryz.func212.trans (congrArg some (by kernel_rfl))⟩
 f27:=⟨Tryz.f213.name,by decide,Tryz.func213.trans (congrArg some (by kernel_rfl))⟩
 f28:=Tryz.func214.trans (congrArg some (by kernel_rfl))
 f29:=Tryz.func215.trans (congrArg some (by kernel_rfl))
 f46:=⟨Tryz.f236.name,by decide,Tryz.func236.trans (congrArg some (by kernel_rfl))⟩
 f47:=Tryz.func237.trans (congrArg some (by kernel_rfl))
 f48:=Tryz.func238.trans (congrArg some (by kernel_rfl))
 f49:=⟨Tryz.f239.name,by decide,Tryz.func239.trans (congrArg some (by kernel_rfl))⟩
 f50:=⟨Tryz.f240.name,by decide,Tryz.func240.trans (congrArg some (by kernel_rfl))⟩
 f57:=⟨Tryz.f253.name,by decide,Tryz.func253.trans (congrArg some (by kernel_rfl))⟩
 t0:=Tryz.underlying0
 a0:=Tryz.isAgg0
 z0:=Tryz.sizeOf0
 v0:=Tryz.zeroValue0
 t3:=Tryz.underlying3
 a3:=Tryz.isAgg3
 z3:=Tryz.sizeOf3
 v3:=Tryz.zeroValue3
 t4:=Tryz.underlying4
 a4:=Tryz.isAgg4
 z4:=Tryz.sizeOf4
 v4:=Tryz.zeroValue4
 t5:=Tryz.underlying5
 a5:=Tryz.isAgg5
 z5:=Tryz.sizeOf5
 v5:=Tryz.zeroValue5
 t9:=Tryz.underlying9
 a9:=Tryz.isAgg9
 z9:=Tryz.sizeOf9
 v9:=Tryz.zeroValue9
 t22:=Tryz.underlying23
 a22:=Tryz.isAgg23
 z22:=Tryz.sizeOf23
 v22:=Tryz.zeroValue23
 t25:=Tryz.underlying141
 a25:=Tryz.isAgg141
 z25:=Tryz.sizeOf141
 v25:=Tryz.zeroValue141
 t39:=Tryz.underlying114
 a39:=Tryz.isAgg114
 z39:=Tryz.sizeOf114
 v39:=Tryz.zeroValue114
 t45:=Tryz.underlying211
 a45:=Tryz.isAgg211
 z45:=Tryz.sizeOf211
 v45:=Tryz.zeroValue211
 t46:=Tryz.underlying212
 a46:=Tryz.isAgg212
 z46:=Tryz.sizeOf212
 v46:=Tryz.zeroValue212
 t50:=Tryz.underlying87
 a50:=Tryz.isAgg87
 z50:=Tryz.sizeOf87
 v50:=Tryz.zeroValue87
 t53:=Tryz.underlying117
 a53:=Tryz.isAgg117
 z53:=Tryz.sizeOf117
 v53:=Tryz.zeroValue117
 t55:=Tryz.underlying154
 a55:=Tryz.isAgg154
 z55:=Tryz.sizeOf154
 v55:=Tryz.zeroValue154
 t66:=Tryz.underlying232
 a66:=Tryz.isAgg232
 z66:=Tryz.sizeOf232
 v66:=Tryz.zeroValue232
 t70:=Tryz.underlying236
 a70:=Tryz.isAgg236
 z70:=Tryz.sizeOf236
 v70:=Tryz.zeroValue236
 t76:=Tryz.underlying258
 a76:=Tryz.isAgg258
 z76:=Tryz.sizeOf258
 v76:=Tryz.zeroValue258
 t77:=Tryz.underlying171
 a77:=Tryz.isAgg171
 z77:=Tryz.sizeOf171
 v77:=Tryz.zeroValue171}
def Tryz.Ao:Go.Shelf.Ren:=⟨fun | 106=>160 | 213=>192 | 265=>226 | n=>n,fun | 9=>9 | 3=>3 | n=>n,fun | n=>n⟩
theorem Tryz.Lm:Go.Proofs.Lays.n106 Tryz.prog Tryz.Ao:={
 mixed:=by kernel_rfl
 f106:=Tryz.func160.trans (congrArg some (by kernel_rfl))
 f213:=Tryz.func192.trans (congrArg some (by kernel_rfl))
 f265:=Tryz.func226.trans (congrArg some (by kernel_rfl))
 t3:=Tryz.underlying3
 a3:=Tryz.isAgg3
 z3:=Tryz.sizeOf3
 v3:=Tryz.zeroValue3
 t9:=Tryz.underlying9
 a9:=Tryz.isAgg9
 z9:=Tryz.sizeOf9
 v9:=Tryz.zeroValue9}
open Go.RowKit in
theorem Tryz.strings_Compare (a b:ByteArray) (w:World) :
  Calls Tryz.prog 160 #[.string a,.string b] w fun e w'=>e = .returned (.int .i64 (Lib.compareBytes a.data.toList b.data.toList))∧w'=w:=Any.strings_Compare Tryz.Lm a b w
end Go.Proofs
namespace Go.Proofs.YtnihidkbkhcfoaaGreatDoor.V
open Go Go.Proofs Go.Sort
theorem P':aP Tryz.prog 160:=aP.of Tryz.func160 (by kernel_rfl) (by kernel_rfl)
theorem Ln:ho Tryz.prog 51 0 0 1=true:=by kernel_rfl
theorem Qa (w:World) (a b:U):Calls Tryz.prog 160 [S a,S b].toArray w (bI fun u w'=>u = .int .i64 (Lib.compareBytes a b)∧w'=w):=by
 refine(Tryz.strings_Compare ⟨⟨a⟩⟩ ⟨⟨b⟩⟩ w).mono fun e w' he=>?_;obtain⟨rfl,rfl⟩:=he;exact⟨rfl,rfl⟩
theorem Ig (w:World) (a b:U) (us vs:List Value):Calls Tryz.prog 124 [.agg (S a::us).toArray,.agg (S b::vs).toArray].toArray w (bI fun u w'=>u = .int .i64 (Lib.compareBytes a b)∧w'=(w.alloc (.cells (S a::us).toArray 51)).alloc (.cells (S b::vs).toArray 51)):=by
 refine enter Tryz.func124 rfl rfl rfl (l:=[(1,_),(0,_)]) ⟨rfl,rfl,trivial⟩ ?_;refine l7 fun K1 aX=>?_;refine b8 ?_;refine e9 (EP rfl rfl) rfl ?_;refine e9 (EP rfl rfl) rfl ?_;refine e9 (cI rfl) rfl ?_;refine eG ?_;refine fv (aX _ _ _ _ ?_);have bO:=j5.mk' w 51 (S a::us);have cU:=j5.mk' (w.alloc (.cells (S a::us).toArray 51)) 51 (S b::vs);have fO:=bO.aA.I cU.mod;have cH:=cU.aA;refine l7 fun K2 aM=>?_;refine b8 ?_;refine e9 (au Ln rfl) rfl ?_;refine e9 (bh bH rfl (fO.cell rfl)) rfl ?_;refine e9 (au Ln rfl) rfl ?_;refine e9 (bh bH rfl (cH.cell rfl)) rfl ?_;refine fP (bt P' rfl) (Qa _ a b) rfl fun cC aE aB=>?_;obtain⟨rfl,rfl⟩:=aB;refine e9 (cI rfl) rfl ?_;refine eG ?_;refine fv (aM _ _ _ _ ?_);refine bg ?_;exact ar rfl rfl ⟨rfl,rfl⟩
theorem Qb {w:World} {g o n:Nat}:CmpLays Tryz.prog 124 #[] c6.enc 7 Ih g o n w:=by
 intro m os apj bL x y;refine(Ig _ x.key y.key x.1.2 y.1.2).mono fun e w' he=>?_
 match e,he with
 | .returned u,⟨h1,aj⟩=>
  refine⟨by rw [h1];rfl,0,#[.cells (S x.key::x.1.2).toArray 51,.cells (S y.key::y.1.2).toArray 51],aj.trans ?_⟩;rw [alloc_eq_grow,alloc_eq_grow,grow_grow];rfl
theorem Lo (w:World) {wr:World} {e n c:Nat} {ad:Addr} {acc:List (U×JV)} {vs:List Value} {A:List Nat} (O:Own w e 7 (.slice (some ad) n c) n vs) (bf:ak A wr (acc.map JV.hG).flatten vs) (bW:(acc.map (·.1)).Nodup) (aN:acc.length≤1000000) :
  Calls Tryz.prog 150 [.slice (some ad) n c,.func (.func 124) #[] #[]].toArray w (bI fun u w'=>u = .tuple #[]∧Mod [ad.block] w w'∧∃ h8,Own w' e 7 (.slice (some ad) n c) n h8∧ak A wr ((dB acc).map JV.hG).flatten h8∧(dB acc).length=n):=by
 obtain⟨rows,aV,rfl,kk⟩:=B2 acc vs bf
 obtain⟨g,o,rfl⟩:∃ g o,ad=⟨g,o,none⟩:=by
  rcases O.2 with⟨h,_⟩ | ⟨g,o,_,_,h,_⟩
  ·cases h
  cases h;exact⟨g,o,rfl⟩
 have Bz:Own w e 7 (.slice (some ⟨g,o,none⟩) n c) n (rows.toArray.toList.map c6.enc).flatten:=O
 obtain⟨hH,bk,ha⟩:=uL Bz
 have Lp:rows.length=acc.length:=by rw [← aV,List.length_map]
 subst ha
 refine(AnyQ.slices_SortFunc Tryz.dB 7 (fun w=>Tryz.isAgg51 w) (fun w=>Tryz.sizeOf51 w) c6.enc c6.wo c6.Lq Ih Lr 124 #[] g o c rows.toArray w (enters_of Tryz.func124 (by kernel_rfl) rfl) Qb hH bk (by rw [List.size_toArray];omega)).mono fun uM w' he=>?_
 obtain⟨rfl,rA,m,os,bJ,jn,rfl⟩:=he
 obtain⟨h1,aj⟩:=Ap bW aV bJ jn
 obtain⟨aF,bn⟩:=B3 (m:=m) (os:=os) Bz bJ.1
 refine⟨rfl,bn,_,aF,?_,?_⟩
 ·rw [← aj]
  exact wq _ fun r nJ=>kk r (h1.mem_iff.1 nJ)
 rw [← aj,List.length_map,Array.length_toList,bJ.1]
theorem Ls (w:World) (p:Option Addr) (c:Nat):Calls Tryz.prog 150 [.slice p 0 c,.func (.func 124) #[] #[]].toArray w (bI fun u w'=>u = .tuple #[]∧w'=w):=by
 refine(AnyF.slices_SortFunc_none Tryz.dB p c (.func (.func 124) #[] #[]) w).mono fun e w' he=>?_;obtain⟨rfl,rfl⟩:=he;exact⟨rfl,rfl⟩
theorem Lt (w:World) {wr:World} {e n:Nat} {v:Value} {acc:List (U×JV)} {vs:List Value} {A:List Nat} (O:Own w e 7 v n vs) (bf:ak A wr (acc.map JV.hG).flatten vs) (bW:(acc.map (·.1)).Nodup) (aN:acc.length≤1000000) (bM:acc.length=n) :
  Calls Tryz.prog 150 [v,.func (.func 124) #[] #[]].toArray w (bI fun u w'=>u = .tuple #[]∧Mod (aL v) w w'∧∃ h8,Own w' e 7 v n h8∧ak A wr ((dB acc).map JV.hG).flatten h8∧(dB acc).length=n):=by
 obtain⟨ad,c,rfl,_,_⟩:=O.form
 cases n with
 | zero=>
  have:acc = []:=List.eq_nil_of_length_eq_zero bM
  subst this
  refine(Ls w ad c).mono fun uM w' he=>?_
  match uM,he with
  | .returned u,⟨h1,aj⟩=>exact⟨h1,aj▸Mod.refl _ _,vs,aj▸O,bf,rfl⟩
 | succ n=>
  obtain⟨ad,rfl⟩:∃ a,ad=some a:=by
   rcases O.2 with⟨_,h⟩ | ⟨g,o,_,_,h,_⟩
   ·cases h
   cases h;exact⟨_,rfl⟩
  exact Lo w O bf bW aN
end Go.Proofs.YtnihidkbkhcfoaaGreatDoor.V
set_option maxRecDepth 10000
namespace Go.Proofs.YtnihidkbkhcfoaaGreatDoor.V
open Go Go.Proofs
abbrev lC (Z:List Nat):Te:=⟨75,20,163,129,165,168,25,51,Z⟩
theorem eY:ho Tryz.prog 75 2 2 1=true:=by kernel_rfl
theorem q5:k2 Tryz.prog 73 20 1 16=true:=by kernel_rfl
theorem acn:hq Tryz.prog 20 [.nilIface]:=by unfold hq;kernel_rfl
theorem iM:mY Tryz.prog 73=true:=by kernel_rfl
theorem MC.eq {w w':World} {g:Nat} {T:TypeId} {cs cs':List Value} (h:MC w w' g T cs) (e:cs=cs'):aD w' g T cs':=e▸h.aA
theorem G' {aE:World} {g k:Nat} {s:U} {sk:Value} {alx:TypeId} {aly:Option Addr} {cs:List Value} (B:aD aE g 75 [S s,.int .i64 (k:Int),sk]) (O:Own aE 20 1 sk cs.length cs.reverse) (sH:∀ x∈aL sk,x≠g)
  (aN:s.length≤65536) (hk:k≤s.length) (bL:cs.length≤32) :
  Calls Tryz.prog 148 [.pointer (some ⟨g,0,none⟩),.iface alx (.pointer aly)].toArray aE (Ix 124 (g::aL sk) aE (if cs.length=32 then (.error 5:Except Int Unit)else .ok ()) (fun _ u w'=>u = .tuple #[]∧∃ fK,aD w' g 75 [S s,.int .i64 ((k+1:Nat):Int),fK]∧Own w' 20 1 fK (cs.length+1) (cs.reverse ++ [.iface alx (.pointer aly)])∧∀ x∈aL fK,x∈aL sk∨aE.heap.size≤x)):=by
 refine enter Tryz.func148 rfl rfl rfl (l:=[(0,_),(1,_)]) ⟨rfl,rfl,trivial⟩ ?_
 obtain⟨ad,c0,rfl,fi,gA⟩:=O.form
 have bk:=B.lt
 have hO:∀ {a b:World},Mod [g] a b→Own a 20 1 (.slice ad cs.length c0) cs.length cs.reverse→Own b 20 1 (.slice ad cs.length c0) cs.length cs.reverse:=fun ahz anz=>anz.mod ahz (fun x ab e=>sH x ab (by simpa using e))
 have E:=Mod.refl [g] aE
 refine ay fun aX=>ae fun aM=>aq 2 rfl (ao (au eY rfl) (ao (bh iM rfl (B.cell rfl)) (ao (bx Tryz.underlying73 rfl) (ao (oC rfl rfl) (R aM ?_)))))
 refine aU rfl (fun lQ=>?_) (fun lQ=>?_)
 ·have lQ:cs.length=32:=by have:=of_decide_eq_true lQ;omega
  refine b8 ?_
  refine e4 (bt fg rfl) (ee _ 5) rfl (fun di aB=>aB.elim) (fun kZ ix aB=>?_) fun cC ix aB=>?_
  ·obtain⟨rfl,rfl⟩:=aB
   exact a1 (by simp) (dt ⟨5,by rw [if_pos lQ],by decide,rfl,Mod.refl _ _⟩)
  exact aB.elim
 have lQ:¬ cs.length=32:=fun e=>of_decide_eq_false lQ (by omega)
 refine cJ (az aX (ae fun a7=>aq 2 rfl (ao (au cn rfl) (ao (bh dY rfl (B.cell rfl)) (ao (c7 (r:=((k+1:Nat):Int)) rfl rfl (by rw [wrap64_in _ (by omega)];omega)) (aq 1 rfl (ao (au cn rfl) (ea dY B rfl rfl rfl (by simp) fun cY Eh=>?_))))))))
 replace O:=hO Eh.mod O
 replace B:=Eh.eq rfl
 replace E:=E.trans Eh.mod
 refine R a7 (b8 (aq 3 rfl (ao (au eY rfl) (ao (bh iM rfl (B.cell rfl)) (aq 1 rfl (cF (cs:=[_]) q5 acn rfl rfl rfl (by decide) rfl fun g1 gv bO=>?_))))))
 have aa:=bO.aA
 replace B:=B.I bO.mod
 replace O:=O.I bO.mod
 replace E:=E.then bO.mod
 refine cV q5 rfl rfl O (Src.own Tryz.underlying73 (Own.all (cs:=[_]) aa rfl (by omega)) (by simp [Value.oneCell'])) (by decide) (by omega) (by omega) rfl fun v1 iH jX=>?_
 replace B:=B.mod jX.mod (fun ab=>sH _ ab rfl)
 refine aq 1 rfl (ao (au eY rfl) ?_)
 obtain⟨we,c1,aV,_,_⟩:=jX.own.form
 refine ea iM B rfl rfl (by rw [aV];rfl) (by simp) fun jO hl=>?_
 have Aw:Mod (g::aL (.slice ad cs.length c0)) aE jO:=((E.mono (by simp)).trans (jX.mod.mono (fun x ab=>List.mem_cons_of_mem _ ab))).trans (hl.mod.mono (by simp))
 have ch:∀ x∈aL v1,x∈aL (.slice ad cs.length c0)∨aE.heap.size≤x:=fun x ab=>(jX.kn x ab).imp id (Nat.le_trans E.size)
 refine eG ?_
 exact iQ rfl ⟨(),by rw [if_neg lQ],⟨rfl,v1,hl.eq rfl,jX.own.mod hl.mod (fun x ab e=>by
  rw [List.mem_singleton.1 e] at ab
  rcases ch g ab with h | h
  ·exact sH _ h rfl
  omega),ch⟩,Aw⟩
set_option maxRecDepth 10000
theorem wW:ho Tryz.prog 168 0 0 1=true:=by kernel_rfl
theorem Cv:ho Tryz.prog 168 1 1 1=true:=by kernel_rfl
theorem sI:ho Tryz.prog 168 2 2 1=true:=by kernel_rfl
theorem MD:mY Tryz.prog 166=true:=by kernel_rfl
theorem ME:Tryz.prog.underlying 166=some (.map 9 4):=by kernel_rfl
theorem ahA:(Tryz.prog.info? 4).bind (·.zero)=some (.bool false):=by kernel_rfl
theorem Ha:aP Tryz.prog 147:=aP.of Tryz.func147 (by kernel_rfl) (by kernel_rfl)
theorem AH:aP Tryz.prog 61:=aP.of Tryz.func61 (by kernel_rfl) (by kernel_rfl)
theorem mI:aP Tryz.prog 108:=aP.of Tryz.func108 (by kernel_rfl) (by kernel_rfl)
theorem Hb {w:World} {g g1 b k:Nat} {s t0:U} {sk dN:Value} {K:List U} {m:List (U×JV)} (B:aD w g 75 [S s,.int .i64 (k:Int),sk]) (fO:aD w g1 168 [dN,.map (some b),S t0]) (hm:ij w b (lA K)) (tL:g1≠g) (IQ:g≠b) (MF:g1≠b)
  (lT:∀ t,(look m t).isSome=decide (t∈K)) (aN:s.length≤65536) (hk:k≤s.length) (ed:Env w) (cN:IJ<g) :
  Calls Tryz.prog 110 [.pointer (some ⟨g,0,none⟩),.pointer (some ⟨g1,0,none⟩)].toArray w (Ix 124 [g,g1,b] w (ih s k m) (fun x u w'=>u = .tuple #[]∧aD w' g 75 [S s,.int .i64 (x.2:Int),sk]∧aD w' g1 168 [dN,.map (some b),S x.1]∧ij w' b (lA (K ++ [x.1]))∧x.2≤s.length)):=by
 refine enter Tryz.func110 rfl rfl rfl (l:=[(0,_),(1,_)]) ⟨rfl,rfl,trivial⟩ ?_
 have E:=Mod.refl [g,g1,b] w
 have l1:=bZ (p:=aG) (s:=s) hk
 refine ae fun aX=>aQ rfl (fP (bt AH rfl) (sD _ g s k sk B aN hk) rfl fun cC aE aB=>?_)
 obtain⟨B,J⟩:=aB
 replace fO:=fO.mod J (by simpa using tL)
 replace hm:=hm.mod J (by simpa using Ne.symm IQ)
 have ahB:=ed.mG cN J
 replace E:=E.trans (J.mono (by simp))
 refine R aX (ae fun aM=>aq 1 rfl (aQ rfl ?_))
 refine e4 (bt Ha rfl) (Cs _ g s (ag aG s k) sk B aN l1 ahB.Vq) rfl (fun di aB=>aB) (fun kZ cY aB=>?_) fun cC cY aB=>?_
 ·obtain⟨e,he,bD,rfl,J⟩:=aB
  refine a1 (by simp) ?_
  refine dt ⟨e,?_,bD,rfl,E.trans (J.mono (by simp))⟩
  unfold ih
  cases h:ew s (ag aG s k)with
  | none=>rw [h] at he;exact he
  | some x=>rw [h] at he;cases he
 obtain⟨⟨t,dr⟩,he,⟨rfl,B⟩,J⟩:=aB
 have bQ:ew s (ag aG s k)=some (t,dr):=by
  cases h:ew s (ag aG s k)with
  | none=>rw [h] at he;cases he
  | some x=>rw [h] at he;cases he;rfl
 have bY:dr≤s.length:=(nr bQ).2.1
 have IS:ih s k m=if (look m t).isSome then .error 6 else if av s (ag aG s dr) [58] then .ok (t,ag aG s dr+1)else .error 4:=by
  unfold ih;rw [bQ]
 rw [lT t] at IS
 replace fO:=fO.mod J (by simpa using tL)
 replace hm:=hm.mod J (by simpa using Ne.symm IQ)
 replace E:=E.trans (J.mono (by simp))
 refine aq 1 rfl (ao (au sI rfl) (ea bH fO rfl rfl rfl (by simp) fun gv uG=>?_))
 replace B:=B.mod uG.mod (by simpa using Ne.symm tL)
 replace hm:=hm.mod uG.mod (by simpa using Ne.symm MF)
 replace E:=E.trans (uG.mod.mono (by simp))
 replace fO:=uG.eq (cs':=[dN,.map (some b),S t]) rfl
 refine R aM (ay fun a7=>ay fun bC=>bK wide (by kernel_rfl) (fM 2 rfl rfl (ah (fun J=>(au Cv rfl)) (ah (fun J=>(bh MD rfl ((fO.I J).cell rfl))) (fM 2 rfl rfl (ah (fun J=>(au sI rfl)) (ah (fun J=>(bh bH rfl ((fO.I J).cell rfl))) ?_)))))))
 refine ahC (fun di J=>(aco ME Tryz.underlying9 ahA rfl (.inr ⟨b,rfl,hm.I J⟩) rfl).to (v':=.bool (decide (t∈K))) (by
  rw [rJ]
  by_cases h:t∈K
  ·rw [if_pos h,bB h];rfl
  rw [if_neg h,bX h];rfl)) rfl rfl ?_
 refine bN rfl fun iH J=>?_
 replace B:=B.I J
 replace fO:=fO.I J
 replace hm:=hm.I J
 replace E:=E.then J
 refine az bC ?_
 refine bm rfl (fun mX=>?_) (fun mX=>?_)
 ·refine b8 ?_
  refine e4 (bt fg rfl) (ee _ 6) rfl (fun di aB=>aB.elim) (fun kZ ix aB=>?_) fun cC ix aB=>?_
  ·obtain⟨rfl,rfl⟩:=aB
   exact a1 (by simp) (dt ⟨6,by rw [IS,if_pos (bB mX)],by decide,rfl,E⟩)
  exact aB.elim
 rw [if_neg (by simpa using mX)] at IS
 refine cJ (az a7 (ay fun bU=>wX 8 wide (by kernel_rfl) (fM 2 rfl rfl (ah (fun J=>(au Cv rfl)) (ah (fun J=>(bh MD rfl ((fO.I J).cell rfl))) (fM 2 rfl rfl (ah (fun J=>(au sI rfl)) (ah (fun J=>(bh bH rfl ((fO.I J).cell rfl))) (ml rfl fun jO J=>?_)))))))))
 replace B:=B.I J
 replace fO:=fO.I J
 replace hm:=hm.I J
 replace E:=E.then J
 refine QF ME Tryz.underlying9 rfl hm rfl rfl fun jV Cw J=>?_
 replace B:=B.mod J (by simpa using IQ)
 replace fO:=fO.mod J (by simpa using MF)
 replace E:=E.trans (J.mono (by simp))
 rw [Iy mX] at Cw
 refine R bU (ae fun ca=>aQ rfl (fP (bt mI rfl) (rT _ g s dr sk B aN bY 58) rfl fun cC ix aB=>?_))
 obtain⟨rfl,B,J⟩:=aB
 replace fO:=fO.mod J (by simpa using tL)
 replace Cw:=Cw.mod J (by simpa using Ne.symm IQ)
 replace E:=E.trans (J.mono (by simp))
 refine ao (gJ rfl) (R ca ?_)
 refine aU rfl (fun gX=>?_) (fun gX=>?_)
 ·have gX:av s (ag aG s dr) [58]=false:=by simpa using gX
  refine b8 ?_
  refine e4 (bt fg rfl) (ee _ 4) rfl (fun di aB=>aB.elim) (fun kZ ix aB=>?_) fun cC ix aB=>?_
  ·obtain⟨rfl,rfl⟩:=aB
   exact dt ⟨4,by rw [IS,gX];rfl,by decide,rfl,E⟩
  exact aB.elim
 have gX:av s (ag aG s dr) [58]=true:=by simpa using gX
 rw [gX,if_pos rfl] at IS B
 exact cJ (iQ rfl ⟨(t,ag aG s dr+1),IS,⟨rfl,B,fO,Cw,by have:=cg gX (by simp);simpa using this⟩,E⟩)
end Go.Proofs.YtnihidkbkhcfoaaGreatDoor.V
