/-
  A part of the proof: events: what they stand for in memory; whether one is greater than is played. No condition of its own.
-/
import Derived.Test.YtnihidkbkhcfoaaGreatDoorM2
import Derived.Test.YtnihidkbkhcfoaaGreatDoorProg
import Derived.Test.YtnihidkbkhcfoaaGreatDoorM3
import Derived.Test.YtnihidkbkhcfoaaGreatDoorM1
import Derived.Lib.AppendIntMem
import Derived.Lib.LaidTab
import Derived.Shelf.Strings.Trim
import Derived.Shelf.Small.Utf8
import Derived.Shelf.Small.Bits
import Derived.Shelf.Small.Strs
import Derived.Shelf.Small.Wraps
import Derived.Shelf.Utf8.AppendRune
import Derived.Shelf.Strconv.Atoi
import Derived.Shelf.Strconv.Itoa0
import Derived.Shelf.Strconv.Itoa1
import Derived.Shelf.LaysM
import Derived.Shelf.Strconv.Itoa2
import Derived.Shelf.Strconv.Itoa3
import Derived.Shelf.Strconv.AtoiErrFast
import Derived.Shelf.Strconv.ParseIntEmpty
import Derived.Shelf.Strconv.AtoiFail
import Derived.Shelf.Strconv.Clone
import Derived.Shelf.Strconv.SyntaxError
import Derived.Shelf.LaysC
import Derived.Shelf.Strconv.ToError
import Derived.Shelf.Strconv.Lower
import Derived.Shelf.Strconv.ParseUint10
import Derived.Shelf.Strconv.ParseUint10Empty
import Derived.Shelf.Strconv.ParseUint10Any
import Derived.Shelf.Strconv.ParseInt10
import Derived.Shelf.Strconv.AtoiLong
import Derived.Shelf.Strconv.AtoiInnerAll
import Derived.Shelf.Strconv.RangeError
import Derived.Shelf.Strconv.ToErrorRange
import Derived.Shelf.Strconv.AtoiAll
import Derived.Shelf.Strconv.ErrVarAll
import Derived.Shelf.Strings.Search1
import Derived.Shelf.Strings.Search2
import Derived.Shelf.Strings.Cut
import Derived.Shelf.Strings.Shaped
import Derived.Shelf.Strings.Prefix
import Derived.Shelf.Strings.Runes
import Derived.Shelf.Strings.AsciiSet
import Derived.Shelf.Unicode.DecodeSlow
import Derived.Shelf.Unicode.DecodeAny
import Derived.Ground.Names2Prog
import Derived.Shelf.Slices.Clone
set_option linter.unusedVariables false
set_option linter.unusedSimpArgs false
set_option maxRecDepth 10000
namespace Go.Proofs.YtnihidkbkhcfoaaGreatDoor.V
open Go Go.Proofs
theorem Wn (w:World) (s:aa):Calls Tryz.prog 152 [S s].toArray w (bL fun u w'=>u = .tuple #[.int .i64 ((aJ s).1:Int),.int .i64 ((aJ s).2:Int)]∧Mod [] w w'):=by
 refine enter Tryz.func152 rfl rfl rfl (l:=[(0,_)]) ⟨rfl,trivial⟩ ?_;have E:=Mod.refl [] w;refine ab fun aV=>ak 2 rfl (J aV (ax fun aL=>ab fun aW=>aG rfl (ag (dQ rfl rfl) (J aW ?_))));refine aI rfl (fun k0=>?_) (fun k0=>?_)
 ·have s0:s = []:=k0;subst s0;have iQ:aJ []=(0,0):=rfl;exact ab fun br=>ak 2 rfl (J br (aZ (aO (by simp) (ct rfl rfl rfl ⟨by rw [iQ];try rfl,E⟩))))
 obtain⟨b0,r,rfl⟩:∃ b0 r,s=b0::r:=by
  cases s with
  | nil=>exact absurd rfl k0
  | cons b0 r=>exact⟨b0,r,rfl⟩
 have Dp:=b0.toNat_lt;have hlen:(b0::r).length=r.length+1:=rfl;refine ca (aw aL (ab fun bI=>aG rfl (Dq (m:=0) Tryz.underlying9 rfl rfl (by omega) (by simp) rfl fun akE agi=>?_)));obtain rfl:b0=akE:=by simpa using agi
 refine ag (p' (r:=(b0.toNat:Int)) Tryz.underlying5 Tryz.underlying3 rfl (wrap64_in _ (by omega))) (aT rfl (J bI (ax fun bW=>ab fun cb=>ak 2 rfl (J cb ?_))));refine aI rfl (fun pf=>?_) (fun pf=>?_)
 ·have iQ:=fW (b0:=b0) (r:=r) (by omega);exact ab fun cx=>ak 3 rfl (J cx (aZ (aO (by simp) (ct rfl rfl rfl ⟨by rw [iQ];try rfl,E⟩))))
 have eI:¬ b0.toNat<128:=by omega
 refine ca (aw bW (ab fun cH=>aT rfl (J cH (ab fun b5=>aT rfl (J b5 (nm fun Iy bX=>?_))))));have pg:∀ (n l c:Nat) (aB:World),ej b0.toNat=(n,l,c)∧(n=0∨c<32∧2≤n∧n≤4)∧Mod [] w aB→∀ a,Has 91 [] [(0,S (b0::r)),(4,.int .i64 (c:Int)),(5,.int .i64 (n:Int)),(6,.int .i64 (l:Int))] a→Iy a aB:=by
  intro n l c aB oE;obtain⟨hH,ck,E⟩:=oE;refine bX _ _ _ _ (ax fun cU=>ab fun b7=>ak 2 rfl ?_);refine cT (fun Wo:(n:Int)=0=>?_) (fun Wo=>?_)
  ·refine ak 6 rfl (J b7 (aD rfl ?_));have iQ:=fX (r:=r) eI hH (.inl (by omega));exact ab fun cS=>ak 2 rfl (J cS (aZ (aO (by simp) (ct rfl rfl rfl ⟨by rw [iQ];try rfl,E⟩))))
  refine ak 2 rfl (ar (bw Tryz.underlying9 rfl) (ak 2 rfl ?_));refine cT (fun Wp:((b0::r).length:Int)<n=>?_) (fun Wp=>?_)
  ·refine ag (ji rfl rfl rfl) (J b7 (aD rfl ?_));have iQ:=fX (r:=r) eI hH (.inr (by omega));exact ab fun de=>ak 2 rfl (J de (aZ (aO (by simp) (ct rfl rfl rfl ⟨by rw [iQ];try rfl,E⟩))))
  refine ag (ji rfl rfl rfl) (J b7 (aE rfl ?_));have oF:¬ (n=0∨(b0::r).length<n):=by omega
  refine ca (aw cU (ax fun dG=>ab fun eC=>aT rfl (J eC (eB (bU (σ:=Nat×Nat) (fun⟨i,d⟩=>[(0,S (b0::r)),(4,.int .i64 (d:Int)),(5,.int .i64 (n:Int)),(6,.int .i64 (l:Int)),(7,.int .i64 (i:Int))]) (fun⟨i,d⟩ aB=>1≤i∧i≤n∧hr ((r.take (n-1)).drop (i-1)) d=hr (r.take (n-1)) c∧((i=1∧d<64)∨(i=2∧d<4096)∨(i=3∧d<262144)∨(i=4∧d<16777216))∧Mod [] w aB) (fun⟨i,d⟩=>n-i) (⟨1,c⟩) ⟨rfl,rfl,rfl,rfl,rfl,trivial⟩ (⟨by omega,by omega,rfl,by omega,E⟩) ?_)))));rintro⟨i,d⟩ cN ⟨nR,hi,h4,bY,E⟩;refine ax fun eb=>ab fun fq=>ak 3 rfl (J fq ?_);refine aI rfl (fun akF=>?_) (fun akF=>?_);rotate_left
  ·have Fu:hr (r.take (n-1)) c=some d:=by rw [← h4,List.drop_eq_nil_of_le (by rw [List.length_take];omega)];rfl
   refine bm (aO (by simp) (aO (by simp) (bS (aw dG (ax fun hD=>ab fun ho=>ak 3 rfl ?_)))));refine cT (fun Ws:(d:Int)<l=>?_) (fun Ws=>?_)
   ·refine ak 12 rfl (J ho (aD rfl ?_));have iQ:=l6 eI hH oF Fu (by omega);exact ab fun hE=>ak 2 rfl (J hE (aZ (aO (by simp) (ct rfl rfl rfl ⟨by rw [iQ];try rfl,E⟩))))
   refine ak 3 rfl ?_;refine cT (fun Wt:(d:Int) > 1114111=>?_) (fun Wt=>?_)
   ·refine ak 9 rfl (J ho (aD rfl ?_));have iQ:=l6 eI hH oF Fu (by omega);exact ab fun ij=>ak 2 rfl (J ij (aZ (aO (by simp) (ct rfl rfl rfl ⟨by rw [iQ];try rfl,E⟩))))
   refine ak 3 rfl (ar (dr rfl rfl) ?_);refine cT (fun Wu:(d:Int)≥55296=>?_) (fun Wu=>?_)
   ·refine ak 5 rfl (J ho ?_);refine aI rfl (fun akH=>?_) (fun akH=>?_)
    ·have iQ:=l6 eI hH oF Fu (by omega);exact ab fun jS=>ak 2 rfl (J jS (aZ (aO (by simp) (ct rfl rfl rfl ⟨by rw [iQ];try rfl,E⟩))))
    have iQ:=lh eI hH oF Fu (by omega);exact ca (aw hD (ab fun jT=>ak 4 rfl (J jT (aZ (ct rfl rfl rfl ⟨by rw [iQ];try rfl,E⟩)))))
   refine ak 5 rfl (J ho (aE rfl ?_));have iQ:=lh eI hH oF Fu (by omega);exact ca (aw hD (ab fun lj=>ak 4 rfl (J lj (aZ (ct rfl rfl rfl ⟨by rw [iQ];try rfl,E⟩)))))
  obtain⟨dn,cC⟩:∃ dn,(b0::r)[i]? = some dn:=⟨_,List.getElem?_eq_getElem (by omega)⟩;have Pr:(r.take (n-1))[i-1]? = some dn:=by
   rw [List.getElem?_take,if_pos (by omega)];rw [← cC];obtain⟨j,rfl⟩:∃ j,i=j+1:=⟨i-1,by omega⟩;simp
  have ao5:=dn.toNat_lt;refine ca (aw eb (ax fun fE=>eB (ax fun fa=>ab fun fL=>ak 2 rfl (Dq (m:=i) Tryz.underlying9 rfl rfl (by omega) (by simp;omega) rfl fun akG aat=>?_))));obtain rfl:dn=akG:=by rw [Int.toNat_natCast,cC] at aat;injection aat
  refine ag (cI rfl rfl) ?_;refine cT (fun Wq:(dn.toNat:Int)<128=>?_) (fun Wq=>?_)
  ·refine ak 6 rfl (J fL (aD rfl ?_));have iQ:=iH eI hH oF (by rw [← h4];exact BT Pr (.inl (by omega)));exact ab fun gX=>ak 2 rfl (J gX (aZ (aO (by simp) (bx (by simp) (aO (by simp) (aO (by simp) (bx (by simp) (aO (by simp) (ct rfl rfl rfl ⟨by rw [iQ];try rfl,E⟩)))))))))
  refine ak 3 rfl (ar (b' Tryz.underlying9 rfl rfl (by omega) (by rw [Int.toNat_natCast];exact cC)) (ar (dr rfl rfl) ?_));refine cT (fun Wr:(dn.toNat:Int)≥192=>?_) (fun Wr=>?_)
  ·refine ag (ji rfl rfl rfl) (J fL (aD rfl ?_));have iQ:=iH eI hH oF (by rw [← h4];exact BT Pr (.inr (by omega)));exact ab fun hn=>ak 2 rfl (J hn (aZ (aO (by simp) (bx (by simp) (aO (by simp) (aO (by simp) (bx (by simp) (aO (by simp) (ct rfl rfl rfl ⟨by rw [iQ];try rfl,E⟩)))))))))
  refine ag (ji rfl rfl rfl) (J fL (aE rfl ?_));have hJ:=MB (d:=d) Pr (by omega);rw [show i-1+1=i by omega] at hJ;refine ca (aw fa (bQ (aG rfl (ag (xZ (r:=((d*64:Nat):Int)) rfl rfl (by rw [wrap64_in _ (by omega)];omega)) (ak 2 rfl (ag (b' Tryz.underlying9 rfl rfl (by omega) (by rw [Int.toNat_natCast];exact cC)) (ag (p' (r:=(dn.toNat:Int)) Tryz.underlying5 Tryz.underlying3 rfl (wrap64_in _ (by omega))) (ag ((kQ rfl rfl (by omega)).to (v':=.int .i64 ((dn.toNat % 64:Nat):Int)) (by rw [Int.natCast_emod];try rfl)) (ag (cW (r:=((d*64+dn.toNat % 64:Nat):Int)) rfl rfl (by rw [wrap64_in _ (by omega)];omega)) (aT rfl (cF (bx (by simp) (aw fE ?_)))))))))))));exact bQ (aG rfl (ag (aN rfl rfl (by omega)) (aT rfl (cF (fJ (σ:=Nat×Nat) (s:=⟨i,d⟩) (⟨i+1,d*64+dn.toNat % 64⟩) ⟨rfl,rfl,rfl,rfl,rfl,trivial⟩ ⟨by omega,by omega,by rw [show i+1-1=i by omega,← hJ];exact h4,by omega,E⟩ (by dsimp only;omega))))))
 refine eB (ab fun jd=>aG rfl (ag (dr rfl rfl) ?_));refine cT (fun ih:(b0.toNat:Int)≥192=>?_) (fun ih=>?_);rotate_left
 ·refine ak 5 rfl (J jd (aE rfl (ab fun rk=>aG rfl (ag (dr rfl rfl) ?_))));refine cT (fun dy:(b0.toNat:Int)≥224=>?_) (fun dy=>?_)
  ·refine ak 3 rfl ?_;refine cT (fun Dr:(b0.toNat:Int)<240=>?_) (fun Dr=>?_)
   ·refine ak 2 rfl (J rk (aD rfl (ab fun rX=>aT rfl (J rX (ab fun oG=>aT rfl (J oG (bQ (aG rfl (ag ((kQ rfl rfl (by omega)).to (v':=.int .i64 ((b0.toNat % 16:Nat):Int)) (by rw [Int.natCast_emod];try rfl)) (aT rfl (cF ?_)))))))))));refine bx (by simp) ?_;refine fI.sub (l':=[(0,_),(4,_),(5,_),(6,_)]) ⟨rfl,rfl,rfl,rfl,trivial⟩ (dU (pg 3 2048 (b0.toNat % 16) w ⟨by unfold ej;rw [if_neg (by omega),if_pos (by omega)],by omega,E⟩))
   refine ak 2 rfl (J rk (aE rfl (ab fun rl=>aG rfl (ag (dr rfl rfl) ?_))));refine cT (fun qH:(b0.toNat:Int)≥240=>?_) (fun qH=>?_)
   ·refine ak 3 rfl ?_;refine cT (fun qI:(b0.toNat:Int)<248=>?_) (fun qI=>?_)
    ·refine ak 2 rfl (J rl (aD rfl (ab fun yM=>aT rfl (J yM (ab fun yN=>aT rfl (J yN (bQ (aG rfl (ag ((kQ rfl rfl (by omega)).to (v':=.int .i64 ((b0.toNat % 8:Nat):Int)) (by rw [Int.natCast_emod];try rfl)) (aT rfl (cF ?_)))))))))));refine bx (by simp) ?_;refine fI.sub (l':=[(0,_),(4,_),(5,_),(6,_)]) ⟨rfl,rfl,rfl,rfl,trivial⟩ (dU (pg 4 65536 (b0.toNat % 8) w ⟨by unfold ej;rw [if_neg (by omega),if_neg (by omega),if_pos (by omega)],by omega,E⟩))
    refine ak 2 rfl (J rl (aE rfl (ca (bx (by simp) ?_))));refine fI.sub (l':=[(0,_),(4,_),(5,_),(6,_)]) ⟨rfl,rfl,rfl,rfl,trivial⟩ (dU (pg 0 0 b0.toNat w ⟨by unfold ej;rw [if_neg (by omega),if_neg (by omega),if_neg (by omega)],by omega,E⟩))
   refine ak 5 rfl (J rl (aE rfl (ca (bx (by simp) ?_))));refine fI.sub (l':=[(0,_),(4,_),(5,_),(6,_)]) ⟨rfl,rfl,rfl,rfl,trivial⟩ (dU (pg 0 0 b0.toNat w ⟨by unfold ej;rw [if_neg (by omega),if_neg (by omega),if_neg (by omega)],by omega,E⟩))
  refine ak 5 rfl (J rk (aE rfl (ab fun rY=>aG rfl (ag (dr rfl rfl) ?_))));refine cT (fun qH:(b0.toNat:Int)≥240=>?_) (fun qH=>?_)
  ·refine ak 3 rfl ?_;refine cT (fun qI:(b0.toNat:Int)<248=>?_) (fun qI=>?_)
   ·refine ak 2 rfl (J rY (aD rfl (ab fun yO=>aT rfl (J yO (ab fun yP=>aT rfl (J yP (bQ (aG rfl (ag ((kQ rfl rfl (by omega)).to (v':=.int .i64 ((b0.toNat % 8:Nat):Int)) (by rw [Int.natCast_emod];try rfl)) (aT rfl (cF ?_)))))))))));refine bx (by simp) ?_;refine fI.sub (l':=[(0,_),(4,_),(5,_),(6,_)]) ⟨rfl,rfl,rfl,rfl,trivial⟩ (dU (pg 4 65536 (b0.toNat % 8) w ⟨by unfold ej;rw [if_neg (by omega),if_neg (by omega),if_pos (by omega)],by omega,E⟩))
   refine ak 2 rfl (J rY (aE rfl (ca (bx (by simp) ?_))));refine fI.sub (l':=[(0,_),(4,_),(5,_),(6,_)]) ⟨rfl,rfl,rfl,rfl,trivial⟩ (dU (pg 0 0 b0.toNat w ⟨by unfold ej;rw [if_neg (by omega),if_neg (by omega),if_neg (by omega)],by omega,E⟩))
  refine ak 5 rfl (J rY (aE rfl (ca (bx (by simp) ?_))));refine fI.sub (l':=[(0,_),(4,_),(5,_),(6,_)]) ⟨rfl,rfl,rfl,rfl,trivial⟩ (dU (pg 0 0 b0.toNat w ⟨by unfold ej;rw [if_neg (by omega),if_neg (by omega),if_neg (by omega)],by omega,E⟩))
 refine ak 3 rfl ?_;refine cT (fun abJ:(b0.toNat:Int)<224=>?_) (fun abJ=>?_)
 ·refine ak 2 rfl (J jd (aD rfl (ab fun kC=>aT rfl (J kC (ab fun lk=>aT rfl (J lk (bQ (aG rfl (ag ((kQ rfl rfl (by omega)).to (v':=.int .i64 ((b0.toNat % 32:Nat):Int)) (by rw [Int.natCast_emod];try rfl)) (aT rfl (cF ?_)))))))))));refine bx (by simp) ?_;refine fI.sub (l':=[(0,_),(4,_),(5,_),(6,_)]) ⟨rfl,rfl,rfl,rfl,trivial⟩ (dU (pg 2 128 (b0.toNat % 32) w ⟨by unfold ej;rw [if_pos (by omega)],by omega,E⟩))
 refine ak 2 rfl (J jd (aE rfl (ab fun jU=>aG rfl (ag (dr rfl rfl) ?_))));refine cT (fun dy:(b0.toNat:Int)≥224=>?_) (fun dy=>?_)
 ·refine ak 3 rfl ?_;refine cT (fun Dr:(b0.toNat:Int)<240=>?_) (fun Dr=>?_)
  ·refine ak 2 rfl (J jU (aD rfl (ab fun mQ=>aT rfl (J mQ (ab fun kD=>aT rfl (J kD (bQ (aG rfl (ag ((kQ rfl rfl (by omega)).to (v':=.int .i64 ((b0.toNat % 16:Nat):Int)) (by rw [Int.natCast_emod];try rfl)) (aT rfl (cF ?_)))))))))));refine bx (by simp) ?_;refine fI.sub (l':=[(0,_),(4,_),(5,_),(6,_)]) ⟨rfl,rfl,rfl,rfl,trivial⟩ (dU (pg 3 2048 (b0.toNat % 16) w ⟨by unfold ej;rw [if_neg (by omega),if_pos (by omega)],by omega,E⟩))
  refine ak 2 rfl (J jU (aE rfl (ab fun ll=>aG rfl (ag (dr rfl rfl) ?_))));refine cT (fun qH:(b0.toNat:Int)≥240=>?_) (fun qH=>?_)
  ·refine ak 3 rfl ?_;refine cT (fun qI:(b0.toNat:Int)<248=>?_) (fun qI=>?_)
   ·refine ak 2 rfl (J ll (aD rfl (ab fun rj=>aT rfl (J rj (ab fun pt=>aT rfl (J pt (bQ (aG rfl (ag ((kQ rfl rfl (by omega)).to (v':=.int .i64 ((b0.toNat % 8:Nat):Int)) (by rw [Int.natCast_emod];try rfl)) (aT rfl (cF ?_)))))))))));refine bx (by simp) ?_;refine fI.sub (l':=[(0,_),(4,_),(5,_),(6,_)]) ⟨rfl,rfl,rfl,rfl,trivial⟩ (dU (pg 4 65536 (b0.toNat % 8) w ⟨by unfold ej;rw [if_neg (by omega),if_neg (by omega),if_pos (by omega)],by omega,E⟩))
   refine ak 2 rfl (J ll (aE rfl (ca (bx (by simp) ?_))));refine fI.sub (l':=[(0,_),(4,_),(5,_),(6,_)]) ⟨rfl,rfl,rfl,rfl,trivial⟩ (dU (pg 0 0 b0.toNat w ⟨by unfold ej;rw [if_neg (by omega),if_neg (by omega),if_neg (by omega)],by omega,E⟩))
  refine ak 5 rfl (J ll (aE rfl (ca (bx (by simp) ?_))));refine fI.sub (l':=[(0,_),(4,_),(5,_),(6,_)]) ⟨rfl,rfl,rfl,rfl,trivial⟩ (dU (pg 0 0 b0.toNat w ⟨by unfold ej;rw [if_neg (by omega),if_neg (by omega),if_neg (by omega)],by omega,E⟩))
 refine ak 5 rfl (J jU (aE rfl (ab fun mR=>aG rfl (ag (dr rfl rfl) ?_))));refine cT (fun qH:(b0.toNat:Int)≥240=>?_) (fun qH=>?_)
 ·refine ak 3 rfl ?_;refine cT (fun qI:(b0.toNat:Int)<248=>?_) (fun qI=>?_)
  ·refine ak 2 rfl (J mR (aD rfl (ab fun kE=>aT rfl (J kE (ab fun uB=>aT rfl (J uB (bQ (aG rfl (ag ((kQ rfl rfl (by omega)).to (v':=.int .i64 ((b0.toNat % 8:Nat):Int)) (by rw [Int.natCast_emod];try rfl)) (aT rfl (cF ?_)))))))))));refine bx (by simp) ?_;refine fI.sub (l':=[(0,_),(4,_),(5,_),(6,_)]) ⟨rfl,rfl,rfl,rfl,trivial⟩ (dU (pg 4 65536 (b0.toNat % 8) w ⟨by unfold ej;rw [if_neg (by omega),if_neg (by omega),if_pos (by omega)],by omega,E⟩))
  refine ak 2 rfl (J mR (aE rfl (ca (bx (by simp) ?_))));refine fI.sub (l':=[(0,_),(4,_),(5,_),(6,_)]) ⟨rfl,rfl,rfl,rfl,trivial⟩ (dU (pg 0 0 b0.toNat w ⟨by unfold ej;rw [if_neg (by omega),if_neg (by omega),if_neg (by omega)],by omega,E⟩))
 refine ak 5 rfl (J mR (aE rfl (ca (bx (by simp) ?_))));refine fI.sub (l':=[(0,_),(4,_),(5,_),(6,_)]) ⟨rfl,rfl,rfl,rfl,trivial⟩ (dU (pg 0 0 b0.toNat w ⟨by unfold ej;rw [if_neg (by omega),if_neg (by omega),if_neg (by omega)],by omega,E⟩))
set_option maxRecDepth 10000
theorem Wv:aQ Tryz.prog 152:=aQ.of Tryz.func152 (by kernel_rfl) (by kernel_rfl)
theorem BU (w:World) (s:aa):Calls Tryz.prog 140 [S s].toArray w (bL fun u w'=>u = .bool (cn s)∧Mod [] w w'):=by
 refine enter Tryz.func140 rfl rfl rfl (l:=[(0,_)]) ⟨rfl,trivial⟩ ?_;have E:=Mod.refl [] w;refine ab fun aV=>aT rfl (J aV (ax fun aL=>eB (bU (σ:=aa) (fun s1=>[(0,S s1)]) (fun s1 aB=>cn s=cn s1∧Mod [] w aB) (fun s1=>s1.length) (s) ⟨rfl,trivial⟩ (⟨rfl,E⟩) ?_)));rintro s1 aB ⟨bK,E⟩;refine ax fun aW=>ab fun br=>aG rfl (ag (eu rfl rfl) (J br ?_));refine aI rfl (fun eW=>?_) (fun eW=>?_)
 ·have b1:s1≠[]:=eW;refine ca (aw aW (eB (ab fun bI=>aG rfl (cP (bF Wv rfl) (Wn _ _) fun cN R=>?_))));replace E:=E.then R;refine ak 5 rfl (J bI (ax fun bW=>ab fun cb=>ak 2 rfl (J cb ?_)));refine aI rfl (fun tx=>?_) (fun tx=>?_)
  ·have iQ:cn s=false:=by rw [bK,tC b1 (by omega)]
   exact ab fun cx=>aT rfl (J cx (aZ (aO (by simp) (bx (by simp) (aO (by simp) (bx (by simp) (aO (by simp) (au rfl rfl ⟨by rw [iQ],E⟩))))))))
  have abK:(aJ s1).2≠0:=by omega
  refine ca (aw bW (bQ (ak 2 rfl ?_)));have hle:=kd s1;exact ag (cG Tryz.underlying9 rfl rfl hle) (aT rfl (cF (bx (by simp) (fJ (σ:=aa) (s:=s1) (s1.drop (aJ s1).2) ⟨rfl,trivial⟩ ⟨bK.trans (k1 b1 abK),E⟩ ((by have:=kd s1;have b3:s1.length≠0:=fun e=>b1 (List.eq_nil_of_length_eq_zero e);simp only [List.length_drop];omega))))))
 have uC:s1 = []:=Classical.byContradiction eW;have iQ:cn s=true:=by rw [bK,uC,mS]
 exact bm (aO (by simp) (aO (by simp) (bS (aw aL (ab fun cH=>aT rfl (J cH (aZ (au rfl rfl ⟨by rw [iQ],E⟩))))))))
set_option maxRecDepth 10000
theorem KW:aQ Tryz.prog 140:=aQ.of Tryz.func140 (by kernel_rfl) (by kernel_rfl)
theorem cV:lC Tryz.prog 65 5 1 1=true:=by kernel_rfl
theorem kF:hG Tryz.prog 5 ([.int .u8 0]):=by unfold hG;kernel_rfl
theorem Ww (w:World) (s:aa) (bf:s.length≤65536):Calls Tryz.prog 200 [S s].toArray w (bL fun u w'=>u = .tuple #[S (if cn s then cw s else []),.bool (cn s)]∧Mod [] w w'):=by
 refine enter Tryz.func200 rfl rfl rfl (l:=[(0,_)]) ⟨rfl,trivial⟩ ?_;have E:=Mod.refl [] w;refine ab fun aV=>ak 2 rfl (J aV (ax fun aL=>ab fun aW=>aG rfl (cP (bF KW rfl) (BU _ _) fun aB R=>?_)));replace E:=E.then R;refine ag (ff rfl) (J aW ?_);refine a7 rfl (fun kb=>?_) (fun kb=>?_)
 ·have qc:cn s=false:=by simpa using kb
  exact ab fun br=>ak 2 rfl (J br (aZ (aO (by simp) (ct rfl rfl rfl ⟨by rw [qc];rfl,E⟩))))
 have qc:cn s=true:=by simpa using kb
 refine ca (aw aL (ab fun bI=>aT rfl (J bI (ab fun bW=>bD (cs:=[_]) cV kF rfl rfl rfl (by decide) rfl fun g1 cN bR=>?_))));have bH:=bR.le E;replace E:=E.then bR.mod;have U:=bR.az;refine aT rfl (J bW (ax fun cb=>ab fun cx=>aT rfl (J cx (eB (bU (σ:=Nat×Value) (fun⟨k,v⟩=>[(0,S s),(4,S iI),(5,v),(6,.int .i64 (k:Int))]) (fun⟨k,v⟩ aB=>k≤s.length∧Own aB 5 1 v ((34::db (s.take k))).length ((((34::db (s.take k))).map uD).flatten)∧(∀ x∈a1 v,w.heap.size≤x)∧Mod [] w aB) (fun⟨k,v⟩=>s.length-k) (⟨0,.slice (some ⟨g1,0,none⟩) 1 1⟩) ⟨rfl,rfl,rfl,rfl,trivial⟩ (⟨by omega,(Own.all (c:=1) U rfl (by omega)).same rfl rfl,by simp only [a1,List.mem_singleton];intro x ae;subst ae;exact bH,E⟩) ?_)))));rintro⟨k,v⟩ fV ⟨hk,ln,my,E⟩;refine ax fun cH=>ab fun b5=>ak 2 rfl (ag (bw Tryz.underlying9 rfl) (ag (cI rfl rfl) (J b5 ?_)));refine aI rfl (fun ks=>?_) (fun ks=>?_);rotate_left
 ·have kG:s.take k=s:=List.take_of_length_le (by omega);refine bm (aO (by simp) (aO (by simp) (bS (aw cb (ab fun fE=>aG rfl (bD (cs:=[_]) cV kF rfl rfl rfl (by decide) rfl fun g11 Fz FA=>?_))))));have ajR:=FA.le E;have FB:=FA.b8 ln;replace E:=E.then FA.mod;replace ln:=ln.I FA.mod;have BW:=FA.az;have MC:=l7 s;have yH:(34::db (s.take k)).length=(db s).length+1:=by rw [kG];rfl
  refine bu cV rfl rfl ln (Src.own Tryz.underlying65 (Own.all (cs:=[_]) BW rfl (by omega)) (by simp [Value.oneCell'])) (by decide) (by omega) (by omega) rfl fun v10 Bi Pz=>?_;have afv:=Pz.ne FB BW;have ajS:=Pz.ge my E;replace BW:=BW.mod Pz.mod (fun ae=>FB _ ae rfl);replace E:=E.trans' Pz.mod (fun x ae=>.inr (my x ae));replace ln:=Pz.own;exact ag (oH (u:=cw s) Tryz.underlying65 Tryz.underlying5 Tryz.underlying9 rfl (ln.same (by rw [kG];simp [cw]) (by rw [kG];simp [cw,j8,dj]))) (ak 2 rfl (J fE (aZ (ct rfl rfl rfl ⟨by rw [qc];rfl,E⟩))))
 refine ca (aw cH (ax fun bX=>eB (ab fun cU=>ak 2 rfl (Dq (m:=k) Tryz.underlying9 rfl rfl (by omega) (by simp;omega) rfl fun c bj=>?_))));rw [Int.toNat_natCast] at bj;have lE:=c.toNat_lt;have MC:=l7 (s.take k);have Bf:(s.take k).length=k:=by rw [List.length_take];omega
 have yH:(34::db (s.take k)).length=(db (s.take k)).length+1:=rfl;refine aT rfl (J cU (eB (ab fun b7=>ak 2 rfl ?_)));refine cT (fun Wx:(c.toNat:Int)=34=>?_) (fun Wx=>?_)
 ·refine ak 5 rfl (J b7 (aD rfl (bQ (ak 2 rfl (bD (cs:=[_,_]) cV kF rfl rfl rfl (by decide) rfl fun g2 ic cK=>?_)))));have b4:=cK.le E;have mz:=cK.b8 ln;replace E:=E.then cK.mod;replace ln:=ln.I cK.mod;have ah:=cK.az;have iJ:=Ds (c:=c) (by omega);refine bu cV rfl rfl ln (Src.own Tryz.underlying65 (Own.all (cs:=[_,_]) ah rfl (by omega)) (by simp [Value.oneCell'])) (by decide) (by omega) (by omega) rfl fun v1 jn jj=>?_;have KU:=jj.ne mz ah;have tz:=jj.ge my E;replace ah:=ah.mod jj.mod (fun ae=>mz _ ae rfl);replace E:=E.trans' jj.mod (fun x ae=>.inr (my x ae));replace ln:=jj.own;exact aT rfl (cF (bx (by simp) (bx (by simp) (aw bX (bQ (aG rfl (ag (aN rfl rfl (by omega)) (aT rfl (cF (fJ (σ:=Nat×Value) (s:=⟨k,v⟩) (⟨k+1,v1⟩) ⟨rfl,rfl,rfl,rfl,trivial⟩ ⟨by omega,ln.same (by rw [ev bj,iJ];simp) (by rw [ev bj,iJ];simp [j8]),tz,E⟩ (by dsimp only;omega)))))))))))
 refine ak 3 rfl ?_;refine cT (fun Wy:(c.toNat:Int)=92=>?_) (fun Wy=>?_)
 ·refine ak 2 rfl (J b7 (aD rfl (bQ (ak 2 rfl (bD (cs:=[_,_]) cV kF rfl rfl rfl (by decide) rfl fun g3 jC eQ=>?_)))));have dJ:=eQ.le E;have nP:=eQ.b8 ln;replace E:=E.then eQ.mod;replace ln:=ln.I eQ.mod;have bz:=eQ.az;have iJ:=Ds (c:=c) (by omega);refine bu cV rfl rfl ln (Src.own Tryz.underlying65 (Own.all (cs:=[_,_]) bz rfl (by omega)) (by simp [Value.oneCell'])) (by decide) (by omega) (by omega) rfl fun v2 iw Bd=>?_;have Wz:=Bd.ne nP bz;have yL:=Bd.ge my E;replace bz:=bz.mod Bd.mod (fun ae=>nP _ ae rfl);replace E:=E.trans' Bd.mod (fun x ae=>.inr (my x ae));replace ln:=Bd.own;exact aT rfl (cF (bx (by simp) (bx (by simp) (aw bX (bQ (aG rfl (ag (aN rfl rfl (by omega)) (aT rfl (cF (fJ (σ:=Nat×Value) (s:=⟨k,v⟩) (⟨k+1,v2⟩) ⟨rfl,rfl,rfl,rfl,trivial⟩ ⟨by omega,ln.same (by rw [ev bj,iJ];simp) (by rw [ev bj,iJ];simp [j8]),yL,E⟩ (by dsimp only;omega)))))))))))
 refine ak 2 rfl (J b7 (aE rfl (ab fun cS=>ak 3 rfl (J cS ?_))));refine aI rfl (fun nS=>?_) (fun nS=>?_)
 ·refine bQ (aG rfl (bD (cs:=[_,_]) cV kF rfl rfl rfl (by decide) rfl fun g4 n' N4=>?_));have fO:=N4.le E;have nQ:=N4.b8 ln;replace E:=E.then N4.mod;replace ln:=ln.I N4.mod;have bg:=N4.az;have iJ:=Ps nS;refine bu cV rfl rfl ln (Src.own Tryz.underlying65 (Own.all (cs:=[_,_]) bg rfl (by omega)) (by simp [Value.oneCell'])) (by decide) (by omega) (by omega) rfl fun v3 lY Be=>?_;have WA:=Be.ne nQ bg;have Dm:=Be.ge my E;replace bg:=bg.mod Be.mod (fun ae=>nQ _ ae rfl);replace E:=E.trans' Be.mod (fun x ae=>.inr (my x ae));replace ln:=Be.own;exact aT rfl (cF (bx (by simp) (bx (by simp) (aw bX (bQ (aG rfl (ag (aN rfl rfl (by omega)) (aT rfl (cF (fJ (σ:=Nat×Value) (s:=⟨k,v⟩) (⟨k+1,v3⟩) ⟨rfl,rfl,rfl,rfl,trivial⟩ ⟨by omega,ln.same (by rw [ev bj,iJ];simp) (by rw [ev bj,iJ];simp [j8]),Dm,E⟩ (by dsimp only;omega)))))))))))
 refine ab fun de=>ak 3 rfl (J de ?_);refine aI rfl (fun Fv=>?_) (fun Fv=>?_)
 ·refine bQ (aG rfl (bD (cs:=[_,_]) cV kF rfl rfl rfl (by decide) rfl fun g5 iy fC=>?_));have oB:=fC.le E;have sH:=fC.b8 ln;replace E:=E.then fC.mod;replace ln:=ln.I fC.mod;have dL:=fC.az;have iJ:=Pt Fv;refine bu cV rfl rfl ln (Src.own Tryz.underlying65 (Own.all (cs:=[_,_]) dL rfl (by omega)) (by simp [Value.oneCell'])) (by decide) (by omega) (by omega) rfl fun v4 kr agj=>?_;have ajL:=agj.ne sH dL;have abL:=agj.ge my E;replace dL:=dL.mod agj.mod (fun ae=>sH _ ae rfl);replace E:=E.trans' agj.mod (fun x ae=>.inr (my x ae));replace ln:=agj.own;exact aT rfl (cF (bx (by simp) (bx (by simp) (aw bX (bQ (aG rfl (ag (aN rfl rfl (by omega)) (aT rfl (cF (fJ (σ:=Nat×Value) (s:=⟨k,v⟩) (⟨k+1,v4⟩) ⟨rfl,rfl,rfl,rfl,trivial⟩ ⟨by omega,ln.same (by rw [ev bj,iJ];simp) (by rw [ev bj,iJ];simp [j8]),abL,E⟩ (by dsimp only;omega)))))))))))
 refine ab fun dG=>ak 3 rfl (J dG ?_);refine aI rfl (fun Bg=>?_) (fun Bg=>?_)
 ·refine bQ (aG rfl (bD (cs:=[_,_]) cV kF rfl rfl rfl (by decide) rfl fun g6 qa kc=>?_));have tB:=kc.le E;have uA:=kc.b8 ln;replace E:=E.then kc.mod;replace ln:=ln.I kc.mod;have iP:=kc.az;have iJ:=Pu Bg;refine bu cV rfl rfl ln (Src.own Tryz.underlying65 (Own.all (cs:=[_,_]) iP rfl (by omega)) (by simp [Value.oneCell'])) (by decide) (by omega) (by omega) rfl fun v5 oC agk=>?_;have ajM:=agk.ne uA iP;have abM:=agk.ge my E;replace iP:=iP.mod agk.mod (fun ae=>uA _ ae rfl);replace E:=E.trans' agk.mod (fun x ae=>.inr (my x ae));replace ln:=agk.own;exact aT rfl (cF (bx (by simp) (bx (by simp) (aw bX (bQ (aG rfl (ag (aN rfl rfl (by omega)) (aT rfl (cF (fJ (σ:=Nat×Value) (s:=⟨k,v⟩) (⟨k+1,v5⟩) ⟨rfl,rfl,rfl,rfl,trivial⟩ ⟨by omega,ln.same (by rw [ev bj,iJ];simp) (by rw [ev bj,iJ];simp [j8]),abM,E⟩ (by dsimp only;omega)))))))))))
 refine ab fun eC=>ak 3 rfl (J eC ?_);refine aI rfl (fun Bh=>?_) (fun Bh=>?_)
 ·refine bQ (aG rfl (bD (cs:=[_,_]) cV kF rfl rfl rfl (by decide) rfl fun g7 qJ pa=>?_));have Iz:=pa.le E;have KX:=pa.b8 ln;replace E:=E.then pa.mod;replace ln:=ln.I pa.mod;have xF:=pa.az;have iJ:=Pv Bh;refine bu cV rfl rfl ln (Src.own Tryz.underlying65 (Own.all (cs:=[_,_]) xF rfl (by omega)) (by simp [Value.oneCell'])) (by decide) (by omega) (by omega) rfl fun v6 qd agl=>?_;have ajN:=agl.ne KX xF;have abN:=agl.ge my E;replace xF:=xF.mod agl.mod (fun ae=>KX _ ae rfl);replace E:=E.trans' agl.mod (fun x ae=>.inr (my x ae));replace ln:=agl.own;exact aT rfl (cF (bx (by simp) (bx (by simp) (aw bX (bQ (aG rfl (ag (aN rfl rfl (by omega)) (aT rfl (cF (fJ (σ:=Nat×Value) (s:=⟨k,v⟩) (⟨k+1,v6⟩) ⟨rfl,rfl,rfl,rfl,trivial⟩ ⟨by omega,ln.same (by rw [ev bj,iJ];simp) (by rw [ev bj,iJ];simp [j8]),abN,E⟩ (by dsimp only;omega)))))))))))
 refine ab fun eb=>ak 3 rfl (J eb ?_);refine aI rfl (fun Fw=>?_) (fun Fw=>?_)
 ·refine bQ (aG rfl (bD (cs:=[_,_]) cV kF rfl rfl rfl (by decide) rfl fun g8 rz um=>?_));have Pw:=um.le E;have KY:=um.b8 ln;replace E:=E.then um.mod;replace ln:=ln.I um.mod;have Dt:=um.az;have iJ:=Px Fw;refine bu cV rfl rfl ln (Src.own Tryz.underlying65 (Own.all (cs:=[_,_]) Dt rfl (by omega)) (by simp [Value.oneCell'])) (by decide) (by omega) (by omega) rfl fun aqQ uE agm=>?_;have ajO:=agm.ne KY Dt;have abO:=agm.ge my E;replace Dt:=Dt.mod agm.mod (fun ae=>KY _ ae rfl);replace E:=E.trans' agm.mod (fun x ae=>.inr (my x ae));replace ln:=agm.own;exact aT rfl (cF (bx (by simp) (bx (by simp) (aw bX (bQ (aG rfl (ag (aN rfl rfl (by omega)) (aT rfl (cF (fJ (σ:=Nat×Value) (s:=⟨k,v⟩) (⟨k+1,aqQ⟩) ⟨rfl,rfl,rfl,rfl,trivial⟩ ⟨by omega,ln.same (by rw [ev bj,iJ];simp) (by rw [ev bj,iJ];simp [j8]),abO,E⟩ (by dsimp only;omega)))))))))))
 refine ab fun fq=>ak 3 rfl (J fq ?_);refine aI rfl (fun akI=>?_) (fun akI=>?_);rotate_left
 ·refine bQ (ak 2 rfl (bD (cs:=[_]) cV kF rfl rfl rfl (by decide) rfl fun g10 xG Fx=>?_));have ajQ:=Fx.le E;have Fy:=Fx.b8 ln;replace E:=E.then Fx.mod;replace ln:=ln.I Fx.mod;have BV:=Fx.az;have iJ:=(IA (c:=c) (by omega) (by omega) nS Fv Bg Bh Fw).trans (if_neg (by omega));refine bu cV rfl rfl ln (Src.own Tryz.underlying65 (Own.all (cs:=[_]) BV rfl (by omega)) (by simp [Value.oneCell'])) (by decide) (by omega) (by omega) rfl fun v9 yQ ago=>?_;have agp:=ago.ne Fy BV;have abQ:=ago.ge my E;replace BV:=BV.mod ago.mod (fun ae=>Fy _ ae rfl);replace E:=E.trans' ago.mod (fun x ae=>.inr (my x ae));replace ln:=ago.own;exact aT rfl (cF (bx (by simp) (bx (by simp) (aw bX (bQ (aG rfl (ag (aN rfl rfl (by omega)) (aT rfl (cF (fJ (σ:=Nat×Value) (s:=⟨k,v⟩) (⟨k+1,v9⟩) ⟨rfl,rfl,rfl,rfl,trivial⟩ ⟨by omega,ln.same (by rw [ev bj,iJ];simp) (by rw [ev bj,iJ];simp [j8]),abQ,E⟩ (by dsimp only;omega)))))))))))
 refine jI [0] [1,2,3,4,5,6,7,8] 9 [10,11] wide (by kernel_rfl) (fun _ _ _ h=>h.2) (WB (fun _=>(ec rfl)) rfl rfl (iN (f' 2 rfl rfl (ai (fun R=>((Py rfl rfl (by omega)).to (v':=.int .u8 ((c.toNat / 16:Nat):Int)) (by rw [Int.tdiv_eq_ediv_of_nonneg (by omega),iR _ (by omega),Int.natCast_ediv];try rfl))) (ai (fun R=>(b' Tryz.underlying9 rfl rfl (by omega) (by rw [Int.toNat_natCast];exact x0 (by omega)))) (f' 2 rfl rfl (ai (fun R=>((kQ rfl rfl (by omega)).to (v':=.int .u8 ((c.toNat % 16:Nat):Int)) (by rw [Int.natCast_emod];try rfl))) (ai (fun R=>(b' Tryz.underlying9 rfl rfl (by omega) (by rw [Int.toNat_natCast];exact x0 (by omega)))) (mJ rfl fun tD R=>?_)))))))));replace E:=E.then R;replace ln:=ln.I R;refine bD (cs:=[_,_,_,_,_,_]) cV kF rfl rfl rfl (by decide) rfl fun g9 tE vQ=>?_;have vZ:=vQ.le E;have KZ:=vQ.b8 ln;replace E:=E.then vQ.mod;replace ln:=ln.I vQ.mod;have lv:=vQ.az;have iJ:=(IA (c:=c) (by omega) (by omega) nS Fv Bg Bh Fw).trans (if_pos (by omega));refine bu cV rfl rfl ln (Src.own Tryz.underlying65 (Own.all (cs:=[_,_,_,_,_,_]) lv rfl (by omega)) (by simp [Value.oneCell'])) (by decide) (by omega) (by omega) rfl fun ao6 rZ agn=>?_;have ajP:=agn.ne KZ lv;have abP:=agn.ge my E;replace lv:=lv.mod agn.mod (fun ae=>KZ _ ae rfl);replace E:=E.trans' agn.mod (fun x ae=>.inr (my x ae));replace ln:=agn.own;exact aT rfl (cF (bx (by simp) (bx (by simp) (aw bX (bQ (aG rfl (ag (aN rfl rfl (by omega)) (aT rfl (cF (fJ (σ:=Nat×Value) (s:=⟨k,v⟩) (⟨k+1,ao6⟩) ⟨rfl,rfl,rfl,rfl,trivial⟩ ⟨by omega,ln.same (by rw [ev bj,iJ];simp) (by rw [ev bj,iJ];simp [j8]),abP,E⟩ (by dsimp only;omega)))))))))))
set_option maxRecDepth 10000
theorem WC:aQ Tryz.prog 200:=aQ.of Tryz.func200 (by kernel_rfl) (by kernel_rfl)
theorem iS:aQ Tryz.prog 175:=aQ.of Tryz.func175 (by kernel_rfl) (by kernel_rfl)
theorem WD (w:World) (v:JV) (us:List Value) (asp:ao [] w v.D us):Calls Tryz.prog 174 [.agg us.toArray].toArray w (bL fun u w'=>u = .bool v.bare∧Mod [] w w'):=by
 refine enter Tryz.func174 rfl rfl rfl (l:=[(0,_)]) ⟨rfl,trivial⟩ ?_;have E:=Mod.refl [] w;obtain⟨al,cl,am,cm,rfl,kW,jJ⟩:=JV.bb asp;refine ab fun aV=>dP rfl rfl rfl fun g1 aB bR=>?_;have bH:=bR.le E;replace E:=E.then bR.mod;have U:=bR.az;refine aT rfl (J aV (ab fun aL=>ag (a8 (vs:=[_,_,_,_,_,_]) aK rfl rfl (U.cs rfl)) (bt cB rfl fun g2 cN cK=>?_)));have b4:=cK.le E;have bP:=cK.ne U;replace U:=U.I cK.mod;replace E:=E.then cK.mod;have ah:=cK.az;refine bo (vs:=[_,_,_,_,_,_]) aK ah rfl rfl rfl (by simp [Value.oneCell']) (by simp) fun fV sF=>?_;replace U:=U.ne sF.mod bP;replace E:=E.own sF.mod b4;replace ah:aF fV g2 _ [_,_,_,_,_,_]:=sF.az;refine J aL (nm fun K3 aW=>?_);have J3:∀ (dn:Bool) (rI:Int) (s1:aa) (pb:Option Addr) (dZ c1:Nat) (a2:Option Addr) (j9 c2:Nat) (aB:World),v.bare=(!dn&&decide (rI=0)&&decide (s1 = [])&&decide (dZ=0)&&decide (j9=0))∧aF aB g2 25 [.int .i64 v.kind,.bool dn,.int .i64 rI,S s1,.slice pb dZ c1,.slice a2 j9 c2]∧Mod [] w aB→∀ a,Has 57 [] [(3,.pointer (some ⟨g2,0,none⟩))] a→K3 a aB:=by
  intro dn rI s1 pb dZ c1 a2 j9 c2 ic oE;obtain⟨eh,ah,E⟩:=oE;refine aW _ _ _ _ (ab fun br=>ag (av qF rfl) (ag (bc jr rfl (ah.cell rfl)) (ag (ff rfl) ?_)));refine mT (fun WE:(!dn)=true=>?_) (fun WE=>?_)
  ·refine aG rfl (ar (av kP rfl) (ar (bc dE rfl (ah.cell rfl)) (ar (lT rfl rfl) ?_)));refine cT (fun WG:rI=0=>?_) (fun WG=>?_)
   ·refine ak 2 rfl (ar (av ju rfl) (ar (bc bs rfl (ah.cell rfl)) (ar (dQ rfl rfl) ?_)));refine cT (fun WH:s1 = []=>?_) (fun WH=>?_)
    ·refine ak 2 rfl (ar (av gA rfl) (ar (bc jL rfl (ah.cell rfl)) (ar (bl Tryz.underlying22 rfl) (ar (lT rfl rfl) ?_))));refine cT (fun WI:(dZ:Int)=0=>?_) (fun WI=>?_)
     ·refine ak 2 rfl (ar (av b9 rfl) (ar (bc dB rfl (ah.cell rfl)) (ar (bl Tryz.underlying23 rfl) (ar (lT rfl rfl) ?_))));refine cT (fun WJ:(j9:Int)=0=>?_) (fun WJ=>?_)
      ·exact ak 2 rfl (J br (aZ (au rfl rfl ⟨by rw [eh];clear eh;simp_all,E⟩)))
      exact ak 2 rfl (J br (aZ (au rfl rfl ⟨by rw [eh];clear eh;simp_all,E⟩)))
     exact ak 8 rfl (J br (aZ (au rfl rfl ⟨by rw [eh];clear eh;simp_all,E⟩)))
    exact ak 14 rfl (J br (aZ (au rfl rfl ⟨by rw [eh];clear eh;simp_all,E⟩)))
   exact ak 19 rfl (J br (aZ (au rfl rfl ⟨by rw [eh];clear eh;simp_all,E⟩)))
  exact ak 23 rfl (J br (aZ (au rfl rfl ⟨by rw [eh];clear eh;simp_all,E⟩)))
 refine ab fun bI=>ag (av hC rfl) (ag (bc dE rfl (U.cell rfl)) (J bI (eB (ab fun bW=>ak 2 rfl (J bW ?_)))));refine aI rfl (fun kz=>?_) (fun kz=>?_)
 ·refine ca (bx (by simp) ?_);refine fI.sub (l':=[(3,_)]) ⟨rfl,trivial⟩ (dU (J3 v.is v.num v.str al v.list.length cl am v.map.length cm fV ⟨by simp [JV.bare,kz],ah,E⟩))
 refine ab fun cb=>ak 2 rfl (J cb ?_);refine aI rfl (fun k0=>?_) (fun k0=>?_)
 ·refine bQ (ag (av qF rfl) (ea jr ah rfl rfl rfl (by simp) fun jn hx=>?_));replace U:=U.ne hx.mod bP;replace E:=E.own hx.mod b4;replace ah:aF jn g2 _ [_,_,_,_,_,_]:=hx.az;refine cF (bx (by simp) ?_);refine fI.sub (l':=[(3,_)]) ⟨rfl,trivial⟩ (dU (J3 false v.num v.str al v.list.length cl am v.map.length cm jn ⟨by simp [JV.bare,k0],ah,E⟩))
 refine ab fun cx=>ak 2 rfl (J cx ?_);refine aI rfl (fun uF=>?_) (fun uF=>?_)
 ·refine ab fun cH=>ag (av kP rfl) (ea dE ah rfl rfl rfl (by simp) fun jC nq=>?_);replace U:=U.ne nq.mod bP;replace E:=E.own nq.mod b4;replace ah:aF jC g2 _ [_,_,_,_,_,_]:=nq.az;refine J cH (ab fun b5=>ag (av kP rfl) (ag (bc dE rfl (U.cell rfl)) (ag (gq rfl rfl) ?_)));refine cT (fun yw:v.num > 9007199254740991=>?_) (fun yw=>?_)
  ·refine ak 5 rfl (J b5 (aD rfl ?_));have dI:v.bare=false:=by simp only [JV.bare,uF];simp;intros;omega
   exact ab fun bX=>aT rfl (J bX (aZ (bx (by simp) (aO (by simp) (au rfl rfl ⟨by rw [dI],E⟩)))))
  refine aG rfl (ar (av kP rfl) (ar (bc dE rfl (U.cell rfl)) (ak 2 rfl (J b5 ?_))));refine aI rfl (fun xD=>?_) (fun xD=>?_)
  ·have dI:v.bare=false:=by simp only [JV.bare,uF];simp;intros;omega
   exact ab fun cU=>aT rfl (J cU (aZ (bx (by simp) (aO (by simp) (au rfl rfl ⟨by rw [dI],E⟩)))))
  have akJ : -9007199254740991≤v.num∧v.num≤9007199254740991:=by omega
  refine ca (bx (by simp) ?_);refine fI.sub (l':=[(3,_)]) ⟨rfl,trivial⟩ (dU (J3 v.is 0 v.str al v.list.length cl am v.map.length cm jC ⟨by simp [JV.bare,uF,akJ],ah,E⟩))
 refine ab fun b7=>ak 2 rfl (J b7 ?_);refine aI rfl (fun Bj=>?_) (fun Bj=>?_)
 ·refine bQ (ag (av ju rfl) (ea bs ah rfl rfl rfl (by simp) fun iw pe=>?_));replace U:=U.ne pe.mod bP;replace E:=E.own pe.mod b4;replace ah:aF iw g2 _ [_,_,_,_,_,_]:=pe.az;refine cF (bx (by simp) ?_);refine fI.sub (l':=[(3,_)]) ⟨rfl,trivial⟩ (dU (J3 v.is v.num [] al v.list.length cl am v.map.length cm iw ⟨by simp [JV.bare,Bj],ah,E⟩))
 refine ab fun cS=>ak 2 rfl (J cS ?_);refine aI rfl (fun jF=>?_) (fun jF=>?_)
 ·refine bQ (ag (av gA rfl) (ea jL ah rfl rfl rfl (by simp) fun n' nG=>?_));replace U:=U.ne nG.mod bP;replace E:=E.own nG.mod b4;replace ah:aF n' g2 _ [_,_,_,_,_,_]:=nG.az;refine cF (bx (by simp) ?_);refine fI.sub (l':=[(3,_)]) ⟨rfl,trivial⟩ (dU (J3 v.is v.num v.str none 0 0 am v.map.length cm n' ⟨by simp [JV.bare,jF],ah,E⟩))
 refine ab fun de=>ak 2 rfl (J de ?_);refine aI rfl (fun xH=>?_) (fun xH=>?_)
 ·refine bQ (ag (av b9 rfl) (ea dB ah rfl rfl rfl (by simp) fun lY ox=>?_));replace U:=U.ne ox.mod bP;replace E:=E.own ox.mod b4;replace ah:aF lY g2 _ [_,_,_,_,_,_]:=ox.az;refine cF (bx (by simp) ?_);refine fI.sub (l':=[(3,_)]) ⟨rfl,trivial⟩ (dU (J3 v.is v.num v.str al v.list.length cl none 0 0 lY ⟨by simp [JV.bare,xH],ah,E⟩))
 have dI:v.bare=false:=by simp only [JV.bare];simp;intros;omega
 exact ab fun dG=>aT rfl (J dG (aZ (bx (by simp) (aO (by simp) (au rfl rfl ⟨by rw [dI],E⟩)))))
theorem gY (w:World) (b:aa) (hR:Value) (O:hK w hR b):Calls Tryz.prog 175 [hR].toArray w (bL fun u w'=>∃ jx,u = .tuple #[jx,.int .i64 (e7 (cu b))]∧(jx=hR∧iA (cu b)=b∨jx = .slice none 0 0∧iA (cu b) = [])∧Mod [] w w'):=by
 refine enter Tryz.func175 rfl rfl rfl (l:=[(0,_)]) ⟨rfl,trivial⟩ ?_;have E:=Mod.refl [] w;obtain⟨ad,c,rfl,fH,gC⟩:=O.form;refine ab fun aV=>ak 2 rfl (J aV (ax fun aL=>ab fun aW=>aG rfl (ag (bl Tryz.underlying65 rfl) (ag (gq rfl rfl) (J aW ?_)))));refine aI rfl (fun eW=>?_) (fun eW=>?_)
 ·have cg:cu b = .error 3:=if_pos (by omega);exact ab fun br=>ak 2 rfl (J br (aZ (aO (by simp) (ct rfl rfl rfl ⟨_,by rw [cg];rfl,.inr ⟨rfl,by rw [cg];rfl⟩,E⟩))))
 have cg:cu b = .ok b:=if_neg (by omega);exact ca (aw aL (ab fun bI=>ak 3 rfl (J bI (aZ (ct rfl rfl rfl ⟨_,by rw [cg];rfl,.inl ⟨rfl,by rw [cg];rfl⟩,E⟩)))))
theorem yR (w:World) (b s:aa) (hR:Value) (O:hK w hR b) (aS:b.length≤65536):Calls Tryz.prog 176 [hR,S s].toArray w (bL fun u w'=>xI w w' hR (fb b s) u):=by
 refine enter Tryz.func176 rfl rfl rfl (l:=[(0,_),(1,_)]) ⟨rfl,rfl,trivial⟩ ?_;have E:=Mod.refl [] w;refine ab fun aV=>ak 2 rfl (J aV (ax fun aL=>ab fun aW=>aG rfl (ag (bw Tryz.underlying9 rfl) (ag (gq rfl rfl) (J aW ?_)))));refine aI rfl (fun kb=>?_) (fun kb=>?_)
 ·have bq:fb b s = .error 3:=if_pos (by omega);exact ab fun br=>ak 2 rfl (J br (aZ (aO (by simp) (ct rfl rfl rfl (xI.err E (by decide) bq)))))
 have Fl:s.length≤65536:=by omega
 refine ca (aw aL (ab fun bI=>aG rfl (cP (bF WC rfl) (Ww _ s (by omega)) fun aB R=>?_)));replace E:=E.then R;refine ak 5 rfl (J bI (ax fun bW=>ab fun cb=>ak 2 rfl (J cb ?_)));refine a7 rfl (fun vV=>?_) (fun vV=>?_)
 ·have bK:cn s=false:=by simpa using vV
  have bq:fb b s = .error 1:=by rw [fb,if_neg (by omega),bK];rfl
  exact ab fun cx=>ak 2 rfl (J cx (aZ (aO (by simp) (ct rfl rfl rfl (xI.err E (by decide) bq)))))
 have bK:cn s=true:=by simpa using vV
 have bq:fb b s=cu (b++cw s):=by rw [fb,if_neg (by omega),bK];rfl
 refine ca (aw bW (ab fun cH=>ak 2 rfl ?_));have MC:=l7 s;have WK:(cw s).length=(db s).length+2:=by simp [cw]
 replace O:=O.I E;rw [bK,if_pos rfl];refine bu cV rfl rfl O (Src.str Tryz.underlying9 _) (by decide) (by first | omega | (simp only [List.length_append,List.length_cons,List.length_nil] at *;omega)) (by first | omega | (simp only [List.length_append,List.length_cons,List.length_nil] at *;omega)) rfl fun gi cN eD=>?_;have eS:hK cN gi (b++cw s):=eD.own.same (by simp) (by simp [dj,j8]);refine fA (bF iS rfl) (gY _ (b++cw s) _ eS) rfl fun cO fV aA=>?_;obtain⟨jx,rfl,jt,R⟩:=aA;exact ak 4 rfl (J cH (aZ (ct rfl rfl rfl (xI.ik E eD eS jt R bq))))
end Go.Proofs.YtnihidkbkhcfoaaGreatDoor.V
namespace Go.Proofs
open Go.Shelf
def Tryz.Bo:Go.Shelf.Ren:=⟨fun | 171=>120 | 243=>158 | 246=>189 | 283=>221 | 284=>222 | 285=>223 | 286=>224 | 129=>215 | 317=>244 | 318=>245 | 319=>246 | 320=>247 | 337=>256 | 338=>257 | n=>n,fun | 3=>3 | 9=>9 | 2=>2 | 4=>4 | 171=>225 | 0=>0 | 53=>154 | 37=>65 | 5=>5 | 173=>227 | 212=>245 | 51=>117 | 20=>20 | 213=>246 | 46=>114 | 232=>63 | 233=>265 | n=>n,fun | 17=>4 | 18=>7 | 19=>8 | n=>n⟩
theorem Tryz.MM:Go.Proofs.LaysM.n171 Tryz.prog Tryz.Bo:={
 mixed:=by kernel_rfl
 f129:=Tryz.func215.trans (congrArg some (by kernel_rfl))
 f171:=Tryz.func120.trans (congrArg some (by kernel_rfl))
 f243:=Tryz.func158.trans (congrArg some (by kernel_rfl))
 f246:=Tryz.func189.trans (congrArg some (by kernel_rfl))
 f283:=Tryz.func221.trans (congrArg some (by kernel_rfl))
 f284:=Tryz.func222.trans (congrArg some (by kernel_rfl))
 f285:=Tryz.func223.trans (congrArg some (by kernel_rfl))
 f286:=Tryz.func224.trans (congrArg some (by kernel_rfl))
 f317:=Tryz.func244.trans (congrArg some (by kernel_rfl))
 f318:=Tryz.func245.trans (congrArg some (by kernel_rfl))
 f319:=Tryz.func246.trans (congrArg some (by kernel_rfl))
 f320:=Tryz.func247.trans (congrArg some (by kernel_rfl))
 f337:=Tryz.func256.trans (congrArg some (by kernel_rfl))
 f338:=Tryz.func257.trans (congrArg some (by kernel_rfl))
 t0:=Tryz.underlying0
 a0:=Tryz.isAgg0
 z0:=Tryz.sizeOf0
 v0:=Tryz.zeroValue0
 t2:=Tryz.underlying2
 a2:=Tryz.isAgg2
 z2:=Tryz.sizeOf2
 v2:=Tryz.zeroValue2
 t3:=Tryz.underlying3
 a3:=Tryz.isAgg3
 z3:=Tryz.sizeOf3
 v3:=Tryz.zeroValue3
 t4:=Tryz.underlying4
 a4:=Tryz.isAgg4
 z4:=Tryz.sizeOf4
 v4:=Tryz.zeroValue4
 t5:=Tryz.underlying5
 a5:=Tryz.isAgg5
 z5:=Tryz.sizeOf5
 v5:=Tryz.zeroValue5
 t9:=Tryz.underlying9
 a9:=Tryz.isAgg9
 z9:=Tryz.sizeOf9
 v9:=Tryz.zeroValue9
 t20:=Tryz.underlying20
 a20:=Tryz.isAgg20
 z20:=Tryz.sizeOf20
 v20:=Tryz.zeroValue20
 t37:=Tryz.underlying65
 a37:=Tryz.isAgg65
 z37:=Tryz.sizeOf65
 v37:=Tryz.zeroValue65
 t46:=Tryz.underlying114
 a46:=Tryz.isAgg114
 z46:=Tryz.sizeOf114
 v46:=Tryz.zeroValue114
 t51:=Tryz.underlying117
 a51:=Tryz.isAgg117
 z51:=Tryz.sizeOf117
 v51:=Tryz.zeroValue117
 t53:=Tryz.underlying154
 a53:=Tryz.isAgg154
 z53:=Tryz.sizeOf154
 v53:=Tryz.zeroValue154
 t171:=Tryz.underlying225
 a171:=Tryz.isAgg225
 z171:=Tryz.sizeOf225
 v171:=Tryz.zeroValue225
 t173:=Tryz.underlying227
 a173:=Tryz.isAgg227
 z173:=Tryz.sizeOf227
 v173:=Tryz.zeroValue227
 t212:=Tryz.underlying245
 a212:=Tryz.isAgg245
 z212:=Tryz.sizeOf245
 v212:=Tryz.zeroValue245
 t213:=Tryz.underlying246
 a213:=Tryz.isAgg246
 z213:=Tryz.sizeOf246
 t232:=Tryz.underlying63
 a232:=Tryz.isAgg63
 z232:=Tryz.sizeOf63
 v232:=Tryz.zeroValue63
 t233:=Tryz.underlying265
 a233:=Tryz.isAgg265
 z233:=Tryz.sizeOf265
 v233:=Tryz.zeroValue265
 g17:=by kernel_rfl
 g18:=by kernel_rfl
 g19:=by kernel_rfl
 i0:=by kernel_rfl
 i2:=by kernel_rfl
 i3:=by kernel_rfl
 i4:=by kernel_rfl
 i5:=by kernel_rfl
 i9:=by kernel_rfl
 i20:=by kernel_rfl
 i37:=by kernel_rfl
 i46:=by kernel_rfl
 i51:=by kernel_rfl
 i53:=by kernel_rfl
 i171:=by kernel_rfl
 i173:=by kernel_rfl
 i212:=by kernel_rfl
 i232:=by kernel_rfl
 i233:=by kernel_rfl
 m17:=by kernel_rfl
 m18:=by kernel_rfl
 m19:=by kernel_rfl}
open Go.RowKit Go.Sort Go.Lib in
theorem Tryz.strconv_Itoa (n:Int) (b3 : -9223372036854775808≤n) (h1:n≤9223372036854775807) (w:World) (agG:Lib.TabIs Tryz.prog w "internal/strconv.uint64pow10" .u64 Lib.pow10Tab) :
  Calls Tryz.prog 120 #[.int .i64 n] w fun e w'=>e = .returned (.string ⟨(Lib.itoa n).toArray⟩)∧∃ k os,w'=grow (w.drewN k) os:=Any.strconv_Itoa Tryz.MM n b3 h1 w agG
end Go.Proofs
namespace Go.Proofs.YtnihidkbkhcfoaaGreatDoor.V
open Go Go.Proofs
abbrev nT (w:World):Prop:=Lib.TabIs Tryz.prog w "internal/strconv.uint64pow10" .u64 Lib.pow10Tab
abbrev K0:Nat:=4
theorem P9:Tryz.prog.globalNamed "internal/strconv.uint64pow10" = some K0:=by kernel_rfl
theorem nT.mod {M:List Nat} {w w':World} (h:nT w) (k:Mod M w w') (eY:K0∉M):nT w':=by
 unfold nT Lib.TabIs World.var? at h ⊢;simp only [P9,Option.bind_some] at h ⊢;have bJ:K0<w.heap.size:=by
  rcases Nat.lt_or_ge K0 w.heap.size with cg | cg
  ·exact cg
  rw [Array.getElem?_eq_none cg] at h;cases h
 rw [k.block K0 bJ eY];exact h
theorem nT.lt {w:World} (h:nT w):K0<w.heap.size:=by
 unfold nT Lib.TabIs World.var? at h;simp only [P9,Option.bind_some] at h;rcases Nat.lt_or_ge K0 w.heap.size with cg | cg
 ·exact cg
 rw [Array.getElem?_eq_none cg] at h;cases h
theorem MN (w:World) (k:Nat) (os:Array Obj):Mod [] w (Sort.grow (w.drewN k) os):=by
 have h:=Lib.below_grow w.heap.size w (Nat.le_refl _) k os;exact⟨h.os,h.tape,h.output,h.size,fun i hi _=>h.block i hi⟩
theorem mB (w:World) (n:Int) (b3 : -9223372036854775808≤n) (h1:n≤9223372036854775807) (jG:nT w):Calls Tryz.prog 120 [.int .i64 n].toArray w (bL fun u w'=>u=S (Lib.itoa n)∧Mod [] w w'):=
 (Tryz.strconv_Itoa n b3 h1 w jG).mono fun e w' he=>by
  obtain⟨rfl,k,os,rfl⟩:=he
  exact⟨rfl,MN w k os⟩
end Go.Proofs.YtnihidkbkhcfoaaGreatDoor.V
set_option maxRecDepth 10000
namespace Go.Proofs.YtnihidkbkhcfoaaGreatDoor.V
open Go Go.Proofs
theorem WL:aQ Tryz.prog 174:=aQ.of Tryz.func174 (by kernel_rfl) (by kernel_rfl)
theorem mA:aQ Tryz.prog 120:=aQ.of Tryz.func120 (by kernel_rfl) (by kernel_rfl)
theorem Du:aQ Tryz.prog 176:=aQ.of Tryz.func176 (by kernel_rfl) (by kernel_rfl)
theorem uG:aQ Tryz.prog 135:=aQ.of Tryz.func135 (by kernel_rfl) (by kernel_rfl)
theorem Bk (N:Nat) (dK:∀ (w:World) (v:JV) (us:List Value) (deep:Nat) (b:aa) (hR:Value),v.sz≤N→hK w hR b→b.length≤65536→ao (a1 hR) w v.D us→deep≤32→nT w→K0∉a1 hR→Calls Tryz.prog 135 [hR,.agg us.toArray,.int .i64 (deep:Int)].toArray w (bL fun u w'=>xI w w' hR (v.wr deep b) u)) (w:World) (v:JV) (us:List Value) (deep:Nat) (b:aa) (hR:Value) (h7:v.sz≤N+1) (O:hK w hR b) (aS:b.length≤65536) (asp:ao (a1 hR) w v.D us) (bY:deep≤32) (jG:nT w) (nt:K0∉a1 hR):Calls Tryz.prog 135 [hR,.agg us.toArray,.int .i64 (deep:Int)].toArray w (bL fun u w'=>xI w w' hR (v.wr deep b) u):=by
 refine enter Tryz.func135 rfl rfl rfl (l:=[(0,_),(1,_),(2,_)]) ⟨rfl,rfl,rfl,trivial⟩ ?_;have E:=Mod.refl [] w;obtain⟨al,cl,am,cm,rfl,kW,jJ⟩:=JV.bb asp;have O3:=(JV.cv kW jJ).e9 (A':=[]) (by simp);refine ab fun aV=>dP rfl rfl rfl fun g1 aB bR=>?_;have bH:=bR.le E;replace E:=E.then bR.mod;have U:=bR.az;refine ak 2 rfl (J aV (ax fun aL=>ab fun aW=>ag (a8 (vs:=[_,_,_,_,_,_]) aK rfl rfl (U.cs rfl)) (cP (bF WL rfl) (WD _ v _ (O3.bB E)) fun cN R=>?_)));replace U:=U.I R;replace E:=E.then R;refine ag (ff rfl) (J aW ?_);refine a7 rfl (fun ks=>?_) (fun ks=>?_)
 ·have bq:v.wr deep b = .error 1:=by rw [JV.dM,if_pos (by simpa using ks)]
  exact ab fun br=>ak 2 rfl (J br (aZ (aO (by simp) (ct rfl rfl rfl (xI.err E (by decide) bq)))))
 have oI:v.bare=true:=by simpa using ks
 have b1:¬ v.bare=false:=by rw [oI];simp
 refine ca (aw aL (ax fun bI=>ab fun bW=>ag (av hC rfl) (ag (bc dE rfl (U.cell rfl)) (J bW (eB (ab fun cb=>ak 2 rfl (J cb ?_)))))));refine aI rfl (fun yS=>?_) (fun yS=>?_)
 ·have bq:v.wr deep b=cu (b++JV.jV):=by rw [JV.dM,if_neg b1,if_pos yS]
  refine ab fun cx=>aG rfl (bu cV rfl rfl (O.I E) (Src.str Tryz.underlying9 JV.jV) (by decide) (by first | omega | (simp only [List.length_append,List.length_cons,List.length_nil] at *;omega)) (by first | omega | (simp only [List.length_append,List.length_cons,List.length_nil] at *;omega)) rfl fun gi fV eD=>?_);have eS:hK fV gi (b++JV.jV):=eD.own.same (by simp) (by simp [dj,j8]);refine fA (bF iS rfl) (gY _ (b++JV.jV) _ eS) rfl fun cO ic aA=>?_;obtain⟨jx,rfl,jt,R⟩:=aA;exact ak 4 rfl (J cx (aZ (bx (by simp) (aO (by simp) (ct rfl rfl rfl (xI.ik E eD eS jt R bq))))))
 refine ab fun cH=>ak 2 rfl (J cH ?_);refine aI rfl (fun p6=>?_) (fun p6=>?_)
 ·refine ax fun b5=>ab fun bX=>ag (av qF rfl) (ag (bc jr rfl (U.cell rfl)) (J bX ?_));refine a7 rfl (fun Dv=>?_) (fun Dv=>?_)
  ·have bq:v.wr deep b=cu (b++JV.iT):=by rw [JV.dM,if_neg b1,if_neg yS,if_pos p6,if_pos Dv]
   refine ab fun cU=>aG rfl (bu cV rfl rfl (O.I E) (Src.str Tryz.underlying9 JV.iT) (by decide) (by first | omega | (simp only [List.length_append,List.length_cons,List.length_nil] at *;omega)) (by first | omega | (simp only [List.length_append,List.length_cons,List.length_nil] at *;omega)) rfl fun gi jn eD=>?_);have eS:hK jn gi (b++JV.iT):=eD.own.same (by simp) (by simp [dj,j8]);refine fA (bF iS rfl) (gY _ (b++JV.iT) _ eS) rfl fun cO jC aA=>?_;obtain⟨jx,rfl,jt,R⟩:=aA;exact ak 4 rfl (J cU (aZ (aO (by simp) (bx (by simp) (aO (by simp) (ct rfl rfl rfl (xI.ik E eD eS jt R bq)))))))
  have bq:v.wr deep b=cu (b++JV.gF):=by rw [JV.dM,if_neg b1,if_neg yS,if_pos p6,if_neg (by rw [Dv];decide)]
  refine ca (aw b5 (ab fun b7=>aG rfl (bu cV rfl rfl (O.I E) (Src.str Tryz.underlying9 JV.gF) (by decide) (by first | omega | (simp only [List.length_append,List.length_cons,List.length_nil] at *;omega)) (by first | omega | (simp only [List.length_append,List.length_cons,List.length_nil] at *;omega)) rfl fun gi iw eD=>?_)));have eS:hK iw gi (b++JV.gF):=eD.own.same (by simp) (by simp [dj,j8]);refine fA (bF iS rfl) (gY _ (b++JV.gF) _ eS) rfl fun cO n' aA=>?_;obtain⟨jx,rfl,jt,R⟩:=aA;exact ak 4 rfl (J b7 (aZ (bx (by simp) (aO (by simp) (ct rfl rfl rfl (xI.ik E eD eS jt R bq))))))
 refine ab fun cS=>ak 2 rfl (J cS ?_);refine aI rfl (fun tF=>?_) (fun tF=>?_)
 ·have bq:v.wr deep b=cu (b++Lib.itoa v.num):=by rw [JV.dM,if_neg b1,if_neg yS,if_neg p6,if_pos tF]
  refine ab fun de=>aG rfl (ag (av kP rfl) (ag (bc dE rfl (U.cell rfl)) ?_));obtain⟨abK,hs⟩:=v7 oI tF;have WM:=Lib.itoa_length_le v.num (by omega) (by omega);refine cP (bF mA rfl) (mB _ v.num (by omega) (by omega) (jG.mod E (by simp))) fun lY R=>?_;replace U:=U.I R;replace E:=E.then R;refine bu cV rfl rfl (O.I E) (Src.str Tryz.underlying9 (Lib.itoa v.num)) (by decide) (by first | omega | (simp only [List.length_append,List.length_cons,List.length_nil] at *;omega)) (by first | omega | (simp only [List.length_append,List.length_cons,List.length_nil] at *;omega)) rfl fun gi iy eD=>?_;have eS:hK iy gi (b++Lib.itoa v.num):=eD.own.same (by simp) (by simp [dj,j8]);refine fA (bF iS rfl) (gY _ (b++Lib.itoa v.num) _ eS) rfl fun cO kr aA=>?_;obtain⟨jx,rfl,jt,R⟩:=aA;exact ak 4 rfl (J de (aZ (bx (by simp) (aO (by simp) (ct rfl rfl rfl (xI.ik E eD eS jt R bq))))))
 refine ab fun dG=>ak 2 rfl (J dG ?_);refine aI rfl (fun v8=>?_) (fun v8=>?_)
 ·have bq:v.wr deep b=fb b v.str:=by rw [JV.dM,if_neg b1,if_neg yS,if_neg p6,if_neg tF,if_pos v8]
  refine ab fun eC=>aG rfl (ag (av ju rfl) (ag (bc bs rfl (U.cell rfl)) (fA (bF Du rfl) (yR _ b v.str _ (O.I E) aS) rfl fun cO qa aA=>?_)));obtain⟨A1,rfl,FC,BX,s3,Bl⟩:=aA;exact ak 4 rfl (J eC (aZ (bx (by simp) (aO (by simp) (ct rfl rfl rfl (xI.from_ E ⟨A1,rfl,FC,BX,s3,Bl⟩ bq))))))
 refine ca (bx (by simp) (aw bI (ax fun eb=>ab fun fq=>ak 2 rfl (J fq ?_))));refine aI rfl (fun Dw=>?_) (fun Dw=>?_)
 ·have bq:v.wr deep b = .error 5:=by rw [JV.dM,if_neg b1,if_neg yS,if_neg p6,if_neg tF,if_neg v8,if_pos (by omega)]
  exact ab fun fE=>ak 2 rfl (J fE (aZ (aO (by simp) (ct rfl rfl rfl (xI.err E (by decide) bq)))))
 refine ca (aw eb (ax fun fa=>ab fun fL=>ag (av hC rfl) (ag (bc dE rfl (U.cell rfl)) (ag (lT rfl rfl) (J fL ?_)))));refine aI rfl (fun rA=>?_) (fun rA=>?_)
 ·have bq:v.wr deep b=((cu (b ++ [91])).bind fun b=>JV.hL v.list deep true b).bind fun b=>cu (b ++ [93]):=by rw [JV.dM,if_neg b1,if_neg yS,if_neg p6,if_neg tF,if_neg v8,if_neg (by omega),if_pos rA];cases cu (b ++ [91]) <;> rfl
  refine ab fun gX=>aG rfl (bD (cs:=[_]) cV kF rfl rfl rfl (by decide) rfl fun g2 oC cK=>?_);have b4:=cK.le E;have bP:=cK.ne U;replace U:=U.I cK.mod;replace E:=E.then cK.mod;have ah:=cK.az;have agq:=xJ.init E O aS U bH kW jJ;refine bu cV rfl rfl agq.own (Src.own Tryz.underlying65 (Own.all (c:=1) (cs:=[_]) ah rfl (by omega)) (by simp [Value.oneCell',j8])) (by decide) (by omega) (by omega) rfl fun gi qJ eD=>?_;have eS:hK qJ gi (b ++ [91]):=eD.own.same (by simp) (by simp [dj,j8]);refine fA (bF iS rfl) (gY _ (b ++ [91]) _ eS) rfl fun cO qd aA=>?_;obtain⟨jx,rfl,jt,R⟩:=aA;have H:=agq.ik eD eS jt R;refine ak 5 rfl (J gX (ax fun hn=>ab fun hD=>aT rfl (J hD (eB (bU (σ:=Nat×Value×aa×Except Int aa) (fun⟨k,u,FD,r⟩=>[(2,.int .i64 (deep:Int)),(4,.pointer (some ⟨g1,0,none⟩)),(8,u),(9,.int .i64 (e7 r)),(10,.int .i64 (k:Int))]) (fun⟨k,u,FD,r⟩ aB=>k≤v.list.length∧(r.bind fun b=>JV.hL (v.list.drop k) deep (decide (k=0)) b)=((cu (b ++ [91])).bind fun b=>JV.hL v.list deep true b)∧(∀ b,r = .ok b→b=FD)∧xJ w aB hR g1 25 [.int .i64 v.kind,.bool v.is,.int .i64 v.num,S v.str,.slice al v.list.length cl,.slice am v.map.length cm] v al am cl cm u FD) (fun⟨k,u,FD,r⟩=>v.list.length-k) (⟨0,jx,iA (cu (b ++ [91])),cu (b ++ [91])⟩) ⟨rfl,rfl,rfl,rfl,rfl,trivial⟩ (⟨by omega,rfl,fun IB aA=>by rw [aA];rfl,H⟩) ?_)))));rintro⟨k,u,FD,r⟩ rz ⟨hk,hinv,IC,H⟩;refine ax fun ho=>ab fun hE=>aG rfl (ag (av gA rfl) (ag (bc jL rfl (H.az.cell rfl)) (ag (bl Tryz.underlying22 rfl) (ag (cI rfl rfl) ?_))));refine cT (fun WN:(k:Int)<(v.list.length:Int)=>?_) (fun WN=>?_);rotate_left
  ·refine ak 4 rfl (J hE (aE rfl ?_));have hh:r=((cu (b ++ [91])).bind fun b=>JV.hL v.list deep true b):=by rw [← hinv];simp only [FE (l:=v.list) (k:=k) (by omega),yU]
   refine bm (aO (by simp) (aO (by simp) (bS (aw hn (ax fun kD=>ab fun ll=>ak 2 rfl (J ll ?_))))));refine aI rfl (fun pq=>?_) (fun pq=>?_)
   ·have rB:v.wr deep b=r:=by rw [bq,← hh,qe pq]
    exact ab fun rj=>ak 3 rfl (J rj (aZ (aO (by simp) (aO (by simp) (ct rfl rfl rfl (by rw [rB];exact H.err pq))))))
   obtain⟨lx,rfl⟩:=iU (Classical.byContradiction pq);obtain rfl:=IC lx rfl;have rB:v.wr deep b=cu (lx ++ [93]):=by rw [bq,← hh];rfl
   refine ca (aw kD (ab fun pt=>aG rfl (bD (cs:=[_]) cV kF rfl rfl rfl (by decide) rfl fun g5 WO fC=>?_)));replace H:=H.I fC.mod;have dL:=fC.az;have ID:=H.len;refine bu cV rfl rfl H.own (Src.own Tryz.underlying65 (Own.all (c:=1) (cs:=[_]) dL rfl (by omega)) (by simp [Value.oneCell',j8])) (by decide) (by omega) (by omega) rfl fun gi IF eD=>?_;have eS:hK IF gi (lx ++ [93]):=eD.own.same (by simp) (by simp [dj,j8]);refine fA (bF iS rfl) (gY _ (lx ++ [93]) _ eS) rfl fun cO WQ aA=>?_;obtain⟨jx,rfl,jt,R⟩:=aA;exact ak 4 rfl (J pt (aZ (aO (by simp) (ct rfl rfl rfl (H.fin eD eS jt R rB)))))
  refine ak 4 rfl (J hE ?_);refine aI rfl (fun abR=>?_) (fun abR=>?_);rotate_left
  ·have hh:r=((cu (b ++ [91])).bind fun b=>JV.hL v.list deep true b):=by rw [← hinv,qe abR]
   refine bm (aO (by simp) (aO (by simp) (bS (aw hn (ax fun kC=>ab fun lk=>ak 2 rfl (J lk ?_))))));refine aI rfl (fun pq=>?_) (fun pq=>?_)
   ·have rB:v.wr deep b=r:=by rw [bq,← hh,qe pq]
    exact ab fun jU=>ak 3 rfl (J jU (aZ (aO (by simp) (aO (by simp) (ct rfl rfl rfl (by rw [rB];exact H.err pq))))))
   obtain⟨lx,rfl⟩:=iU (Classical.byContradiction pq);obtain rfl:=IC lx rfl;have rB:v.wr deep b=cu (lx ++ [93]):=by rw [bq,← hh];rfl
   refine ca (aw kC (ab fun mQ=>aG rfl (bD (cs:=[_]) cV kF rfl rfl rfl (by decide) rfl fun g4 yQ N4=>?_)));replace H:=H.I N4.mod;have bg:=N4.az;have ID:=H.len;refine bu cV rfl rfl H.own (Src.own Tryz.underlying65 (Own.all (c:=1) (cs:=[_]) bg rfl (by omega)) (by simp [Value.oneCell',j8])) (by decide) (by omega) (by omega) rfl fun gi Fz eD=>?_;have eS:hK Fz gi (lx ++ [93]):=eD.own.same (by simp) (by simp [dj,j8]);refine fA (bF iS rfl) (gY _ (lx ++ [93]) _ eS) rfl fun cO Bi aA=>?_;obtain⟨jx,rfl,jt,R⟩:=aA;exact ak 4 rfl (J mQ (aZ (aO (by simp) (ct rfl rfl rfl (H.fin eD eS jt R rB)))))
  obtain⟨dn,rfl⟩:=iU abR;obtain rfl:=IC dn rfl;obtain⟨x,bO⟩:∃ x,v.list[k]? = some x:=⟨_,List.getElem?_eq_getElem (by omega)⟩;have abS:=JV.pR H.Vm;refine ca (aw ho (ax fun ij=>eB (ax fun jS=>ab fun jT=>ak 2 rfl (J jT ?_))));refine aI rfl (fun akK=>?_) (fun akK=>?_);rotate_left
  ·have dV:=BY bO hinv (r1:=Except.ok dn) (by rw [if_pos (by simp;omega)]);refine ca (aw jS (ab fun jd=>ak 2 rfl (J jd ?_)));refine aI rfl (fun MD=>?_) (fun MD=>?_)
   ·obtain⟨eJ,gS⟩:∃ eJ,eJ=dn:=⟨_,rfl⟩;rw [← gS] at H dV;refine bQ ?_;obtain⟨jD,lf,dv,ei,cj⟩:=JV.yv H.Vm bO;obtain⟨jM,jN,jb,h3,rfl,lg,lD⟩:=JV.bb ei;have hB:=JV.pR H.Vm;cases dv;refine aG rfl (ag (av gA rfl) (ag (bc jL rfl (H.az.cell rfl)) (aG rfl (ag (b6 kk rfl rfl (by omega)) (ag (a8 aK rfl rfl cj) (aG rfl (ag (cW (r:=((deep+1:Nat):Int)) rfl rfl (by rw [wrap64_in _ (by omega)];omega)) (fA (bF uG rfl) (dK _ x _ (deep+1) eJ _ (by have:=JV.gN (List.mem_of_getElem? bO);omega) H.own H.len ei (by omega) (jG.mod H.mod nt) (fun h=>(H.iV _ h).elim nt (fun h=>by have:=jG.lt;omega))) rfl fun cO xG aA=>?_))))))));obtain⟨Bm,rfl,Di,yT,tG,IE⟩:=aA;replace H:=H.step tG Di yT IE;exact ak 5 rfl (cF (bx (by simp) (aw ij (bQ (aG rfl (ag (aN rfl rfl (by omega)) (aT rfl (cF (fJ (σ:=Nat×Value×aa×Except Int aa) (s:=⟨k,u,dn,Except.ok dn⟩) (⟨k+1,Bm,(iA (JV.wr x (deep+1) eJ)),(JV.wr x (deep+1) eJ)⟩) ⟨rfl,rfl,rfl,rfl,rfl,trivial⟩ ⟨by omega,dV,(fun IB aA=>by rw [aA];rfl),H⟩ (by dsimp only;omega))))))))))
   exact absurd rfl MD
  have dV:=BY bO hinv (r1:=cu (dn ++ [44])) (by rw [if_neg (by simp;omega)]);refine bQ (aG rfl (bD (cs:=[_]) cV kF rfl rfl rfl (by decide) rfl fun g3 uE eQ=>?_));replace H:=H.I eQ.mod;have bz:=eQ.az;have ID:=H.len;refine bu cV rfl rfl H.own (Src.own Tryz.underlying65 (Own.all (c:=1) (cs:=[_]) bz rfl (by omega)) (by simp [Value.oneCell',j8])) (by decide) (by omega) (by omega) rfl fun gi tD eD=>?_;have eS:hK tD gi (dn ++ [44]):=eD.own.same (by simp) (by simp [dj,j8]);refine fA (bF iS rfl) (gY _ (dn ++ [44]) _ eS) rfl fun cO tE aA=>?_;obtain⟨jx,rfl,jt,R⟩:=aA;replace H:=H.ik eD eS jt R;clear eD eS jt;refine ak 5 rfl (J jS (ab fun lj=>ak 2 rfl (J lj ?_)));refine aI rfl (fun MD=>?_) (fun MD=>?_)
  ·obtain⟨eJ,gS⟩:=iU MD;rw [gS] at H dV;replace H:=H.ok;refine bQ ?_;obtain⟨jD,lf,dv,ei,cj⟩:=JV.yv H.Vm bO;obtain⟨jM,jN,jb,h3,rfl,lg,lD⟩:=JV.bb ei;have hB:=JV.pR H.Vm;cases dv;refine aG rfl (ag (av gA rfl) (ag (bc jL rfl (H.az.cell rfl)) (aG rfl (ag (b6 kk rfl rfl (by omega)) (ag (a8 aK rfl rfl cj) (aG rfl (ag (cW (r:=((deep+1:Nat):Int)) rfl rfl (by rw [wrap64_in _ (by omega)];omega)) (fA (bF uG rfl) (dK _ x _ (deep+1) eJ _ (by have:=JV.gN (List.mem_of_getElem? bO);omega) H.own H.len ei (by omega) (jG.mod H.mod nt) (fun h=>(H.iV _ h).elim nt (fun h=>by have:=jG.lt;omega))) rfl fun cO rZ aA=>?_))))))));obtain⟨Bm,rfl,Di,yT,tG,IE⟩:=aA;replace H:=H.step tG Di yT IE;exact ak 5 rfl (cF (bx (by simp) (aw ij (bQ (aG rfl (ag (aN rfl rfl (by omega)) (aT rfl (cF (fJ (σ:=Nat×Value×aa×Except Int aa) (s:=⟨k,u,dn,Except.ok dn⟩) (⟨k+1,Bm,(iA (JV.wr x (deep+1) eJ)),(JV.wr x (deep+1) eJ)⟩) ⟨rfl,rfl,rfl,rfl,rfl,trivial⟩ ⟨by omega,dV,(fun IB aA=>by rw [aA];rfl),H⟩ (by dsimp only;omega))))))))))
  skip
  exact ca (bx (by simp) (aw ij (bQ (aG rfl (ag (aN rfl rfl (by omega)) (aT rfl (cF (fJ (σ:=Nat×Value×aa×Except Int aa) (s:=⟨k,u,dn,Except.ok dn⟩) (⟨k+1,jx,(iA (cu (dn ++ [44]))),(cu (dn ++ [44]))⟩) ⟨rfl,rfl,rfl,rfl,rfl,trivial⟩ ⟨by omega,(by have:=dV;obtain⟨ob,wa⟩:=nU MD;rw [wa] at this ⊢;exact this),(fun IB aA=>by rw [aA];rfl),H⟩ (by dsimp only;omega)))))))))
 have bq:v.wr deep b=((cu (b ++ [123])).bind fun b=>JV.fk v.map deep none b).bind fun b=>cu (b ++ [125]):=by rw [JV.dM,if_neg b1,if_neg yS,if_neg p6,if_neg tF,if_neg v8,if_neg (by omega),if_neg rA];cases cu (b ++ [123]) <;> rfl
 refine ca (aw fa (ab fun mR=>aG rfl (bD (cs:=[_]) cV kF rfl rfl rfl (by decide) rfl fun g6 ME kc=>?_)));have tB:=kc.le E;have Dl:=kc.ne U;replace U:=U.I kc.mod;replace E:=E.then kc.mod;have iP:=kc.az;have agq:=xJ.init E O aS U bH kW jJ;refine bu cV rfl rfl agq.own (Src.own Tryz.underlying65 (Own.all (c:=1) (cs:=[_]) iP rfl (by omega)) (by simp [Value.oneCell',j8])) (by decide) (by omega) (by omega) rfl fun gi PA eD=>?_;have eS:hK PA gi (b ++ [123]):=eD.own.same (by simp) (by simp [dj,j8]);refine fA (bF iS rfl) (gY _ (b ++ [123]) _ eS) rfl fun cO MF aA=>?_;obtain⟨jx,rfl,jt,R⟩:=aA;have H:=agq.ik eD eS jt R;refine ak 5 rfl (J mR (ax fun kE=>ab fun uB=>aT rfl (J uB (eB (bU (σ:=Nat×Value×aa×Except Int aa) (fun⟨k,u,FD,r⟩=>[(0,u),(2,.int .i64 (deep:Int)),(4,.pointer (some ⟨g1,0,none⟩)),(11,.int .i64 (e7 r)),(12,.int .i64 (k:Int))]) (fun⟨k,u,FD,r⟩ aB=>k≤v.map.length∧(r.bind fun b=>JV.fk (v.map.drop k) deep (hS v.map k) b)=((cu (b ++ [123])).bind fun b=>JV.fk v.map deep none b)∧(∀ b,r = .ok b→b=FD)∧xJ w aB hR g1 25 [.int .i64 v.kind,.bool v.is,.int .i64 v.num,S v.str,.slice al v.list.length cl,.slice am v.map.length cm] v al am cl cm u FD) (fun⟨k,u,FD,r⟩=>v.map.length-k) (⟨0,jx,iA (cu (b ++ [123])),cu (b ++ [123])⟩) ⟨rfl,rfl,rfl,rfl,rfl,trivial⟩ (⟨by omega,rfl,fun IB aA=>by rw [aA];rfl,H⟩) ?_)))));rintro⟨k,u,FD,r⟩ PB ⟨hk,hinv,IC,H⟩;refine ax fun rk=>ab fun rX=>aG rfl (ag (av b9 rfl) (ag (bc dB rfl (H.az.cell rfl)) (ag (bl Tryz.underlying23 rfl) (ag (cI rfl rfl) ?_))));refine cT (fun WR:(k:Int)<(v.map.length:Int)=>?_) (fun WR=>?_);rotate_left
 ·refine ak 4 rfl (J rX (aE rfl ?_));have hh:r=((cu (b ++ [123])).bind fun b=>JV.fk v.map deep none b):=by rw [← hinv];simp only [FJ (m:=v.map) (k:=k) (by omega),yU]
  refine bm (aO (by simp) (aO (by simp) (bS (aw kE (ax fun P4=>ab fun P5=>ak 2 rfl (J P5 ?_))))));refine aI rfl (fun uJ=>?_) (fun uJ=>?_)
  ·have rB:v.wr deep b=r:=by rw [bq,← hh,qe uJ]
   exact ab fun P6=>ak 3 rfl (J P6 (aZ (aO (by simp) (ct rfl rfl rfl (by rw [rB];exact H.err uJ)))))
  obtain⟨lx,rfl⟩:=iU (Classical.byContradiction uJ);obtain rfl:=IC lx rfl;have rB:v.wr deep b=cu (lx ++ [125]):=by rw [bq,← hh];rfl
  refine ca (aw P4 (ab fun P7=>aG rfl (bD (cs:=[_]) cV kF rfl rfl rfl (by decide) rfl fun g11 agC FA=>?_)));replace H:=H.I FA.mod;have BW:=FA.az;have ID:=H.len;refine bu cV rfl rfl H.own (Src.own Tryz.underlying65 (Own.all (c:=1) (cs:=[_]) BW rfl (by omega)) (by simp [Value.oneCell',j8])) (by decide) (by omega) (by omega) rfl fun gi agD eD=>?_;have eS:hK agD gi (lx ++ [125]):=eD.own.same (by simp) (by simp [dj,j8]);refine fA (bF iS rfl) (gY _ (lx ++ [125]) _ eS) rfl fun cO agE aA=>?_;obtain⟨jx,rfl,jt,R⟩:=aA;exact ak 4 rfl (J P7 (aZ (ct rfl rfl rfl (H.fin eD eS jt R rB))))
 refine ak 4 rfl (J rX ?_);refine aI rfl (fun PC=>?_) (fun PC=>?_);rotate_left
 ·have hh:r=((cu (b ++ [123])).bind fun b=>JV.fk v.map deep none b):=by rw [← hinv,qe PC]
  refine bm (aO (by simp) (aO (by simp) (bS (aw kE (ax fun P0=>ab fun P1=>ak 2 rfl (J P1 ?_))))));refine aI rfl (fun uJ=>?_) (fun uJ=>?_)
  ·have rB:v.wr deep b=r:=by rw [bq,← hh,qe uJ]
   exact ab fun P2=>ak 3 rfl (J P2 (aZ (aO (by simp) (ct rfl rfl rfl (by rw [rB];exact H.err uJ)))))
  obtain⟨lx,rfl⟩:=iU (Classical.byContradiction uJ);obtain rfl:=IC lx rfl;have rB:v.wr deep b=cu (lx ++ [125]):=by rw [bq,← hh];rfl
  refine ca (aw P0 (ab fun P3=>aG rfl (bD (cs:=[_]) cV kF rfl rfl rfl (by decide) rfl fun g10 agz Fx=>?_)));replace H:=H.I Fx.mod;have BV:=Fx.az;have ID:=H.len;refine bu cV rfl rfl H.own (Src.own Tryz.underlying65 (Own.all (c:=1) (cs:=[_]) BV rfl (by omega)) (by simp [Value.oneCell',j8])) (by decide) (by omega) (by omega) rfl fun gi agA eD=>?_;have eS:hK agA gi (lx ++ [125]):=eD.own.same (by simp) (by simp [dj,j8]);refine fA (bF iS rfl) (gY _ (lx ++ [125]) _ eS) rfl fun cO agB aA=>?_;obtain⟨jx,rfl,jt,R⟩:=aA;exact ak 4 rfl (J P3 (aZ (ct rfl rfl rfl (H.fin eD eS jt R rB))))
 obtain⟨dn,rfl⟩:=iU PC;obtain rfl:=IC dn rfl;obtain⟨x,bO⟩:∃ x,v.map[k]? = some x:=⟨_,List.getElem?_eq_getElem (by omega)⟩;have abS:=JV.hq H.ET;refine ca (aw rk (ax fun oG=>eB (ax fun rl=>ab fun yM=>ak 2 rfl (J yM ?_))));refine aI rfl (fun agr=>?_) (fun agr=>?_);rotate_left
 ·have dV:=yV bO (by omega) hinv;refine ca (aw rl (ax fun B1=>ab fun PW=>ak 2 rfl (J PW ?_)));refine aI rfl (fun pv=>?_) (fun pv=>?_);rotate_left
  ·exact absurd rfl pv
  obtain⟨eJ,gS⟩:∃ eJ,eJ=dn:=⟨_,rfl⟩;rw [← gS] at H dV;refine bQ ?_;obtain⟨jD,lf,dv,ei,cj⟩:=JV.kl H.ET bO;obtain⟨jM,jN,jb,h3,rfl,lg,lD⟩:=JV.bb ei;have hB:=JV.hq H.ET;cases dv;refine aG rfl (ag (av b9 rfl) (ag (bc dB rfl (H.az.cell rfl)) (aG rfl (ag (b6 cR rfl rfl (by omega)) (ag (dD eF rfl) (ag (bc bs rfl (cj 0 _ rfl)) (fA (bF Du rfl) (yR _ eJ x.1 _ H.own H.len) rfl fun cO akM aA=>?_)))))));obtain⟨A1,rfl,FC,BX,s3,Bl⟩:=aA;replace H:=H.step s3 FC BX Bl;refine ak 5 rfl (J B1 (ax fun La=>ab fun PX=>ak 2 rfl (J PX ?_)));refine aI rfl (fun lp=>?_) (fun lp=>?_);rotate_left
  ·skip
   refine ca (aw La (ab fun PZ=>ak 2 rfl (J PZ ?_)));refine aI rfl (fun km=>?_) (fun km=>?_)
   ·exact absurd km lp
   skip
   exact ca (bx (by simp) (aw oG (bQ (aG rfl (ag (aN rfl rfl (by omega)) (aT rfl (cF (fJ (σ:=Nat×Value×aa×Except Int aa) (s:=⟨k,u,dn,Except.ok dn⟩) (⟨k+1,A1,(iA (fb eJ x.1)),(fb eJ x.1)⟩) ⟨rfl,rfl,rfl,rfl,rfl,trivial⟩ ⟨by omega,(by have aA:=dV;obtain⟨ob,wa⟩:=nU lp;rw [wa] at aA ⊢;exact aA),(fun IB aA=>by rw [aA];rfl),H⟩ (by dsimp only;omega)))))))))
  obtain⟨lx,uI⟩:=iU lp;rw [uI] at H dV;replace H:=H.ok;replace dV:=tH dV;refine bQ (aG rfl (bD (cs:=[_]) cV kF rfl rfl rfl (by decide) rfl fun g9 agw vQ=>?_));replace H:=H.I vQ.mod;have lv:=vQ.az;have ID:=H.len;refine bu cV rfl rfl H.own (Src.own Tryz.underlying65 (Own.all (c:=1) (cs:=[_]) lv rfl (by omega)) (by simp [Value.oneCell',j8])) (by decide) (by omega) (by omega) rfl fun gi agx eD=>?_;have eS:hK agx gi (lx ++ [58]):=eD.own.same (by simp) (by simp [dj,j8]);refine fA (bF iS rfl) (gY _ (lx ++ [58]) _ eS) rfl fun cO agy aA=>?_;obtain⟨akL,rfl,jt,R⟩:=aA;replace H:=H.ik eD eS jt R;clear eD eS jt;refine ak 5 rfl (J La (ab fun PY=>ak 2 rfl (J PY ?_)));refine aI rfl (fun km=>?_) (fun km=>?_)
  ·obtain⟨EU,Dx⟩:=iU km;rw [Dx] at H dV;replace H:=H.ok;replace dV:=tH dV;refine bQ ?_;obtain⟨jD,lf,dv,ei,cj⟩:=JV.kl H.ET bO;obtain⟨jM,jN,jb,h3,rfl,lg,lD⟩:=JV.bb ei;have hB:=JV.hq H.ET;cases dv;refine aG rfl (ag (av b9 rfl) (ag (bc dB rfl (H.az.cell rfl)) (aG rfl (ag (b6 cR rfl rfl (by omega)) (ag (dD h' rfl) (ag (a8 aK rfl rfl cj.tv) (aG rfl (ag (cW (r:=((deep+1:Nat):Int)) rfl rfl (by rw [wrap64_in _ (by omega)];omega)) (fA (bF uG rfl) (dK _ x.2 _ (deep+1) EU _ (by have:=JV.gp (List.mem_of_getElem? bO);omega) H.own H.len ei (by omega) (jG.mod H.mod nt) (fun h=>(H.iV _ h).elim nt (fun h=>by have:=jG.lt;omega))) rfl fun cO akN aA=>?_)))))))));obtain⟨Bm,rfl,Di,yT,tG,IE⟩:=aA;replace H:=H.step tG Di yT IE;exact ak 5 rfl (cF (bx (by simp) (aw oG (bQ (aG rfl (ag (aN rfl rfl (by omega)) (aT rfl (cF (fJ (σ:=Nat×Value×aa×Except Int aa) (s:=⟨k,u,dn,Except.ok dn⟩) (⟨k+1,Bm,(iA (JV.wr x.2 (deep+1) EU)),(JV.wr x.2 (deep+1) EU)⟩) ⟨rfl,rfl,rfl,rfl,rfl,trivial⟩ ⟨by omega,dV,(fun IB aA=>by rw [aA];rfl),H⟩ (by dsimp only;omega))))))))))
  skip
  exact ca (bx (by simp) (aw oG (bQ (aG rfl (ag (aN rfl rfl (by omega)) (aT rfl (cF (fJ (σ:=Nat×Value×aa×Except Int aa) (s:=⟨k,u,dn,Except.ok dn⟩) (⟨k+1,akL,(iA (cu (lx ++ [58]))),(cu (lx ++ [58]))⟩) ⟨rfl,rfl,rfl,rfl,rfl,trivial⟩ ⟨by omega,(by have aA:=dV;obtain⟨ob,wa⟩:=nU km;rw [wa] at aA ⊢;exact aA),(fun IB aA=>by rw [aA];rfl),H⟩ (by dsimp only;omega)))))))))
 obtain⟨q,jy⟩:∃ q,v.map[k-1]? = some q:=⟨_,List.getElem?_eq_getElem (by omega)⟩;have dV:=BZ bO jy (by omega) hinv;refine ab fun yN=>aG rfl (bD (cs:=[_]) cV kF rfl rfl rfl (by decide) rfl fun g7 PD pa=>?_);replace H:=H.I pa.mod;have xF:=pa.az;have ID:=H.len;refine bu cV rfl rfl H.own (Src.own Tryz.underlying65 (Own.all (c:=1) (cs:=[_]) xF rfl (by omega)) (by simp [Value.oneCell',j8])) (by decide) (by omega) (by omega) rfl fun gi FF eD=>?_;have eS:hK FF gi (dn ++ [44]):=eD.own.same (by simp) (by simp [dj,j8]);refine fA (bF iS rfl) (gY _ (dn ++ [44]) _ eS) rfl fun cO MG aA=>?_;obtain⟨jx,rfl,jt,R⟩:=aA;replace H:=H.ik eD eS jt R;clear eD eS jt;refine ak 5 rfl (J yN (ax fun rY=>?_))
 by_cases cq:e7 (cu (dn ++ [44]))=0
 rotate_left
 ·have ao7:=cq;refine bT wide (by kernel_rfl) (f' 3 rfl rfl (eV rfl (bN cq) (eV rfl (bN cq) (eV rfl (bN cq) (eV rfl (bN cq) (eV rfl (bN cq) (eV rfl (bN cq) (eV rfl (bN cq) (eV rfl (bN cq) (eV rfl (bN cq) (eV rfl (bN cq) (eV rfl (bN cq) (eV rfl (bN cq) ?_)))))))))))));refine eV rfl (bN cq) (eV rfl (bN cq) (ai (fun R=>(ji (bN cq) rfl rfl)) (bV rfl fun agv R=>?_)));replace H:=H.I R;refine aw rY (aE rfl (ca (aw rl (ax fun PU=>ab fun xb=>ak 2 rfl (J xb ?_)))));refine aI rfl (fun pv=>?_) (fun pv=>?_)
  ·exact absurd pv cq
  skip
  refine ca (aw PU (ax fun FI=>ab fun PV=>ak 2 rfl (J PV ?_)));refine aI rfl (fun lp=>?_) (fun lp=>?_)
  ·exact absurd lp cq
  skip
  refine ca (aw FI (ab fun B0=>ak 2 rfl (J B0 ?_)));refine aI rfl (fun km=>?_) (fun km=>?_)
  ·exact absurd km cq
  skip
  exact ca (bx (by simp) (aw oG (bQ (aG rfl (ag (aN rfl rfl (by omega)) (aT rfl (cF (fJ (σ:=Nat×Value×aa×Except Int aa) (s:=⟨k,u,dn,Except.ok dn⟩) (⟨k+1,jx,(iA (cu (dn ++ [44]))),(cu (dn ++ [44]))⟩) ⟨rfl,rfl,rfl,rfl,rfl,trivial⟩ ⟨by omega,(by have aA:=dV;obtain⟨ob,wa⟩:=nU cq;rw [wa] at aA ⊢;exact aA),(fun IB aA=>by rw [aA];rfl),H⟩ (by dsimp only;omega)))))))))
 obtain⟨jD,lf,dv,ei,cj⟩:=JV.kl H.ET bO;obtain⟨jM,jN,jb,h3,rfl,lg,lD⟩:=JV.bb ei;have hB:=JV.hq H.ET;obtain⟨IG,aau,uH,PE,iW⟩:=JV.kl H.ET jy;obtain⟨PF,PG,PH,PI,rfl,aav,ags⟩:=JV.bb PE;have WS:=JV.hq H.ET;cases dv;cases uH
 by_cases x1:(eR x.1 q.1||x.1 == q.1)=true
 ·refine bT wide (by kernel_rfl) (f' 3 rfl rfl (aM (bh cq) (fun R=>(av b9 rfl)) (aM (bh cq) (fun R=>(bc dB rfl ((H.az.I R).cell rfl))) (aM (bh cq) (fun R=>(ec rfl)) (aM (bh cq) (fun R=>(b6 cR rfl rfl (by omega))) (aM (bh cq) (fun R=>(dD eF rfl)) (aM (bh cq) (fun R=>(bc bs rfl ((cj.I R) 0 _ rfl))) (aM (bh cq) (fun R=>(av b9 rfl)) (aM (bh cq) (fun R=>(bc dB rfl ((H.az.I R).cell rfl))) (aM (bh cq) (fun R=>(ec rfl)) (aM (bh cq) (fun R=>(ez (r:=((k-1:Nat):Int)) rfl rfl (by rw [wrap64_in _ (by omega)];omega))) (aM (bh cq) (fun R=>(b6 cR rfl rfl (by omega))) (aM (bh cq) (fun R=>(dD eF rfl)) ?_)))))))))))));refine aM (bh cq) (fun R=>(bc bs rfl ((iW.I R) 0 _ rfl))) (aM (bh cq) (fun R=>(PJ rfl rfl)) (ai (fun R=>(lU (bh cq) rfl rfl)) (bV rfl fun MH R=>?_)));replace H:=H.I R;refine aw rY ?_;refine a7 rfl (fun FG=>?_) (fun FG=>absurd (x1.symm.trans FG) (by decide));obtain⟨eJ,gS⟩:=iU cq;have lF:(Except.error 1:Except Int aa)=((cu (b ++ [123])).bind fun b=>JV.fk v.map deep none b):=by
   have aA:=dV;rw [gS] at aA;simp only [Except.bind,abT x1] at aA ⊢;exact aA
  refine bQ (aT rfl (J rl (ax fun yO=>ab fun yP=>ak 2 rfl (J yP ?_))));refine aI rfl (fun pv=>?_) (fun pv=>?_)
  ·exact absurd pv (by decide)
  skip
  refine ca (aw yO (ax fun FH=>ab fun PK=>ak 2 rfl (J PK ?_)));refine aI rfl (fun lp=>?_) (fun lp=>?_)
  ·exact absurd lp (by decide)
  skip
  refine ca (aw FH (ab fun PL=>ak 2 rfl (J PL ?_)));refine aI rfl (fun km=>?_) (fun km=>?_)
  ·exact absurd km (by decide)
  skip
  exact ca (bx (by simp) (aw oG (bQ (aG rfl (ag (aN rfl rfl (by omega)) (aT rfl (cF (fJ (σ:=Nat×Value×aa×Except Int aa) (s:=⟨k,u,dn,Except.ok dn⟩) (⟨k+1,jx,(iA (cu (dn ++ [44]))),(Except.error 1)⟩) ⟨rfl,rfl,rfl,rfl,rfl,trivial⟩ ⟨by omega,lF,(fun IB aA=>by cases aA),H⟩ (by dsimp only;omega)))))))))
 have agt:=abU x1;refine bT wide (by kernel_rfl) (f' 3 rfl rfl (aM (bh cq) (fun R=>(av b9 rfl)) (aM (bh cq) (fun R=>(bc dB rfl ((H.az.I R).cell rfl))) (aM (bh cq) (fun R=>(ec rfl)) (aM (bh cq) (fun R=>(b6 cR rfl rfl (by omega))) (aM (bh cq) (fun R=>(dD eF rfl)) (aM (bh cq) (fun R=>(bc bs rfl ((cj.I R) 0 _ rfl))) (aM (bh cq) (fun R=>(av b9 rfl)) (aM (bh cq) (fun R=>(bc dB rfl ((H.az.I R).cell rfl))) (aM (bh cq) (fun R=>(ec rfl)) (aM (bh cq) (fun R=>(ez (r:=((k-1:Nat):Int)) rfl rfl (by rw [wrap64_in _ (by omega)];omega))) (aM (bh cq) (fun R=>(b6 cR rfl rfl (by omega))) (aM (bh cq) (fun R=>(dD eF rfl)) ?_)))))))))))));refine aM (bh cq) (fun R=>(bc bs rfl ((iW.I R) 0 _ rfl))) (aM (bh cq) (fun R=>(PJ rfl rfl)) (ai (fun R=>(lU (bh cq) rfl rfl)) (bV rfl fun MI R=>?_)));replace H:=H.I R;refine aw rY (a7 rfl (fun FG=>absurd ((dO x1).symm.trans FG) (by decide)) (fun FG=>ca (aw rl (ax fun K8=>ab fun PM=>ak 2 rfl (J PM ?_)))));refine aI rfl (fun pv=>?_) (fun pv=>?_);rotate_left
 ·skip
  refine ca (aw K8 (ax fun PR=>ab fun PS=>ak 2 rfl (J PS ?_)));refine aI rfl (fun lp=>?_) (fun lp=>?_)
  ·exact absurd lp pv
  skip
  refine ca (aw PR (ab fun PT=>ak 2 rfl (J PT ?_)));refine aI rfl (fun km=>?_) (fun km=>?_)
  ·exact absurd km pv
  skip
  exact ca (bx (by simp) (aw oG (bQ (aG rfl (ag (aN rfl rfl (by omega)) (aT rfl (cF (fJ (σ:=Nat×Value×aa×Except Int aa) (s:=⟨k,u,dn,Except.ok dn⟩) (⟨k+1,jx,(iA (cu (dn ++ [44]))),(cu (dn ++ [44]))⟩) ⟨rfl,rfl,rfl,rfl,rfl,trivial⟩ ⟨by omega,(by have aA:=dV;obtain⟨ob,wa⟩:=nU pv;rw [wa] at aA ⊢;exact aA),(fun IB aA=>by rw [aA];rfl),H⟩ (by dsimp only;omega)))))))))
 obtain⟨eJ,gS⟩:=iU pv;rw [gS] at H dV;replace H:=H.ok;have dV:((fb eJ x.1).bind fun b=>(cu (b ++ [58])).bind fun b=>(JV.wr x.2 (deep+1) b).bind fun b=>JV.fk (v.map.drop (k+1)) deep (hS v.map (k+1)) b)=((cu (b ++ [123])).bind fun b=>JV.fk v.map deep none b):=by
  have aA:=dV;simp only [Except.bind,if_pos agt] at aA ⊢;exact aA
 refine bQ ?_;obtain⟨jD,lf,dv,ei,cj⟩:=JV.kl H.ET bO;obtain⟨jM,jN,jb,h3,rfl,lg,lD⟩:=JV.bb ei;have hB:=JV.hq H.ET;cases dv;refine aG rfl (ag (av b9 rfl) (ag (bc dB rfl (H.az.cell rfl)) (aG rfl (ag (b6 cR rfl rfl (by omega)) (ag (dD eF rfl) (ag (bc bs rfl (cj 0 _ rfl)) (fA (bF Du rfl) (yR _ eJ x.1 _ H.own H.len) rfl fun cO WT aA=>?_)))))));obtain⟨A1,rfl,FC,BX,s3,Bl⟩:=aA;replace H:=H.step s3 FC BX Bl;refine ak 5 rfl (J K8 (ax fun K9=>ab fun PN=>ak 2 rfl (J PN ?_)));refine aI rfl (fun lp=>?_) (fun lp=>?_);rotate_left
 ·skip
  refine ca (aw K9 (ab fun PQ=>ak 2 rfl (J PQ ?_)));refine aI rfl (fun km=>?_) (fun km=>?_)
  ·exact absurd km lp
  skip
  exact ca (bx (by simp) (aw oG (bQ (aG rfl (ag (aN rfl rfl (by omega)) (aT rfl (cF (fJ (σ:=Nat×Value×aa×Except Int aa) (s:=⟨k,u,dn,Except.ok dn⟩) (⟨k+1,A1,(iA (fb eJ x.1)),(fb eJ x.1)⟩) ⟨rfl,rfl,rfl,rfl,rfl,trivial⟩ ⟨by omega,(by have aA:=dV;obtain⟨ob,wa⟩:=nU lp;rw [wa] at aA ⊢;exact aA),(fun IB aA=>by rw [aA];rfl),H⟩ (by dsimp only;omega)))))))))
 obtain⟨lx,uI⟩:=iU lp;rw [uI] at H dV;replace H:=H.ok;replace dV:=tH dV;refine bQ (aG rfl (bD (cs:=[_]) cV kF rfl rfl rfl (by decide) rfl fun g8 WU um=>?_));replace H:=H.I um.mod;have Dt:=um.az;have ID:=H.len;refine bu cV rfl rfl H.own (Src.own Tryz.underlying65 (Own.all (c:=1) (cs:=[_]) Dt rfl (by omega)) (by simp [Value.oneCell',j8])) (by decide) (by omega) (by omega) rfl fun gi PO eD=>?_;have eS:hK PO gi (lx ++ [58]):=eD.own.same (by simp) (by simp [dj,j8]);refine fA (bF iS rfl) (gY _ (lx ++ [58]) _ eS) rfl fun cO WV aA=>?_;obtain⟨akL,rfl,jt,R⟩:=aA;replace H:=H.ik eD eS jt R;clear eD eS jt;refine ak 5 rfl (J K9 (ab fun K'=>ak 2 rfl (J K' ?_)));refine aI rfl (fun km=>?_) (fun km=>?_)
 ·obtain⟨EU,Dx⟩:=iU km;rw [Dx] at H dV;replace H:=H.ok;replace dV:=tH dV;refine bQ ?_;obtain⟨jD,lf,dv,ei,cj⟩:=JV.kl H.ET bO;obtain⟨jM,jN,jb,h3,rfl,lg,lD⟩:=JV.bb ei;have hB:=JV.hq H.ET;cases dv;refine aG rfl (ag (av b9 rfl) (ag (bc dB rfl (H.az.cell rfl)) (aG rfl (ag (b6 cR rfl rfl (by omega)) (ag (dD h' rfl) (ag (a8 aK rfl rfl cj.tv) (aG rfl (ag (cW (r:=((deep+1:Nat):Int)) rfl rfl (by rw [wrap64_in _ (by omega)];omega)) (fA (bF uG rfl) (dK _ x.2 _ (deep+1) EU _ (by have:=JV.gp (List.mem_of_getElem? bO);omega) H.own H.len ei (by omega) (jG.mod H.mod nt) (fun h=>(H.iV _ h).elim nt (fun h=>by have:=jG.lt;omega))) rfl fun cO agu aA=>?_)))))))));obtain⟨Bm,rfl,Di,yT,tG,IE⟩:=aA;replace H:=H.step tG Di yT IE;exact ak 5 rfl (cF (bx (by simp) (aw oG (bQ (aG rfl (ag (aN rfl rfl (by omega)) (aT rfl (cF (fJ (σ:=Nat×Value×aa×Except Int aa) (s:=⟨k,u,dn,Except.ok dn⟩) (⟨k+1,Bm,(iA (JV.wr x.2 (deep+1) EU)),(JV.wr x.2 (deep+1) EU)⟩) ⟨rfl,rfl,rfl,rfl,rfl,trivial⟩ ⟨by omega,dV,(fun IB aA=>by rw [aA];rfl),H⟩ (by dsimp only;omega))))))))))
 skip
 exact ca (bx (by simp) (aw oG (bQ (aG rfl (ag (aN rfl rfl (by omega)) (aT rfl (cF (fJ (σ:=Nat×Value×aa×Except Int aa) (s:=⟨k,u,dn,Except.ok dn⟩) (⟨k+1,akL,(iA (cu (lx ++ [58]))),(cu (lx ++ [58]))⟩) ⟨rfl,rfl,rfl,rfl,rfl,trivial⟩ ⟨by omega,(by have aA:=dV;obtain⟨ob,wa⟩:=nU km;rw [wa] at aA ⊢;exact aA),(fun IB aA=>by rw [aA];rfl),H⟩ (by dsimp only;omega)))))))))
end Go.Proofs.YtnihidkbkhcfoaaGreatDoor.V
namespace Go.Proofs.YtnihidkbkhcfoaaGreatDoor.V
open Go
structure dH where
 c8:aa
 key:aa
 sig:aa
abbrev dH.cells (s:dH):List Value:=[S s.c8,S s.key,S s.sig]
structure EV where
 room:aa
 snd:aa
 ty:aa
 st:Bool
 key:aa
 bd:JV
 prev:List aa
 bn:List aa
 dep:Int
 time:Int
 hash:aa
 sigs:List dH
namespace EV
def D (e:EV):List Go.Proofs.YtnihidkbkhcfoaaGreatDoor.V.D:=[.v (S e.room),.v (S e.snd),.v (S e.ty),.v (.bool e.st),.v (S e.key)]++(e.bd.D ++ [lG e.prev,lG e.bn,.v (.int .i64 e.dep),.v (.int .i64 e.time),.v (S e.hash),flat 3 dH.cells e.sigs])
theorem r0 (e:EV):e.D.length=17:=by simp [D,JV.r0]
theorem bb {A:List Nat} {w:World} {e:EV} {us:List Value} (asp:ao A w e.D us):∃ cs ap pT rC qf rJ rK,us = [S e.room,S e.snd,S e.ty,.bool e.st,S e.key]++(cs ++ [.slice ap e.prev.length pT,.slice rC e.bn.length qf,.int .i64 e.dep,.int .i64 e.time,S e.hash,.slice rJ e.sigs.length rK])∧
  ao A w e.bd.D cs∧ba A w (lG e.prev) (.slice ap e.prev.length pT)∧ba A w (lG e.bn) (.slice rC e.bn.length qf)∧ba A w (flat 3 dH.cells e.sigs) (.slice rJ e.sigs.length rK):=by
 unfold D at asp
 obtain⟨h1,aq⟩:=asp.cut
 simp only [List.length_cons,List.length_nil] at h1 aq
 obtain⟨aU,bM⟩:=aq.cut
 have agS:us=us.take (0+1+1+1+1+1)++((us.drop (0+1+1+1+1+1)).take e.bd.D.length++(us.drop (0+1+1+1+1+1)).drop e.bd.D.length):=by rw [List.take_append_drop,List.take_append_drop]
 obtain⟨_,_,bk,g1,h1⟩:=h1
 obtain⟨_,_,rfl,g2,h1⟩:=h1
 obtain⟨_,_,rfl,g3,h1⟩:=h1
 obtain⟨_,_,rfl,g4,h1⟩:=h1
 obtain⟨_,_,rfl,g5,h1⟩:=h1
 obtain rfl:=h1
 obtain⟨_,_,b2,dZ,bM⟩:=bM
 obtain⟨_,_,rfl,j9,bM⟩:=bM
 obtain⟨_,_,rfl,vS,bM⟩:=bM
 obtain⟨_,_,rfl,uo,bM⟩:=bM
 obtain⟨_,_,rfl,A2,bM⟩:=bM
 obtain⟨_,_,rfl,apa,bM⟩:=bM
 obtain rfl:=bM
 obtain rfl:=g1.l4;obtain rfl:=g2.l4;obtain rfl:=g3.l4;obtain rfl:=g4.l4;obtain rfl:=g5.l4
 obtain rfl:=vS.l4;obtain rfl:=uo.l4;obtain rfl:=A2.l4
 obtain⟨ap,pT,rfl,_⟩:=eN dZ
 obtain⟨rC,qf,rfl,_⟩:=eN j9
 obtain⟨rJ,rK,rfl,_⟩:=eN apa
 rw [bk,b2] at agS
 exact⟨_,ap,pT,rC,qf,rJ,rK,agS,aU,dZ,j9,apa⟩
theorem gd {A:List Nat} {w:World} {e:EV} {us:List Value} (asp:ao A w e.D us):∃ al cl am cm ap pT rC qf rJ rK,us = [S e.room,S e.snd,S e.ty,.bool e.st,S e.key,.int .i64 e.bd.kind,.bool e.bd.is,.int .i64 e.bd.num,S e.bd.str,.slice al e.bd.list.length cl,.slice am e.bd.map.length cm,.slice ap e.prev.length pT,.slice rC e.bn.length qf,.int .i64 e.dep,.int .i64 e.time,S e.hash,.slice rJ e.sigs.length rK]∧
  ao A w e.bd.D [.int .i64 e.bd.kind,.bool e.bd.is,.int .i64 e.bd.num,S e.bd.str,.slice al e.bd.list.length cl,.slice am e.bd.map.length cm]∧ba A w (lG e.prev) (.slice ap e.prev.length pT)∧ba A w (lG e.bn) (.slice rC e.bn.length qf)∧ba A w (flat 3 dH.cells e.sigs) (.slice rJ e.sigs.length rK):=by
 obtain⟨cs,ap,pT,rC,qf,rJ,rK,rfl,h1,aq,aU,bM⟩:=bb asp
 obtain⟨al,cl,am,cm,rfl,_,_⟩:=JV.bb h1
 exact⟨al,cl,am,cm,ap,pT,rC,qf,rJ,rK,rfl,h1,aq,aU,bM⟩
theorem at_ {A:List Nat} {w:World} {es:List EV} {e:EV} {ad:Option Addr} {n c i:Nat} (asp:ba A w (.ie 17 (es.map EV.D)) (.slice ad n c)) (h:es[i]? = some e):∃ a us,ad=some a∧ao A w e.D us∧ri w (a.add (i*17)) us:=by
 obtain⟨a,us,h1,aq,_,aU,_⟩:=ba.at_ (i:=i) (r:=e.D) asp (by simp [h]);exact⟨a,us,h1,aq,aU⟩
def ok (e:EV):Prop:=e.room.length≤140737488351232∧e.snd.length≤140737488351232∧e.ty.length≤140737488351232∧e.key.length≤140737488351232∧e.bd.ok∧(∀ s∈e.prev,s.length≤140737488351232)∧e.prev.length≤140737488351232∧(∀ s∈e.bn,s.length≤140737488351232)∧e.bn.length≤140737488351232∧e.hash.length≤140737488351232∧(∀ s∈e.sigs,s.c8.length≤140737488351232∧s.key.length≤140737488351232∧s.sig.length≤140737488351232)∧e.sigs.length≤140737488351232
end EV
def kn:List Nat→Nat→Nat→Nat
 | [],n,_=>n
 | x::r,n,most=>if n≤most then kn r (n+x) most else n
theorem oJ {l:List Nat} {k n most x:Nat} (h:l[k]? = some x) (ck:n≤most):kn (l.drop k) n most=kn (l.drop (k+1)) (n+x) most:=by
 obtain⟨hk,rfl⟩:=List.getElem?_eq_some_iff.1 h;rw [List.drop_eq_getElem_cons hk,kn,if_pos ck]
theorem l9 {l:List Nat} {k n most:Nat} (h:l.length≤k):kn (l.drop k) n most=n:=by
 rw [List.drop_eq_nil_of_le h,kn]
theorem l8 {l:List Nat} {n most:Nat} (h:¬ n≤most):kn l n most=n:=by cases l <;> simp [kn,h]
namespace EV
def Ib (e:EV):Nat:=e.room.length+e.snd.length+e.ty.length+e.key.length+e.hash.length+e.prev.length+e.bn.length+e.sigs.length
def rI (e:EV) (most:Nat):Nat:=kn (e.prev.map List.length) e.Ib most
def nn (e:EV) (most:Nat):Nat:=kn (e.bn.map List.length) (e.rI most) most
def n3 (e:EV) (most:Nat):Nat:=kn (e.sigs.map fun s=>s.c8.length+s.key.length+s.sig.length) (e.nn most) most
def great (e:EV) (most:Nat):Bool:=decide (e.n3 most > most)||decide (e.bd.jq ((most:Int)-e.n3 most) 60<0)
end EV
end Go.Proofs.YtnihidkbkhcfoaaGreatDoor.V
set_option maxRecDepth 10000
namespace Go.Proofs.YtnihidkbkhcfoaaGreatDoor.V
open Go Go.Proofs
theorem uK:∀ N:Nat,∀ (w:World) (v:JV) (us:List Value) (deep:Nat) (b:aa) (hR:Value),v.sz≤N→hK w hR b→b.length≤65536→ao (a1 hR) w v.D us→deep≤32→nT w→K0∉a1 hR→Calls Tryz.prog 135 [hR,.agg us.toArray,.int .i64 (deep:Int)].toArray w (bL fun u w'=>xI w w' hR (v.wr deep b) u)
 | 0,w,v,us,deep,b,hR,h,O,aS,asp,bY,jG,nt=>absurd (JV.oz v) (by omega)
 | N+1,w,v,us,deep,b,hR,h,O,aS,asp,bY,jG,nt=>Bk N (uK N) w v us deep b hR h O aS asp bY jG nt
/-- a value's canonical text, or an error -/
theorem P8 (w:World) (v:JV) (us:List Value) (asp:ao [] w v.D us) (jG:nT w):Calls Tryz.prog 135 [.slice none 0 0,.agg us.toArray,.int .i64 0].toArray w (bL fun u w'=>xI w w' (.slice none 0 0) (v.wr 0 []) u):=
 uK v.sz w v us 0 [] (.slice none 0 0) (Nat.le_refl _) (Own.nil w 5 1) (by simp) asp (by omega) jG (by simp [a1])
theorem B2 (w:World) (v:JV) (us:List Value) (asp:ao [] w v.D us) (jG:nT w):Calls Tryz.prog 74 [.agg us.toArray].toArray w (bL fun u w'=>u = .tuple #[S (iA (v.wr 0 [])),.int .i64 (e7 (v.wr 0 []))]∧Mod [] w w'):=by
 refine enter Tryz.func74 rfl rfl rfl (l:=[(0,_)]) ⟨rfl,trivial⟩ ?_;have E:=Mod.refl [] w;obtain⟨al,cl,am,cm,rfl,kW,jJ⟩:=JV.bb asp;have asp:=JV.cv kW jJ;refine ab fun aV=>dP rfl rfl rfl fun g1 aB bR=>?_;have bH:=bR.le E;replace E:=E.then bR.mod;have U:=bR.az;refine ak 2 rfl (J aV (ab fun aL=>ag (a8 (vs:=[_,_,_,_,_,_]) aK rfl rfl (U.cs rfl)) (fA (bF uG rfl) (P8 _ v _ (asp.bB E) (jG.mod E (by simp))) rfl fun cO cN aA=>?_)));obtain⟨A1,rfl,FC,BX,s3,Bl⟩:=aA;replace E:=E.then (s3.mono (by simp [a1]));obtain⟨akO,agF,rfl,ao8,ao9⟩:=FC.form;exact ak 5 rfl (J aL (ab fun aW=>aG rfl (ag (oH (u:=iA (v.wr 0 [])) Tryz.underlying65 Tryz.underlying5 Tryz.underlying9 rfl (FC.same rfl (dj _))) (ak 3 rfl (J aW (aZ (ct rfl rfl rfl ⟨rfl,E⟩)))))))
set_option maxRecDepth 10000
theorem Zj:aQ Tryz.prog 201:=aQ.of Tryz.func201 (by kernel_rfl) (by kernel_rfl)
theorem uX:aQ Tryz.prog 179:=aQ.of Tryz.func179 (by kernel_rfl) (by kernel_rfl)
theorem Tx (w:World) (c:Nat) (bj:c≤1114111):Calls Tryz.prog 190 [.int .i32 (c:Int)].toArray w (bL fun u w'=>u = .int .u8 (l3 c:Int)∧Mod [] w w'):=by
 refine enter Tryz.func190 rfl rfl rfl (l:=[(0,_)]) ⟨rfl,trivial⟩ ?_;have E:=Mod.refl [] w;refine ab fun aV=>aT rfl (J aV (ax fun aL=>ab fun aW=>aG rfl (J aW (eB (ax fun br=>ab fun bI=>ag (lT rfl rfl) ?_)))));refine cT (fun yC:(c:Int)=34=>?_) (fun yC=>?_)
 ·exact aT rfl (J bI (aD rfl (ca (aw br (aD rfl (ab fun bW=>aG rfl (ag (p' (r:=(c:Int)) Tryz.underlying21 Tryz.underlying5 rfl (iR _ (by omega))) (aT rfl (J bW (aZ (bx (by simp) (aO (by simp) (au rfl rfl ⟨congrArg (Value.int .u8) (show(c:Int)=((l3 c:Nat):Int)by unfold l3;by_cases zf:c=34;(rw [if_pos zf,zf]);rw [if_neg zf,if_pos (by omega)];omega),E⟩)))))))))))))
 refine aT rfl (J bI (aE rfl (bQ (ag (lT rfl rfl) ?_))));refine cT (fun y0:(c:Int)=92=>?_) (fun y0=>?_)
 ·exact aT rfl (J br (aD rfl (ab fun cb=>aG rfl (ag (p' (r:=(c:Int)) Tryz.underlying21 Tryz.underlying5 rfl (iR _ (by omega))) (aT rfl (J cb (aZ (bx (by simp) (aO (by simp) (au rfl rfl ⟨congrArg (Value.int .u8) (show(c:Int)=((l3 c:Nat):Int)by unfold l3;by_cases zf:c=34;(rw [if_pos zf,zf]);rw [if_neg zf,if_pos (by omega)];omega),E⟩))))))))))
 refine aT rfl (J br (aE rfl (ab fun cx=>ak 2 rfl (J cx ?_))));refine aI rfl (fun k0=>?_) (fun k0=>?_)
 ·exact ab fun cH=>aT rfl (J cH (aZ (bx (by simp) (aO (by simp) (au rfl rfl ⟨congrArg (Value.int .u8) (show(_:Int)=((l3 c:Nat):Int)by unfold l3;rw [if_neg (by omega),if_neg (by omega),if_pos (by omega)];rfl),E⟩)))))
 refine ab fun b5=>ak 2 rfl (J b5 ?_);refine aI rfl (fun uw=>?_) (fun uw=>?_)
 ·exact ab fun bX=>aT rfl (J bX (aZ (bx (by simp) (aO (by simp) (au rfl rfl ⟨congrArg (Value.int .u8) (show(_:Int)=((l3 c:Nat):Int)by unfold l3;rw [if_neg (by omega),if_neg (by omega),if_neg (by omega),if_pos (by omega)];rfl),E⟩)))))
 refine ab fun cU=>ak 2 rfl (J cU ?_);refine aI rfl (fun tx=>?_) (fun tx=>?_)
 ·exact ab fun b7=>aT rfl (J b7 (aZ (bx (by simp) (aO (by simp) (au rfl rfl ⟨congrArg (Value.int .u8) (show(_:Int)=((l3 c:Nat):Int)by unfold l3;rw [if_neg (by omega),if_neg (by omega),if_neg (by omega),if_neg (by omega),if_pos (by omega)];rfl),E⟩)))))
 refine ab fun cS=>ak 2 rfl (J cS ?_);refine aI rfl (fun ks=>?_) (fun ks=>?_)
 ·exact ab fun de=>aT rfl (J de (aZ (bx (by simp) (aO (by simp) (au rfl rfl ⟨congrArg (Value.int .u8) (show(_:Int)=((l3 c:Nat):Int)by unfold l3;rw [if_neg (by omega),if_neg (by omega),if_neg (by omega),if_neg (by omega),if_neg (by omega),if_pos (by omega)];rfl),E⟩)))))
 refine ab fun dG=>ak 2 rfl (J dG ?_);refine aI rfl (fun vV=>?_) (fun vV=>?_)
 ·exact ab fun eC=>aT rfl (J eC (aZ (bx (by simp) (aO (by simp) (au rfl rfl ⟨congrArg (Value.int .u8) (show(_:Int)=((l3 c:Nat):Int)by unfold l3;rw [if_neg (by omega),if_neg (by omega),if_neg (by omega),if_neg (by omega),if_neg (by omega),if_neg (by omega),if_pos (by omega)];rfl),E⟩)))))
 exact ca (bx (by simp) (aw aL (ab fun eb=>aT rfl (J eb (aZ (au rfl rfl ⟨congrArg (Value.int .u8) (show(_:Int)=((l3 c:Nat):Int)by unfold l3;rw [if_neg (by omega),if_neg (by omega),if_neg (by omega),if_neg (by omega),if_neg (by omega),if_neg (by omega),if_neg (by omega)];rfl),E⟩))))))
theorem aev (w:World) (s p:aa):Calls Tryz.prog 201 [S s,S p].toArray w (bL fun u w'=>u = .bool (decide (p.length≤s.length∧s.take p.length=p))∧Mod [] w w'):=by
 refine enter Tryz.func201 rfl rfl rfl (l:=[(0,_),(1,_)]) ⟨rfl,rfl,trivial⟩ ?_;have E:=Mod.refl [] w;refine ab fun aV=>aT rfl (J aV (ab fun aL=>aG rfl (ag (bw Tryz.underlying9 rfl) (aG rfl (ag (bw Tryz.underlying9 rfl) (ag (dr rfl rfl) ?_))))));refine cT (fun jO:(s.length:Int)≥(p.length:Int)=>?_) (fun jO=>?_)
 ·exact ak 3 rfl (ar (bw Tryz.underlying9 rfl) (ar (x9 Tryz.underlying9 rfl rfl (by omega)) (ar (ec rfl) (ar (dQ rfl rfl) (ak 2 rfl (J aL (aZ (au rfl rfl ⟨by rw [decide_eq_decide.2 (show s.take p.length=p↔p.length≤s.length∧s.take p.length=p from⟨fun h=>⟨by omega,h⟩,fun h=>h.2⟩)],E⟩))))))))
 exact ak 9 rfl (J aL (aZ (au rfl rfl ⟨by rw [bN (fun h=>by omega)],E⟩)))
theorem uY (w:World) (s p:aa):Calls Tryz.prog 179 [S s,S p].toArray w (bL fun u w'=>u = .bool (decide (p.length≤s.length∧s.take p.length=p))∧Mod [] w w'):=by
 refine enter Tryz.func179 rfl rfl rfl (l:=[(0,_),(1,_)]) ⟨rfl,rfl,trivial⟩ ?_;have E:=Mod.refl [] w;refine ab fun aV=>aT rfl (J aV (ab fun aL=>ak 2 rfl (cP (bF Zj rfl) (aev _ _ _) fun aB R=>?_)));replace E:=E.then R;exact aT rfl (J aL (aZ (au rfl rfl ⟨rfl,E⟩)))
theorem CQ (w:World) (s:aa):Calls Tryz.prog 171 [S s].toArray w (bL fun u w'=>u = .bool (cn s)∧Mod [] w w'):=by
 refine enter Tryz.func171 rfl rfl rfl (l:=[(0,_)]) ⟨rfl,trivial⟩ ?_;have E:=Mod.refl [] w;refine ab fun aV=>aT rfl (J aV (ax fun aL=>ab fun aW=>aG rfl (qn Tryz.underlying9 rfl rfl fun uW aB gu Rc O4=>?_)));have pn:w.heap.size≤uW:=by have:=E.size;omega
 replace E:=E.then O4;refine J aW (eB (bU (σ:=Nat) (fun p=>[(0,S s),(6,.pointer (some ⟨uW,0,none⟩))]) (fun p aB=>p≤s.length∧cn s=cn (s.drop p)∧Bu aB uW s p∧w.heap.size≤uW∧Mod [] w aB) (fun p=>s.length-p) (0) ⟨rfl,rfl,trivial⟩ (⟨by omega,rfl,gu,pn,E⟩) ?_));rintro p cN ⟨cp,bK,gu,pn,E⟩;refine ax fun br=>?_
 by_cases fM:p<s.length
 rotate_left
 ·have lI:=fM;refine bQ (lr rfl gu lI rfl (ag (eH rfl rfl) (J br (ax fun cU=>?_))));refine a7 rfl (fun kq=>?_) (fun kq=>?_)
  ·cases kq
  have iQ:cn s=true:=by rw [bK,List.drop_eq_nil_of_le (by omega),mS]
  exact bm (aO (by simp) (aO (by simp) (bS (aw aL (ab fun b7=>aT rfl (J b7 (aZ (au rfl rfl ⟨by rw [iQ],E⟩))))))))
 have b1:=ib fM;have hle:=kd (s.drop p);have X8:(s.drop p).length=s.length-p:=List.length_drop ..
 by_cases dk:(aJ (s.drop p)).2=0
 ·skip
  refine bQ (mE rfl gu fM (zm fM dk) rfl fun fV qS A3 DN=>?_);replace E:=E.trans' A3 (fun x ae=>.inr (by simp at ae;subst ae;exact pn));clear gu;have gu:=qS;refine ag (eH rfl rfl) (J br (ax fun bI=>?_));refine a7 rfl (fun kq=>?_) (fun kq=>?_)
  ·skip
   refine ca (aw bI (eB (ab fun bW=>ak 4 rfl (J bW (ab fun cb=>ak 2 rfl (jg (bh rfl) (ak 3 rfl (ar (cG Tryz.underlying9 rfl rfl cp) (fD (bF uX rfl) (uY _ (s.drop p) [239,191,189]) fun ic R=>?_)))))))));replace gu:=gu.I R;replace E:=E.then R;refine ak 2 rfl (J cb ?_);refine a7 rfl (fun nL=>?_) (fun nL=>?_)
   ·have iQ:cn s=false:=bK.trans (tC b1 dk);exact ab fun cx=>aT rfl (J cx (aZ (bx (by simp) (aO (by simp) (bx (by simp) (aO (by simp) (au rfl rfl ⟨by rw [iQ],E⟩)))))))
   exact absurd (by simpa using nL) (Zk dk)
  cases kq
 skip
 refine bQ (mE rfl gu fM (x7 fM dk) rfl fun jn qS A3 DN=>?_);replace E:=E.trans' A3 (fun x ae=>.inr (by simp at ae;subst ae;exact pn));clear gu;have gu:=qS;refine ag (eH rfl rfl) (J br (ax fun cH=>?_));refine a7 rfl (fun kq=>?_) (fun kq=>?_);rotate_left
 ·cases kq
 skip
 refine ca (aw cH (eB (ab fun b5=>ak 4 rfl (J b5 (ab fun bX=>ak 2 rfl ?_)))));refine cT (fun aew:((aJ (s.drop p)).1:Int)=65533=>?_) (fun aew=>?_)
 ·skip
  refine ak 3 rfl (ar (cG Tryz.underlying9 rfl rfl cp) (fD (bF uX rfl) (uY _ (s.drop p) [239,191,189]) fun jC R=>?_));replace gu:=gu.I R;replace E:=E.then R;refine ak 2 rfl (J bX ?_);refine a7 rfl (fun nL=>?_) (fun nL=>?_)
  ·rw [bh (show([239,191,189]:aa).length≤(s.drop p).length∧(s.drop p).take ([239,191,189]:aa).length = [239,191,189] from Zl b1 dk (by omega))] at nL;cases nL
  skip
  exact ca (bx (by simp) (fJ (σ:=Nat) (s:=p) (p+(aJ (s.drop p)).2) ⟨rfl,rfl,trivial⟩ ⟨by omega,by rw [bK,k1 b1 dk,List.drop_drop],gu,pn,E⟩ (by omega)))
 skip
 refine ak 7 rfl (J bX (aE rfl ?_))
 skip
 exact ca (bx (by simp) (fJ (σ:=Nat) (s:=p) (p+(aJ (s.drop p)).2) ⟨rfl,rfl,trivial⟩ ⟨by omega,by rw [bK,k1 b1 dk,List.drop_drop],gu,pn,E⟩ (by omega)))
set_option maxRecDepth 10000
theorem Zm:aQ Tryz.prog 225:=aQ.of Tryz.func225 (by kernel_rfl) (by kernel_rfl)
theorem Zn (w:World) (v:Value) (b:aa) (c:Nat) (O:hK w v b) (h1:c≤1114111) (aq:¬ (55296≤c∧c≤57343)) (aS:b.length≤1000000) (b3:128≤c):Calls Tryz.prog 225 [v,.int .i32 (c:Int)].toArray w (bL fun u w'=>hK w' u (b++jf c)∧(∀ x∈a1 u,x∈a1 v∨w.heap.size≤x)∧Mod (a1 v) w w'):=by
 refine enter Tryz.func225 rfl rfl rfl (l:=[(0,_),(1,_)]) ⟨rfl,rfl,trivial⟩ ?_;have E:=Mod.refl [] w;refine ab fun aV=>aT rfl (J aV (ab fun aL=>aG rfl (ag (LZ Tryz.underlying21 Tryz.underlying117 rfl h1) (aT rfl (J aL (eB (ab fun aW=>ak 3 rfl (J aW ?_))))))));refine aI rfl (fun uw=>?_) (fun uw=>?_)
 ·refine ab fun br=>ak 2 rfl (ag (q7 6 64 rfl rfl (by decide) (by decide)) (ag (mq Tryz.underlying21 Tryz.underlying5 rfl) (ag (Zo rfl rfl (by omega)) (aG rfl (ag (mq Tryz.underlying21 Tryz.underlying5 rfl) (ag (sn rfl rfl) (ag (pM rfl rfl) (bD (cs:=[_,_]) cV kF rfl rfl rfl (by decide) rfl fun g1 aB bR=>?_))))))));have bH:=bR.le E;have yk:=bR.b8 O;replace E:=E.then bR.mod;replace O:=O.I bR.mod;have U:=bR.az;exact bu cV rfl rfl O (Src.own Tryz.underlying65 (Own.all (c:=2) (cs:=[_,_]) U rfl (by omega)) (by simp [Value.oneCell'])) (by decide) (by omega) (by omega) rfl fun gi cN eD=>aT rfl (J br (aZ (bx (by simp) (au rfl rfl ⟨sq h1 eD.own (by rw [show fj c = [192+c / 64,128+c % 64] by unfold fj;rw [if_neg (by omega),if_pos (by omega)]];rfl) (by rw [show fj c = [192+c / 64,128+c % 64] by unfold fj;rw [if_neg (by omega),if_pos (by omega)]];rfl),fun x ae=>(eD.lZ x ae).imp id (Nat.le_trans E.size),(E.mono (by simp)).trans eD.mod⟩))))
 refine ax fun bI=>ab fun bW=>ak 2 rfl ?_;refine cT (fun Ik:(c:Int)<55296=>?_) (fun Ik=>?_)
 ·refine aT rfl (J bW (aD rfl (ca (aw bI (aD rfl (ab fun cb=>ak 2 rfl (ag (q7 12 4096 rfl rfl (by decide) (by decide)) (ag (mq Tryz.underlying21 Tryz.underlying5 rfl) (ag (L0 rfl rfl (by omega)) (aG rfl (ag (q7 6 64 rfl rfl (by decide) (by decide)) (ag (mq Tryz.underlying21 Tryz.underlying5 rfl) ?_))))))))))));refine ag (sn rfl rfl) (ag (pM rfl rfl) (aG rfl (ag (mq Tryz.underlying21 Tryz.underlying5 rfl) (ag (sn rfl rfl) (ag (pM rfl rfl) (bD (cs:=[_,_,_]) cV kF rfl rfl rfl (by decide) rfl fun g2 fV cK=>?_))))));have b4:=cK.le E;have mz:=cK.b8 O;replace E:=E.then cK.mod;replace O:=O.I cK.mod;have ah:=cK.az;exact bu cV rfl rfl O (Src.own Tryz.underlying65 (Own.all (c:=3) (cs:=[_,_,_]) ah rfl (by omega)) (by simp [Value.oneCell'])) (by decide) (by omega) (by omega) rfl fun gi ic eD=>aT rfl (J cb (aZ (bx (by simp) (au rfl rfl ⟨sq h1 eD.own (by rw [show fj c = [224+c / 4096,128+c / 64 % 64,128+c % 64] by unfold fj;rw [if_neg (by omega),if_neg (by omega),if_pos (by omega)]];rfl) (by rw [show fj c = [224+c / 4096,128+c / 64 % 64,128+c % 64] by unfold fj;rw [if_neg (by omega),if_neg (by omega),if_pos (by omega)]];rfl),fun x ae=>(eD.lZ x ae).imp id (Nat.le_trans E.size),(E.mono (by simp)).trans eD.mod⟩))))
 refine aT rfl (J bW (aE rfl (bQ (ak 2 rfl (jg (bh (show(57343:Int)<(c:Int)by omega)) (ak 5 rfl (J bI ?_)))))));refine aI rfl (fun p6=>?_) (fun p6=>?_)
 ·refine ab fun cx=>ak 2 rfl (ag (q7 12 4096 rfl rfl (by decide) (by decide)) (ag (mq Tryz.underlying21 Tryz.underlying5 rfl) (ag (L0 rfl rfl (by omega)) (aG rfl (ag (q7 6 64 rfl rfl (by decide) (by decide)) (ag (mq Tryz.underlying21 Tryz.underlying5 rfl) (ag (sn rfl rfl) (ag (pM rfl rfl) (aG rfl (ag (mq Tryz.underlying21 Tryz.underlying5 rfl) (ag (sn rfl rfl) (ag (pM rfl rfl) ?_))))))))))));refine bD (cs:=[_,_,_]) cV kF rfl rfl rfl (by decide) rfl fun g3 jn eQ=>?_;have dJ:=eQ.le E;have nP:=eQ.b8 O;replace E:=E.then eQ.mod;replace O:=O.I eQ.mod;have bz:=eQ.az;exact bu cV rfl rfl O (Src.own Tryz.underlying65 (Own.all (c:=3) (cs:=[_,_,_]) bz rfl (by omega)) (by simp [Value.oneCell'])) (by decide) (by omega) (by omega) rfl fun gi jC eD=>aT rfl (J cx (aZ (bx (by simp) (au rfl rfl ⟨sq h1 eD.own (by rw [show fj c = [224+c / 4096,128+c / 64 % 64,128+c % 64] by unfold fj;rw [if_neg (by omega),if_neg (by omega),if_pos (by omega)]];rfl) (by rw [show fj c = [224+c / 4096,128+c / 64 % 64,128+c % 64] by unfold fj;rw [if_neg (by omega),if_neg (by omega),if_pos (by omega)]];rfl),fun x ae=>(eD.lZ x ae).imp id (Nat.le_trans E.size),(E.mono (by simp)).trans eD.mod⟩))))
 refine ab fun cH=>ak 2 rfl (jg (bh (show(65535:Int)<(c:Int)by omega)) (ak 5 rfl (J cH ?_)));refine aI rfl (fun wQ=>?_) (fun wQ=>?_)
 ·refine ab fun b5=>ak 2 rfl (ag (q7 18 262144 rfl rfl (by decide) (by decide)) (ag (mq Tryz.underlying21 Tryz.underlying5 rfl) (ag (Zp rfl rfl (by omega)) (aG rfl (ag (q7 12 4096 rfl rfl (by decide) (by decide)) (ag (mq Tryz.underlying21 Tryz.underlying5 rfl) (ag (sn rfl rfl) (ag (pM rfl rfl) (aG rfl (ag (q7 6 64 rfl rfl (by decide) (by decide)) (ag (mq Tryz.underlying21 Tryz.underlying5 rfl) (ag (sn rfl rfl) ?_))))))))))));refine ag (pM rfl rfl) (aG rfl (ag (mq Tryz.underlying21 Tryz.underlying5 rfl) (ag (sn rfl rfl) (ag (pM rfl rfl) (bD (cs:=[_,_,_,_]) cV kF rfl rfl rfl (by decide) rfl fun g4 iw N4=>?_)))));have fO:=N4.le E;have nQ:=N4.b8 O;replace E:=E.then N4.mod;replace O:=O.I N4.mod;have bg:=N4.az;exact bu cV rfl rfl O (Src.own Tryz.underlying65 (Own.all (c:=4) (cs:=[_,_,_,_]) bg rfl (by omega)) (by simp [Value.oneCell'])) (by decide) (by omega) (by omega) rfl fun gi n' eD=>aT rfl (J b5 (aZ (bx (by simp) (au rfl rfl ⟨sq h1 eD.own (by rw [show fj c = [240+c / 262144,128+c / 4096 % 64,128+c / 64 % 64,128+c % 64] by unfold fj;rw [if_neg (by omega),if_neg (by omega),if_neg (by omega)]];rfl) (by rw [show fj c = [240+c / 262144,128+c / 4096 % 64,128+c / 64 % 64,128+c % 64] by unfold fj;rw [if_neg (by omega),if_neg (by omega),if_neg (by omega)]];rfl),fun x ae=>(eD.lZ x ae).imp id (Nat.le_trans E.size),(E.mono (by simp)).trans eD.mod⟩))))
 exact absurd (show(c:Int)≤1114111 by omega) wQ
theorem DP (w:World) (v:Value) (b:aa) (c:Nat) (O:hK w v b) (h1:c≤1114111) (aq:¬ (55296≤c∧c≤57343)) (aS:b.length≤1000000):Calls Tryz.prog 191 [v,.int .i32 (c:Int)].toArray w (bL fun u w'=>hK w' u (b++jf c)∧(∀ x∈a1 u,x∈a1 v∨w.heap.size≤x)∧Mod (a1 v) w w'):=by
 refine enter Tryz.func191 rfl rfl rfl (l:=[(0,_),(1,_)]) ⟨rfl,rfl,trivial⟩ ?_;have E:=Mod.refl [] w;refine ab fun aV=>aT rfl (J aV (ax fun aL=>ab fun aW=>aG rfl (ag (LZ Tryz.underlying21 Tryz.underlying117 rfl h1) (ag (pX rfl rfl) (J aW ?_)))));refine aI rfl (fun kz=>?_) (fun kz=>?_)
 ·refine ab fun br=>ak 2 rfl (ag (mq Tryz.underlying21 Tryz.underlying5 rfl) (bD (cs:=[_]) cV kF rfl rfl rfl (by decide) rfl fun g1 aB bR=>?_));have bH:=bR.le E;have yk:=bR.b8 O;replace E:=E.then bR.mod;replace O:=O.I bR.mod;have U:=bR.az;exact bu cV rfl rfl O (Src.own Tryz.underlying65 (Own.all (c:=1) (cs:=[_]) U rfl (by omega)) (by simp [Value.oneCell'])) (by decide) (by omega) (by omega) rfl fun gi cN eD=>aT rfl (J br (aZ (aO (by simp) (au rfl rfl ⟨sq h1 eD.own (by rw [show fj c = [c] by unfold fj;rw [if_pos (by omega)]];rfl) (by rw [show fj c = [c] by unfold fj;rw [if_pos (by omega)],show c % 256=c by omega];rfl),fun x ae=>(eD.lZ x ae).imp id (Nat.le_trans E.size),(E.mono (by simp)).trans eD.mod⟩))))
 refine ca (aw aL (ab fun bI=>ak 2 rfl (fA (bF Zm rfl) (Zn _ v b c O h1 aq aS (by omega)) rfl fun cO fV aA=>?_)));obtain⟨Mv,aiU,nu⟩:=aA;exact aT rfl (J bI (aZ (au rfl rfl ⟨Mv,fun x ae=>(aiU x ae).imp id (Nat.le_trans E.size),(E.mono (by simp)).trans nu⟩)))
end Go.Proofs.YtnihidkbkhcfoaaGreatDoor.V
