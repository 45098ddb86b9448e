/-
  A part of the proof: events: what they stand for in memory; whether one is greater than is played. No condition of its own.
-/
import Derived.Test.YtnihidkbkhcfoaaGreatDoorM2
import Derived.Test.YtnihidkbkhcfoaaGreatDoorProg
import Derived.Test.YtnihidkbkhcfoaaGreatDoorM3
import Derived.Test.YtnihidkbkhcfoaaGreatDoorM1
import Derived.Lib.AppendIntMem
import Derived.Lib.LaidTab
import Derived.Shelf.Strings.Trim
import Derived.Shelf.Small.Utf8
import Derived.Shelf.Small.Bits
import Derived.Shelf.Small.Strs
import Derived.Shelf.Small.Wraps
import Derived.Shelf.Utf8.AppendRune
import Derived.Shelf.Strconv.Atoi
import Derived.Shelf.Strconv.Itoa0
import Derived.Shelf.Strconv.Itoa1
import Derived.Shelf.LaysM
import Derived.Shelf.Strconv.Itoa2
import Derived.Shelf.Strconv.Itoa3
import Derived.Shelf.Strconv.AtoiErrFast
import Derived.Shelf.Strconv.ParseIntEmpty
import Derived.Shelf.Strconv.AtoiFail
import Derived.Shelf.Strconv.Clone
import Derived.Shelf.Strconv.SyntaxError
import Derived.Shelf.LaysC
import Derived.Shelf.Strconv.ToError
import Derived.Shelf.Strconv.Lower
import Derived.Shelf.Strconv.ParseUint10
import Derived.Shelf.Strconv.ParseUint10Empty
import Derived.Shelf.Strconv.ParseUint10Any
import Derived.Shelf.Strconv.ParseInt10
import Derived.Shelf.Strconv.AtoiLong
import Derived.Shelf.Strconv.AtoiInnerAll
import Derived.Shelf.Strconv.RangeError
import Derived.Shelf.Strconv.ToErrorRange
import Derived.Shelf.Strconv.AtoiAll
import Derived.Shelf.Strconv.ErrVarAll
import Derived.Shelf.Strings.Search1
import Derived.Shelf.Strings.Search2
import Derived.Shelf.Strings.Cut
import Derived.Shelf.Strings.Shaped
import Derived.Shelf.Strings.Prefix
import Derived.Shelf.Strings.Runes
import Derived.Shelf.Strings.AsciiSet
import Derived.Shelf.Unicode.DecodeSlow
import Derived.Shelf.Unicode.DecodeAny
import Derived.Ground.Names2Prog
import Derived.Shelf.Slices.Clone
set_option linter.unusedVariables false
set_option linter.unusedSimpArgs false
set_option maxRecDepth 10000
namespace Go.Proofs.YtnihidkbkhcfoaaGreatDoor.V
open Go Go.Proofs
theorem Vm (w:World) (s:aa):Calls Tryz.prog 152 [S s].toArray w (bM fun u w'=>u = .tuple #[.int .i64 ((aI s).1:Int),.int .i64 ((aI s).2:Int)]∧Mod [] w w'):=by
 refine enter Tryz.func152 rfl rfl rfl (l:=[(0,_)]) ⟨rfl,trivial⟩ ?_;have E:=Mod.refl [] w;refine ab fun aV=>ak 2 rfl (J aV (ax fun aL=>ab fun aX=>aG rfl (ag (dG rfl rfl) (J aX ?_))));refine aK rfl (fun k9=>?_) (fun k9=>?_)
 ·have sS:s = []:=k9;subst sS;have iQ:aI []=(0,0):=rfl;exact ab fun bt=>ak 2 rfl (J bt (ba (aR (by simp) (cr rfl rfl rfl ⟨by rw [iQ];try rfl,E⟩))))
 obtain⟨b0,r,rfl⟩:∃ b0 r,s=b0::r:=by
  cases s with
  | nil=>exact absurd rfl k9
  | cons b0 r=>exact⟨b0,r,rfl⟩
 have C5:=b0.toNat_lt;have hlen:(b0::r).length=r.length+1:=rfl;refine b8 (au aL (ab fun bN=>aG rfl (C6 (m:=0) Tryz.underlying9 rfl rfl (by omega) (by simp) rfl fun akb afM=>?_)));obtain rfl:b0=akb:=by simpa using afM
 refine ag (p2 (r:=(b0.toNat:Int)) Tryz.underlying5 Tryz.underlying3 rfl (wrap64_in _ (by omega))) (aU rfl (J bN (ax fun b2=>ab fun cd=>ak 2 rfl (J cd ?_))));refine aK rfl (fun p6=>?_) (fun p6=>?_)
 ·have iQ:=fW (b0:=b0) (r:=r) (by omega);exact ab fun cD=>ak 3 rfl (J cD (ba (aR (by simp) (cr rfl rfl rfl ⟨by rw [iQ];try rfl,E⟩))))
 have eG:¬ b0.toNat<128:=by omega
 refine b8 (au b2 (ab fun cJ=>aU rfl (J cJ (ab fun cf=>aU rfl (J cf (nj fun H7 b1=>?_))))));have o9:∀ (n l c:Nat) (aB:World),eh b0.toNat=(n,l,c)∧(n=0∨c<32∧2≤n∧n≤4)∧Mod [] w aB→∀ a,Has 91 [] [(0,S (b0::r)),(4,.int .i64 (c:Int)),(5,.int .i64 (n:Int)),(6,.int .i64 (l:Int))] a→H7 a aB:=by
  intro n l c aB ox;obtain⟨hH,cj,E⟩:=ox;refine b1 _ _ _ _ (ax fun cX=>ab fun cb=>ak 2 rfl ?_);refine da (fun Vn:(n:Int)=0=>?_) (fun Vn=>?_)
  ·refine ak 6 rfl (J cb (aF rfl ?_));have iQ:=fX (r:=r) eG hH (.inl (by omega));exact ab fun cU=>ak 2 rfl (J cU (ba (aR (by simp) (cr rfl rfl rfl ⟨by rw [iQ];try rfl,E⟩))))
  refine ak 2 rfl (aw (br Tryz.underlying9 rfl) (ak 2 rfl ?_));refine da (fun Vo:((b0::r).length:Int)<n=>?_) (fun Vo=>?_)
  ·refine ag (jA rfl rfl rfl) (J cb (aF rfl ?_));have iQ:=fX (r:=r) eG hH (.inr (by omega));exact ab fun dj=>ak 2 rfl (J dj (ba (aR (by simp) (cr rfl rfl rfl ⟨by rw [iQ];try rfl,E⟩))))
  refine ag (jA rfl rfl rfl) (J cb (aD rfl ?_));have oy:¬ (n=0∨(b0::r).length<n):=by omega
  refine b8 (au cX (ax fun dO=>ab fun eH=>aU rfl (J eH (eE (bX (σ:=Nat×Nat) (fun⟨i,d⟩=>[(0,S (b0::r)),(4,.int .i64 (d:Int)),(5,.int .i64 (n:Int)),(6,.int .i64 (l:Int)),(7,.int .i64 (i:Int))]) (fun⟨i,d⟩ aB=>1≤i∧i≤n∧hp ((r.take (n-1)).drop (i-1)) d=hp (r.take (n-1)) c∧((i=1∧d<64)∨(i=2∧d<4096)∨(i=3∧d<262144)∨(i=4∧d<16777216))∧Mod [] w aB) (fun⟨i,d⟩=>n-i) (⟨1,c⟩) ⟨rfl,rfl,rfl,rfl,rfl,trivial⟩ (⟨by omega,by omega,rfl,by omega,E⟩) ?_)))));rintro⟨i,d⟩ cO ⟨nQ,hi,hF,bV,E⟩;refine ax fun ee=>ab fun fE=>ak 3 rfl (J fE ?_);refine aK rfl (fun akc=>?_) (fun akc=>?_);rotate_left
  ·have EZ:hp (r.take (n-1)) c=some d:=by rw [← hF,List.drop_eq_nil_of_le (by rw [List.length_take];omega)];rfl
   refine bo (aR (by simp) (aR (by simp) (bU (au dO (ax fun hA=>ab fun hh=>ak 3 rfl ?_)))));refine da (fun Vr:(d:Int)<l=>?_) (fun Vr=>?_)
   ·refine ak 12 rfl (J hh (aF rfl ?_));have iQ:=l7 eG hH oy EZ (by omega);exact ab fun hB=>ak 2 rfl (J hB (ba (aR (by simp) (cr rfl rfl rfl ⟨by rw [iQ];try rfl,E⟩))))
   refine ak 3 rfl ?_;refine da (fun Vs:(d:Int) > 1114111=>?_) (fun Vs=>?_)
   ·refine ak 9 rfl (J hh (aF rfl ?_));have iQ:=l7 eG hH oy EZ (by omega);exact ab fun ie=>ak 2 rfl (J ie (ba (aR (by simp) (cr rfl rfl rfl ⟨by rw [iQ];try rfl,E⟩))))
   refine ak 3 rfl (aw (dq rfl rfl) ?_);refine da (fun Vt:(d:Int)≥55296=>?_) (fun Vt=>?_)
   ·refine ak 5 rfl (J hh ?_);refine aK rfl (fun ake=>?_) (fun ake=>?_)
    ·have iQ:=l7 eG hH oy EZ (by omega);exact ab fun jO=>ak 2 rfl (J jO (ba (aR (by simp) (cr rfl rfl rfl ⟨by rw [iQ];try rfl,E⟩))))
    have iQ:=k' eG hH oy EZ (by omega);exact b8 (au hA (ab fun jP=>ak 4 rfl (J jP (ba (cr rfl rfl rfl ⟨by rw [iQ];try rfl,E⟩)))))
   refine ak 5 rfl (J hh (aD rfl ?_));have iQ:=k' eG hH oy EZ (by omega);exact b8 (au hA (ab fun la=>ak 4 rfl (J la (ba (cr rfl rfl rfl ⟨by rw [iQ];try rfl,E⟩)))))
  obtain⟨dm,cI⟩:∃ dm,(b0::r)[i]? = some dm:=⟨_,List.getElem?_eq_getElem (by omega)⟩;have OR:(r.take (n-1))[i-1]? = some dm:=by
   rw [List.getElem?_take,if_pos (by omega)];rw [← cI];obtain⟨j,rfl⟩:∃ j,i=j+1:=⟨i-1,by omega⟩;simp
  have aoD:=dm.toNat_lt;refine b8 (au ee (ax fun fT=>eE (ax fun fF=>ab fun fG=>ak 2 rfl (C6 (m:=i) Tryz.underlying9 rfl rfl (by omega) (by simp;omega) rfl fun akd ZW=>?_))));obtain rfl:dm=akd:=by rw [Int.toNat_natCast,cI] at ZW;injection ZW
  refine ag (cL rfl rfl) ?_;refine da (fun Vp:(dm.toNat:Int)<128=>?_) (fun Vp=>?_)
  ·refine ak 6 rfl (J fG (aF rfl ?_));have iQ:=iG eG hH oy (by rw [← hF];exact Bx OR (.inl (by omega)));exact ab fun gU=>ak 2 rfl (J gU (ba (aR (by simp) (bz (by simp) (aR (by simp) (aR (by simp) (bz (by simp) (aR (by simp) (cr rfl rfl rfl ⟨by rw [iQ];try rfl,E⟩)))))))))
  refine ak 3 rfl (aw (b6 Tryz.underlying9 rfl rfl (by omega) (by rw [Int.toNat_natCast];exact cI)) (aw (dq rfl rfl) ?_));refine da (fun Vq:(dm.toNat:Int)≥192=>?_) (fun Vq=>?_)
  ·refine ag (jA rfl rfl rfl) (J fG (aF rfl ?_));have iQ:=iG eG hH oy (by rw [← hF];exact Bx OR (.inr (by omega)));exact ab fun hg=>ak 2 rfl (J hg (ba (aR (by simp) (bz (by simp) (aR (by simp) (aR (by simp) (bz (by simp) (aR (by simp) (cr rfl rfl rfl ⟨by rw [iQ];try rfl,E⟩)))))))))
  refine ag (jA rfl rfl rfl) (J fG (aD rfl ?_));have hG:=L5 (d:=d) OR (by omega);rw [show i-1+1=i by omega] at hG;refine b8 (au fF (bP (aG rfl (ag (xS (r:=((d*64:Nat):Int)) rfl rfl (by rw [wrap64_in _ (by omega)];omega)) (ak 2 rfl (ag (b6 Tryz.underlying9 rfl rfl (by omega) (by rw [Int.toNat_natCast];exact cI)) (ag (p2 (r:=(dm.toNat:Int)) Tryz.underlying5 Tryz.underlying3 rfl (wrap64_in _ (by omega))) (ag ((kL rfl rfl (by omega)).to (v':=.int .i64 ((dm.toNat % 64:Nat):Int)) (by rw [Int.natCast_emod];try rfl)) (ag (cS (r:=((d*64+dm.toNat % 64:Nat):Int)) rfl rfl (by rw [wrap64_in _ (by omega)];omega)) (aU rfl (cF (bz (by simp) (au fT ?_)))))))))))));exact bP (aG rfl (ag (aO rfl rfl (by omega)) (aU rfl (cF (fK (σ:=Nat×Nat) (s:=⟨i,d⟩) (⟨i+1,d*64+dm.toNat % 64⟩) ⟨rfl,rfl,rfl,rfl,rfl,trivial⟩ ⟨by omega,by omega,by rw [show i+1-1=i by omega,← hG];exact hF,by omega,E⟩ (by dsimp only;omega))))))
 refine eE (ab fun jc=>aG rfl (ag (dq rfl rfl) ?_));refine da (fun ic:(b0.toNat:Int)≥192=>?_) (fun ic=>?_);rotate_left
 ·refine ak 5 rfl (J jc (aD rfl (ab fun q9=>aG rfl (ag (dq rfl rfl) ?_))));refine da (fun dx:(b0.toNat:Int)≥224=>?_) (fun dx=>?_)
  ·refine ak 3 rfl ?_;refine da (fun C7:(b0.toNat:Int)<240=>?_) (fun C7=>?_)
   ·refine ak 2 rfl (J q9 (aF rfl (ab fun rO=>aU rfl (J rO (ab fun oz=>aU rfl (J oz (bP (aG rfl (ag ((kL rfl rfl (by omega)).to (v':=.int .i64 ((b0.toNat % 16:Nat):Int)) (by rw [Int.natCast_emod];try rfl)) (aU rfl (cF ?_)))))))))));refine bz (by simp) ?_;refine fB.sub (l':=[(0,_),(4,_),(5,_),(6,_)]) ⟨rfl,rfl,rfl,rfl,trivial⟩ (dT (o9 3 2048 (b0.toNat % 16) w ⟨by unfold eh;rw [if_neg (by omega),if_pos (by omega)],by omega,E⟩))
   refine ak 2 rfl (J q9 (aD rfl (ab fun q'=>aG rfl (ag (dq rfl rfl) ?_))));refine da (fun qz:(b0.toNat:Int)≥240=>?_) (fun qz=>?_)
   ·refine ak 3 rfl ?_;refine da (fun qA:(b0.toNat:Int)<248=>?_) (fun qA=>?_)
    ·refine ak 2 rfl (J q' (aF rfl (ab fun yG=>aU rfl (J yG (ab fun yH=>aU rfl (J yH (bP (aG rfl (ag ((kL rfl rfl (by omega)).to (v':=.int .i64 ((b0.toNat % 8:Nat):Int)) (by rw [Int.natCast_emod];try rfl)) (aU rfl (cF ?_)))))))))));refine bz (by simp) ?_;refine fB.sub (l':=[(0,_),(4,_),(5,_),(6,_)]) ⟨rfl,rfl,rfl,rfl,trivial⟩ (dT (o9 4 65536 (b0.toNat % 8) w ⟨by unfold eh;rw [if_neg (by omega),if_neg (by omega),if_pos (by omega)],by omega,E⟩))
    refine ak 2 rfl (J q' (aD rfl (b8 (bz (by simp) ?_))));refine fB.sub (l':=[(0,_),(4,_),(5,_),(6,_)]) ⟨rfl,rfl,rfl,rfl,trivial⟩ (dT (o9 0 0 b0.toNat w ⟨by unfold eh;rw [if_neg (by omega),if_neg (by omega),if_neg (by omega)],by omega,E⟩))
   refine ak 5 rfl (J q' (aD rfl (b8 (bz (by simp) ?_))));refine fB.sub (l':=[(0,_),(4,_),(5,_),(6,_)]) ⟨rfl,rfl,rfl,rfl,trivial⟩ (dT (o9 0 0 b0.toNat w ⟨by unfold eh;rw [if_neg (by omega),if_neg (by omega),if_neg (by omega)],by omega,E⟩))
  refine ak 5 rfl (J q9 (aD rfl (ab fun rP=>aG rfl (ag (dq rfl rfl) ?_))));refine da (fun qz:(b0.toNat:Int)≥240=>?_) (fun qz=>?_)
  ·refine ak 3 rfl ?_;refine da (fun qA:(b0.toNat:Int)<248=>?_) (fun qA=>?_)
   ·refine ak 2 rfl (J rP (aF rfl (ab fun yI=>aU rfl (J yI (ab fun yJ=>aU rfl (J yJ (bP (aG rfl (ag ((kL rfl rfl (by omega)).to (v':=.int .i64 ((b0.toNat % 8:Nat):Int)) (by rw [Int.natCast_emod];try rfl)) (aU rfl (cF ?_)))))))))));refine bz (by simp) ?_;refine fB.sub (l':=[(0,_),(4,_),(5,_),(6,_)]) ⟨rfl,rfl,rfl,rfl,trivial⟩ (dT (o9 4 65536 (b0.toNat % 8) w ⟨by unfold eh;rw [if_neg (by omega),if_neg (by omega),if_pos (by omega)],by omega,E⟩))
   refine ak 2 rfl (J rP (aD rfl (b8 (bz (by simp) ?_))));refine fB.sub (l':=[(0,_),(4,_),(5,_),(6,_)]) ⟨rfl,rfl,rfl,rfl,trivial⟩ (dT (o9 0 0 b0.toNat w ⟨by unfold eh;rw [if_neg (by omega),if_neg (by omega),if_neg (by omega)],by omega,E⟩))
  refine ak 5 rfl (J rP (aD rfl (b8 (bz (by simp) ?_))));refine fB.sub (l':=[(0,_),(4,_),(5,_),(6,_)]) ⟨rfl,rfl,rfl,rfl,trivial⟩ (dT (o9 0 0 b0.toNat w ⟨by unfold eh;rw [if_neg (by omega),if_neg (by omega),if_neg (by omega)],by omega,E⟩))
 refine ak 3 rfl ?_;refine da (fun abh:(b0.toNat:Int)<224=>?_) (fun abh=>?_)
 ·refine ak 2 rfl (J jc (aF rfl (ab fun kx=>aU rfl (J kx (ab fun lb=>aU rfl (J lb (bP (aG rfl (ag ((kL rfl rfl (by omega)).to (v':=.int .i64 ((b0.toNat % 32:Nat):Int)) (by rw [Int.natCast_emod];try rfl)) (aU rfl (cF ?_)))))))))));refine bz (by simp) ?_;refine fB.sub (l':=[(0,_),(4,_),(5,_),(6,_)]) ⟨rfl,rfl,rfl,rfl,trivial⟩ (dT (o9 2 128 (b0.toNat % 32) w ⟨by unfold eh;rw [if_pos (by omega)],by omega,E⟩))
 refine ak 2 rfl (J jc (aD rfl (ab fun jQ=>aG rfl (ag (dq rfl rfl) ?_))));refine da (fun dx:(b0.toNat:Int)≥224=>?_) (fun dx=>?_)
 ·refine ak 3 rfl ?_;refine da (fun C7:(b0.toNat:Int)<240=>?_) (fun C7=>?_)
  ·refine ak 2 rfl (J jQ (aF rfl (ab fun mM=>aU rfl (J mM (ab fun ky=>aU rfl (J ky (bP (aG rfl (ag ((kL rfl rfl (by omega)).to (v':=.int .i64 ((b0.toNat % 16:Nat):Int)) (by rw [Int.natCast_emod];try rfl)) (aU rfl (cF ?_)))))))))));refine bz (by simp) ?_;refine fB.sub (l':=[(0,_),(4,_),(5,_),(6,_)]) ⟨rfl,rfl,rfl,rfl,trivial⟩ (dT (o9 3 2048 (b0.toNat % 16) w ⟨by unfold eh;rw [if_neg (by omega),if_pos (by omega)],by omega,E⟩))
  refine ak 2 rfl (J jQ (aD rfl (ab fun lf=>aG rfl (ag (dq rfl rfl) ?_))));refine da (fun qz:(b0.toNat:Int)≥240=>?_) (fun qz=>?_)
  ·refine ak 3 rfl ?_;refine da (fun qA:(b0.toNat:Int)<248=>?_) (fun qA=>?_)
   ·refine ak 2 rfl (J lf (aF rfl (ab fun q8=>aU rfl (J q8 (ab fun pg=>aU rfl (J pg (bP (aG rfl (ag ((kL rfl rfl (by omega)).to (v':=.int .i64 ((b0.toNat % 8:Nat):Int)) (by rw [Int.natCast_emod];try rfl)) (aU rfl (cF ?_)))))))))));refine bz (by simp) ?_;refine fB.sub (l':=[(0,_),(4,_),(5,_),(6,_)]) ⟨rfl,rfl,rfl,rfl,trivial⟩ (dT (o9 4 65536 (b0.toNat % 8) w ⟨by unfold eh;rw [if_neg (by omega),if_neg (by omega),if_pos (by omega)],by omega,E⟩))
   refine ak 2 rfl (J lf (aD rfl (b8 (bz (by simp) ?_))));refine fB.sub (l':=[(0,_),(4,_),(5,_),(6,_)]) ⟨rfl,rfl,rfl,rfl,trivial⟩ (dT (o9 0 0 b0.toNat w ⟨by unfold eh;rw [if_neg (by omega),if_neg (by omega),if_neg (by omega)],by omega,E⟩))
  refine ak 5 rfl (J lf (aD rfl (b8 (bz (by simp) ?_))));refine fB.sub (l':=[(0,_),(4,_),(5,_),(6,_)]) ⟨rfl,rfl,rfl,rfl,trivial⟩ (dT (o9 0 0 b0.toNat w ⟨by unfold eh;rw [if_neg (by omega),if_neg (by omega),if_neg (by omega)],by omega,E⟩))
 refine ak 5 rfl (J jQ (aD rfl (ab fun mN=>aG rfl (ag (dq rfl rfl) ?_))));refine da (fun qz:(b0.toNat:Int)≥240=>?_) (fun qz=>?_)
 ·refine ak 3 rfl ?_;refine da (fun qA:(b0.toNat:Int)<248=>?_) (fun qA=>?_)
  ·refine ak 2 rfl (J mN (aF rfl (ab fun kz=>aU rfl (J kz (ab fun uu=>aU rfl (J uu (bP (aG rfl (ag ((kL rfl rfl (by omega)).to (v':=.int .i64 ((b0.toNat % 8:Nat):Int)) (by rw [Int.natCast_emod];try rfl)) (aU rfl (cF ?_)))))))))));refine bz (by simp) ?_;refine fB.sub (l':=[(0,_),(4,_),(5,_),(6,_)]) ⟨rfl,rfl,rfl,rfl,trivial⟩ (dT (o9 4 65536 (b0.toNat % 8) w ⟨by unfold eh;rw [if_neg (by omega),if_neg (by omega),if_pos (by omega)],by omega,E⟩))
  refine ak 2 rfl (J mN (aD rfl (b8 (bz (by simp) ?_))));refine fB.sub (l':=[(0,_),(4,_),(5,_),(6,_)]) ⟨rfl,rfl,rfl,rfl,trivial⟩ (dT (o9 0 0 b0.toNat w ⟨by unfold eh;rw [if_neg (by omega),if_neg (by omega),if_neg (by omega)],by omega,E⟩))
 refine ak 5 rfl (J mN (aD rfl (b8 (bz (by simp) ?_))));refine fB.sub (l':=[(0,_),(4,_),(5,_),(6,_)]) ⟨rfl,rfl,rfl,rfl,trivial⟩ (dT (o9 0 0 b0.toNat w ⟨by unfold eh;rw [if_neg (by omega),if_neg (by omega),if_neg (by omega)],by omega,E⟩))
set_option maxRecDepth 10000
theorem Vu:aP Tryz.prog 152:=aP.of Tryz.func152 (by kernel_rfl) (by kernel_rfl)
theorem By (w:World) (s:aa):Calls Tryz.prog 140 [S s].toArray w (bM fun u w'=>u = .bool (ck s)∧Mod [] w w'):=by
 refine enter Tryz.func140 rfl rfl rfl (l:=[(0,_)]) ⟨rfl,trivial⟩ ?_;have E:=Mod.refl [] w;refine ab fun aV=>aU rfl (J aV (ax fun aL=>eE (bX (σ:=aa) (fun s1=>[(0,S s1)]) (fun s1 aB=>ck s=ck s1∧Mod [] w aB) (fun s1=>s1.length) (s) ⟨rfl,trivial⟩ (⟨rfl,E⟩) ?_)));rintro s1 aB ⟨bK,E⟩;refine ax fun aX=>ab fun bt=>aG rfl (ag (e3 rfl rfl) (J bt ?_));refine aK rfl (fun eU=>?_) (fun eU=>?_)
 ·have bY:s1≠[]:=eU;refine b8 (au aX (eE (ab fun bN=>aG rfl (cQ (bE Vu rfl) (Vm _ _) fun cO R=>?_))));replace E:=E.then R;refine ak 5 rfl (J bN (ax fun b2=>ab fun cd=>ak 2 rfl (J cd ?_)));refine aK rfl (fun ts=>?_) (fun ts=>?_)
  ·have iQ:ck s=false:=by rw [bK,tw bY (by omega)]
   exact ab fun cD=>aU rfl (J cD (ba (aR (by simp) (bz (by simp) (aR (by simp) (bz (by simp) (aR (by simp) (ar rfl rfl ⟨by rw [iQ],E⟩))))))))
  have abi:(aI s1).2≠0:=by omega
  refine b8 (au b2 (bP (ak 2 rfl ?_)));have hle:=j8 s1;exact ag (cE Tryz.underlying9 rfl rfl hle) (aU rfl (cF (bz (by simp) (fK (σ:=aa) (s:=s1) (s1.drop (aI s1).2) ⟨rfl,trivial⟩ ⟨bK.trans (kT bY abi),E⟩ ((by have:=j8 s1;have b3:s1.length≠0:=fun e=>bY (List.eq_nil_of_length_eq_zero e);simp only [List.length_drop];omega))))))
 have uv:s1 = []:=Classical.byContradiction eU;have iQ:ck s=true:=by rw [bK,uv,mO]
 exact bo (aR (by simp) (aR (by simp) (bU (au aL (ab fun cJ=>aU rfl (J cJ (ba (ar rfl rfl ⟨by rw [iQ],E⟩))))))))
set_option maxRecDepth 10000
theorem Kk:aP Tryz.prog 140:=aP.of Tryz.func140 (by kernel_rfl) (by kernel_rfl)
theorem cR:ly Tryz.prog 65 5 1 1=true:=by kernel_rfl
theorem kA:hD Tryz.prog 5 ([.int .u8 0]):=by unfold hD;kernel_rfl
theorem Vv (w:World) (s:aa) (bb:s.length≤65536):Calls Tryz.prog 200 [S s].toArray w (bM fun u w'=>u = .tuple #[S (if ck s then cv s else []),.bool (ck s)]∧Mod [] w w'):=by
 refine enter Tryz.func200 rfl rfl rfl (l:=[(0,_)]) ⟨rfl,trivial⟩ ?_;have E:=Mod.refl [] w;refine ab fun aV=>ak 2 rfl (J aV (ax fun aL=>ab fun aX=>aG rfl (cQ (bE Kk rfl) (By _ _) fun aB R=>?_)));replace E:=E.then R;refine ag (e4 rfl) (J aX ?_);refine a1 rfl (fun km=>?_) (fun km=>?_)
 ·have ra:ck s=false:=by simpa using km
  exact ab fun bt=>ak 2 rfl (J bt (ba (aR (by simp) (cr rfl rfl rfl ⟨by rw [ra];rfl,E⟩))))
 have ra:ck s=true:=by simpa using km
 refine b8 (au aL (ab fun bN=>aU rfl (J bN (ab fun b2=>bC (cs:=[_]) cR kA rfl rfl rfl (by decide) rfl fun g1 cO bT=>?_))));have bI:=bT.le E;replace E:=E.then bT.mod;have U:=bT.aA;refine aU rfl (J b2 (ax fun cd=>ab fun cD=>aU rfl (J cD (eE (bX (σ:=Nat×Value) (fun⟨k,v⟩=>[(0,S s),(4,S iH),(5,v),(6,.int .i64 (k:Int))]) (fun⟨k,v⟩ aB=>k≤s.length∧Own aB 5 1 v ((34::c7 (s.take k))).length ((((34::c7 (s.take k))).map uw).flatten)∧(∀ x∈aY v,w.heap.size≤x)∧Mod [] w aB) (fun⟨k,v⟩=>s.length-k) (⟨0,.slice (some ⟨g1,0,none⟩) 1 1⟩) ⟨rfl,rfl,rfl,rfl,trivial⟩ (⟨by omega,(Own.all (c:=1) U rfl (by omega)).same rfl rfl,by simp only [aY,List.mem_singleton];intro x ae;subst ae;exact bI,E⟩) ?_)))));rintro⟨k,v⟩ gb ⟨hk,lg,mw,E⟩;refine ax fun cJ=>ab fun cf=>ak 2 rfl (ag (br Tryz.underlying9 rfl) (ag (cL rfl rfl) (J cf ?_)));refine aK rfl (fun kn=>?_) (fun kn=>?_);rotate_left
 ·have mP:s.take k=s:=List.take_of_length_le (by omega);refine bo (aR (by simp) (aR (by simp) (bU (au cd (ab fun fT=>aG rfl (bC (cs:=[_]) cR kA rfl rfl rfl (by decide) rfl fun g11 Fb Fc=>?_))))));have ajp:=Fc.le E;have Fe:=Fc.b4 lg;replace E:=E.then Fc.mod;replace lg:=lg.I Fc.mod;have BA:=Fc.aA;have L6:=l8 s;have yB:(34::c7 (s.take k)).length=(c7 s).length+1:=by rw [mP];rfl
  refine bq cR rfl rfl lg (Src.own Tryz.underlying65 (Own.all (cs:=[_]) BA rfl (by omega)) (by simp [Value.oneCell'])) (by decide) (by omega) (by omega) rfl fun v10 AW OZ=>?_;have ae0:=OZ.ne Fe BA;have ajq:=OZ.ge mw E;replace BA:=BA.mod OZ.mod (fun ae=>Fe _ ae rfl);replace E:=E.trans' OZ.mod (fun x ae=>.inr (mw x ae));replace lg:=OZ.own;exact ag (oA (u:=cv s) Tryz.underlying65 Tryz.underlying5 Tryz.underlying9 rfl (lg.same (by rw [mP];simp [cv]) (by rw [mP];simp [cv,j2,dh]))) (ak 2 rfl (J fT (ba (cr rfl rfl rfl ⟨by rw [ra];rfl,E⟩))))
 refine b8 (au cJ (ax fun b1=>eE (ab fun cX=>ak 2 rfl (C6 (m:=k) Tryz.underlying9 rfl rfl (by omega) (by simp;omega) rfl fun c bh=>?_))));rw [Int.toNat_natCast] at bh;have lA:=c.toNat_lt;have L6:=l8 (s.take k);have AT:(s.take k).length=k:=by rw [List.length_take];omega
 have yB:(34::c7 (s.take k)).length=(c7 (s.take k)).length+1:=rfl;refine aU rfl (J cX (eE (ab fun cb=>ak 2 rfl ?_)));refine da (fun Vw:(c.toNat:Int)=34=>?_) (fun Vw=>?_)
 ·refine ak 5 rfl (J cb (aF rfl (bP (ak 2 rfl (bC (cs:=[_,_]) cR kA rfl rfl rfl (by decide) rfl fun g2 iu cW=>?_)))));have b9:=cW.le E;have my:=cW.b4 lg;replace E:=E.then cW.mod;replace lg:=lg.I cW.mod;have ah:=cW.aA;have iI:=C8 (c:=c) (by omega);refine bq cR rfl rfl lg (Src.own Tryz.underlying65 (Own.all (cs:=[_,_]) ah rfl (by omega)) (by simp [Value.oneCell'])) (by decide) (by omega) (by omega) rfl fun v1 js jh=>?_;have Ki:=jh.ne my ah;have tt:=jh.ge mw E;replace ah:=ah.mod jh.mod (fun ae=>my _ ae rfl);replace E:=E.trans' jh.mod (fun x ae=>.inr (mw x ae));replace lg:=jh.own;exact aU rfl (cF (bz (by simp) (bz (by simp) (au b1 (bP (aG rfl (ag (aO rfl rfl (by omega)) (aU rfl (cF (fK (σ:=Nat×Value) (s:=⟨k,v⟩) (⟨k+1,v1⟩) ⟨rfl,rfl,rfl,rfl,trivial⟩ ⟨by omega,lg.same (by rw [er bh,iI];simp) (by rw [er bh,iI];simp [j2]),tt,E⟩ (by dsimp only;omega)))))))))))
 refine ak 3 rfl ?_;refine da (fun Vx:(c.toNat:Int)=92=>?_) (fun Vx=>?_)
 ·refine ak 2 rfl (J cb (aF rfl (bP (ak 2 rfl (bC (cs:=[_,_]) cR kA rfl rfl rfl (by decide) rfl fun g3 jD eP=>?_)))));have dE:=eP.le E;have nO:=eP.b4 lg;replace E:=E.then eP.mod;replace lg:=lg.I eP.mod;have bu:=eP.aA;have iI:=C8 (c:=c) (by omega);refine bq cR rfl rfl lg (Src.own Tryz.underlying65 (Own.all (cs:=[_,_]) bu rfl (by omega)) (by simp [Value.oneCell'])) (by decide) (by omega) (by omega) rfl fun v2 iv AR=>?_;have Vy:=AR.ne nO bu;have yF:=AR.ge mw E;replace bu:=bu.mod AR.mod (fun ae=>nO _ ae rfl);replace E:=E.trans' AR.mod (fun x ae=>.inr (mw x ae));replace lg:=AR.own;exact aU rfl (cF (bz (by simp) (bz (by simp) (au b1 (bP (aG rfl (ag (aO rfl rfl (by omega)) (aU rfl (cF (fK (σ:=Nat×Value) (s:=⟨k,v⟩) (⟨k+1,v2⟩) ⟨rfl,rfl,rfl,rfl,trivial⟩ ⟨by omega,lg.same (by rw [er bh,iI];simp) (by rw [er bh,iI];simp [j2]),yF,E⟩ (by dsimp only;omega)))))))))))
 refine ak 2 rfl (J cb (aD rfl (ab fun cU=>ak 3 rfl (J cU ?_))));refine aK rfl (fun nR=>?_) (fun nR=>?_)
 ·refine bP (aG rfl (bC (cs:=[_,_]) cR kA rfl rfl rfl (by decide) rfl fun g4 oj N4=>?_));have fL:=N4.le E;have nP:=N4.b4 lg;replace E:=E.then N4.mod;replace lg:=lg.I N4.mod;have bf:=N4.aA;have iI:=OS nR;refine bq cR rfl rfl lg (Src.own Tryz.underlying65 (Own.all (cs:=[_,_]) bf rfl (by omega)) (by simp [Value.oneCell'])) (by decide) (by omega) (by omega) rfl fun v3 l1 AS=>?_;have Vz:=AS.ne nP bf;have C3:=AS.ge mw E;replace bf:=bf.mod AS.mod (fun ae=>nP _ ae rfl);replace E:=E.trans' AS.mod (fun x ae=>.inr (mw x ae));replace lg:=AS.own;exact aU rfl (cF (bz (by simp) (bz (by simp) (au b1 (bP (aG rfl (ag (aO rfl rfl (by omega)) (aU rfl (cF (fK (σ:=Nat×Value) (s:=⟨k,v⟩) (⟨k+1,v3⟩) ⟨rfl,rfl,rfl,rfl,trivial⟩ ⟨by omega,lg.same (by rw [er bh,iI];simp) (by rw [er bh,iI];simp [j2]),C3,E⟩ (by dsimp only;omega)))))))))))
 refine ab fun dj=>ak 3 rfl (J dj ?_);refine aK rfl (fun E0=>?_) (fun E0=>?_)
 ·refine bP (aG rfl (bC (cs:=[_,_]) cR kA rfl rfl rfl (by decide) rfl fun g5 iw fx=>?_));have ou:=fx.le E;have sy:=fx.b4 lg;replace E:=E.then fx.mod;replace lg:=lg.I fx.mod;have dH:=fx.aA;have iI:=OT E0;refine bq cR rfl rfl lg (Src.own Tryz.underlying65 (Own.all (cs:=[_,_]) dH rfl (by omega)) (by simp [Value.oneCell'])) (by decide) (by omega) (by omega) rfl fun v4 kl afN=>?_;have ajj:=afN.ne sy dH;have abj:=afN.ge mw E;replace dH:=dH.mod afN.mod (fun ae=>sy _ ae rfl);replace E:=E.trans' afN.mod (fun x ae=>.inr (mw x ae));replace lg:=afN.own;exact aU rfl (cF (bz (by simp) (bz (by simp) (au b1 (bP (aG rfl (ag (aO rfl rfl (by omega)) (aU rfl (cF (fK (σ:=Nat×Value) (s:=⟨k,v⟩) (⟨k+1,v4⟩) ⟨rfl,rfl,rfl,rfl,trivial⟩ ⟨by omega,lg.same (by rw [er bh,iI];simp) (by rw [er bh,iI];simp [j2]),abj,E⟩ (by dsimp only;omega)))))))))))
 refine ab fun dO=>ak 3 rfl (J dO ?_);refine aK rfl (fun AU=>?_) (fun AU=>?_)
 ·refine bP (aG rfl (bC (cs:=[_,_]) cR kA rfl rfl rfl (by decide) rfl fun g6 p3 j7=>?_));have tv:=j7.le E;have ur:=j7.b4 lg;replace E:=E.then j7.mod;replace lg:=lg.I j7.mod;have iP:=j7.aA;have iI:=OU AU;refine bq cR rfl rfl lg (Src.own Tryz.underlying65 (Own.all (cs:=[_,_]) iP rfl (by omega)) (by simp [Value.oneCell'])) (by decide) (by omega) (by omega) rfl fun v5 ov afO=>?_;have ajk:=afO.ne ur iP;have abk:=afO.ge mw E;replace iP:=iP.mod afO.mod (fun ae=>ur _ ae rfl);replace E:=E.trans' afO.mod (fun x ae=>.inr (mw x ae));replace lg:=afO.own;exact aU rfl (cF (bz (by simp) (bz (by simp) (au b1 (bP (aG rfl (ag (aO rfl rfl (by omega)) (aU rfl (cF (fK (σ:=Nat×Value) (s:=⟨k,v⟩) (⟨k+1,v5⟩) ⟨rfl,rfl,rfl,rfl,trivial⟩ ⟨by omega,lg.same (by rw [er bh,iI];simp) (by rw [er bh,iI];simp [j2]),abk,E⟩ (by dsimp only;omega)))))))))))
 refine ab fun eH=>ak 3 rfl (J eH ?_);refine aK rfl (fun AV=>?_) (fun AV=>?_)
 ·refine bP (aG rfl (bC (cs:=[_,_]) cR kA rfl rfl rfl (by decide) rfl fun g7 qB o6=>?_));have H8:=o6.le E;have Kl:=o6.b4 lg;replace E:=E.then o6.mod;replace lg:=lg.I o6.mod;have xA:=o6.aA;have iI:=OV AV;refine bq cR rfl rfl lg (Src.own Tryz.underlying65 (Own.all (cs:=[_,_]) xA rfl (by omega)) (by simp [Value.oneCell'])) (by decide) (by omega) (by omega) rfl fun v6 p7 afP=>?_;have ajl:=afP.ne Kl xA;have abl:=afP.ge mw E;replace xA:=xA.mod afP.mod (fun ae=>Kl _ ae rfl);replace E:=E.trans' afP.mod (fun x ae=>.inr (mw x ae));replace lg:=afP.own;exact aU rfl (cF (bz (by simp) (bz (by simp) (au b1 (bP (aG rfl (ag (aO rfl rfl (by omega)) (aU rfl (cF (fK (σ:=Nat×Value) (s:=⟨k,v⟩) (⟨k+1,v6⟩) ⟨rfl,rfl,rfl,rfl,trivial⟩ ⟨by omega,lg.same (by rw [er bh,iI];simp) (by rw [er bh,iI];simp [j2]),abl,E⟩ (by dsimp only;omega)))))))))))
 refine ab fun ee=>ak 3 rfl (J ee ?_);refine aK rfl (fun E9=>?_) (fun E9=>?_)
 ·refine bP (aG rfl (bC (cs:=[_,_]) cR kA rfl rfl rfl (by decide) rfl fun g8 rn uf=>?_));have OW:=uf.le E;have Km:=uf.b4 lg;replace E:=E.then uf.mod;replace lg:=lg.I uf.mod;have C9:=uf.aA;have iI:=OX E9;refine bq cR rfl rfl lg (Src.own Tryz.underlying65 (Own.all (cs:=[_,_]) C9 rfl (by omega)) (by simp [Value.oneCell'])) (by decide) (by omega) (by omega) rfl fun aqm ux afQ=>?_;have ajm:=afQ.ne Km C9;have abm:=afQ.ge mw E;replace C9:=C9.mod afQ.mod (fun ae=>Km _ ae rfl);replace E:=E.trans' afQ.mod (fun x ae=>.inr (mw x ae));replace lg:=afQ.own;exact aU rfl (cF (bz (by simp) (bz (by simp) (au b1 (bP (aG rfl (ag (aO rfl rfl (by omega)) (aU rfl (cF (fK (σ:=Nat×Value) (s:=⟨k,v⟩) (⟨k+1,aqm⟩) ⟨rfl,rfl,rfl,rfl,trivial⟩ ⟨by omega,lg.same (by rw [er bh,iI];simp) (by rw [er bh,iI];simp [j2]),abm,E⟩ (by dsimp only;omega)))))))))))
 refine ab fun fE=>ak 3 rfl (J fE ?_);refine aK rfl (fun akf=>?_) (fun akf=>?_);rotate_left
 ·refine bP (ak 2 rfl (bC (cs:=[_]) cR kA rfl rfl rfl (by decide) rfl fun g10 xB E'=>?_));have ajo:=E'.le E;have Fa:=E'.b4 lg;replace E:=E.then E'.mod;replace lg:=lg.I E'.mod;have Bz:=E'.aA;have iI:=(H9 (c:=c) (by omega) (by omega) nR E0 AU AV E9).trans (if_neg (by omega));refine bq cR rfl rfl lg (Src.own Tryz.underlying65 (Own.all (cs:=[_]) Bz rfl (by omega)) (by simp [Value.oneCell'])) (by decide) (by omega) (by omega) rfl fun v9 yK afS=>?_;have afT:=afS.ne Fa Bz;have abo:=afS.ge mw E;replace Bz:=Bz.mod afS.mod (fun ae=>Fa _ ae rfl);replace E:=E.trans' afS.mod (fun x ae=>.inr (mw x ae));replace lg:=afS.own;exact aU rfl (cF (bz (by simp) (bz (by simp) (au b1 (bP (aG rfl (ag (aO rfl rfl (by omega)) (aU rfl (cF (fK (σ:=Nat×Value) (s:=⟨k,v⟩) (⟨k+1,v9⟩) ⟨rfl,rfl,rfl,rfl,trivial⟩ ⟨by omega,lg.same (by rw [er bh,iI];simp) (by rw [er bh,iI];simp [j2]),abo,E⟩ (by dsimp only;omega)))))))))))
 refine jE [0] [1,2,3,4,5,6,7,8] 9 [10,11] wide (by kernel_rfl) (fun _ _ _ h=>h.2) (VO (fun _=>(d' rfl)) rfl rfl (iN (f' 2 rfl rfl (aj (fun R=>((OY rfl rfl (by omega)).to (v':=.int .u8 ((c.toNat / 16:Nat):Int)) (by rw [Int.tdiv_eq_ediv_of_nonneg (by omega),iR _ (by omega),Int.natCast_ediv];try rfl))) (aj (fun R=>(b6 Tryz.underlying9 rfl rfl (by omega) (by rw [Int.toNat_natCast];exact xT (by omega)))) (f' 2 rfl rfl (aj (fun R=>((kL rfl rfl (by omega)).to (v':=.int .u8 ((c.toNat % 16:Nat):Int)) (by rw [Int.natCast_emod];try rfl))) (aj (fun R=>(b6 Tryz.underlying9 rfl rfl (by omega) (by rw [Int.toNat_natCast];exact xT (by omega)))) (mG rfl fun tx R=>?_)))))))));replace E:=E.then R;replace lg:=lg.I R;refine bC (cs:=[_,_,_,_,_,_]) cR kA rfl rfl rfl (by decide) rfl fun g9 tz vK=>?_;have vS:=vK.le E;have Kn:=vK.b4 lg;replace E:=E.then vK.mod;replace lg:=lg.I vK.mod;have lp:=vK.aA;have iI:=(H9 (c:=c) (by omega) (by omega) nR E0 AU AV E9).trans (if_pos (by omega));refine bq cR rfl rfl lg (Src.own Tryz.underlying65 (Own.all (cs:=[_,_,_,_,_,_]) lp rfl (by omega)) (by simp [Value.oneCell'])) (by decide) (by omega) (by omega) rfl fun aoE rQ afR=>?_;have ajn:=afR.ne Kn lp;have abn:=afR.ge mw E;replace lp:=lp.mod afR.mod (fun ae=>Kn _ ae rfl);replace E:=E.trans' afR.mod (fun x ae=>.inr (mw x ae));replace lg:=afR.own;exact aU rfl (cF (bz (by simp) (bz (by simp) (au b1 (bP (aG rfl (ag (aO rfl rfl (by omega)) (aU rfl (cF (fK (σ:=Nat×Value) (s:=⟨k,v⟩) (⟨k+1,aoE⟩) ⟨rfl,rfl,rfl,rfl,trivial⟩ ⟨by omega,lg.same (by rw [er bh,iI];simp) (by rw [er bh,iI];simp [j2]),abn,E⟩ (by dsimp only;omega)))))))))))
set_option maxRecDepth 10000
theorem VU:aP Tryz.prog 200:=aP.of Tryz.func200 (by kernel_rfl) (by kernel_rfl)
theorem iS:aP Tryz.prog 175:=aP.of Tryz.func175 (by kernel_rfl) (by kernel_rfl)
theorem V' (w:World) (v:JV) (us:List Value) (arZ:ao [] w v.D us):Calls Tryz.prog 174 [.agg us.toArray].toArray w (bM fun u w'=>u = .bool v.bare∧Mod [] w w'):=by
 refine enter Tryz.func174 rfl rfl rfl (l:=[(0,_)]) ⟨rfl,trivial⟩ ?_;have E:=Mod.refl [] w;obtain⟨al,cl,am,cm,rfl,kP,jF⟩:=JV.a' arZ;refine ab fun aV=>ep rfl rfl rfl fun g1 aB bT=>?_;have bI:=bT.le E;replace E:=E.then bT.mod;have U:=bT.aA;refine aU rfl (J aV (ab fun aL=>ag (bc (vs:=[_,_,_,_,_,_]) aJ rfl rfl (U.cs rfl)) (bp cA rfl fun g2 cO cW=>?_)));have b9:=cW.le E;have bR:=cW.ne U;replace U:=U.I cW.mod;replace E:=E.then cW.mod;have ah:=cW.aA;refine bm (vs:=[_,_,_,_,_,_]) aJ ah rfl rfl rfl (by simp [Value.oneCell']) (by simp) fun gb sw=>?_;replace U:=U.ne sw.mod bR;replace E:=E.own sw.mod b9;replace ah:aE gb g2 _ [_,_,_,_,_,_]:=sw.aA;refine J aL (nj fun K3 aX=>?_);have J3:∀ (dm:Bool) (rB:Int) (s1:aa) (p8:Option Addr) (dX c1:Nat) (a2:Option Addr) (j3 c2:Nat) (aB:World),v.bare=(!dm&&decide (rB=0)&&decide (s1 = [])&&decide (dX=0)&&decide (j3=0))∧aE aB g2 25 [.int .i64 v.kind,.bool dm,.int .i64 rB,S s1,.slice p8 dX c1,.slice a2 j3 c2]∧Mod [] w aB→∀ a,Has 57 [] [(3,.pointer (some ⟨g2,0,none⟩))] a→K3 a aB:=by
  intro dm rB s1 p8 dX c1 a2 j3 c2 iu ox;obtain⟨ef,ah,E⟩:=ox;refine aX _ _ _ _ (ab fun bt=>ag (av qx rfl) (ag (bg jK rfl (ah.cell rfl)) (ag (e4 rfl) ?_)));refine nk (fun Wa:(!dm)=true=>?_) (fun Wa=>?_)
  ·refine aG rfl (aw (av kK rfl) (aw (bg dN rfl (ah.cell rfl)) (aw (lS rfl rfl) ?_)));refine da (fun Wb:rB=0=>?_) (fun Wb=>?_)
   ·refine ak 2 rfl (aw (av jt rfl) (aw (bg bB rfl (ah.cell rfl)) (aw (dG rfl rfl) ?_)));refine da (fun Wc:s1 = []=>?_) (fun Wc=>?_)
    ·refine ak 2 rfl (aw (av gz rfl) (aw (bg jH rfl (ah.cell rfl)) (aw (bs Tryz.underlying22 rfl) (aw (lS rfl rfl) ?_))));refine da (fun Wd:(dX:Int)=0=>?_) (fun Wd=>?_)
     ·refine ak 2 rfl (aw (av b5 rfl) (aw (bg dz rfl (ah.cell rfl)) (aw (bs Tryz.underlying23 rfl) (aw (lS rfl rfl) ?_))));refine da (fun We:(j3:Int)=0=>?_) (fun We=>?_)
      ·exact ak 2 rfl (J bt (ba (ar rfl rfl ⟨by rw [ef];clear ef;simp_all,E⟩)))
      exact ak 2 rfl (J bt (ba (ar rfl rfl ⟨by rw [ef];clear ef;simp_all,E⟩)))
     exact ak 8 rfl (J bt (ba (ar rfl rfl ⟨by rw [ef];clear ef;simp_all,E⟩)))
    exact ak 14 rfl (J bt (ba (ar rfl rfl ⟨by rw [ef];clear ef;simp_all,E⟩)))
   exact ak 19 rfl (J bt (ba (ar rfl rfl ⟨by rw [ef];clear ef;simp_all,E⟩)))
  exact ak 23 rfl (J bt (ba (ar rfl rfl ⟨by rw [ef];clear ef;simp_all,E⟩)))
 refine ab fun bN=>ag (av hz rfl) (ag (bg dN rfl (U.cell rfl)) (J bN (eE (ab fun b2=>ak 2 rfl (J b2 ?_)))));refine aK rfl (fun kB=>?_) (fun kB=>?_)
 ·refine b8 (bz (by simp) ?_);refine fB.sub (l':=[(3,_)]) ⟨rfl,trivial⟩ (dT (J3 v.is v.num v.str al v.list.length cl am v.map.length cm gb ⟨by simp [JV.bare,kB],ah,E⟩))
 refine ab fun cd=>ak 2 rfl (J cd ?_);refine aK rfl (fun k9=>?_) (fun k9=>?_)
 ·refine bP (ag (av qx rfl) (dZ jK ah rfl rfl rfl (by simp) fun js hs=>?_));replace U:=U.ne hs.mod bR;replace E:=E.own hs.mod b9;replace ah:aE js g2 _ [_,_,_,_,_,_]:=hs.aA;refine cF (bz (by simp) ?_);refine fB.sub (l':=[(3,_)]) ⟨rfl,trivial⟩ (dT (J3 false v.num v.str al v.list.length cl am v.map.length cm js ⟨by simp [JV.bare,k9],ah,E⟩))
 refine ab fun cD=>ak 2 rfl (J cD ?_);refine aK rfl (fun vT=>?_) (fun vT=>?_)
 ·refine ab fun cJ=>ag (av kK rfl) (dZ dN ah rfl rfl rfl (by simp) fun jD np=>?_);replace U:=U.ne np.mod bR;replace E:=E.own np.mod b9;replace ah:aE jD g2 _ [_,_,_,_,_,_]:=np.aA;refine J cJ (ab fun cf=>ag (av kK rfl) (ag (bg dN rfl (U.cell rfl)) (ag (gq rfl rfl) ?_)));refine da (fun yq:v.num > 9007199254740991=>?_) (fun yq=>?_)
  ·refine ak 5 rfl (J cf (aF rfl ?_));have dK:v.bare=false:=by simp only [JV.bare,vT];simp;intros;omega
   exact ab fun b1=>aU rfl (J b1 (ba (bz (by simp) (aR (by simp) (ar rfl rfl ⟨by rw [dK],E⟩)))))
  refine aG rfl (aw (av kK rfl) (aw (bg dN rfl (U.cell rfl)) (ak 2 rfl (J cf ?_))));refine aK rfl (fun xy=>?_) (fun xy=>?_)
  ·have dK:v.bare=false:=by simp only [JV.bare,vT];simp;intros;omega
   exact ab fun cX=>aU rfl (J cX (ba (bz (by simp) (aR (by simp) (ar rfl rfl ⟨by rw [dK],E⟩)))))
  have akg : -9007199254740991≤v.num∧v.num≤9007199254740991:=by omega
  refine b8 (bz (by simp) ?_);refine fB.sub (l':=[(3,_)]) ⟨rfl,trivial⟩ (dT (J3 v.is 0 v.str al v.list.length cl am v.map.length cm jD ⟨by simp [JV.bare,vT,akg],ah,E⟩))
 refine ab fun cb=>ak 2 rfl (J cb ?_);refine aK rfl (fun AX=>?_) (fun AX=>?_)
 ·refine bP (ag (av jt rfl) (dZ bB ah rfl rfl rfl (by simp) fun iv o8=>?_));replace U:=U.ne o8.mod bR;replace E:=E.own o8.mod b9;replace ah:aE iv g2 _ [_,_,_,_,_,_]:=o8.aA;refine cF (bz (by simp) ?_);refine fB.sub (l':=[(3,_)]) ⟨rfl,trivial⟩ (dT (J3 v.is v.num [] al v.list.length cl am v.map.length cm iv ⟨by simp [JV.bare,AX],ah,E⟩))
 refine ab fun cU=>ak 2 rfl (J cU ?_);refine aK rfl (fun jC=>?_) (fun jC=>?_)
 ·refine bP (ag (av gz rfl) (dZ jH ah rfl rfl rfl (by simp) fun oj nF=>?_));replace U:=U.ne nF.mod bR;replace E:=E.own nF.mod b9;replace ah:aE oj g2 _ [_,_,_,_,_,_]:=nF.aA;refine cF (bz (by simp) ?_);refine fB.sub (l':=[(3,_)]) ⟨rfl,trivial⟩ (dT (J3 v.is v.num v.str none 0 0 am v.map.length cm oj ⟨by simp [JV.bare,jC],ah,E⟩))
 refine ab fun dj=>ak 2 rfl (J dj ?_);refine aK rfl (fun xC=>?_) (fun xC=>?_)
 ·refine bP (ag (av b5 rfl) (dZ dz ah rfl rfl rfl (by simp) fun l1 om=>?_));replace U:=U.ne om.mod bR;replace E:=E.own om.mod b9;replace ah:aE l1 g2 _ [_,_,_,_,_,_]:=om.aA;refine cF (bz (by simp) ?_);refine fB.sub (l':=[(3,_)]) ⟨rfl,trivial⟩ (dT (J3 v.is v.num v.str al v.list.length cl none 0 0 l1 ⟨by simp [JV.bare,xC],ah,E⟩))
 have dK:v.bare=false:=by simp only [JV.bare];simp;intros;omega
 exact ab fun dO=>aU rfl (J dO (ba (bz (by simp) (aR (by simp) (ar rfl rfl ⟨by rw [dK],E⟩)))))
theorem gV (w:World) (b:aa) (hR:Value) (O:hI w hR b):Calls Tryz.prog 175 [hR].toArray w (bM fun u w'=>∃ jw,u = .tuple #[jw,.int .i64 (fM (ct b))]∧(jw=hR∧iy (ct b)=b∨jw = .slice none 0 0∧iy (ct b) = [])∧Mod [] w w'):=by
 refine enter Tryz.func175 rfl rfl rfl (l:=[(0,_)]) ⟨rfl,trivial⟩ ?_;have E:=Mod.refl [] w;obtain⟨ad,c,rfl,fA,gB⟩:=O.form;refine ab fun aV=>ak 2 rfl (J aV (ax fun aL=>ab fun aX=>aG rfl (ag (bs Tryz.underlying65 rfl) (ag (gq rfl rfl) (J aX ?_)))));refine aK rfl (fun eU=>?_) (fun eU=>?_)
 ·have cg:ct b = .error 3:=if_pos (by omega);exact ab fun bt=>ak 2 rfl (J bt (ba (aR (by simp) (cr rfl rfl rfl ⟨_,by rw [cg];rfl,.inr ⟨rfl,by rw [cg];rfl⟩,E⟩))))
 have cg:ct b = .ok b:=if_neg (by omega);exact b8 (au aL (ab fun bN=>ak 3 rfl (J bN (ba (cr rfl rfl rfl ⟨_,by rw [cg];rfl,.inl ⟨rfl,by rw [cg];rfl⟩,E⟩)))))
theorem yL (w:World) (b s:aa) (hR:Value) (O:hI w hR b) (aQ:b.length≤65536):Calls Tryz.prog 176 [hR,S s].toArray w (bM fun u w'=>xD w w' hR (e8 b s) u):=by
 refine enter Tryz.func176 rfl rfl rfl (l:=[(0,_),(1,_)]) ⟨rfl,rfl,trivial⟩ ?_;have E:=Mod.refl [] w;refine ab fun aV=>ak 2 rfl (J aV (ax fun aL=>ab fun aX=>aG rfl (ag (br Tryz.underlying9 rfl) (ag (gq rfl rfl) (J aX ?_)))));refine aK rfl (fun km=>?_) (fun km=>?_)
 ·have bl:e8 b s = .error 3:=if_pos (by omega);exact ab fun bt=>ak 2 rfl (J bt (ba (aR (by simp) (cr rfl rfl rfl (xD.err E (by decide) bl)))))
 have ER:s.length≤65536:=by omega
 refine b8 (au aL (ab fun bN=>aG rfl (cQ (bE VU rfl) (Vv _ s (by omega)) fun aB R=>?_)));replace E:=E.then R;refine ak 5 rfl (J bN (ax fun b2=>ab fun cd=>ak 2 rfl (J cd ?_)));refine a1 rfl (fun vO=>?_) (fun vO=>?_)
 ·have bK:ck s=false:=by simpa using vO
  have bl:e8 b s = .error 1:=by rw [e8,if_neg (by omega),bK];rfl
  exact ab fun cD=>ak 2 rfl (J cD (ba (aR (by simp) (cr rfl rfl rfl (xD.err E (by decide) bl)))))
 have bK:ck s=true:=by simpa using vO
 have bl:e8 b s=ct (b++cv s):=by rw [e8,if_neg (by omega),bK];rfl
 refine b8 (au b2 (ab fun cJ=>ak 2 rfl ?_));have L6:=l8 s;have Wf:(cv s).length=(c7 s).length+2:=by simp [cv]
 replace O:=O.I E;rw [bK,if_pos rfl];refine bq cR rfl rfl O (Src.str Tryz.underlying9 _) (by decide) (by first | omega | (simp only [List.length_append,List.length_cons,List.length_nil] at *;omega)) (by first | omega | (simp only [List.length_append,List.length_cons,List.length_nil] at *;omega)) rfl fun gj cO ez=>?_;have eR:hI cO gj (b++cv s):=ez.own.same (by simp) (by simp [dh,j2]);refine fv (bE iS rfl) (gV _ (b++cv s) _ eR) rfl fun cK gb az=>?_;obtain⟨jw,rfl,jo,R⟩:=az;exact ak 4 rfl (J cJ (ba (cr rfl rfl rfl (xD.ig E ez eR jo R bl))))
end Go.Proofs.YtnihidkbkhcfoaaGreatDoor.V
namespace Go.Proofs
open Go.Shelf
def Tryz.A3:Go.Shelf.Ren:=⟨fun | 171=>120 | 243=>158 | 246=>189 | 283=>221 | 284=>222 | 285=>223 | 286=>224 | 129=>215 | 317=>244 | 318=>245 | 319=>246 | 320=>247 | 337=>256 | 338=>257 | n=>n,fun | 3=>3 | 9=>9 | 2=>2 | 4=>4 | 171=>225 | 0=>0 | 53=>154 | 37=>65 | 5=>5 | 173=>227 | 212=>245 | 51=>117 | 20=>20 | 213=>246 | 46=>114 | 232=>63 | 233=>265 | n=>n,fun | 17=>4 | 18=>7 | 19=>8 | n=>n⟩
theorem Tryz.Mf:Go.Proofs.LaysM.n171 Tryz.prog Tryz.A3:={
 mixed:=by kernel_rfl
 f129:=Tryz.func215.trans (congrArg some (by kernel_rfl))
 f171:=Tryz.func120.trans (congrArg some (by kernel_rfl))
 f243:=Tryz.func158.trans (congrArg some (by kernel_rfl))
 f246:=Tryz.func189.trans (congrArg some (by kernel_rfl))
 f283:=Tryz.func221.trans (congrArg some (by kernel_rfl))
 f284:=Tryz.func222.trans (congrArg some (by kernel_rfl))
 f285:=Tryz.func223.trans (congrArg some (by kernel_rfl))
 f286:=Tryz.func224.trans (congrArg some (by kernel_rfl))
 f317:=Tryz.func244.trans (congrArg some (by kernel_rfl))
 f318:=Tryz.func245.trans (congrArg some (by kernel_rfl))
 f319:=Tryz.func246.trans (congrArg some (by kernel_rfl))
 f320:=Tryz.func247.trans (congrArg some (by kernel_rfl))
 f337:=Tryz.func256.trans (congrArg some (by kernel_rfl))
 f338:=Tryz.func257.trans (congrArg some (by kernel_rfl))
 t0:=Tryz.underlying0
 a0:=Tryz.isAgg0
 z0:=Tryz.sizeOf0
 v0:=Tryz.zeroValue0
 t2:=Tryz.underlying2
 a2:=Tryz.isAgg2
 z2:=Tryz.sizeOf2
 v2:=Tryz.zeroValue2
 t3:=Tryz.underlying3
 a3:=Tryz.isAgg3
 z3:=Tryz.sizeOf3
 v3:=Tryz.zeroValue3
 t4:=Tryz.underlying4
 a4:=Tryz.isAgg4
 z4:=Tryz.sizeOf4
 v4:=Tryz.zeroValue4
 t5:=Tryz.underlying5
 a5:=Tryz.isAgg5
 z5:=Tryz.sizeOf5
 v5:=Tryz.zeroValue5
 t9:=Tryz.underlying9
 a9:=Tryz.isAgg9
 z9:=Tryz.sizeOf9
 v9:=Tryz.zeroValue9
 t20:=Tryz.underlying20
 a20:=Tryz.isAgg20
 z20:=Tryz.sizeOf20
 v20:=Tryz.zeroValue20
 t37:=Tryz.underlying65
 a37:=Tryz.isAgg65
 z37:=Tryz.sizeOf65
 v37:=Tryz.zeroValue65
 t46:=Tryz.underlying114
 a46:=Tryz.isAgg114
 z46:=Tryz.sizeOf114
 v46:=Tryz.zeroValue114
 t51:=Tryz.underlying117
 a51:=Tryz.isAgg117
 z51:=Tryz.sizeOf117
 v51:=Tryz.zeroValue117
 t53:=Tryz.underlying154
 a53:=Tryz.isAgg154
 z53:=Tryz.sizeOf154
 v53:=Tryz.zeroValue154
 t171:=Tryz.underlying225
 a171:=Tryz.isAgg225
 z171:=Tryz.sizeOf225
 v171:=Tryz.zeroValue225
 t173:=Tryz.underlying227
 a173:=Tryz.isAgg227
 z173:=Tryz.sizeOf227
 v173:=Tryz.zeroValue227
 t212:=Tryz.underlying245
 a212:=Tryz.isAgg245
 z212:=Tryz.sizeOf245
 v212:=Tryz.zeroValue245
 t213:=Tryz.underlying246
 a213:=Tryz.isAgg246
 z213:=Tryz.sizeOf246
 t232:=Tryz.underlying63
 a232:=Tryz.isAgg63
 z232:=Tryz.sizeOf63
 v232:=Tryz.zeroValue63
 t233:=Tryz.underlying265
 a233:=Tryz.isAgg265
 z233:=Tryz.sizeOf265
 v233:=Tryz.zeroValue265
 g17:=by kernel_rfl
 g18:=by kernel_rfl
 g19:=by kernel_rfl
 i0:=by kernel_rfl
 i2:=by kernel_rfl
 i3:=by kernel_rfl
 i4:=by kernel_rfl
 i5:=by kernel_rfl
 i9:=by kernel_rfl
 i20:=by kernel_rfl
 i37:=by kernel_rfl
 i46:=by kernel_rfl
 i51:=by kernel_rfl
 i53:=by kernel_rfl
 i171:=by kernel_rfl
 i173:=by kernel_rfl
 i212:=by kernel_rfl
 i232:=by kernel_rfl
 i233:=by kernel_rfl
 m17:=by kernel_rfl
 m18:=by kernel_rfl
 m19:=by kernel_rfl}
open Go.RowKit Go.Sort Go.Lib in
theorem Tryz.strconv_Itoa (n:Int) (b3 : -9223372036854775808≤n) (h1:n≤9223372036854775807) (w:World) (af':Lib.TabIs Tryz.prog w "internal/strconv.uint64pow10" .u64 Lib.pow10Tab) :
  Calls Tryz.prog 120 #[.int .i64 n] w fun e w'=>e = .returned (.string ⟨(Lib.itoa n).toArray⟩)∧∃ k os,w'=grow (w.drewN k) os:=Any.strconv_Itoa Tryz.Mf n b3 h1 w af'
end Go.Proofs
namespace Go.Proofs.YtnihidkbkhcfoaaGreatDoor.V
open Go Go.Proofs
abbrev oB (w:World):Prop:=Lib.TabIs Tryz.prog w "internal/strconv.uint64pow10" .u64 Lib.pow10Tab
abbrev Ko:Nat:=4
theorem Py:Tryz.prog.globalNamed "internal/strconv.uint64pow10" = some Ko:=by kernel_rfl
theorem oB.mod {M:List Nat} {w w':World} (h:oB w) (k:Mod M w w') (eW:Ko∉M):oB w':=by
 unfold oB Lib.TabIs World.var? at h ⊢;simp only [Py,Option.bind_some] at h ⊢;have bH:Ko<w.heap.size:=by
  rcases Nat.lt_or_ge Ko w.heap.size with cg | cg
  ·exact cg
  rw [Array.getElem?_eq_none cg] at h;cases h
 rw [k.block Ko bH eW];exact h
theorem oB.lt {w:World} (h:oB w):Ko<w.heap.size:=by
 unfold oB Lib.TabIs World.var? at h;simp only [Py,Option.bind_some] at h;rcases Nat.lt_or_ge Ko w.heap.size with cg | cg
 ·exact cg
 rw [Array.getElem?_eq_none cg] at h;cases h
theorem Mg (w:World) (k:Nat) (os:Array Obj):Mod [] w (Sort.grow (w.drewN k) os):=by
 have h:=Lib.below_grow w.heap.size w (Nat.le_refl _) k os;exact⟨h.os,h.tape,h.output,h.size,fun i hi _=>h.block i hi⟩
theorem mA (w:World) (n:Int) (b3 : -9223372036854775808≤n) (h1:n≤9223372036854775807) (jR:oB w):Calls Tryz.prog 120 [.int .i64 n].toArray w (bM fun u w'=>u=S (Lib.itoa n)∧Mod [] w w'):=
 (Tryz.strconv_Itoa n b3 h1 w jR).mono fun e w' he=>by
  obtain⟨rfl,k,os,rfl⟩:=he
  exact⟨rfl,Mg w k os⟩
end Go.Proofs.YtnihidkbkhcfoaaGreatDoor.V
set_option maxRecDepth 10000
namespace Go.Proofs.YtnihidkbkhcfoaaGreatDoor.V
open Go Go.Proofs
theorem Wg:aP Tryz.prog 174:=aP.of Tryz.func174 (by kernel_rfl) (by kernel_rfl)
theorem mz:aP Tryz.prog 120:=aP.of Tryz.func120 (by kernel_rfl) (by kernel_rfl)
theorem C':aP Tryz.prog 176:=aP.of Tryz.func176 (by kernel_rfl) (by kernel_rfl)
theorem uy:aP Tryz.prog 135:=aP.of Tryz.func135 (by kernel_rfl) (by kernel_rfl)
theorem AY (N:Nat) (dF:∀ (w:World) (v:JV) (us:List Value) (deep:Nat) (b:aa) (hR:Value),v.sz≤N→hI w hR b→b.length≤65536→ao (aY hR) w v.D us→deep≤32→oB w→Ko∉aY hR→Calls Tryz.prog 135 [hR,.agg us.toArray,.int .i64 (deep:Int)].toArray w (bM fun u w'=>xD w w' hR (v.wr deep b) u)) (w:World) (v:JV) (us:List Value) (deep:Nat) (b:aa) (hR:Value) (h5:v.sz≤N+1) (O:hI w hR b) (aQ:b.length≤65536) (arZ:ao (aY hR) w v.D us) (bV:deep≤32) (jR:oB w) (ns:Ko∉aY hR):Calls Tryz.prog 135 [hR,.agg us.toArray,.int .i64 (deep:Int)].toArray w (bM fun u w'=>xD w w' hR (v.wr deep b) u):=by
 refine enter Tryz.func135 rfl rfl rfl (l:=[(0,_),(1,_),(2,_)]) ⟨rfl,rfl,rfl,trivial⟩ ?_;have E:=Mod.refl [] w;obtain⟨al,cl,am,cm,rfl,kP,jF⟩:=JV.a' arZ;have Ot:=(JV.cz kP jF).e6 (A':=[]) (by simp);refine ab fun aV=>ep rfl rfl rfl fun g1 aB bT=>?_;have bI:=bT.le E;replace E:=E.then bT.mod;have U:=bT.aA;refine ak 2 rfl (J aV (ax fun aL=>ab fun aX=>ag (bc (vs:=[_,_,_,_,_,_]) aJ rfl rfl (U.cs rfl)) (cQ (bE Wg rfl) (V' _ v _ (Ot.bG E)) fun cO R=>?_)));replace U:=U.I R;replace E:=E.then R;refine ag (e4 rfl) (J aX ?_);refine a1 rfl (fun kn=>?_) (fun kn=>?_)
 ·have bl:v.wr deep b = .error 1:=by rw [JV.dI,if_pos (by simpa using kn)]
  exact ab fun bt=>ak 2 rfl (J bt (ba (aR (by simp) (cr rfl rfl rfl (xD.err E (by decide) bl)))))
 have oC:v.bare=true:=by simpa using kn
 have bY:¬ v.bare=false:=by rw [oC];simp
 refine b8 (au aL (ax fun bN=>ab fun b2=>ag (av hz rfl) (ag (bg dN rfl (U.cell rfl)) (J b2 (eE (ab fun cd=>ak 2 rfl (J cd ?_)))))));refine aK rfl (fun yM=>?_) (fun yM=>?_)
 ·have bl:v.wr deep b=ct (b++JV.jS):=by rw [JV.dI,if_neg bY,if_pos yM]
  refine ab fun cD=>aG rfl (bq cR rfl rfl (O.I E) (Src.str Tryz.underlying9 JV.jS) (by decide) (by first | omega | (simp only [List.length_append,List.length_cons,List.length_nil] at *;omega)) (by first | omega | (simp only [List.length_append,List.length_cons,List.length_nil] at *;omega)) rfl fun gj gb ez=>?_);have eR:hI gb gj (b++JV.jS):=ez.own.same (by simp) (by simp [dh,j2]);refine fv (bE iS rfl) (gV _ (b++JV.jS) _ eR) rfl fun cK iu az=>?_;obtain⟨jw,rfl,jo,R⟩:=az;exact ak 4 rfl (J cD (ba (bz (by simp) (aR (by simp) (cr rfl rfl rfl (xD.ig E ez eR jo R bl))))))
 refine ab fun cJ=>ak 2 rfl (J cJ ?_);refine aK rfl (fun pZ=>?_) (fun pZ=>?_)
 ·refine ax fun cf=>ab fun b1=>ag (av qx rfl) (ag (bg jK rfl (U.cell rfl)) (J b1 ?_));refine a1 rfl (fun Da=>?_) (fun Da=>?_)
  ·have bl:v.wr deep b=ct (b++JV.iT):=by rw [JV.dI,if_neg bY,if_neg yM,if_pos pZ,if_pos Da]
   refine ab fun cX=>aG rfl (bq cR rfl rfl (O.I E) (Src.str Tryz.underlying9 JV.iT) (by decide) (by first | omega | (simp only [List.length_append,List.length_cons,List.length_nil] at *;omega)) (by first | omega | (simp only [List.length_append,List.length_cons,List.length_nil] at *;omega)) rfl fun gj js ez=>?_);have eR:hI js gj (b++JV.iT):=ez.own.same (by simp) (by simp [dh,j2]);refine fv (bE iS rfl) (gV _ (b++JV.iT) _ eR) rfl fun cK jD az=>?_;obtain⟨jw,rfl,jo,R⟩:=az;exact ak 4 rfl (J cX (ba (aR (by simp) (bz (by simp) (aR (by simp) (cr rfl rfl rfl (xD.ig E ez eR jo R bl)))))))
  have bl:v.wr deep b=ct (b++JV.gE):=by rw [JV.dI,if_neg bY,if_neg yM,if_pos pZ,if_neg (by rw [Da];decide)]
  refine b8 (au cf (ab fun cb=>aG rfl (bq cR rfl rfl (O.I E) (Src.str Tryz.underlying9 JV.gE) (by decide) (by first | omega | (simp only [List.length_append,List.length_cons,List.length_nil] at *;omega)) (by first | omega | (simp only [List.length_append,List.length_cons,List.length_nil] at *;omega)) rfl fun gj iv ez=>?_)));have eR:hI iv gj (b++JV.gE):=ez.own.same (by simp) (by simp [dh,j2]);refine fv (bE iS rfl) (gV _ (b++JV.gE) _ eR) rfl fun cK oj az=>?_;obtain⟨jw,rfl,jo,R⟩:=az;exact ak 4 rfl (J cb (ba (bz (by simp) (aR (by simp) (cr rfl rfl rfl (xD.ig E ez eR jo R bl))))))
 refine ab fun cU=>ak 2 rfl (J cU ?_);refine aK rfl (fun Db=>?_) (fun Db=>?_)
 ·have bl:v.wr deep b=ct (b++Lib.itoa v.num):=by rw [JV.dI,if_neg bY,if_neg yM,if_neg pZ,if_pos Db]
  refine ab fun dj=>aG rfl (ag (av kK rfl) (ag (bg dN rfl (U.cell rfl)) ?_));obtain⟨abi,kU⟩:=vU oC Db;have Wh:=Lib.itoa_length_le v.num (by omega) (by omega);refine cQ (bE mz rfl) (mA _ v.num (by omega) (by omega) (jR.mod E (by simp))) fun l1 R=>?_;replace U:=U.I R;replace E:=E.then R;refine bq cR rfl rfl (O.I E) (Src.str Tryz.underlying9 (Lib.itoa v.num)) (by decide) (by first | omega | (simp only [List.length_append,List.length_cons,List.length_nil] at *;omega)) (by first | omega | (simp only [List.length_append,List.length_cons,List.length_nil] at *;omega)) rfl fun gj iw ez=>?_;have eR:hI iw gj (b++Lib.itoa v.num):=ez.own.same (by simp) (by simp [dh,j2]);refine fv (bE iS rfl) (gV _ (b++Lib.itoa v.num) _ eR) rfl fun cK kl az=>?_;obtain⟨jw,rfl,jo,R⟩:=az;exact ak 4 rfl (J dj (ba (bz (by simp) (aR (by simp) (cr rfl rfl rfl (xD.ig E ez eR jo R bl))))))
 refine ab fun dO=>ak 2 rfl (J dO ?_);refine aK rfl (fun vV=>?_) (fun vV=>?_)
 ·have bl:v.wr deep b=e8 b v.str:=by rw [JV.dI,if_neg bY,if_neg yM,if_neg pZ,if_neg Db,if_pos vV]
  refine ab fun eH=>aG rfl (ag (av jt rfl) (ag (bg bB rfl (U.cell rfl)) (fv (bE C' rfl) (yL _ b v.str _ (O.I E) aQ) rfl fun cK p3 az=>?_)));obtain⟨AK,rfl,Ff,BB,sT,AZ⟩:=az;exact ak 4 rfl (J eH (ba (bz (by simp) (aR (by simp) (cr rfl rfl rfl (xD.from_ E ⟨AK,rfl,Ff,BB,sT,AZ⟩ bl))))))
 refine b8 (bz (by simp) (au bN (ax fun ee=>ab fun fE=>ak 2 rfl (J fE ?_))));refine aK rfl (fun Dc=>?_) (fun Dc=>?_)
 ·have bl:v.wr deep b = .error 5:=by rw [JV.dI,if_neg bY,if_neg yM,if_neg pZ,if_neg Db,if_neg vV,if_pos (by omega)]
  exact ab fun fT=>ak 2 rfl (J fT (ba (aR (by simp) (cr rfl rfl rfl (xD.err E (by decide) bl)))))
 refine b8 (au ee (ax fun fF=>ab fun fG=>ag (av hz rfl) (ag (bg dN rfl (U.cell rfl)) (ag (lS rfl rfl) (J fG ?_)))));refine aK rfl (fun rp=>?_) (fun rp=>?_)
 ·have bl:v.wr deep b=((ct (b ++ [91])).bind fun b=>JV.hJ v.list deep true b).bind fun b=>ct (b ++ [93]):=by rw [JV.dI,if_neg bY,if_neg yM,if_neg pZ,if_neg Db,if_neg vV,if_neg (by omega),if_pos rp];cases ct (b ++ [91]) <;> rfl
  refine ab fun gU=>aG rfl (bC (cs:=[_]) cR kA rfl rfl rfl (by decide) rfl fun g2 ov cW=>?_);have b9:=cW.le E;have bR:=cW.ne U;replace U:=U.I cW.mod;replace E:=E.then cW.mod;have ah:=cW.aA;have afU:=xE.init E O aQ U bI kP jF;refine bq cR rfl rfl afU.own (Src.own Tryz.underlying65 (Own.all (c:=1) (cs:=[_]) ah rfl (by omega)) (by simp [Value.oneCell',j2])) (by decide) (by omega) (by omega) rfl fun gj qB ez=>?_;have eR:hI qB gj (b ++ [91]):=ez.own.same (by simp) (by simp [dh,j2]);refine fv (bE iS rfl) (gV _ (b ++ [91]) _ eR) rfl fun cK p7 az=>?_;obtain⟨jw,rfl,jo,R⟩:=az;have H:=afU.ig ez eR jo R;refine ak 5 rfl (J gU (ax fun hg=>ab fun hA=>aU rfl (J hA (eE (bX (σ:=Nat×Value×aa×Except Int aa) (fun⟨k,u,Fg,r⟩=>[(2,.int .i64 (deep:Int)),(4,.pointer (some ⟨g1,0,none⟩)),(8,u),(9,.int .i64 (fM r)),(10,.int .i64 (k:Int))]) (fun⟨k,u,Fg,r⟩ aB=>k≤v.list.length∧(r.bind fun b=>JV.hJ (v.list.drop k) deep (decide (k=0)) b)=((ct (b ++ [91])).bind fun b=>JV.hJ v.list deep true b)∧(∀ b,r = .ok b→b=Fg)∧xE w aB hR g1 25 [.int .i64 v.kind,.bool v.is,.int .i64 v.num,S v.str,.slice al v.list.length cl,.slice am v.map.length cm] v al am cl cm u Fg) (fun⟨k,u,Fg,r⟩=>v.list.length-k) (⟨0,jw,iy (ct (b ++ [91])),ct (b ++ [91])⟩) ⟨rfl,rfl,rfl,rfl,rfl,trivial⟩ (⟨by omega,rfl,fun H' az=>by rw [az];rfl,H⟩) ?_)))));rintro⟨k,u,Fg,r⟩ rn ⟨hk,hinv,Ia,H⟩;refine ax fun hh=>ab fun hB=>aG rfl (ag (av gz rfl) (ag (bg jH rfl (H.aA.cell rfl)) (ag (bs Tryz.underlying22 rfl) (ag (cL rfl rfl) ?_))));refine da (fun Wi:(k:Int)<(v.list.length:Int)=>?_) (fun Wi=>?_);rotate_left
  ·refine ak 4 rfl (J hB (aD rfl ?_));have hd:r=((ct (b ++ [91])).bind fun b=>JV.hJ v.list deep true b):=by rw [← hinv];simp only [Fh (l:=v.list) (k:=k) (by omega),yO]
   refine bo (aR (by simp) (aR (by simp) (bU (au hg (ax fun ky=>ab fun lf=>ak 2 rfl (J lf ?_))))));refine aK rfl (fun pd=>?_) (fun pd=>?_)
   ·have rq:v.wr deep b=r:=by rw [bl,← hd,p9 pd]
    exact ab fun q8=>ak 3 rfl (J q8 (ba (aR (by simp) (aR (by simp) (cr rfl rfl rfl (by rw [rq];exact H.err pd))))))
   obtain⟨lq,rfl⟩:=iU (Classical.byContradiction pd);obtain rfl:=Ia lq rfl;have rq:v.wr deep b=ct (lq ++ [93]):=by rw [bl,← hd];rfl
   refine b8 (au ky (ab fun pg=>aG rfl (bC (cs:=[_]) cR kA rfl rfl rfl (by decide) rfl fun g5 Wj fx=>?_)));replace H:=H.I fx.mod;have dH:=fx.aA;have Ib:=H.len;refine bq cR rfl rfl H.own (Src.own Tryz.underlying65 (Own.all (c:=1) (cs:=[_]) dH rfl (by omega)) (by simp [Value.oneCell',j2])) (by decide) (by omega) (by omega) rfl fun gj Ie ez=>?_;have eR:hI Ie gj (lq ++ [93]):=ez.own.same (by simp) (by simp [dh,j2]);refine fv (bE iS rfl) (gV _ (lq ++ [93]) _ eR) rfl fun cK Wk az=>?_;obtain⟨jw,rfl,jo,R⟩:=az;exact ak 4 rfl (J pg (ba (aR (by simp) (cr rfl rfl rfl (H.fin ez eR jo R rq)))))
  refine ak 4 rfl (J hB ?_);refine aK rfl (fun abp=>?_) (fun abp=>?_);rotate_left
  ·have hd:r=((ct (b ++ [91])).bind fun b=>JV.hJ v.list deep true b):=by rw [← hinv,p9 abp]
   refine bo (aR (by simp) (aR (by simp) (bU (au hg (ax fun kx=>ab fun lb=>ak 2 rfl (J lb ?_))))));refine aK rfl (fun pd=>?_) (fun pd=>?_)
   ·have rq:v.wr deep b=r:=by rw [bl,← hd,p9 pd]
    exact ab fun jQ=>ak 3 rfl (J jQ (ba (aR (by simp) (aR (by simp) (cr rfl rfl rfl (by rw [rq];exact H.err pd))))))
   obtain⟨lq,rfl⟩:=iU (Classical.byContradiction pd);obtain rfl:=Ia lq rfl;have rq:v.wr deep b=ct (lq ++ [93]):=by rw [bl,← hd];rfl
   refine b8 (au kx (ab fun mM=>aG rfl (bC (cs:=[_]) cR kA rfl rfl rfl (by decide) rfl fun g4 yK N4=>?_)));replace H:=H.I N4.mod;have bf:=N4.aA;have Ib:=H.len;refine bq cR rfl rfl H.own (Src.own Tryz.underlying65 (Own.all (c:=1) (cs:=[_]) bf rfl (by omega)) (by simp [Value.oneCell',j2])) (by decide) (by omega) (by omega) rfl fun gj Fb ez=>?_;have eR:hI Fb gj (lq ++ [93]):=ez.own.same (by simp) (by simp [dh,j2]);refine fv (bE iS rfl) (gV _ (lq ++ [93]) _ eR) rfl fun cK AW az=>?_;obtain⟨jw,rfl,jo,R⟩:=az;exact ak 4 rfl (J mM (ba (aR (by simp) (cr rfl rfl rfl (H.fin ez eR jo R rq)))))
  obtain⟨dm,rfl⟩:=iU abp;obtain rfl:=Ia dm rfl;obtain⟨x,bO⟩:∃ x,v.list[k]? = some x:=⟨_,List.getElem?_eq_getElem (by omega)⟩;have abq:=JV.pM H.UG;refine b8 (au hh (ax fun ie=>eE (ax fun jO=>ab fun jP=>ak 2 rfl (J jP ?_))));refine aK rfl (fun akh=>?_) (fun akh=>?_);rotate_left
  ·have dU:=BC bO hinv (r1:=Except.ok dm) (by rw [if_pos (by simp;omega)]);refine b8 (au jO (ab fun jc=>ak 2 rfl (J jc ?_)));refine aK rfl (fun L7=>?_) (fun L7=>?_)
   ·obtain⟨eI,gP⟩:∃ eI,eI=dm:=⟨_,rfl⟩;rw [← gP] at H dU;refine bP ?_;obtain⟨j6,k7,dL,eg,cu⟩:=JV.yp H.UG bO;obtain⟨jI,jJ,ja,h3,rfl,k8,lz⟩:=JV.a' eg;have hy:=JV.pM H.UG;cases dL;refine aG rfl (ag (av gz rfl) (ag (bg jH rfl (H.aA.cell rfl)) (aG rfl (ag (ca ke rfl rfl (by omega)) (ag (bc aJ rfl rfl cu) (aG rfl (ag (cS (r:=((deep+1:Nat):Int)) rfl rfl (by rw [wrap64_in _ (by omega)];omega)) (fv (bE uy rfl) (dF _ x _ (deep+1) eI _ (by have:=JV.gL (List.mem_of_getElem? bO);omega) H.own H.len eg (by omega) (jR.mod H.mod ns) (fun h=>(H.iV _ h).elim ns (fun h=>by have:=jR.lt;omega))) rfl fun cK xB az=>?_))))))));obtain⟨A0,rfl,CZ,yN,tA,Ic⟩:=az;replace H:=H.step tA CZ yN Ic;exact ak 5 rfl (cF (bz (by simp) (au ie (bP (aG rfl (ag (aO rfl rfl (by omega)) (aU rfl (cF (fK (σ:=Nat×Value×aa×Except Int aa) (s:=⟨k,u,dm,Except.ok dm⟩) (⟨k+1,A0,(iy (JV.wr x (deep+1) eI)),(JV.wr x (deep+1) eI)⟩) ⟨rfl,rfl,rfl,rfl,rfl,trivial⟩ ⟨by omega,dU,(fun H' az=>by rw [az];rfl),H⟩ (by dsimp only;omega))))))))))
   exact absurd rfl L7
  have dU:=BC bO hinv (r1:=ct (dm ++ [44])) (by rw [if_neg (by simp;omega)]);refine bP (aG rfl (bC (cs:=[_]) cR kA rfl rfl rfl (by decide) rfl fun g3 ux eP=>?_));replace H:=H.I eP.mod;have bu:=eP.aA;have Ib:=H.len;refine bq cR rfl rfl H.own (Src.own Tryz.underlying65 (Own.all (c:=1) (cs:=[_]) bu rfl (by omega)) (by simp [Value.oneCell',j2])) (by decide) (by omega) (by omega) rfl fun gj tx ez=>?_;have eR:hI tx gj (dm ++ [44]):=ez.own.same (by simp) (by simp [dh,j2]);refine fv (bE iS rfl) (gV _ (dm ++ [44]) _ eR) rfl fun cK tz az=>?_;obtain⟨jw,rfl,jo,R⟩:=az;replace H:=H.ig ez eR jo R;clear ez eR jo;refine ak 5 rfl (J jO (ab fun la=>ak 2 rfl (J la ?_)));refine aK rfl (fun L7=>?_) (fun L7=>?_)
  ·obtain⟨eI,gP⟩:=iU L7;rw [gP] at H dU;replace H:=H.ok;refine bP ?_;obtain⟨j6,k7,dL,eg,cu⟩:=JV.yp H.UG bO;obtain⟨jI,jJ,ja,h3,rfl,k8,lz⟩:=JV.a' eg;have hy:=JV.pM H.UG;cases dL;refine aG rfl (ag (av gz rfl) (ag (bg jH rfl (H.aA.cell rfl)) (aG rfl (ag (ca ke rfl rfl (by omega)) (ag (bc aJ rfl rfl cu) (aG rfl (ag (cS (r:=((deep+1:Nat):Int)) rfl rfl (by rw [wrap64_in _ (by omega)];omega)) (fv (bE uy rfl) (dF _ x _ (deep+1) eI _ (by have:=JV.gL (List.mem_of_getElem? bO);omega) H.own H.len eg (by omega) (jR.mod H.mod ns) (fun h=>(H.iV _ h).elim ns (fun h=>by have:=jR.lt;omega))) rfl fun cK rQ az=>?_))))))));obtain⟨A0,rfl,CZ,yN,tA,Ic⟩:=az;replace H:=H.step tA CZ yN Ic;exact ak 5 rfl (cF (bz (by simp) (au ie (bP (aG rfl (ag (aO rfl rfl (by omega)) (aU rfl (cF (fK (σ:=Nat×Value×aa×Except Int aa) (s:=⟨k,u,dm,Except.ok dm⟩) (⟨k+1,A0,(iy (JV.wr x (deep+1) eI)),(JV.wr x (deep+1) eI)⟩) ⟨rfl,rfl,rfl,rfl,rfl,trivial⟩ ⟨by omega,dU,(fun H' az=>by rw [az];rfl),H⟩ (by dsimp only;omega))))))))))
  skip
  exact b8 (bz (by simp) (au ie (bP (aG rfl (ag (aO rfl rfl (by omega)) (aU rfl (cF (fK (σ:=Nat×Value×aa×Except Int aa) (s:=⟨k,u,dm,Except.ok dm⟩) (⟨k+1,jw,(iy (ct (dm ++ [44]))),(ct (dm ++ [44]))⟩) ⟨rfl,rfl,rfl,rfl,rfl,trivial⟩ ⟨by omega,(by have:=dU;obtain⟨l2,vW⟩:=nS L7;rw [vW] at this ⊢;exact this),(fun H' az=>by rw [az];rfl),H⟩ (by dsimp only;omega)))))))))
 have bl:v.wr deep b=((ct (b ++ [123])).bind fun b=>JV.ff v.map deep none b).bind fun b=>ct (b ++ [125]):=by rw [JV.dI,if_neg bY,if_neg yM,if_neg pZ,if_neg Db,if_neg vV,if_neg (by omega),if_neg rp];cases ct (b ++ [123]) <;> rfl
 refine b8 (au fF (ab fun mN=>aG rfl (bC (cs:=[_]) cR kA rfl rfl rfl (by decide) rfl fun g6 L8 j7=>?_)));have tv:=j7.le E;have C2:=j7.ne U;replace U:=U.I j7.mod;replace E:=E.then j7.mod;have iP:=j7.aA;have afU:=xE.init E O aQ U bI kP jF;refine bq cR rfl rfl afU.own (Src.own Tryz.underlying65 (Own.all (c:=1) (cs:=[_]) iP rfl (by omega)) (by simp [Value.oneCell',j2])) (by decide) (by omega) (by omega) rfl fun gj O0 ez=>?_;have eR:hI O0 gj (b ++ [123]):=ez.own.same (by simp) (by simp [dh,j2]);refine fv (bE iS rfl) (gV _ (b ++ [123]) _ eR) rfl fun cK L9 az=>?_;obtain⟨jw,rfl,jo,R⟩:=az;have H:=afU.ig ez eR jo R;refine ak 5 rfl (J mN (ax fun kz=>ab fun uu=>aU rfl (J uu (eE (bX (σ:=Nat×Value×aa×Except Int aa) (fun⟨k,u,Fg,r⟩=>[(0,u),(2,.int .i64 (deep:Int)),(4,.pointer (some ⟨g1,0,none⟩)),(11,.int .i64 (fM r)),(12,.int .i64 (k:Int))]) (fun⟨k,u,Fg,r⟩ aB=>k≤v.map.length∧(r.bind fun b=>JV.ff (v.map.drop k) deep (hS v.map k) b)=((ct (b ++ [123])).bind fun b=>JV.ff v.map deep none b)∧(∀ b,r = .ok b→b=Fg)∧xE w aB hR g1 25 [.int .i64 v.kind,.bool v.is,.int .i64 v.num,S v.str,.slice al v.list.length cl,.slice am v.map.length cm] v al am cl cm u Fg) (fun⟨k,u,Fg,r⟩=>v.map.length-k) (⟨0,jw,iy (ct (b ++ [123])),ct (b ++ [123])⟩) ⟨rfl,rfl,rfl,rfl,rfl,trivial⟩ (⟨by omega,rfl,fun H' az=>by rw [az];rfl,H⟩) ?_)))));rintro⟨k,u,Fg,r⟩ O1 ⟨hk,hinv,Ia,H⟩;refine ax fun q9=>ab fun rO=>aG rfl (ag (av b5 rfl) (ag (bg dz rfl (H.aA.cell rfl)) (ag (bs Tryz.underlying23 rfl) (ag (cL rfl rfl) ?_))));refine da (fun Wl:(k:Int)<(v.map.length:Int)=>?_) (fun Wl=>?_);rotate_left
 ·refine ak 4 rfl (J rO (aD rfl ?_));have hd:r=((ct (b ++ [123])).bind fun b=>JV.ff v.map deep none b):=by rw [← hinv];simp only [Fm (m:=v.map) (k:=k) (by omega),yO]
  refine bo (aR (by simp) (aR (by simp) (bU (au kz (ax fun Pt=>ab fun Pu=>ak 2 rfl (J Pu ?_))))));refine aK rfl (fun uB=>?_) (fun uB=>?_)
  ·have rq:v.wr deep b=r:=by rw [bl,← hd,p9 uB]
   exact ab fun Pv=>ak 3 rfl (J Pv (ba (aR (by simp) (cr rfl rfl rfl (by rw [rq];exact H.err uB)))))
  obtain⟨lq,rfl⟩:=iU (Classical.byContradiction uB);obtain rfl:=Ia lq rfl;have rq:v.wr deep b=ct (lq ++ [125]):=by rw [bl,← hd];rfl
  refine b8 (au Pt (ab fun Pw=>aG rfl (bC (cs:=[_]) cR kA rfl rfl rfl (by decide) rfl fun g11 af6 Fc=>?_)));replace H:=H.I Fc.mod;have BA:=Fc.aA;have Ib:=H.len;refine bq cR rfl rfl H.own (Src.own Tryz.underlying65 (Own.all (c:=1) (cs:=[_]) BA rfl (by omega)) (by simp [Value.oneCell',j2])) (by decide) (by omega) (by omega) rfl fun gj af7 ez=>?_;have eR:hI af7 gj (lq ++ [125]):=ez.own.same (by simp) (by simp [dh,j2]);refine fv (bE iS rfl) (gV _ (lq ++ [125]) _ eR) rfl fun cK af8 az=>?_;obtain⟨jw,rfl,jo,R⟩:=az;exact ak 4 rfl (J Pw (ba (cr rfl rfl rfl (H.fin ez eR jo R rq))))
 refine ak 4 rfl (J rO ?_);refine aK rfl (fun O2=>?_) (fun O2=>?_);rotate_left
 ·have hd:r=((ct (b ++ [123])).bind fun b=>JV.ff v.map deep none b):=by rw [← hinv,p9 O2]
  refine bo (aR (by simp) (aR (by simp) (bU (au kz (ax fun Pp=>ab fun Pq=>ak 2 rfl (J Pq ?_))))));refine aK rfl (fun uB=>?_) (fun uB=>?_)
  ·have rq:v.wr deep b=r:=by rw [bl,← hd,p9 uB]
   exact ab fun Pr=>ak 3 rfl (J Pr (ba (aR (by simp) (cr rfl rfl rfl (by rw [rq];exact H.err uB)))))
  obtain⟨lq,rfl⟩:=iU (Classical.byContradiction uB);obtain rfl:=Ia lq rfl;have rq:v.wr deep b=ct (lq ++ [125]):=by rw [bl,← hd];rfl
  refine b8 (au Pp (ab fun Ps=>aG rfl (bC (cs:=[_]) cR kA rfl rfl rfl (by decide) rfl fun g10 af3 E'=>?_)));replace H:=H.I E'.mod;have Bz:=E'.aA;have Ib:=H.len;refine bq cR rfl rfl H.own (Src.own Tryz.underlying65 (Own.all (c:=1) (cs:=[_]) Bz rfl (by omega)) (by simp [Value.oneCell',j2])) (by decide) (by omega) (by omega) rfl fun gj af4 ez=>?_;have eR:hI af4 gj (lq ++ [125]):=ez.own.same (by simp) (by simp [dh,j2]);refine fv (bE iS rfl) (gV _ (lq ++ [125]) _ eR) rfl fun cK af5 az=>?_;obtain⟨jw,rfl,jo,R⟩:=az;exact ak 4 rfl (J Ps (ba (cr rfl rfl rfl (H.fin ez eR jo R rq))))
 obtain⟨dm,rfl⟩:=iU O2;obtain rfl:=Ia dm rfl;obtain⟨x,bO⟩:∃ x,v.map[k]? = some x:=⟨_,List.getElem?_eq_getElem (by omega)⟩;have abq:=JV.ho H.Ey;refine b8 (au q9 (ax fun oz=>eE (ax fun q'=>ab fun yG=>ak 2 rfl (J yG ?_))));refine aK rfl (fun afV=>?_) (fun afV=>?_);rotate_left
 ·have dU:=yP bO (by omega) hinv;refine b8 (au q' (ax fun BF=>ab fun Pl=>ak 2 rfl (J Pl ?_)));refine aK rfl (fun pj=>?_) (fun pj=>?_);rotate_left
  ·exact absurd rfl pj
  obtain⟨eI,gP⟩:∃ eI,eI=dm:=⟨_,rfl⟩;rw [← gP] at H dU;refine bP ?_;obtain⟨j6,k7,dL,eg,cu⟩:=JV.kf H.Ey bO;obtain⟨jI,jJ,ja,h3,rfl,k8,lz⟩:=JV.a' eg;have hy:=JV.ho H.Ey;cases dL;refine aG rfl (ag (av b5 rfl) (ag (bg dz rfl (H.aA.cell rfl)) (aG rfl (ag (ca cP rfl rfl (by omega)) (ag (dB eA rfl) (ag (bg bB rfl (cu 0 _ rfl)) (fv (bE C' rfl) (yL _ eI x.1 _ H.own H.len) rfl fun cK akj az=>?_)))))));obtain⟨AK,rfl,Ff,BB,sT,AZ⟩:=az;replace H:=H.step sT Ff BB AZ;refine ak 5 rfl (J BF (ax fun Ks=>ab fun Pm=>ak 2 rfl (J Pm ?_)));refine aK rfl (fun lh=>?_) (fun lh=>?_);rotate_left
  ·skip
   refine b8 (au Ks (ab fun Po=>ak 2 rfl (J Po ?_)));refine aK rfl (fun kg=>?_) (fun kg=>?_)
   ·exact absurd kg lh
   skip
   exact b8 (bz (by simp) (au oz (bP (aG rfl (ag (aO rfl rfl (by omega)) (aU rfl (cF (fK (σ:=Nat×Value×aa×Except Int aa) (s:=⟨k,u,dm,Except.ok dm⟩) (⟨k+1,AK,(iy (e8 eI x.1)),(e8 eI x.1)⟩) ⟨rfl,rfl,rfl,rfl,rfl,trivial⟩ ⟨by omega,(by have az:=dU;obtain⟨l2,vW⟩:=nS lh;rw [vW] at az ⊢;exact az),(fun H' az=>by rw [az];rfl),H⟩ (by dsimp only;omega)))))))))
  obtain⟨lq,uA⟩:=iU lh;rw [uA] at H dU;replace H:=H.ok;replace dU:=tB dU;refine bP (aG rfl (bC (cs:=[_]) cR kA rfl rfl rfl (by decide) rfl fun g9 af0 vK=>?_));replace H:=H.I vK.mod;have lp:=vK.aA;have Ib:=H.len;refine bq cR rfl rfl H.own (Src.own Tryz.underlying65 (Own.all (c:=1) (cs:=[_]) lp rfl (by omega)) (by simp [Value.oneCell',j2])) (by decide) (by omega) (by omega) rfl fun gj af1 ez=>?_;have eR:hI af1 gj (lq ++ [58]):=ez.own.same (by simp) (by simp [dh,j2]);refine fv (bE iS rfl) (gV _ (lq ++ [58]) _ eR) rfl fun cK af2 az=>?_;obtain⟨aki,rfl,jo,R⟩:=az;replace H:=H.ig ez eR jo R;clear ez eR jo;refine ak 5 rfl (J Ks (ab fun Pn=>ak 2 rfl (J Pn ?_)));refine aK rfl (fun kg=>?_) (fun kg=>?_)
  ·obtain⟨Ez,Dd⟩:=iU kg;rw [Dd] at H dU;replace H:=H.ok;replace dU:=tB dU;refine bP ?_;obtain⟨j6,k7,dL,eg,cu⟩:=JV.kf H.Ey bO;obtain⟨jI,jJ,ja,h3,rfl,k8,lz⟩:=JV.a' eg;have hy:=JV.ho H.Ey;cases dL;refine aG rfl (ag (av b5 rfl) (ag (bg dz rfl (H.aA.cell rfl)) (aG rfl (ag (ca cP rfl rfl (by omega)) (ag (dB h8 rfl) (ag (bc aJ rfl rfl cu.tr) (aG rfl (ag (cS (r:=((deep+1:Nat):Int)) rfl rfl (by rw [wrap64_in _ (by omega)];omega)) (fv (bE uy rfl) (dF _ x.2 _ (deep+1) Ez _ (by have:=JV.gp (List.mem_of_getElem? bO);omega) H.own H.len eg (by omega) (jR.mod H.mod ns) (fun h=>(H.iV _ h).elim ns (fun h=>by have:=jR.lt;omega))) rfl fun cK akk az=>?_)))))))));obtain⟨A0,rfl,CZ,yN,tA,Ic⟩:=az;replace H:=H.step tA CZ yN Ic;exact ak 5 rfl (cF (bz (by simp) (au oz (bP (aG rfl (ag (aO rfl rfl (by omega)) (aU rfl (cF (fK (σ:=Nat×Value×aa×Except Int aa) (s:=⟨k,u,dm,Except.ok dm⟩) (⟨k+1,A0,(iy (JV.wr x.2 (deep+1) Ez)),(JV.wr x.2 (deep+1) Ez)⟩) ⟨rfl,rfl,rfl,rfl,rfl,trivial⟩ ⟨by omega,dU,(fun H' az=>by rw [az];rfl),H⟩ (by dsimp only;omega))))))))))
  skip
  exact b8 (bz (by simp) (au oz (bP (aG rfl (ag (aO rfl rfl (by omega)) (aU rfl (cF (fK (σ:=Nat×Value×aa×Except Int aa) (s:=⟨k,u,dm,Except.ok dm⟩) (⟨k+1,aki,(iy (ct (lq ++ [58]))),(ct (lq ++ [58]))⟩) ⟨rfl,rfl,rfl,rfl,rfl,trivial⟩ ⟨by omega,(by have az:=dU;obtain⟨l2,vW⟩:=nS kg;rw [vW] at az ⊢;exact az),(fun H' az=>by rw [az];rfl),H⟩ (by dsimp only;omega)))))))))
 obtain⟨q,jx⟩:∃ q,v.map[k-1]? = some q:=⟨_,List.getElem?_eq_getElem (by omega)⟩;have dU:=BD bO jx (by omega) hinv;refine ab fun yH=>aG rfl (bC (cs:=[_]) cR kA rfl rfl rfl (by decide) rfl fun g7 O3 o6=>?_);replace H:=H.I o6.mod;have xA:=o6.aA;have Ib:=H.len;refine bq cR rfl rfl H.own (Src.own Tryz.underlying65 (Own.all (c:=1) (cs:=[_]) xA rfl (by omega)) (by simp [Value.oneCell',j2])) (by decide) (by omega) (by omega) rfl fun gj Fi ez=>?_;have eR:hI Fi gj (dm ++ [44]):=ez.own.same (by simp) (by simp [dh,j2]);refine fv (bE iS rfl) (gV _ (dm ++ [44]) _ eR) rfl fun cK L' az=>?_;obtain⟨jw,rfl,jo,R⟩:=az;replace H:=H.ig ez eR jo R;clear ez eR jo;refine ak 5 rfl (J yH (ax fun rP=>?_))
 by_cases cp:fM (ct (dm ++ [44]))=0
 rotate_left
 ·have aoF:=cp;refine bQ wide (by kernel_rfl) (f' 3 rfl rfl (eF rfl (bJ cp) (eF rfl (bJ cp) (eF rfl (bJ cp) (eF rfl (bJ cp) (eF rfl (bJ cp) (eF rfl (bJ cp) (eF rfl (bJ cp) (eF rfl (bJ cp) (eF rfl (bJ cp) (eF rfl (bJ cp) (eF rfl (bJ cp) (eF rfl (bJ cp) ?_)))))))))))));refine eF rfl (bJ cp) (eF rfl (bJ cp) (aj (fun R=>(jA (bJ cp) rfl rfl)) (bS rfl fun afZ R=>?_)));replace H:=H.I R;refine au rP (aD rfl (b8 (au q' (ax fun Pj=>ab fun w4=>ak 2 rfl (J w4 ?_)))));refine aK rfl (fun pj=>?_) (fun pj=>?_)
  ·exact absurd pj cp
  skip
  refine b8 (au Pj (ax fun Fl=>ab fun Pk=>ak 2 rfl (J Pk ?_)));refine aK rfl (fun lh=>?_) (fun lh=>?_)
  ·exact absurd lh cp
  skip
  refine b8 (au Fl (ab fun BE=>ak 2 rfl (J BE ?_)));refine aK rfl (fun kg=>?_) (fun kg=>?_)
  ·exact absurd kg cp
  skip
  exact b8 (bz (by simp) (au oz (bP (aG rfl (ag (aO rfl rfl (by omega)) (aU rfl (cF (fK (σ:=Nat×Value×aa×Except Int aa) (s:=⟨k,u,dm,Except.ok dm⟩) (⟨k+1,jw,(iy (ct (dm ++ [44]))),(ct (dm ++ [44]))⟩) ⟨rfl,rfl,rfl,rfl,rfl,trivial⟩ ⟨by omega,(by have az:=dU;obtain⟨l2,vW⟩:=nS cp;rw [vW] at az ⊢;exact az),(fun H' az=>by rw [az];rfl),H⟩ (by dsimp only;omega)))))))))
 obtain⟨j6,k7,dL,eg,cu⟩:=JV.kf H.Ey bO;obtain⟨jI,jJ,ja,h3,rfl,k8,lz⟩:=JV.a' eg;have hy:=JV.ho H.Ey;obtain⟨Ig,ZX,uz,O4,iW⟩:=JV.kf H.Ey jx;obtain⟨O5,O6,O7,O8,rfl,ZY,afW⟩:=JV.a' O4;have Wm:=JV.ho H.Ey;cases dL;cases uz
 by_cases xU:(eQ x.1 q.1||x.1 == q.1)=true
 ·refine bQ wide (by kernel_rfl) (f' 3 rfl rfl (aM (bd cp) (fun R=>(av b5 rfl)) (aM (bd cp) (fun R=>(bg dz rfl ((H.aA.I R).cell rfl))) (aM (bd cp) (fun R=>(d' rfl)) (aM (bd cp) (fun R=>(ca cP rfl rfl (by omega))) (aM (bd cp) (fun R=>(dB eA rfl)) (aM (bd cp) (fun R=>(bg bB rfl ((cu.I R) 0 _ rfl))) (aM (bd cp) (fun R=>(av b5 rfl)) (aM (bd cp) (fun R=>(bg dz rfl ((H.aA.I R).cell rfl))) (aM (bd cp) (fun R=>(d' rfl)) (aM (bd cp) (fun R=>(ew (r:=((k-1:Nat):Int)) rfl rfl (by rw [wrap64_in _ (by omega)];omega))) (aM (bd cp) (fun R=>(ca cP rfl rfl (by omega))) (aM (bd cp) (fun R=>(dB eA rfl)) ?_)))))))))))));refine aM (bd cp) (fun R=>(bg bB rfl ((iW.I R) 0 _ rfl))) (aM (bd cp) (fun R=>(O9 rfl rfl)) (aj (fun R=>(lT (bd cp) rfl rfl)) (bS rfl fun Ma R=>?_)));replace H:=H.I R;refine au rP ?_;refine a1 rfl (fun Fj=>?_) (fun Fj=>absurd (xU.symm.trans Fj) (by decide));obtain⟨eI,gP⟩:=iU cp;have lB:(Except.error 1:Except Int aa)=((ct (b ++ [123])).bind fun b=>JV.ff v.map deep none b):=by
   have az:=dU;rw [gP] at az;simp only [Except.bind,abr xU] at az ⊢;exact az
  refine bP (aU rfl (J q' (ax fun yI=>ab fun yJ=>ak 2 rfl (J yJ ?_))));refine aK rfl (fun pj=>?_) (fun pj=>?_)
  ·exact absurd pj (by decide)
  skip
  refine b8 (au yI (ax fun Fk=>ab fun O'=>ak 2 rfl (J O' ?_)));refine aK rfl (fun lh=>?_) (fun lh=>?_)
  ·exact absurd lh (by decide)
  skip
  refine b8 (au Fk (ab fun Pa=>ak 2 rfl (J Pa ?_)));refine aK rfl (fun kg=>?_) (fun kg=>?_)
  ·exact absurd kg (by decide)
  skip
  exact b8 (bz (by simp) (au oz (bP (aG rfl (ag (aO rfl rfl (by omega)) (aU rfl (cF (fK (σ:=Nat×Value×aa×Except Int aa) (s:=⟨k,u,dm,Except.ok dm⟩) (⟨k+1,jw,(iy (ct (dm ++ [44]))),(Except.error 1)⟩) ⟨rfl,rfl,rfl,rfl,rfl,trivial⟩ ⟨by omega,lB,(fun H' az=>by cases az),H⟩ (by dsimp only;omega)))))))))
 have afX:=abt xU;refine bQ wide (by kernel_rfl) (f' 3 rfl rfl (aM (bd cp) (fun R=>(av b5 rfl)) (aM (bd cp) (fun R=>(bg dz rfl ((H.aA.I R).cell rfl))) (aM (bd cp) (fun R=>(d' rfl)) (aM (bd cp) (fun R=>(ca cP rfl rfl (by omega))) (aM (bd cp) (fun R=>(dB eA rfl)) (aM (bd cp) (fun R=>(bg bB rfl ((cu.I R) 0 _ rfl))) (aM (bd cp) (fun R=>(av b5 rfl)) (aM (bd cp) (fun R=>(bg dz rfl ((H.aA.I R).cell rfl))) (aM (bd cp) (fun R=>(d' rfl)) (aM (bd cp) (fun R=>(ew (r:=((k-1:Nat):Int)) rfl rfl (by rw [wrap64_in _ (by omega)];omega))) (aM (bd cp) (fun R=>(ca cP rfl rfl (by omega))) (aM (bd cp) (fun R=>(dB eA rfl)) ?_)))))))))))));refine aM (bd cp) (fun R=>(bg bB rfl ((iW.I R) 0 _ rfl))) (aM (bd cp) (fun R=>(O9 rfl rfl)) (aj (fun R=>(lT (bd cp) rfl rfl)) (bS rfl fun Mb R=>?_)));replace H:=H.I R;refine au rP (a1 rfl (fun Fj=>absurd ((dM xU).symm.trans Fj) (by decide)) (fun Fj=>b8 (au q' (ax fun Kp=>ab fun Pb=>ak 2 rfl (J Pb ?_)))));refine aK rfl (fun pj=>?_) (fun pj=>?_);rotate_left
 ·skip
  refine b8 (au Kp (ax fun Pf=>ab fun Pg=>ak 2 rfl (J Pg ?_)));refine aK rfl (fun lh=>?_) (fun lh=>?_)
  ·exact absurd lh pj
  skip
  refine b8 (au Pf (ab fun Ph=>ak 2 rfl (J Ph ?_)));refine aK rfl (fun kg=>?_) (fun kg=>?_)
  ·exact absurd kg pj
  skip
  exact b8 (bz (by simp) (au oz (bP (aG rfl (ag (aO rfl rfl (by omega)) (aU rfl (cF (fK (σ:=Nat×Value×aa×Except Int aa) (s:=⟨k,u,dm,Except.ok dm⟩) (⟨k+1,jw,(iy (ct (dm ++ [44]))),(ct (dm ++ [44]))⟩) ⟨rfl,rfl,rfl,rfl,rfl,trivial⟩ ⟨by omega,(by have az:=dU;obtain⟨l2,vW⟩:=nS pj;rw [vW] at az ⊢;exact az),(fun H' az=>by rw [az];rfl),H⟩ (by dsimp only;omega)))))))))
 obtain⟨eI,gP⟩:=iU pj;rw [gP] at H dU;replace H:=H.ok;have dU:((e8 eI x.1).bind fun b=>(ct (b ++ [58])).bind fun b=>(JV.wr x.2 (deep+1) b).bind fun b=>JV.ff (v.map.drop (k+1)) deep (hS v.map (k+1)) b)=((ct (b ++ [123])).bind fun b=>JV.ff v.map deep none b):=by
  have az:=dU;simp only [Except.bind,if_pos afX] at az ⊢;exact az
 refine bP ?_;obtain⟨j6,k7,dL,eg,cu⟩:=JV.kf H.Ey bO;obtain⟨jI,jJ,ja,h3,rfl,k8,lz⟩:=JV.a' eg;have hy:=JV.ho H.Ey;cases dL;refine aG rfl (ag (av b5 rfl) (ag (bg dz rfl (H.aA.cell rfl)) (aG rfl (ag (ca cP rfl rfl (by omega)) (ag (dB eA rfl) (ag (bg bB rfl (cu 0 _ rfl)) (fv (bE C' rfl) (yL _ eI x.1 _ H.own H.len) rfl fun cK Wn az=>?_)))))));obtain⟨AK,rfl,Ff,BB,sT,AZ⟩:=az;replace H:=H.step sT Ff BB AZ;refine ak 5 rfl (J Kp (ax fun Kq=>ab fun Pc=>ak 2 rfl (J Pc ?_)));refine aK rfl (fun lh=>?_) (fun lh=>?_);rotate_left
 ·skip
  refine b8 (au Kq (ab fun Pe=>ak 2 rfl (J Pe ?_)));refine aK rfl (fun kg=>?_) (fun kg=>?_)
  ·exact absurd kg lh
  skip
  exact b8 (bz (by simp) (au oz (bP (aG rfl (ag (aO rfl rfl (by omega)) (aU rfl (cF (fK (σ:=Nat×Value×aa×Except Int aa) (s:=⟨k,u,dm,Except.ok dm⟩) (⟨k+1,AK,(iy (e8 eI x.1)),(e8 eI x.1)⟩) ⟨rfl,rfl,rfl,rfl,rfl,trivial⟩ ⟨by omega,(by have az:=dU;obtain⟨l2,vW⟩:=nS lh;rw [vW] at az ⊢;exact az),(fun H' az=>by rw [az];rfl),H⟩ (by dsimp only;omega)))))))))
 obtain⟨lq,uA⟩:=iU lh;rw [uA] at H dU;replace H:=H.ok;replace dU:=tB dU;refine bP (aG rfl (bC (cs:=[_]) cR kA rfl rfl rfl (by decide) rfl fun g8 Wo uf=>?_));replace H:=H.I uf.mod;have C9:=uf.aA;have Ib:=H.len;refine bq cR rfl rfl H.own (Src.own Tryz.underlying65 (Own.all (c:=1) (cs:=[_]) C9 rfl (by omega)) (by simp [Value.oneCell',j2])) (by decide) (by omega) (by omega) rfl fun gj Pd ez=>?_;have eR:hI Pd gj (lq ++ [58]):=ez.own.same (by simp) (by simp [dh,j2]);refine fv (bE iS rfl) (gV _ (lq ++ [58]) _ eR) rfl fun cK Wp az=>?_;obtain⟨aki,rfl,jo,R⟩:=az;replace H:=H.ig ez eR jo R;clear ez eR jo;refine ak 5 rfl (J Kq (ab fun Kr=>ak 2 rfl (J Kr ?_)));refine aK rfl (fun kg=>?_) (fun kg=>?_)
 ·obtain⟨Ez,Dd⟩:=iU kg;rw [Dd] at H dU;replace H:=H.ok;replace dU:=tB dU;refine bP ?_;obtain⟨j6,k7,dL,eg,cu⟩:=JV.kf H.Ey bO;obtain⟨jI,jJ,ja,h3,rfl,k8,lz⟩:=JV.a' eg;have hy:=JV.ho H.Ey;cases dL;refine aG rfl (ag (av b5 rfl) (ag (bg dz rfl (H.aA.cell rfl)) (aG rfl (ag (ca cP rfl rfl (by omega)) (ag (dB h8 rfl) (ag (bc aJ rfl rfl cu.tr) (aG rfl (ag (cS (r:=((deep+1:Nat):Int)) rfl rfl (by rw [wrap64_in _ (by omega)];omega)) (fv (bE uy rfl) (dF _ x.2 _ (deep+1) Ez _ (by have:=JV.gp (List.mem_of_getElem? bO);omega) H.own H.len eg (by omega) (jR.mod H.mod ns) (fun h=>(H.iV _ h).elim ns (fun h=>by have:=jR.lt;omega))) rfl fun cK afY az=>?_)))))))));obtain⟨A0,rfl,CZ,yN,tA,Ic⟩:=az;replace H:=H.step tA CZ yN Ic;exact ak 5 rfl (cF (bz (by simp) (au oz (bP (aG rfl (ag (aO rfl rfl (by omega)) (aU rfl (cF (fK (σ:=Nat×Value×aa×Except Int aa) (s:=⟨k,u,dm,Except.ok dm⟩) (⟨k+1,A0,(iy (JV.wr x.2 (deep+1) Ez)),(JV.wr x.2 (deep+1) Ez)⟩) ⟨rfl,rfl,rfl,rfl,rfl,trivial⟩ ⟨by omega,dU,(fun H' az=>by rw [az];rfl),H⟩ (by dsimp only;omega))))))))))
 skip
 exact b8 (bz (by simp) (au oz (bP (aG rfl (ag (aO rfl rfl (by omega)) (aU rfl (cF (fK (σ:=Nat×Value×aa×Except Int aa) (s:=⟨k,u,dm,Except.ok dm⟩) (⟨k+1,aki,(iy (ct (lq ++ [58]))),(ct (lq ++ [58]))⟩) ⟨rfl,rfl,rfl,rfl,rfl,trivial⟩ ⟨by omega,(by have az:=dU;obtain⟨l2,vW⟩:=nS kg;rw [vW] at az ⊢;exact az),(fun H' az=>by rw [az];rfl),H⟩ (by dsimp only;omega)))))))))
end Go.Proofs.YtnihidkbkhcfoaaGreatDoor.V
namespace Go.Proofs.YtnihidkbkhcfoaaGreatDoor.V
open Go
structure dQ where
 db:aa
 key:aa
 sig:aa
abbrev dQ.cells (s:dQ):List Value:=[S s.db,S s.key,S s.sig]
structure EV where
 room:aa
 snd:aa
 ty:aa
 st:Bool
 key:aa
 bj:JV
 prev:List aa
 bw:List aa
 dep:Int
 time:Int
 hash:aa
 sigs:List dQ
namespace EV
def D (e:EV):List Go.Proofs.YtnihidkbkhcfoaaGreatDoor.V.D:=[.v (S e.room),.v (S e.snd),.v (S e.ty),.v (.bool e.st),.v (S e.key)]++(e.bj.D ++ [mQ e.prev,mQ e.bw,.v (.int .i64 e.dep),.v (.int .i64 e.time),.v (S e.hash),flat 3 dQ.cells e.sigs])
theorem rS (e:EV):e.D.length=17:=by simp [D,JV.rS]
theorem a' {A:List Nat} {w:World} {e:EV} {us:List Value} (arZ:ao A w e.D us):∃ cs ap qC sU rr sV sW,us = [S e.room,S e.snd,S e.ty,.bool e.st,S e.key]++(cs ++ [.slice ap e.prev.length qC,.slice sU e.bw.length rr,.int .i64 e.dep,.int .i64 e.time,S e.hash,.slice sV e.sigs.length sW])∧
  ao A w e.bj.D cs∧a8 A w (mQ e.prev) (.slice ap e.prev.length qC)∧a8 A w (mQ e.bw) (.slice sU e.bw.length rr)∧a8 A w (flat 3 dQ.cells e.sigs) (.slice sV e.sigs.length sW):=by
 unfold D at arZ
 obtain⟨h1,aq⟩:=arZ.cut
 simp only [List.length_cons,List.length_nil] at h1 aq
 obtain⟨aT,bL⟩:=aq.cut
 have agl:us=us.take (0+1+1+1+1+1)++((us.drop (0+1+1+1+1+1)).take e.bj.D.length++(us.drop (0+1+1+1+1+1)).drop e.bj.D.length):=by rw [List.take_append_drop,List.take_append_drop]
 obtain⟨_,_,bk,g1,h1⟩:=h1
 obtain⟨_,_,rfl,g2,h1⟩:=h1
 obtain⟨_,_,rfl,g3,h1⟩:=h1
 obtain⟨_,_,rfl,g4,h1⟩:=h1
 obtain⟨_,_,rfl,g5,h1⟩:=h1
 obtain rfl:=h1
 obtain⟨_,_,bZ,dX,bL⟩:=bL
 obtain⟨_,_,rfl,j3,bL⟩:=bL
 obtain⟨_,_,rfl,vL,bL⟩:=bL
 obtain⟨_,_,rfl,ug,bL⟩:=bL
 obtain⟨_,_,rfl,AL,bL⟩:=bL
 obtain⟨_,_,rfl,aoJ,bL⟩:=bL
 obtain rfl:=bL
 obtain rfl:=g1.l3;obtain rfl:=g2.l3;obtain rfl:=g3.l3;obtain rfl:=g4.l3;obtain rfl:=g5.l3
 obtain rfl:=vL.l3;obtain rfl:=ug.l3;obtain rfl:=AL.l3
 obtain⟨ap,qC,rfl,_⟩:=fO dX
 obtain⟨sU,rr,rfl,_⟩:=fO j3
 obtain⟨sV,sW,rfl,_⟩:=fO aoJ
 rw [bk,bZ] at agl
 exact⟨_,ap,qC,sU,rr,sV,sW,agl,aT,dX,j3,aoJ⟩
theorem jd {A:List Nat} {w:World} {e:EV} {us:List Value} (arZ:ao A w e.D us):∃ al cl am cm ap qC sU rr sV sW,us = [S e.room,S e.snd,S e.ty,.bool e.st,S e.key,.int .i64 e.bj.kind,.bool e.bj.is,.int .i64 e.bj.num,S e.bj.str,.slice al e.bj.list.length cl,.slice am e.bj.map.length cm,.slice ap e.prev.length qC,.slice sU e.bw.length rr,.int .i64 e.dep,.int .i64 e.time,S e.hash,.slice sV e.sigs.length sW]∧
  ao A w e.bj.D [.int .i64 e.bj.kind,.bool e.bj.is,.int .i64 e.bj.num,S e.bj.str,.slice al e.bj.list.length cl,.slice am e.bj.map.length cm]∧a8 A w (mQ e.prev) (.slice ap e.prev.length qC)∧a8 A w (mQ e.bw) (.slice sU e.bw.length rr)∧a8 A w (flat 3 dQ.cells e.sigs) (.slice sV e.sigs.length sW):=by
 obtain⟨cs,ap,qC,sU,rr,sV,sW,rfl,h1,aq,aT,bL⟩:=a' arZ
 obtain⟨al,cl,am,cm,rfl,_,_⟩:=JV.a' h1
 exact⟨al,cl,am,cm,ap,qC,sU,rr,sV,sW,rfl,h1,aq,aT,bL⟩
theorem at_ {A:List Nat} {w:World} {es:List EV} {e:EV} {ad:Option Addr} {n c i:Nat} (arZ:a8 A w (.ia 17 (es.map EV.D)) (.slice ad n c)) (h:es[i]? = some e):∃ a us,ad=some a∧ao A w e.D us∧q7 w (a.add (i*17)) us:=by
 obtain⟨a,us,h1,aq,_,aT,_⟩:=a8.at_ (i:=i) (r:=e.D) arZ (by simp [h]);exact⟨a,us,h1,aq,aT⟩
def ok (e:EV):Prop:=e.room.length≤140737488351232∧e.snd.length≤140737488351232∧e.ty.length≤140737488351232∧e.key.length≤140737488351232∧e.bj.ok∧(∀ s∈e.prev,s.length≤140737488351232)∧e.prev.length≤140737488351232∧(∀ s∈e.bw,s.length≤140737488351232)∧e.bw.length≤140737488351232∧e.hash.length≤140737488351232∧(∀ s∈e.sigs,s.db.length≤140737488351232∧s.key.length≤140737488351232∧s.sig.length≤140737488351232)∧e.sigs.length≤140737488351232
end EV
def ki:List Nat→Nat→Nat→Nat
 | [],n,_=>n
 | x::r,n,most=>if n≤most then ki r (n+x) most else n
theorem oD {l:List Nat} {k n most x:Nat} (h:l[k]? = some x) (cj:n≤most):ki (l.drop k) n most=ki (l.drop (k+1)) (n+x) most:=by
 obtain⟨hk,rfl⟩:=List.getElem?_eq_some_iff.1 h;rw [List.drop_eq_getElem_cons hk,ki,if_pos cj]
theorem ma {l:List Nat} {k n most:Nat} (h:l.length≤k):ki (l.drop k) n most=n:=by
 rw [List.drop_eq_nil_of_le h,ki]
theorem l9 {l:List Nat} {n most:Nat} (h:¬ n≤most):ki l n most=n:=by cases l <;> simp [ki,h]
namespace EV
def HM (e:EV):Nat:=e.room.length+e.snd.length+e.ty.length+e.key.length+e.hash.length+e.prev.length+e.bw.length+e.sigs.length
def rB (e:EV) (most:Nat):Nat:=ki (e.prev.map List.length) e.HM most
def nm (e:EV) (most:Nat):Nat:=ki (e.bw.map List.length) (e.rB most) most
def n3 (e:EV) (most:Nat):Nat:=ki (e.sigs.map fun s=>s.db.length+s.key.length+s.sig.length) (e.nm most) most
def great (e:EV) (most:Nat):Bool:=decide (e.n3 most > most)||decide (e.bj.jm ((most:Int)-e.n3 most) 60<0)
end EV
end Go.Proofs.YtnihidkbkhcfoaaGreatDoor.V
set_option maxRecDepth 10000
namespace Go.Proofs.YtnihidkbkhcfoaaGreatDoor.V
open Go Go.Proofs
theorem uC:∀ N:Nat,∀ (w:World) (v:JV) (us:List Value) (deep:Nat) (b:aa) (hR:Value),v.sz≤N→hI w hR b→b.length≤65536→ao (aY hR) w v.D us→deep≤32→oB w→Ko∉aY hR→Calls Tryz.prog 135 [hR,.agg us.toArray,.int .i64 (deep:Int)].toArray w (bM fun u w'=>xD w w' hR (v.wr deep b) u)
 | 0,w,v,us,deep,b,hR,h,O,aQ,arZ,bV,jR,ns=>absurd (JV.oq v) (by omega)
 | N+1,w,v,us,deep,b,hR,h,O,aQ,arZ,bV,jR,ns=>AY N (uC N) w v us deep b hR h O aQ arZ bV jR ns
/-- a value's canonical text, or an error -/
theorem Px (w:World) (v:JV) (us:List Value) (arZ:ao [] w v.D us) (jR:oB w):Calls Tryz.prog 135 [.slice none 0 0,.agg us.toArray,.int .i64 0].toArray w (bM fun u w'=>xD w w' (.slice none 0 0) (v.wr 0 []) u):=
 uC v.sz w v us 0 [] (.slice none 0 0) (Nat.le_refl _) (Own.nil w 5 1) (by simp) arZ (by omega) jR (by simp [aY])
theorem BG (w:World) (v:JV) (us:List Value) (arZ:ao [] w v.D us) (jR:oB w):Calls Tryz.prog 74 [.agg us.toArray].toArray w (bM fun u w'=>u = .tuple #[S (iy (v.wr 0 [])),.int .i64 (fM (v.wr 0 []))]∧Mod [] w w'):=by
 refine enter Tryz.func74 rfl rfl rfl (l:=[(0,_)]) ⟨rfl,trivial⟩ ?_;have E:=Mod.refl [] w;obtain⟨al,cl,am,cm,rfl,kP,jF⟩:=JV.a' arZ;have arZ:=JV.cz kP jF;refine ab fun aV=>ep rfl rfl rfl fun g1 aB bT=>?_;have bI:=bT.le E;replace E:=E.then bT.mod;have U:=bT.aA;refine ak 2 rfl (J aV (ab fun aL=>ag (bc (vs:=[_,_,_,_,_,_]) aJ rfl rfl (U.cs rfl)) (fv (bE uy rfl) (Px _ v _ (arZ.bG E) (jR.mod E (by simp))) rfl fun cK cO az=>?_)));obtain⟨AK,rfl,Ff,BB,sT,AZ⟩:=az;replace E:=E.then (sT.mono (by simp [aY]));obtain⟨akl,af9,rfl,aoG,aoH⟩:=Ff.form;exact ak 5 rfl (J aL (ab fun aX=>aG rfl (ag (oA (u:=iy (v.wr 0 [])) Tryz.underlying65 Tryz.underlying5 Tryz.underlying9 rfl (Ff.same rfl (dh _))) (ak 3 rfl (J aX (ba (cr rfl rfl rfl ⟨rfl,E⟩)))))))
set_option maxRecDepth 10000
theorem Ym:aP Tryz.prog 201:=aP.of Tryz.func201 (by kernel_rfl) (by kernel_rfl)
theorem uO:aP Tryz.prog 179:=aP.of Tryz.func179 (by kernel_rfl) (by kernel_rfl)
theorem SO (w:World) (c:Nat) (bh:c≤1114111):Calls Tryz.prog 190 [.int .i32 (c:Int)].toArray w (bM fun u w'=>u = .int .u8 (l0 c:Int)∧Mod [] w w'):=by
 refine enter Tryz.func190 rfl rfl rfl (l:=[(0,_)]) ⟨rfl,trivial⟩ ?_;have E:=Mod.refl [] w;refine ab fun aV=>aU rfl (J aV (ax fun aL=>ab fun aX=>aG rfl (J aX (eE (ax fun bt=>ab fun bN=>ag (lS rfl rfl) ?_)))));refine da (fun yw:(c:Int)=34=>?_) (fun yw=>?_)
 ·exact aU rfl (J bN (aF rfl (b8 (au bt (aF rfl (ab fun b2=>aG rfl (ag (p2 (r:=(c:Int)) Tryz.underlying21 Tryz.underlying5 rfl (iR _ (by omega))) (aU rfl (J b2 (ba (bz (by simp) (aR (by simp) (ar rfl rfl ⟨congrArg (Value.int .u8) (show(c:Int)=((l0 c:Nat):Int)by unfold l0;by_cases y8:c=34;(rw [if_pos y8,y8]);rw [if_neg y8,if_pos (by omega)];omega),E⟩)))))))))))))
 refine aU rfl (J bN (aD rfl (bP (ag (lS rfl rfl) ?_))));refine da (fun yS:(c:Int)=92=>?_) (fun yS=>?_)
 ·exact aU rfl (J bt (aF rfl (ab fun cd=>aG rfl (ag (p2 (r:=(c:Int)) Tryz.underlying21 Tryz.underlying5 rfl (iR _ (by omega))) (aU rfl (J cd (ba (bz (by simp) (aR (by simp) (ar rfl rfl ⟨congrArg (Value.int .u8) (show(c:Int)=((l0 c:Nat):Int)by unfold l0;by_cases y8:c=34;(rw [if_pos y8,y8]);rw [if_neg y8,if_pos (by omega)];omega),E⟩))))))))))
 refine aU rfl (J bt (aD rfl (ab fun cD=>ak 2 rfl (J cD ?_))));refine aK rfl (fun k9=>?_) (fun k9=>?_)
 ·exact ab fun cJ=>aU rfl (J cJ (ba (bz (by simp) (aR (by simp) (ar rfl rfl ⟨congrArg (Value.int .u8) (show(_:Int)=((l0 c:Nat):Int)by unfold l0;rw [if_neg (by omega),if_neg (by omega),if_pos (by omega)];rfl),E⟩)))))
 refine ab fun cf=>ak 2 rfl (J cf ?_);refine aK rfl (fun vP=>?_) (fun vP=>?_)
 ·exact ab fun b1=>aU rfl (J b1 (ba (bz (by simp) (aR (by simp) (ar rfl rfl ⟨congrArg (Value.int .u8) (show(_:Int)=((l0 c:Nat):Int)by unfold l0;rw [if_neg (by omega),if_neg (by omega),if_neg (by omega),if_pos (by omega)];rfl),E⟩)))))
 refine ab fun cX=>ak 2 rfl (J cX ?_);refine aK rfl (fun ts=>?_) (fun ts=>?_)
 ·exact ab fun cb=>aU rfl (J cb (ba (bz (by simp) (aR (by simp) (ar rfl rfl ⟨congrArg (Value.int .u8) (show(_:Int)=((l0 c:Nat):Int)by unfold l0;rw [if_neg (by omega),if_neg (by omega),if_neg (by omega),if_neg (by omega),if_pos (by omega)];rfl),E⟩)))))
 refine ab fun cU=>ak 2 rfl (J cU ?_);refine aK rfl (fun kn=>?_) (fun kn=>?_)
 ·exact ab fun dj=>aU rfl (J dj (ba (bz (by simp) (aR (by simp) (ar rfl rfl ⟨congrArg (Value.int .u8) (show(_:Int)=((l0 c:Nat):Int)by unfold l0;rw [if_neg (by omega),if_neg (by omega),if_neg (by omega),if_neg (by omega),if_neg (by omega),if_pos (by omega)];rfl),E⟩)))))
 refine ab fun dO=>ak 2 rfl (J dO ?_);refine aK rfl (fun vO=>?_) (fun vO=>?_)
 ·exact ab fun eH=>aU rfl (J eH (ba (bz (by simp) (aR (by simp) (ar rfl rfl ⟨congrArg (Value.int .u8) (show(_:Int)=((l0 c:Nat):Int)by unfold l0;rw [if_neg (by omega),if_neg (by omega),if_neg (by omega),if_neg (by omega),if_neg (by omega),if_neg (by omega),if_pos (by omega)];rfl),E⟩)))))
 exact b8 (bz (by simp) (au aL (ab fun ee=>aU rfl (J ee (ba (ar rfl rfl ⟨congrArg (Value.int .u8) (show(_:Int)=((l0 c:Nat):Int)by unfold l0;rw [if_neg (by omega),if_neg (by omega),if_neg (by omega),if_neg (by omega),if_neg (by omega),if_neg (by omega),if_neg (by omega)];rfl),E⟩))))))
theorem ad0 (w:World) (s p:aa):Calls Tryz.prog 201 [S s,S p].toArray w (bM fun u w'=>u = .bool (decide (p.length≤s.length∧s.take p.length=p))∧Mod [] w w'):=by
 refine enter Tryz.func201 rfl rfl rfl (l:=[(0,_),(1,_)]) ⟨rfl,rfl,trivial⟩ ?_;have E:=Mod.refl [] w;refine ab fun aV=>aU rfl (J aV (ab fun aL=>aG rfl (ag (br Tryz.underlying9 rfl) (aG rfl (ag (br Tryz.underlying9 rfl) (ag (dq rfl rfl) ?_))))));refine da (fun jL:(s.length:Int)≥(p.length:Int)=>?_) (fun jL=>?_)
 ·exact ak 3 rfl (aw (br Tryz.underlying9 rfl) (aw (x3 Tryz.underlying9 rfl rfl (by omega)) (aw (d' rfl) (aw (dG rfl rfl) (ak 2 rfl (J aL (ba (ar rfl rfl ⟨by rw [decide_eq_decide.2 (show s.take p.length=p↔p.length≤s.length∧s.take p.length=p from⟨fun h=>⟨by omega,h⟩,fun h=>h.2⟩)],E⟩))))))))
 exact ak 9 rfl (J aL (ba (ar rfl rfl ⟨by rw [bJ (fun h=>by omega)],E⟩)))
theorem uP (w:World) (s p:aa):Calls Tryz.prog 179 [S s,S p].toArray w (bM fun u w'=>u = .bool (decide (p.length≤s.length∧s.take p.length=p))∧Mod [] w w'):=by
 refine enter Tryz.func179 rfl rfl rfl (l:=[(0,_),(1,_)]) ⟨rfl,rfl,trivial⟩ ?_;have E:=Mod.refl [] w;refine ab fun aV=>aU rfl (J aV (ab fun aL=>ak 2 rfl (cQ (bE Ym rfl) (ad0 _ _ _) fun aB R=>?_)));replace E:=E.then R;exact aU rfl (J aL (ba (ar rfl rfl ⟨rfl,E⟩)))
theorem Cx (w:World) (s:aa):Calls Tryz.prog 171 [S s].toArray w (bM fun u w'=>u = .bool (ck s)∧Mod [] w w'):=by
 refine enter Tryz.func171 rfl rfl rfl (l:=[(0,_)]) ⟨rfl,trivial⟩ ?_;have E:=Mod.refl [] w;refine ab fun aV=>aU rfl (J aV (ax fun aL=>ab fun aX=>aG rfl (qg Tryz.underlying9 rfl rfl fun uN aB gu Qw Ov=>?_)));have pb:w.heap.size≤uN:=by have:=E.size;omega
 replace E:=E.then Ov;refine J aX (eE (bX (σ:=Nat) (fun p=>[(0,S s),(6,.pointer (some ⟨uN,0,none⟩))]) (fun p aB=>p≤s.length∧ck s=ck (s.drop p)∧A9 aB uN s p∧w.heap.size≤uN∧Mod [] w aB) (fun p=>s.length-p) (0) ⟨rfl,rfl,trivial⟩ (⟨by omega,rfl,gu,pb,E⟩) ?_));rintro p cO ⟨cn,bK,gu,pb,E⟩;refine ax fun bt=>?_
 by_cases fH:p<s.length
 rotate_left
 ·have lG:=fH;refine bP (lk rfl gu lG rfl (ag (eD rfl rfl) (J bt (ax fun cX=>?_))));refine a1 rfl (fun kt=>?_) (fun kt=>?_)
  ·cases kt
  have iQ:ck s=true:=by rw [bK,List.drop_eq_nil_of_le (by omega),mO]
  exact bo (aR (by simp) (aR (by simp) (bU (au aL (ab fun cb=>aU rfl (J cb (ba (ar rfl rfl ⟨by rw [iQ],E⟩))))))))
 have bY:=h' fH;have hle:=j8 (s.drop p);have Xq:(s.drop p).length=s.length-p:=List.length_drop ..
 by_cases di:(aI (s.drop p)).2=0
 ·skip
  refine bP (mD rfl gu fH (ze fH di) rfl fun gb qK AM Dw=>?_);replace E:=E.trans' AM (fun x ae=>.inr (by simp at ae;subst ae;exact pb));clear gu;have gu:=qK;refine ag (eD rfl rfl) (J bt (ax fun bN=>?_));refine a1 rfl (fun kt=>?_) (fun kt=>?_)
  ·skip
   refine b8 (au bN (eE (ab fun b2=>ak 4 rfl (J b2 (ab fun cd=>ak 2 rfl (iD (bd rfl) (ak 3 rfl (aw (cE Tryz.underlying9 rfl rfl cn) (fC (bE uO rfl) (uP _ (s.drop p) [239,191,189]) fun iu R=>?_)))))))));replace gu:=gu.I R;replace E:=E.then R;refine ak 2 rfl (J cd ?_);refine a1 rfl (fun nK=>?_) (fun nK=>?_)
   ·have iQ:ck s=false:=bK.trans (tw bY di);exact ab fun cD=>aU rfl (J cD (ba (bz (by simp) (aR (by simp) (bz (by simp) (aR (by simp) (ar rfl rfl ⟨by rw [iQ],E⟩)))))))
   exact absurd (by simpa using nK) (Yn di)
  cases kt
 skip
 refine bP (mD rfl gu fH (x1 fH di) rfl fun js qK AM Dw=>?_);replace E:=E.trans' AM (fun x ae=>.inr (by simp at ae;subst ae;exact pb));clear gu;have gu:=qK;refine ag (eD rfl rfl) (J bt (ax fun cJ=>?_));refine a1 rfl (fun kt=>?_) (fun kt=>?_);rotate_left
 ·cases kt
 skip
 refine b8 (au cJ (eE (ab fun cf=>ak 4 rfl (J cf (ab fun b1=>ak 2 rfl ?_)))));refine da (fun ad1:((aI (s.drop p)).1:Int)=65533=>?_) (fun ad1=>?_)
 ·skip
  refine ak 3 rfl (aw (cE Tryz.underlying9 rfl rfl cn) (fC (bE uO rfl) (uP _ (s.drop p) [239,191,189]) fun jD R=>?_));replace gu:=gu.I R;replace E:=E.then R;refine ak 2 rfl (J b1 ?_);refine a1 rfl (fun nK=>?_) (fun nK=>?_)
  ·rw [bd (show([239,191,189]:aa).length≤(s.drop p).length∧(s.drop p).take ([239,191,189]:aa).length = [239,191,189] from Yo bY di (by omega))] at nK;cases nK
  skip
  exact b8 (bz (by simp) (fK (σ:=Nat) (s:=p) (p+(aI (s.drop p)).2) ⟨rfl,rfl,trivial⟩ ⟨by omega,by rw [bK,kT bY di,List.drop_drop],gu,pb,E⟩ (by omega)))
 skip
 refine ak 7 rfl (J b1 (aD rfl ?_))
 skip
 exact b8 (bz (by simp) (fK (σ:=Nat) (s:=p) (p+(aI (s.drop p)).2) ⟨rfl,rfl,trivial⟩ ⟨by omega,by rw [bK,kT bY di,List.drop_drop],gu,pb,E⟩ (by omega)))
set_option maxRecDepth 10000
theorem Yp:aP Tryz.prog 225:=aP.of Tryz.func225 (by kernel_rfl) (by kernel_rfl)
theorem Yq (w:World) (v:Value) (b:aa) (c:Nat) (O:hI w v b) (h1:c≤1114111) (aq:¬ (55296≤c∧c≤57343)) (aQ:b.length≤1000000) (b3:128≤c):Calls Tryz.prog 225 [v,.int .i32 (c:Int)].toArray w (bM fun u w'=>hI w' u (b++jf c)∧(∀ x∈aY u,x∈aY v∨w.heap.size≤x)∧Mod (aY v) w w'):=by
 refine enter Tryz.func225 rfl rfl rfl (l:=[(0,_),(1,_)]) ⟨rfl,rfl,trivial⟩ ?_;have E:=Mod.refl [] w;refine ab fun aV=>aU rfl (J aV (ab fun aL=>aG rfl (ag (Ll Tryz.underlying21 Tryz.underlying117 rfl h1) (aU rfl (J aL (eE (ab fun aX=>ak 3 rfl (J aX ?_))))))));refine aK rfl (fun vP=>?_) (fun vP=>?_)
 ·refine ab fun bt=>ak 2 rfl (ag (qZ 6 64 rfl rfl (by decide) (by decide)) (ag (mo Tryz.underlying21 Tryz.underlying5 rfl) (ag (Yr rfl rfl (by omega)) (aG rfl (ag (mo Tryz.underlying21 Tryz.underlying5 rfl) (ag (sd rfl rfl) (ag (pH rfl rfl) (bC (cs:=[_,_]) cR kA rfl rfl rfl (by decide) rfl fun g1 aB bT=>?_))))))));have bI:=bT.le E;have ye:=bT.b4 O;replace E:=E.then bT.mod;replace O:=O.I bT.mod;have U:=bT.aA;exact bq cR rfl rfl O (Src.own Tryz.underlying65 (Own.all (c:=2) (cs:=[_,_]) U rfl (by omega)) (by simp [Value.oneCell'])) (by decide) (by omega) (by omega) rfl fun gj cO ez=>aU rfl (J bt (ba (bz (by simp) (ar rfl rfl ⟨se h1 ez.own (by rw [show fe c = [192+c / 64,128+c % 64] by unfold fe;rw [if_neg (by omega),if_pos (by omega)]];rfl) (by rw [show fe c = [192+c / 64,128+c % 64] by unfold fe;rw [if_neg (by omega),if_pos (by omega)]];rfl),fun x ae=>(ez.lX x ae).imp id (Nat.le_trans E.size),(E.mono (by simp)).trans ez.mod⟩))))
 refine ax fun bN=>ab fun b2=>ak 2 rfl ?_;refine da (fun HT:(c:Int)<55296=>?_) (fun HT=>?_)
 ·refine aU rfl (J b2 (aF rfl (b8 (au bN (aF rfl (ab fun cd=>ak 2 rfl (ag (qZ 12 4096 rfl rfl (by decide) (by decide)) (ag (mo Tryz.underlying21 Tryz.underlying5 rfl) (ag (Lm rfl rfl (by omega)) (aG rfl (ag (qZ 6 64 rfl rfl (by decide) (by decide)) (ag (mo Tryz.underlying21 Tryz.underlying5 rfl) ?_))))))))))));refine ag (sd rfl rfl) (ag (pH rfl rfl) (aG rfl (ag (mo Tryz.underlying21 Tryz.underlying5 rfl) (ag (sd rfl rfl) (ag (pH rfl rfl) (bC (cs:=[_,_,_]) cR kA rfl rfl rfl (by decide) rfl fun g2 gb cW=>?_))))));have b9:=cW.le E;have my:=cW.b4 O;replace E:=E.then cW.mod;replace O:=O.I cW.mod;have ah:=cW.aA;exact bq cR rfl rfl O (Src.own Tryz.underlying65 (Own.all (c:=3) (cs:=[_,_,_]) ah rfl (by omega)) (by simp [Value.oneCell'])) (by decide) (by omega) (by omega) rfl fun gj iu ez=>aU rfl (J cd (ba (bz (by simp) (ar rfl rfl ⟨se h1 ez.own (by rw [show fe c = [224+c / 4096,128+c / 64 % 64,128+c % 64] by unfold fe;rw [if_neg (by omega),if_neg (by omega),if_pos (by omega)]];rfl) (by rw [show fe c = [224+c / 4096,128+c / 64 % 64,128+c % 64] by unfold fe;rw [if_neg (by omega),if_neg (by omega),if_pos (by omega)]];rfl),fun x ae=>(ez.lX x ae).imp id (Nat.le_trans E.size),(E.mono (by simp)).trans ez.mod⟩))))
 refine aU rfl (J b2 (aD rfl (bP (ak 2 rfl (iD (bd (show(57343:Int)<(c:Int)by omega)) (ak 5 rfl (J bN ?_)))))));refine aK rfl (fun pZ=>?_) (fun pZ=>?_)
 ·refine ab fun cD=>ak 2 rfl (ag (qZ 12 4096 rfl rfl (by decide) (by decide)) (ag (mo Tryz.underlying21 Tryz.underlying5 rfl) (ag (Lm rfl rfl (by omega)) (aG rfl (ag (qZ 6 64 rfl rfl (by decide) (by decide)) (ag (mo Tryz.underlying21 Tryz.underlying5 rfl) (ag (sd rfl rfl) (ag (pH rfl rfl) (aG rfl (ag (mo Tryz.underlying21 Tryz.underlying5 rfl) (ag (sd rfl rfl) (ag (pH rfl rfl) ?_))))))))))));refine bC (cs:=[_,_,_]) cR kA rfl rfl rfl (by decide) rfl fun g3 js eP=>?_;have dE:=eP.le E;have nO:=eP.b4 O;replace E:=E.then eP.mod;replace O:=O.I eP.mod;have bu:=eP.aA;exact bq cR rfl rfl O (Src.own Tryz.underlying65 (Own.all (c:=3) (cs:=[_,_,_]) bu rfl (by omega)) (by simp [Value.oneCell'])) (by decide) (by omega) (by omega) rfl fun gj jD ez=>aU rfl (J cD (ba (bz (by simp) (ar rfl rfl ⟨se h1 ez.own (by rw [show fe c = [224+c / 4096,128+c / 64 % 64,128+c % 64] by unfold fe;rw [if_neg (by omega),if_neg (by omega),if_pos (by omega)]];rfl) (by rw [show fe c = [224+c / 4096,128+c / 64 % 64,128+c % 64] by unfold fe;rw [if_neg (by omega),if_neg (by omega),if_pos (by omega)]];rfl),fun x ae=>(ez.lX x ae).imp id (Nat.le_trans E.size),(E.mono (by simp)).trans ez.mod⟩))))
 refine ab fun cJ=>ak 2 rfl (iD (bd (show(65535:Int)<(c:Int)by omega)) (ak 5 rfl (J cJ ?_)));refine aK rfl (fun wK=>?_) (fun wK=>?_)
 ·refine ab fun cf=>ak 2 rfl (ag (qZ 18 262144 rfl rfl (by decide) (by decide)) (ag (mo Tryz.underlying21 Tryz.underlying5 rfl) (ag (Ys rfl rfl (by omega)) (aG rfl (ag (qZ 12 4096 rfl rfl (by decide) (by decide)) (ag (mo Tryz.underlying21 Tryz.underlying5 rfl) (ag (sd rfl rfl) (ag (pH rfl rfl) (aG rfl (ag (qZ 6 64 rfl rfl (by decide) (by decide)) (ag (mo Tryz.underlying21 Tryz.underlying5 rfl) (ag (sd rfl rfl) ?_))))))))))));refine ag (pH rfl rfl) (aG rfl (ag (mo Tryz.underlying21 Tryz.underlying5 rfl) (ag (sd rfl rfl) (ag (pH rfl rfl) (bC (cs:=[_,_,_,_]) cR kA rfl rfl rfl (by decide) rfl fun g4 iv N4=>?_)))));have fL:=N4.le E;have nP:=N4.b4 O;replace E:=E.then N4.mod;replace O:=O.I N4.mod;have bf:=N4.aA;exact bq cR rfl rfl O (Src.own Tryz.underlying65 (Own.all (c:=4) (cs:=[_,_,_,_]) bf rfl (by omega)) (by simp [Value.oneCell'])) (by decide) (by omega) (by omega) rfl fun gj oj ez=>aU rfl (J cf (ba (bz (by simp) (ar rfl rfl ⟨se h1 ez.own (by rw [show fe c = [240+c / 262144,128+c / 4096 % 64,128+c / 64 % 64,128+c % 64] by unfold fe;rw [if_neg (by omega),if_neg (by omega),if_neg (by omega)]];rfl) (by rw [show fe c = [240+c / 262144,128+c / 4096 % 64,128+c / 64 % 64,128+c % 64] by unfold fe;rw [if_neg (by omega),if_neg (by omega),if_neg (by omega)]];rfl),fun x ae=>(ez.lX x ae).imp id (Nat.le_trans E.size),(E.mono (by simp)).trans ez.mod⟩))))
 exact absurd (show(c:Int)≤1114111 by omega) wK
theorem Dy (w:World) (v:Value) (b:aa) (c:Nat) (O:hI w v b) (h1:c≤1114111) (aq:¬ (55296≤c∧c≤57343)) (aQ:b.length≤1000000):Calls Tryz.prog 191 [v,.int .i32 (c:Int)].toArray w (bM fun u w'=>hI w' u (b++jf c)∧(∀ x∈aY u,x∈aY v∨w.heap.size≤x)∧Mod (aY v) w w'):=by
 refine enter Tryz.func191 rfl rfl rfl (l:=[(0,_),(1,_)]) ⟨rfl,rfl,trivial⟩ ?_;have E:=Mod.refl [] w;refine ab fun aV=>aU rfl (J aV (ax fun aL=>ab fun aX=>aG rfl (ag (Ll Tryz.underlying21 Tryz.underlying117 rfl h1) (ag (pR rfl rfl) (J aX ?_)))));refine aK rfl (fun kB=>?_) (fun kB=>?_)
 ·refine ab fun bt=>ak 2 rfl (ag (mo Tryz.underlying21 Tryz.underlying5 rfl) (bC (cs:=[_]) cR kA rfl rfl rfl (by decide) rfl fun g1 aB bT=>?_));have bI:=bT.le E;have ye:=bT.b4 O;replace E:=E.then bT.mod;replace O:=O.I bT.mod;have U:=bT.aA;exact bq cR rfl rfl O (Src.own Tryz.underlying65 (Own.all (c:=1) (cs:=[_]) U rfl (by omega)) (by simp [Value.oneCell'])) (by decide) (by omega) (by omega) rfl fun gj cO ez=>aU rfl (J bt (ba (aR (by simp) (ar rfl rfl ⟨se h1 ez.own (by rw [show fe c = [c] by unfold fe;rw [if_pos (by omega)]];rfl) (by rw [show fe c = [c] by unfold fe;rw [if_pos (by omega)],show c % 256=c by omega];rfl),fun x ae=>(ez.lX x ae).imp id (Nat.le_trans E.size),(E.mono (by simp)).trans ez.mod⟩))))
 refine b8 (au aL (ab fun bN=>ak 2 rfl (fv (bE Yp rfl) (Yq _ v b c O h1 aq aQ (by omega)) rfl fun cK gb az=>?_)));obtain⟨LY,ain,oI⟩:=az;exact aU rfl (J bN (ba (ar rfl rfl ⟨LY,fun x ae=>(ain x ae).imp id (Nat.le_trans E.size),(E.mono (by simp)).trans oI⟩)))
end Go.Proofs.YtnihidkbkhcfoaaGreatDoor.V
