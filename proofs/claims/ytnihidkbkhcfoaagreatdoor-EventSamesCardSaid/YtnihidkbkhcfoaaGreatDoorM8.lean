/-
  A part of the proof: walks of functions. No condition of its own.
-/
import Derived.Test.YtnihidkbkhcfoaaGreatDoorM7
import Derived.Test.YtnihidkbkhcfoaaGreatDoorM5
import Derived.Test.YtnihidkbkhcfoaaGreatDoorM3
import Derived.Test.YtnihidkbkhcfoaaGreatDoorM4
set_option linter.unusedVariables false
set_option linter.unusedSimpArgs false
set_option maxRecDepth 10000
namespace Go.Proofs.YtnihidkbkhcfoaaGreatDoor.V
open Go Go.Proofs
theorem Mb:aQ Tryz.prog 137:=aQ.of Tryz.func137 (by kernel_rfl) (by kernel_rfl)
theorem yo:aQ Tryz.prog 138:=aQ.of Tryz.func138 (by kernel_rfl) (by kernel_rfl)
theorem T6:aQ Tryz.prog 76:=aQ.of Tryz.func76 (by kernel_rfl) (by kernel_rfl)
theorem Mc:aQ Tryz.prog 139:=aQ.of Tryz.func139 (by kernel_rfl) (by kernel_rfl)
theorem HI (w:World) (s:aa) (bf:s.length≤140737488351232):Calls Tryz.prog 137 [S s].toArray w (bL fun u w'=>u = .int .i64 (aH s:Int)∧Mod [] w w'):=by
 refine enter Tryz.func137 rfl rfl rfl (l:=[(0,_)]) ⟨rfl,trivial⟩ ?_;have E:=Mod.refl [] w;refine ab fun aV=>aT rfl (J aV (ax fun aL=>ab fun aW=>aT rfl (J aW (eB (bU (σ:=Nat) (fun i=>[(0,S s),(3,.int .i64 (i:Int))]) (fun i aB=>i≤s.length∧(∀ j b,j<i→s[j]? = some b→b≠58)∧Mod [] w aB) (fun i=>s.length-i) (0) ⟨rfl,rfl,trivial⟩ (⟨by omega,fun j b h=>absurd h (by omega),E⟩) ?_)))));rintro i aB ⟨hi,ay,E⟩;refine ax fun br=>ab fun bI=>ak 2 rfl (ag (bw Tryz.underlying9 rfl) (ag (cI rfl rfl) (J bI ?_)));refine aI rfl (fun kz=>?_) (fun kz=>?_)
 ·obtain⟨b,aS⟩:∃ b,s[i]? = some b:=⟨_,List.getElem?_eq_getElem (by omega)⟩;refine ca (aw br (ax fun bW=>eB (ab fun cb=>ak 2 rfl (ag (b' Tryz.underlying9 rfl rfl (by omega) (by rw [Int.toNat_natCast];exact aS)) (ag (lT rfl rfl) (J cb ?_))))));refine aI rfl (fun tx=>?_) (fun tx=>?_)
  ·have h4:aH s=i:=OF aS ay (du tx);exact ab fun cx=>ak 2 rfl (J cx (aZ (bx (by simp) (aO (by simp) (aO (by simp) (bx (by simp) (aO (by simp) (au rfl rfl ⟨by rw [h4],E⟩))))))))
  have b1:b≠58:=fun h=>tx (by rw [h];rfl);exact ca (bx (by simp) (aw bW (bQ (aG rfl (ag (aN rfl rfl (by omega)) (aT rfl (cF (fJ (σ:=Nat) (s:=i) (i+1) ⟨rfl,rfl,trivial⟩ ⟨by omega,fun j IB d' aA=>(Nat.lt_succ_iff_lt_or_eq.1 d').elim (fun h=>ay j IB h aA) (fun h=>by subst h;rw [aS] at aA;injection aA with aA;rw [← aA];exact b1),E⟩ (by omega)))))))))
 have h4:=HJ (s:=s) (fun j b d' h=>ay j b (by omega) h);exact bm (aO (by simp) (aO (by simp) (bS (aw aL (ab fun cH=>aG rfl (ag (bw Tryz.underlying9 rfl) (aT rfl (J cH (aZ (au rfl rfl ⟨by rw [h4],E⟩))))))))))
theorem ai5 (w:World) (s kinds fR:aa) (bf:s.length≤140737488351232) (hk:kinds.length≤100) (dA:fR.length≤100):Calls Tryz.prog 138 [S s,S kinds,S fR].toArray w (bL fun u w'=>u = .bool (gn (wZ kinds fR) s)∧Mod [] w w'):=by
 refine enter Tryz.func138 rfl rfl rfl (l:=[(0,_),(1,_),(2,_)]) ⟨rfl,rfl,rfl,trivial⟩ ?_;have E:=Mod.refl [] w;refine ab fun aV=>aT rfl (J aV (ax fun aL=>ab fun aW=>aT rfl (J aW (eB (bU (σ:=Nat) (fun i=>[(0,S s),(1,S kinds),(2,S fR),(7,.int .i64 (i:Int))]) (fun i aB=>i≤s.length∧(s.take i).all (fun b=>wZ kinds fR b.toNat)=true∧Mod [] w aB) (fun i=>s.length-i) (0) ⟨rfl,rfl,rfl,rfl,trivial⟩ (⟨by omega,by simp,E⟩) ?_)))));rintro i aB ⟨hi,ay,E⟩;refine ax fun br=>ab fun bI=>ak 2 rfl (ag (bw Tryz.underlying9 rfl) (ag (cI rfl rfl) (J bI ?_)));refine aI rfl (fun ks=>?_) (fun ks=>?_);rotate_left
 ·have iQ:=CV (q:=wZ kinds fR) (by omega) ay;exact bm (aO (by simp) (aO (by simp) (bS (aw aL (ab fun fa=>aG rfl (ag (eu rfl rfl) (aT rfl (J fa (aZ (au rfl rfl ⟨by rw [iQ],E⟩))))))))))
 obtain⟨c,bj⟩:∃ c,s[i]? = some c:=⟨_,List.getElem?_eq_getElem (by omega)⟩;refine ca (aw br (ax fun bW=>eB (ab fun cb=>ak 2 rfl (ag (b' Tryz.underlying9 rfl rfl (by omega) (by rw [Int.toNat_natCast];exact bj)) (aT rfl (J cb (ab fun cx=>aT rfl (J cx (ax fun cH=>ab fun b5=>?_)))))))));refine aT rfl (J b5 (eB (bU (σ:=Nat×Bool) (fun⟨j,x⟩=>[(0,S s),(1,S kinds),(2,S fR),(7,.int .i64 (i:Int)),(8,.int .u8 (c.toNat:Int)),(9,.bool x),(10,.int .i64 (j:Int))]) (fun⟨j,x⟩ aB=>j≤kinds.length∧x=(kinds.take j).any (fN c.toNat)∧Mod [] w aB) (fun⟨j,x⟩=>kinds.length-j) (⟨0,false⟩) ⟨rfl,rfl,rfl,rfl,rfl,rfl,rfl,trivial⟩ (⟨by omega,by simp,E⟩) ?_)));rintro⟨j,x⟩ cN ⟨d',ae,E⟩;refine ax fun bX=>ab fun cU=>ak 2 rfl (ag (bw Tryz.underlying9 rfl) (ag (cI rfl rfl) (J cU ?_)));refine aI rfl (fun zt=>?_) (fun zt=>?_);rotate_left
 ·have aob:x=kinds.any (fN c.toNat):=by rw [ae,List.take_of_length_le (by omega)]
  refine bm (aO (by simp) (aO (by simp) (bS (aw cH (ax fun cS=>ab fun de=>aT rfl (J de (eB (bU (σ:=Nat×Bool) (fun⟨j,x⟩=>[(0,S s),(1,S kinds),(2,S fR),(7,.int .i64 (i:Int)),(8,.int .u8 (c.toNat:Int)),(9,.bool x),(11,.int .i64 (j:Int))]) (fun⟨j,x⟩ aB=>j≤fR.length∧x=(kinds.any (fN c.toNat)||(fR.take j).any (fun g=>decide ((g.toNat:Int)=(c.toNat:Int))))∧Mod [] w aB) (fun⟨j,x⟩=>fR.length-j) (⟨0,x⟩) ⟨rfl,rfl,rfl,rfl,rfl,rfl,rfl,trivial⟩ (⟨by omega,by rw [aob];simp,E⟩) ?_))))))));rintro⟨j,x⟩ fV ⟨d',ae,E⟩;refine ax fun dG=>ab fun eC=>ak 2 rfl (ag (bw Tryz.underlying9 rfl) (ag (cI rfl rfl) (J eC ?_)));refine aI rfl (fun Tr=>?_) (fun Tr=>?_)
  ·obtain⟨g,nE⟩:∃ g,fR[j]? = some g:=⟨_,List.getElem?_eq_getElem (by omega)⟩;refine ca (aw dG (ax fun eb=>eB (bQ (aG rfl ?_))));refine mT (fun aR:(x)=true=>?_) (fun aR=>?_)
   ·exact ak 7 rfl (ag ((cr rfl).to (v':=.bool (x||decide ((g.toNat:Int)=(c.toNat:Int)))) (congrArg Value.bool (by simp only [aR,bZ']))) (cF (bx (by simp) (aw eb (bQ (aG rfl (ag (aN rfl rfl (by omega)) (aT rfl (cF (fJ (σ:=Nat×Bool) (s:=⟨j,x⟩) (⟨j+1,(x||decide ((g.toNat:Int)=(c.toNat:Int)))⟩) ⟨rfl,rfl,rfl,rfl,rfl,rfl,rfl,trivial⟩ ⟨by omega,by rw [fx _ nE,← Bool.or_assoc,← ae],E⟩ (by dsimp only;omega)))))))))))
   refine ak 3 rfl (ar (b' Tryz.underlying9 rfl rfl (by omega) (by rw [Int.toNat_natCast];exact nE)) (ak 2 rfl ?_));refine cT (fun bp:(g.toNat:Int)=(c.toNat:Int)=>?_) (fun bp=>?_)
   ·exact ag (ji rfl rfl rfl) (ag ((cr rfl).to (v':=.bool (x||decide ((g.toNat:Int)=(c.toNat:Int)))) (congrArg Value.bool (by simp only [dO aR,bh bp,bZ']))) (cF (bx (by simp) (aw eb (bQ (aG rfl (ag (aN rfl rfl (by omega)) (aT rfl (cF (fJ (σ:=Nat×Bool) (s:=⟨j,x⟩) (⟨j+1,(x||decide ((g.toNat:Int)=(c.toNat:Int)))⟩) ⟨rfl,rfl,rfl,rfl,rfl,rfl,rfl,trivial⟩ ⟨by omega,by rw [fx _ nE,← Bool.or_assoc,← ae],E⟩ (by dsimp only;omega)))))))))))
   exact ag (ji rfl rfl rfl) (ag ((cr rfl).to (v':=.bool (x||decide ((g.toNat:Int)=(c.toNat:Int)))) (congrArg Value.bool (by simp only [dO aR,bN bp,bZ']))) (cF (bx (by simp) (aw eb (bQ (aG rfl (ag (aN rfl rfl (by omega)) (aT rfl (cF (fJ (σ:=Nat×Bool) (s:=⟨j,x⟩) (⟨j+1,(x||decide ((g.toNat:Int)=(c.toNat:Int)))⟩) ⟨rfl,rfl,rfl,rfl,rfl,rfl,rfl,trivial⟩ ⟨by omega,by rw [fx _ nE,← Bool.or_assoc,← ae],E⟩ (by dsimp only;omega)))))))))))
  have s7:x=wZ kinds fR c.toNat:=by rw [ae,List.take_of_length_le (by omega)];rfl
  refine bm (aO (by simp) (aO (by simp) (bS (aw cS (ab fun fq=>ak 2 rfl (J fq ?_))))));refine a7 rfl (fun Kd=>?_) (fun Kd=>?_)
  ·have iQ:gn (wZ kinds fR) s=false:=AG bj (by rw [← s7];simpa using Kd);exact ab fun fE=>aT rfl (J fE (aZ (bx (by simp) (aO (by simp) (aO (by simp) (bx (by simp) (aO (by simp) (au rfl rfl ⟨by rw [iQ],E⟩))))))))
  have o3:=all_succ bj ay (show wZ kinds fR c.toNat=true by rw [← s7];simpa using Kd);exact ca (bx (by simp) (aw bW (bQ (aG rfl (ag (aN rfl rfl (by omega)) (aT rfl (cF (fJ (σ:=Nat) (s:=i) (i+1) ⟨rfl,rfl,rfl,rfl,trivial⟩ ⟨by omega,o3,E⟩ (by omega)))))))))
 obtain⟨g,nE⟩:∃ g,kinds[j]? = some g:=⟨_,List.getElem?_eq_getElem (by omega)⟩;refine ca (aw bX (ax fun b7=>eB (bQ (aG rfl ?_))));refine mT (fun aR:(x)=true=>?_) (fun aR=>?_)
 ·exact ak 42 rfl (ag ((cr rfl).to (v':=.bool (x||fN c.toNat g)) (congrArg Value.bool (by simp only [fN,aR,bZ']))) (cF (bx (by simp) (aw b7 (bQ (aG rfl (ag (aN rfl rfl (by omega)) (aT rfl (cF (fJ (σ:=Nat×Bool) (s:=⟨j,x⟩) (⟨j+1,(x||fN c.toNat g)⟩) ⟨rfl,rfl,rfl,rfl,rfl,rfl,rfl,trivial⟩ ⟨by omega,by rw [fx _ nE,← ae],E⟩ (by dsimp only;omega)))))))))))
 refine ak 3 rfl (ar (b' Tryz.underlying9 rfl rfl (by omega) (by rw [Int.toNat_natCast];exact nE)) (ar (lT rfl rfl) ?_));refine cT (fun ss:(g.toNat:Int)=97=>?_) (fun ss=>?_)
 ·refine ak 2 rfl (ar (dr rfl rfl) ?_);refine cT (fun EG:(c.toNat:Int)≥97=>?_) (fun EG=>?_)
  ·refine ak 4 rfl ?_;refine cT (fun Kh:(c.toNat:Int)≤122=>?_) (fun Kh=>?_)
   ·exact ak 30 rfl (ag ((cr rfl).to (v':=.bool (x||fN c.toNat g)) (congrArg Value.bool (by simp only [fN,dO aR,bh ss,bh EG,bh Kh,bZ']))) (cF (bx (by simp) (aw b7 (bQ (aG rfl (ag (aN rfl rfl (by omega)) (aT rfl (cF (fJ (σ:=Nat×Bool) (s:=⟨j,x⟩) (⟨j+1,(x||fN c.toNat g)⟩) ⟨rfl,rfl,rfl,rfl,rfl,rfl,rfl,trivial⟩ ⟨by omega,by rw [fx _ nE,← ae],E⟩ (by dsimp only;omega)))))))))))
   refine ak 5 rfl (ar (b' Tryz.underlying9 rfl rfl (by omega) (by rw [Int.toNat_natCast];exact nE)) (ar (lT rfl rfl) (jg (bN (show ¬ ((g.toNat:Int)=65)by omega)) (ak 12 rfl (ar (b' Tryz.underlying9 rfl rfl (by omega) (by rw [Int.toNat_natCast];exact nE)) (ar (lT rfl rfl) (jg (bN (show ¬ ((g.toNat:Int)=48)by omega)) (ak 9 rfl (ag ((cr rfl).to (v':=.bool (x||fN c.toNat g)) (congrArg Value.bool (by simp only [fN,dO aR,bh ss,bh EG,bN Kh,bN (show ¬ ((g.toNat:Int)=65)by omega),bN (show ¬ ((g.toNat:Int)=48)by omega),bZ']))) (cF (bx (by simp) (aw b7 (bQ ?_)))))))))))));exact aG rfl (ag (aN rfl rfl (by omega)) (aT rfl (cF (fJ (σ:=Nat×Bool) (s:=⟨j,x⟩) (⟨j+1,(x||fN c.toNat g)⟩) ⟨rfl,rfl,rfl,rfl,rfl,rfl,rfl,trivial⟩ ⟨by omega,by rw [fx _ nE,← ae],E⟩ (by dsimp only;omega)))))
  refine ak 9 rfl (ar (b' Tryz.underlying9 rfl rfl (by omega) (by rw [Int.toNat_natCast];exact nE)) (ar (lT rfl rfl) (jg (bN (show ¬ ((g.toNat:Int)=65)by omega)) (ak 12 rfl (ar (b' Tryz.underlying9 rfl rfl (by omega) (by rw [Int.toNat_natCast];exact nE)) (ar (lT rfl rfl) (jg (bN (show ¬ ((g.toNat:Int)=48)by omega)) (ak 9 rfl (ag ((cr rfl).to (v':=.bool (x||fN c.toNat g)) (congrArg Value.bool (by simp only [fN,dO aR,bh ss,bN EG,bN (show ¬ ((g.toNat:Int)=65)by omega),bN (show ¬ ((g.toNat:Int)=48)by omega),bZ']))) (cF (bx (by simp) (aw b7 (bQ ?_)))))))))))));exact aG rfl (ag (aN rfl rfl (by omega)) (aT rfl (cF (fJ (σ:=Nat×Bool) (s:=⟨j,x⟩) (⟨j+1,(x||fN c.toNat g)⟩) ⟨rfl,rfl,rfl,rfl,rfl,rfl,rfl,trivial⟩ ⟨by omega,by rw [fx _ nE,← ae],E⟩ (by dsimp only;omega)))))
 refine ak 12 rfl (ar (b' Tryz.underlying9 rfl rfl (by omega) (by rw [Int.toNat_natCast];exact nE)) (ar (lT rfl rfl) ?_));refine cT (fun xA:(g.toNat:Int)=65=>?_) (fun xA=>?_)
 ·refine ak 2 rfl (ar (dr rfl rfl) ?_);refine cT (fun EH:(c.toNat:Int)≥65=>?_) (fun EH=>?_)
  ·refine ak 4 rfl ?_;refine cT (fun Ki:(c.toNat:Int)≤90=>?_) (fun Ki=>?_)
   ·exact ak 16 rfl (ag ((cr rfl).to (v':=.bool (x||fN c.toNat g)) (congrArg Value.bool (by simp only [fN,dO aR,bN ss,bh xA,bh EH,bh Ki,bZ']))) (cF (bx (by simp) (aw b7 (bQ (aG rfl (ag (aN rfl rfl (by omega)) (aT rfl (cF (fJ (σ:=Nat×Bool) (s:=⟨j,x⟩) (⟨j+1,(x||fN c.toNat g)⟩) ⟨rfl,rfl,rfl,rfl,rfl,rfl,rfl,trivial⟩ ⟨by omega,by rw [fx _ nE,← ae],E⟩ (by dsimp only;omega)))))))))))
   exact ak 5 rfl (ar (b' Tryz.underlying9 rfl rfl (by omega) (by rw [Int.toNat_natCast];exact nE)) (ar (lT rfl rfl) (jg (bN (show ¬ ((g.toNat:Int)=48)by omega)) (ak 9 rfl (ag ((cr rfl).to (v':=.bool (x||fN c.toNat g)) (congrArg Value.bool (by simp only [fN,dO aR,bN ss,bh xA,bh EH,bN Ki,bN (show ¬ ((g.toNat:Int)=48)by omega),bZ']))) (cF (bx (by simp) (aw b7 (bQ (aG rfl (ag (aN rfl rfl (by omega)) (aT rfl (cF (fJ (σ:=Nat×Bool) (s:=⟨j,x⟩) (⟨j+1,(x||fN c.toNat g)⟩) ⟨rfl,rfl,rfl,rfl,rfl,rfl,rfl,trivial⟩ ⟨by omega,by rw [fx _ nE,← ae],E⟩ (by dsimp only;omega)))))))))))))))
  exact ak 9 rfl (ar (b' Tryz.underlying9 rfl rfl (by omega) (by rw [Int.toNat_natCast];exact nE)) (ar (lT rfl rfl) (jg (bN (show ¬ ((g.toNat:Int)=48)by omega)) (ak 9 rfl (ag ((cr rfl).to (v':=.bool (x||fN c.toNat g)) (congrArg Value.bool (by simp only [fN,dO aR,bN ss,bh xA,bN EH,bN (show ¬ ((g.toNat:Int)=48)by omega),bZ']))) (cF (bx (by simp) (aw b7 (bQ (aG rfl (ag (aN rfl rfl (by omega)) (aT rfl (cF (fJ (σ:=Nat×Bool) (s:=⟨j,x⟩) (⟨j+1,(x||fN c.toNat g)⟩) ⟨rfl,rfl,rfl,rfl,rfl,rfl,rfl,trivial⟩ ⟨by omega,by rw [fx _ nE,← ae],E⟩ (by dsimp only;omega)))))))))))))))
 refine ak 12 rfl (ar (b' Tryz.underlying9 rfl rfl (by omega) (by rw [Int.toNat_natCast];exact nE)) (ar (lT rfl rfl) ?_));refine cT (fun HK:(g.toNat:Int)=48=>?_) (fun HK=>?_)
 ·refine ak 2 rfl (ar (dr rfl rfl) ?_);refine cT (fun EI:(c.toNat:Int)≥48=>?_) (fun EI=>?_)
  ·refine ak 4 rfl ?_;refine cT (fun Kj:(c.toNat:Int)≤57=>?_) (fun Kj=>?_)
   ·exact ak 2 rfl (ag ((cr rfl).to (v':=.bool (x||fN c.toNat g)) (congrArg Value.bool (by simp only [fN,dO aR,bN ss,bN xA,bh HK,bh EI,bh Kj,bZ']))) (cF (bx (by simp) (aw b7 (bQ (aG rfl (ag (aN rfl rfl (by omega)) (aT rfl (cF (fJ (σ:=Nat×Bool) (s:=⟨j,x⟩) (⟨j+1,(x||fN c.toNat g)⟩) ⟨rfl,rfl,rfl,rfl,rfl,rfl,rfl,trivial⟩ ⟨by omega,by rw [fx _ nE,← ae],E⟩ (by dsimp only;omega)))))))))))
   exact ak 2 rfl (ag ((cr rfl).to (v':=.bool (x||fN c.toNat g)) (congrArg Value.bool (by simp only [fN,dO aR,bN ss,bN xA,bh HK,bh EI,bN Kj,bZ']))) (cF (bx (by simp) (aw b7 (bQ (aG rfl (ag (aN rfl rfl (by omega)) (aT rfl (cF (fJ (σ:=Nat×Bool) (s:=⟨j,x⟩) (⟨j+1,(x||fN c.toNat g)⟩) ⟨rfl,rfl,rfl,rfl,rfl,rfl,rfl,trivial⟩ ⟨by omega,by rw [fx _ nE,← ae],E⟩ (by dsimp only;omega)))))))))))
  exact ak 6 rfl (ag ((cr rfl).to (v':=.bool (x||fN c.toNat g)) (congrArg Value.bool (by simp only [fN,dO aR,bN ss,bN xA,bh HK,bN EI,bZ']))) (cF (bx (by simp) (aw b7 (bQ (aG rfl (ag (aN rfl rfl (by omega)) (aT rfl (cF (fJ (σ:=Nat×Bool) (s:=⟨j,x⟩) (⟨j+1,(x||fN c.toNat g)⟩) ⟨rfl,rfl,rfl,rfl,rfl,rfl,rfl,trivial⟩ ⟨by omega,by rw [fx _ nE,← ae],E⟩ (by dsimp only;omega)))))))))))
 exact ak 9 rfl (ag ((cr rfl).to (v':=.bool (x||fN c.toNat g)) (congrArg Value.bool (by simp only [fN,dO aR,bN ss,bN xA,bN HK,bZ']))) (cF (bx (by simp) (aw b7 (bQ (aG rfl (ag (aN rfl rfl (by omega)) (aT rfl (cF (fJ (σ:=Nat×Bool) (s:=⟨j,x⟩) (⟨j+1,(x||fN c.toNat g)⟩) ⟨rfl,rfl,rfl,rfl,rfl,rfl,rfl,trivial⟩ ⟨by omega,by rw [fx _ nE,← ae],E⟩ (by dsimp only;omega)))))))))))
theorem EJ (w:World) (s kinds fR:aa) (q:Nat→Bool) (e5:∀ b:UInt8,q b.toNat=wZ kinds fR b.toNat) (bf:s.length≤140737488351232) (hk:kinds.length≤100) (dA:fR.length≤100):Calls Tryz.prog 138 [S s,S kinds,S fR].toArray w (bL fun u w'=>u = .bool (gn q s)∧Mod [] w w'):=by
 rw [HL e5 s];exact ai5 w s kinds fR bf hk dA
theorem AH (w:World) (s:aa) (bf:s.length≤140737488351232):Calls Tryz.prog 76 [S s].toArray w (bL fun u w'=>u = .bool (dx s)∧Mod [] w w'):=by
 refine enter Tryz.func76 rfl rfl rfl (l:=[(0,_)]) ⟨rfl,trivial⟩ ?_;have E:=Mod.refl [] w;have lE:=jm s;refine ab fun aV=>aT rfl (J aV (ab fun aL=>aG rfl (cP (bF Mb rfl) (HI _ _ (by omega)) fun aB R=>?_)));replace E:=E.then R;refine aT rfl (J aL (ax fun aW=>ab fun br=>aG rfl (ag (bw Tryz.underlying9 rfl) (ag (gq rfl rfl) ?_))));refine cT (fun aR:(s.length:Int) > 255=>?_) (fun aR=>?_)
 ·refine ak 7 rfl (J br (aD rfl ?_));have ja:dx s=false:=by rw [dx,show decide (s.length≤255)=false from bN (by omega)];simp
  exact ab fun bI=>aT rfl (J bI (aZ (aO (by simp) (au rfl rfl ⟨by rw [ja],E⟩))))
 refine ak 3 rfl (ar (x9 Tryz.underlying9 rfl rfl lE) (fD (bF yo rfl) (EJ _ (s.take (aH s)) [97,48] [46,45] _ OG (by have:=jm s;simp only [List.length_take,List.length_drop];omega) (by simp) (by simp)) fun cN R=>?_));replace E:=E.then R;refine ar (ff rfl) ?_;refine mT (fun bp:(!gn hc (s.take (aH s)))=true=>?_) (fun bp=>?_)
 ·refine ag (ji rfl rfl rfl) (J br (aD rfl ?_));have ja:dx s=false:=by rw [dx,show gn hc (s.take (aH s))=false by simpa using bp];simp
  exact ab fun bW=>aT rfl (J bW (aZ (aO (by simp) (au rfl rfl ⟨by rw [ja],E⟩))))
 refine ag (ji rfl rfl rfl) (J br (aE rfl ?_));have dF:gn hc (s.take (aH s))=true:=by simpa using bp
 have pc:decide (s.length≤255)=true:=bh (by omega);refine ca (aw aW (ab fun cb=>ak 2 rfl (ag (bw Tryz.underlying9 rfl) (ag (lT rfl rfl) ?_))));refine cT (fun bE:(aH s:Int)=(s.length:Int)=>?_) (fun bE=>?_)
 ·exact ak 15 rfl (J cb (aZ (au rfl rfl ⟨congrArg Value.bool (by rw [dx,dF,pc,q',ra];simp only [bh bE,bZ']),E⟩)))
 refine ak 2 rfl (ar (bw Tryz.underlying9 rfl) (ar (ec rfl) (ar (ez (r:=((s.length-aH s:Nat):Int)) rfl rfl (by rw [wrap64_in _ (by omega)];omega)) (ar (pX rfl rfl) ?_))));refine cT (fun cE:((s.length-aH s:Nat):Int)≤6=>?_) (fun cE=>?_)
 ·refine ak 3 rfl (ar (cW (r:=((aH s+1:Nat):Int)) rfl rfl (by rw [wrap64_in _ (by omega)];omega)) (ar (cG Tryz.underlying9 rfl rfl (by omega)) (fD (bF yo rfl) (EJ _ (s.drop (aH s+1)) [48] [] _ T7 (by have:=jm s;simp only [List.length_take,List.length_drop];omega) (by simp) (by simp)) fun fV R=>?_)));replace E:=E.then R;refine mT (fun cY:(gn sW (s.drop (aH s+1)))=true=>?_) (fun cY=>?_)
  ·exact ak 3 rfl (J cb (aZ (au rfl rfl ⟨congrArg Value.bool (by rw [dx,dF,pc,q',ra];simp only [bN bE,bh cE,cY,bZ']),E⟩)))
  exact ak 3 rfl (J cb (aZ (au rfl rfl ⟨congrArg Value.bool (by rw [dx,dF,pc,q',ra];simp only [bN bE,bh cE,dO cY,bZ']),E⟩)))
 exact ak 9 rfl (J cb (aZ (au rfl rfl ⟨congrArg Value.bool (by rw [dx,dF,pc,q',ra];simp only [bN bE,bN cE,bZ']),E⟩)))
theorem HM (w:World) (s:aa) (sign:UInt8) (kinds fR:aa) (q:Nat→Bool) (e5:∀ b:UInt8,q b.toNat=wZ kinds fR b.toNat) (Dw:sign≠58) (bf:s.length≤140737488351232) (hk:kinds.length≤100) (dA:fR.length≤100):Calls Tryz.prog 139 [S s,.int .u8 (sign.toNat:Int),S kinds,S fR].toArray w (bL fun u w'=>u = .bool (fw sign q s)∧Mod [] w w'):=by
 refine enter Tryz.func139 rfl rfl rfl (l:=[(0,_),(1,_),(2,_),(3,_)]) ⟨rfl,rfl,rfl,rfl,trivial⟩ ?_;have E:=Mod.refl [] w;have lE:=jm s;refine ab fun aV=>aT rfl (J aV (ab fun aL=>aG rfl (cP (bF Mb rfl) (HI _ _ (by omega)) fun aB R=>?_)));replace E:=E.then R;refine aT rfl (J aL (ab fun aW=>aG rfl (ag (bw Tryz.underlying9 rfl) (ag (pX rfl rfl) ?_))));refine cT (fun aR:(s.length:Int)≤255=>?_) (fun aR=>?_);rotate_left
 ·exact ak 32 rfl (J aW (aZ (au rfl rfl ⟨congrArg Value.bool (by rw [j7];simp only [bN aR,bZ']),E⟩)))
 refine ak 3 rfl (ar (bw Tryz.underlying9 rfl) (ar (cI rfl rfl) ?_));refine cT (fun bp:(aH s:Int)<(s.length:Int)=>?_) (fun bp=>?_);rotate_left
 ·exact ak 27 rfl (J aW (aZ (au rfl rfl ⟨congrArg Value.bool (by rw [j7];simp only [bh aR,bN bp,bZ']),E⟩)))
 refine ak 4 rfl ?_;refine cT (fun bE:(aH s:Int) > 0=>?_) (fun bE=>?_)
 ·obtain⟨b0,Dp⟩:∃ b,s[0]? = some b:=⟨_,List.getElem?_eq_getElem (by omega)⟩;have GU:=OH (sign:=sign) Dp;refine ak 3 rfl (ar (b' Tryz.underlying9 rfl rfl (by omega) Dp) (ak 2 rfl ?_));refine cT (fun cE:(b0.toNat:Int)=(sign.toNat:Int)=>?_) (fun cE=>?_)
  ·refine ak 4 rfl (ar (T8 (m:=1) Tryz.underlying9 rfl rfl rfl (by omega)) (ak 2 rfl (fD (bF yo rfl) (EJ _ ((s.take (aH s)).drop 1) kinds fR q e5 (by have:=jm s;simp only [List.length_take,List.length_drop];omega) hk dA) fun cN R=>?_)));replace E:=E.then R;refine mT (fun cY:(gn q ((s.take (aH s)).drop 1))=true=>?_) (fun cY=>?_)
   ·refine ak 4 rfl (ar (cW (r:=((aH s+1:Nat):Int)) rfl rfl (by rw [wrap64_in _ (by omega)];omega)) (ar (cG Tryz.underlying9 rfl rfl (by omega)) (fD (bF T6 rfl) (AH _ (s.drop (aH s+1)) (by have:=jm s;simp only [List.length_take,List.length_drop];omega)) fun fV R=>?_)));replace E:=E.then R;refine mT (fun eA:(dx (s.drop (aH s+1)))=true=>?_) (fun eA=>?_)
    ·exact ak 2 rfl (J aW (aZ (au rfl rfl ⟨congrArg Value.bool (by rw [j7];simp only [GU,bh aR,bh bp,bh bE,bh cE,cY,eA,bZ']),E⟩)))
    exact ak 2 rfl (J aW (aZ (au rfl rfl ⟨congrArg Value.bool (by rw [j7];simp only [GU,bh aR,bh bp,bh bE,bh cE,cY,dO eA,bZ']),E⟩)))
   exact ak 9 rfl (J aW (aZ (au rfl rfl ⟨congrArg Value.bool (by rw [j7];simp only [GU,bh aR,bh bp,bh bE,bh cE,dO cY,bZ']),E⟩)))
  exact ak 17 rfl (J aW (aZ (au rfl rfl ⟨congrArg Value.bool (by rw [j7];simp only [GU,bh aR,bh bp,bh bE,bN cE,bZ']),E⟩)))
 have aoc:=T9 Dw bE;exact ak 23 rfl (J aW (aZ (au rfl rfl ⟨congrArg Value.bool (by rw [j7];simp only [aoc,bh aR,bh bp,bN bE,bZ']),E⟩)))
theorem T' (w:World) (s:aa) (bf:s.length≤140737488351232):Calls Tryz.prog 80 [S s].toArray w (bL fun u w'=>u = .bool (fw 64 iZ s)∧Mod [] w w'):=by
 refine enter Tryz.func80 rfl rfl rfl (l:=[(0,_)]) ⟨rfl,trivial⟩ ?_;have E:=Mod.refl [] w;refine ab fun aV=>aT rfl (J aV (ab fun aL=>aG rfl (cP (bF Mc rfl) (HM _ s 64 [97,48] q9 iZ ZQ (by decide) bf (by simp) (by simp)) fun aB R=>?_)));replace E:=E.then R;exact aT rfl (J aL (aZ (au rfl rfl ⟨rfl,E⟩)))
theorem Ua (w:World) (s:aa) (bf:s.length≤140737488351232):Calls Tryz.prog 79 [S s].toArray w (bL fun u w'=>u = .bool (fw 33 h0 s)∧Mod [] w w'):=by
 refine enter Tryz.func79 rfl rfl rfl (l:=[(0,_)]) ⟨rfl,trivial⟩ ?_;have E:=Mod.refl [] w;refine ab fun aV=>aT rfl (J aV (ab fun aL=>aG rfl (cP (bF Mc rfl) (HM _ s 33 [97,65,48] [95,45] h0 ZR (by decide) bf (by simp) (by simp)) fun aB R=>?_)));replace E:=E.then R;exact aT rfl (J aL (aZ (au rfl rfl ⟨rfl,E⟩)))
theorem ZS (w:World) (s:aa) (bf:s.length≤140737488351232):Calls Tryz.prog 77 [S s].toArray w (bL fun u w'=>u = .bool (nJ s)∧Mod [] w w'):=by
 refine enter Tryz.func77 rfl rfl rfl (l:=[(0,_)]) ⟨rfl,trivial⟩ ?_;have E:=Mod.refl [] w;refine ab fun aV=>aT rfl (J aV (ab fun aL=>aG rfl (ag (bw Tryz.underlying9 rfl) (ag (pX rfl rfl) ?_))));refine cT (fun aR:(s.length:Int)≤255=>?_) (fun aR=>?_)
 ·refine ak 2 rfl (ar (bw Tryz.underlying9 rfl) (ar (gq rfl rfl) ?_));refine cT (fun bp:(s.length:Int) > 8=>?_) (fun bp=>?_)
  ·refine ak 3 rfl (ar (x9 (n:=8) Tryz.underlying9 rfl rfl (by omega)) (ar (dQ rfl rfl) ?_));refine cT (fun bE:s.take 8=BL=>?_) (fun bE=>?_)
   ·refine ak 3 rfl (ar (cG (n:=8) Tryz.underlying9 rfl rfl (by omega)) (fD (bF yo rfl) (EJ _ (s.drop 8) [97,65,48] [95] _ aeR (by simp only [List.length_drop];omega) (by simp) (by simp)) fun aB R=>?_));replace E:=E.then R;refine mT (fun cE:(gn nI (s.drop 8))=true=>?_) (fun cE=>?_)
    ·exact ak 2 rfl (J aL (aZ (au rfl rfl ⟨congrArg Value.bool (by rw [nJ,ki];simp only [bh aR,bh bp,bh bE,cE,bZ']),E⟩)))
    exact ak 2 rfl (J aL (aZ (au rfl rfl ⟨congrArg Value.bool (by rw [nJ,ki];simp only [bh aR,bh bp,bh bE,dO cE,bZ']),E⟩)))
   exact ak 7 rfl (J aL (aZ (au rfl rfl ⟨congrArg Value.bool (by rw [nJ,ki];simp only [bh aR,bh bp,bN bE,bZ']),E⟩)))
  have b3:gn nI (s.drop 8)=false:=by rw [List.drop_eq_nil_of_le (by omega)];rfl
  exact ak 12 rfl (J aL (aZ (au rfl rfl ⟨congrArg Value.bool (by rw [nJ,ki];simp only [b3,bh aR,bN bp,bZ']),E⟩)))
 exact ak 16 rfl (J aL (aZ (au rfl rfl ⟨congrArg Value.bool (by rw [nJ,ki];simp only [bN aR,bZ']),E⟩)))
set_option maxRecDepth 10000
theorem Md:aQ Tryz.prog 197:=aQ.of Tryz.func197 (by kernel_rfl) (by kernel_rfl)
theorem HN (w:World) (url:Bool) (c:Nat) (bj:c≤1114111):Calls Tryz.prog 197 [.int .i32 (c:Int),.bool url].toArray w (bL fun u w'=>u = .tuple #[.int .u64 (((n9 url c).getD 0:Nat):Int),.bool (n9 url c).isSome]∧Mod [] w w'):=by
 refine enter Tryz.func197 rfl rfl rfl (l:=[(0,_),(1,_)]) ⟨rfl,rfl,trivial⟩ ?_;have E:=Mod.refl [] w;refine ab fun aV=>ak 2 rfl (J aV (ax fun aL=>eB (nm fun K3 aW=>?_)));have J3:∀ (aB:World),True∧Mod [] w aB→∀ a,Has 62 [] [(0,.int .i32 (c:Int)),(1,.bool url),(6,.bool (BK c))] a→K3 a aB:=by
  intro aB oE;obtain⟨_,E⟩:=oE;refine aW _ _ _ _ ?_;refine a7 rfl (fun eW=>?_) (fun eW=>?_)
  ·refine ab fun br=>aG rfl ?_;have bq:65≤c∧c≤90:=by simp [BK] at eW;omega
   exact ag ((hN rfl rfl).to (v':=.int .i32 ((c-65:Nat):Int)) (by rw [su _ (by omega)];congr 1;omega)) (ag (j3 Tryz.underlying21 Tryz.underlying154 rfl (fF _ (by omega))) (ak 2 rfl (J br (aZ (bx (by simp) (aO (by simp) (ct rfl rfl rfl ⟨by rw [show n9 url c=some (c-65)by rw [n9,if_pos eW]];rfl,E⟩)))))))
  refine nm fun K5 bI=>?_;have J5:∀ (aB:World),True∧Mod [] w aB→∀ a,Has 62 [] [(0,.int .i32 (c:Int)),(1,.bool url),(16,.bool (wX c))] a→K5 a aB:=by
   intro cN oE;obtain⟨_,E⟩:=oE;refine bI _ _ _ _ ?_;refine a7 rfl (fun mK=>?_) (fun mK=>?_)
   ·refine ab fun bW=>aG rfl ?_;have bq:97≤c∧c≤122:=by simp [wX] at mK;omega
    exact ag ((hN rfl rfl).to (v':=.int .i32 ((c-97:Nat):Int)) (by rw [su _ (by omega)];congr 1;omega)) (ag (j3 Tryz.underlying21 Tryz.underlying154 rfl (fF _ (by omega))) (ag ((oO rfl rfl).to (v':=.int .u64 ((c-97+26:Nat):Int)) (by rw [fF _ (by omega)];rfl)) (ak 2 rfl (J bW (aZ (bx (by simp) (aO (by simp) (ct rfl rfl rfl ⟨by rw [show n9 url c=some (c-97+26)by rw [n9,if_neg (by simp [eW]),if_pos mK]];rfl,E⟩))))))))
   refine nm fun K7 cb=>?_;have J7:∀ (aB:World),True∧Mod [] w aB→∀ a,Has 62 [] [(0,.int .i32 (c:Int)),(1,.bool url),(27,.bool (sW c))] a→K7 a aB:=by
    intro fV oE;obtain⟨_,E⟩:=oE;refine cb _ _ _ _ ?_;refine a7 rfl (fun OI=>?_) (fun OI=>?_)
    ·refine ab fun cx=>aG rfl ?_;have bq:48≤c∧c≤57:=by simp [sW] at OI;omega
     exact ag ((hN rfl rfl).to (v':=.int .i32 ((c-48:Nat):Int)) (by rw [su _ (by omega)];congr 1;omega)) (ag (j3 Tryz.underlying21 Tryz.underlying154 rfl (fF _ (by omega))) (ag ((oO rfl rfl).to (v':=.int .u64 ((c-48+52:Nat):Int)) (by rw [fF _ (by omega)];rfl)) (ak 2 rfl (J cx (aZ (bx (by simp) (aO (by simp) (ct rfl rfl rfl ⟨by rw [show n9 url c=some (c-48+52)by rw [n9,if_neg (by simp [eW]),if_neg (by simp [mK]),if_pos OI]];rfl,E⟩))))))))
    refine nm fun wD cH=>?_;have J9:∀ (x:Bool) (aB:World),x=OJ url c∧Mod [] w aB→∀ a,Has 62 [] [(0,.int .i32 (c:Int)),(1,.bool url),(38,.bool x)] a→wD a aB:=by
     intro x ic oE;obtain⟨Ub,E⟩:=oE;refine cH _ _ _ _ ?_;refine a7 rfl (fun qU=>?_) (fun qU=>?_)
     ·exact ab fun b5=>ak 2 rfl (J b5 (aZ (bx (by simp) (aO (by simp) (ct rfl rfl rfl ⟨by rw [show n9 url c=some 62 by rw [n9,if_neg (by simp [eW]),if_neg (by simp [mK]),if_neg (by simp [OI]),if_pos (Ub.symm.trans qU)]];rfl,E⟩)))))
     refine nm fun Iy bX=>?_;have pg:∀ (x:Bool) (aB:World),x=OK url c∧Mod [] w aB→∀ a,Has 62 [] [(0,.int .i32 (c:Int)),(1,.bool url),(50,.bool x)] a→Iy a aB:=by
      intro x jn oE;obtain⟨abi,E⟩:=oE;refine bX _ _ _ _ ?_;refine a7 rfl (fun wQ=>?_) (fun wQ=>?_)
      ·exact ab fun cU=>ak 2 rfl (J cU (aZ (bx (by simp) (aO (by simp) (ct rfl rfl rfl ⟨by rw [show n9 url c=some 63 by rw [n9,if_neg (by simp [eW]),if_neg (by simp [mK]),if_neg (by simp [OI]),if_neg (by rw [← Ub,qU];simp),if_pos (abi.symm.trans wQ)]];rfl,E⟩)))))
      exact ca (bx (by simp) (aw aL (ab fun b7=>ak 2 rfl (J b7 (aZ (ct rfl rfl rfl ⟨by rw [show n9 url c=none by rw [n9,if_neg (by simp [eW]),if_neg (by simp [mK]),if_neg (by simp [OI]),if_neg (by rw [← Ub,qU];simp),if_neg (by rw [← abi,wQ];simp)]];rfl,E⟩))))))
     refine nm fun ac7 cS=>?_;have aeS:∀ (aB:World),True∧Mod [] w aB→∀ a,Has 62 [] [(0,.int .i32 (c:Int)),(1,.bool url),(50,.bool (decide ((c:Int)=47) && !url))] a→ac7 a aB:=by
      intro jC oE;obtain⟨_,E⟩:=oE;refine cS _ _ _ _ ?_;refine a7 rfl (fun wQ=>?_) (fun wQ=>?_)
      ·refine ca ?_;refine fI.sub (l':=[(0,_),(1,_),(50,_)]) ⟨rfl,rfl,rfl,trivial⟩ (dU (pg (decide ((c:Int)=47) && !url) jC ⟨(by rw [OK,wQ,Bool.true_or]),E⟩))
      refine bQ (ak 2 rfl ?_);refine cT (fun aR:(c:Int)=95=>?_) (fun aR=>?_)
      ·refine ak 4 rfl (cF ?_);refine fI.sub (l':=[(0,_),(1,_),(50,_)]) ⟨rfl,rfl,rfl,trivial⟩ (dU (pg url jC ⟨(by rw [OK,wQ];simp only [bh aR,bZ']),E⟩))
      refine ak 4 rfl (cF ?_);refine fI.sub (l':=[(0,_),(1,_),(50,_)]) ⟨rfl,rfl,rfl,trivial⟩ (dU (pg false jC ⟨(by rw [OK,wQ];simp only [bN aR,bZ']),E⟩))
     refine bQ (ak 2 rfl ?_);refine cT (fun aR:(c:Int)=47=>?_) (fun aR=>?_)
     ·refine ak 3 rfl ?_;refine mT (fun bp:(!url)=true=>?_) (fun bp=>?_)
      ·refine ag (lU rfl rfl rfl) (ag ((cr rfl).to (v':=.bool (decide ((c:Int)=47) && !url)) (congrArg Value.bool (by simp only [bh aR,bp,bZ']))) (cF ?_));refine fI.sub (l':=[(0,_),(1,_),(50,_)]) ⟨rfl,rfl,rfl,trivial⟩ (dU (aeS ic ⟨trivial,E⟩))
      refine ag (lU rfl rfl rfl) (ag ((cr rfl).to (v':=.bool (decide ((c:Int)=47) && !url)) (congrArg Value.bool (by simp only [bh aR,dO bp,bZ']))) (cF ?_));refine fI.sub (l':=[(0,_),(1,_),(50,_)]) ⟨rfl,rfl,rfl,trivial⟩ (dU (aeS ic ⟨trivial,E⟩))
     refine ak 4 rfl (ag ((cr rfl).to (v':=.bool (decide ((c:Int)=47) && !url)) (congrArg Value.bool (by simp only [bN aR,bZ']))) (cF ?_));refine fI.sub (l':=[(0,_),(1,_),(50,_)]) ⟨rfl,rfl,rfl,trivial⟩ (dU (aeS ic ⟨trivial,E⟩))
    refine nm fun ac8 de=>?_;have aeT:∀ (aB:World),True∧Mod [] w aB→∀ a,Has 62 [] [(0,.int .i32 (c:Int)),(1,.bool url),(38,.bool (decide ((c:Int)=43) && !url))] a→ac8 a aB:=by
     intro iw oE;obtain⟨_,E⟩:=oE;refine de _ _ _ _ ?_;refine a7 rfl (fun qU=>?_) (fun qU=>?_)
     ·refine ca ?_;refine fI.sub (l':=[(0,_),(1,_),(38,_)]) ⟨rfl,rfl,rfl,trivial⟩ (dU (J9 (decide ((c:Int)=43) && !url) iw ⟨(by rw [OJ,qU,Bool.true_or]),E⟩))
     refine bQ (ak 2 rfl ?_);refine cT (fun aR:(c:Int)=45=>?_) (fun aR=>?_)
     ·refine ak 4 rfl (cF ?_);refine fI.sub (l':=[(0,_),(1,_),(38,_)]) ⟨rfl,rfl,rfl,trivial⟩ (dU (J9 url iw ⟨(by rw [OJ,qU];simp only [bh aR,bZ']),E⟩))
     refine ak 4 rfl (cF ?_);refine fI.sub (l':=[(0,_),(1,_),(38,_)]) ⟨rfl,rfl,rfl,trivial⟩ (dU (J9 false iw ⟨(by rw [OJ,qU];simp only [bN aR,bZ']),E⟩))
    refine bQ (ak 2 rfl ?_);refine cT (fun aR:(c:Int)=43=>?_) (fun aR=>?_)
    ·refine ak 3 rfl ?_;refine mT (fun bp:(!url)=true=>?_) (fun bp=>?_)
     ·refine ag (lU rfl rfl rfl) (ag ((cr rfl).to (v':=.bool (decide ((c:Int)=43) && !url)) (congrArg Value.bool (by simp only [bh aR,bp,bZ']))) (cF ?_));refine fI.sub (l':=[(0,_),(1,_),(38,_)]) ⟨rfl,rfl,rfl,trivial⟩ (dU (aeT fV ⟨trivial,E⟩))
     refine ag (lU rfl rfl rfl) (ag ((cr rfl).to (v':=.bool (decide ((c:Int)=43) && !url)) (congrArg Value.bool (by simp only [bh aR,dO bp,bZ']))) (cF ?_));refine fI.sub (l':=[(0,_),(1,_),(38,_)]) ⟨rfl,rfl,rfl,trivial⟩ (dU (aeT fV ⟨trivial,E⟩))
    refine ak 4 rfl (ag ((cr rfl).to (v':=.bool (decide ((c:Int)=43) && !url)) (congrArg Value.bool (by simp only [bN aR,bZ']))) (cF ?_));refine fI.sub (l':=[(0,_),(1,_),(38,_)]) ⟨rfl,rfl,rfl,trivial⟩ (dU (aeT fV ⟨trivial,E⟩))
   refine bQ (aG rfl (ag (dr rfl rfl) ?_));refine cT (fun aR:48≤(c:Int)=>?_) (fun aR=>?_)
   ·refine ak 3 rfl ?_;refine cT (fun bp:(c:Int)≤57=>?_) (fun bp=>?_)
    ·refine ag (lU rfl rfl rfl) (ag ((cr rfl).to (v':=.bool (sW c)) (congrArg Value.bool (by simp only [sW,bh aR,bh bp,bZ']))) (cF ?_));refine fI.sub (l':=[(0,_),(1,_),(27,_)]) ⟨rfl,rfl,rfl,trivial⟩ (dU (J7 cN ⟨trivial,E⟩))
    refine ag (lU rfl rfl rfl) (ag ((cr rfl).to (v':=.bool (sW c)) (congrArg Value.bool (by simp only [sW,bh aR,bN bp,bZ']))) (cF ?_));refine fI.sub (l':=[(0,_),(1,_),(27,_)]) ⟨rfl,rfl,rfl,trivial⟩ (dU (J7 cN ⟨trivial,E⟩))
   refine ak 4 rfl (ag ((cr rfl).to (v':=.bool (sW c)) (congrArg Value.bool (by simp only [sW,bN aR,bZ']))) (cF ?_));refine fI.sub (l':=[(0,_),(1,_),(27,_)]) ⟨rfl,rfl,rfl,trivial⟩ (dU (J7 cN ⟨trivial,E⟩))
  refine bQ (aG rfl (ag (dr rfl rfl) ?_));refine cT (fun aR:97≤(c:Int)=>?_) (fun aR=>?_)
  ·refine ak 3 rfl ?_;refine cT (fun bp:(c:Int)≤122=>?_) (fun bp=>?_)
   ·refine ag (lU rfl rfl rfl) (ag ((cr rfl).to (v':=.bool (wX c)) (congrArg Value.bool (by simp only [wX,bh aR,bh bp,bZ']))) (cF ?_));refine fI.sub (l':=[(0,_),(1,_),(16,_)]) ⟨rfl,rfl,rfl,trivial⟩ (dU (J5 aB ⟨trivial,E⟩))
   refine ag (lU rfl rfl rfl) (ag ((cr rfl).to (v':=.bool (wX c)) (congrArg Value.bool (by simp only [wX,bh aR,bN bp,bZ']))) (cF ?_));refine fI.sub (l':=[(0,_),(1,_),(16,_)]) ⟨rfl,rfl,rfl,trivial⟩ (dU (J5 aB ⟨trivial,E⟩))
  refine ak 4 rfl (ag ((cr rfl).to (v':=.bool (wX c)) (congrArg Value.bool (by simp only [wX,bN aR,bZ']))) (cF ?_));refine fI.sub (l':=[(0,_),(1,_),(16,_)]) ⟨rfl,rfl,rfl,trivial⟩ (dU (J5 aB ⟨trivial,E⟩))
 refine bQ (aG rfl (ag (dr rfl rfl) ?_));refine cT (fun aR:65≤(c:Int)=>?_) (fun aR=>?_)
 ·refine ak 3 rfl ?_;refine cT (fun bp:(c:Int)≤90=>?_) (fun bp=>?_)
  ·refine ag (lU rfl rfl rfl) (ag ((cr rfl).to (v':=.bool (BK c)) (congrArg Value.bool (by simp only [BK,bh aR,bh bp,bZ']))) (cF ?_));refine fI.sub (l':=[(0,_),(1,_),(6,_)]) ⟨rfl,rfl,rfl,trivial⟩ (dU (J3 w ⟨trivial,E⟩))
  refine ag (lU rfl rfl rfl) (ag ((cr rfl).to (v':=.bool (BK c)) (congrArg Value.bool (by simp only [BK,bh aR,bN bp,bZ']))) (cF ?_));refine fI.sub (l':=[(0,_),(1,_),(6,_)]) ⟨rfl,rfl,rfl,trivial⟩ (dU (J3 w ⟨trivial,E⟩))
 refine ak 4 rfl (ag ((cr rfl).to (v':=.bool (BK c)) (congrArg Value.bool (by simp only [BK,bN aR,bZ']))) (cF ?_));refine fI.sub (l':=[(0,_),(1,_),(6,_)]) ⟨rfl,rfl,rfl,trivial⟩ (dU (J3 w ⟨trivial,E⟩))
theorem CW (w:World) (s:aa) (url:Bool) (bf:s.length≤140737488351232):Calls Tryz.prog 172 [S s,.bool url].toArray w (bL fun u w'=>nh w w' url s u∧Mod [] w w'):=by
 refine enter Tryz.func172 rfl rfl rfl (l:=[(0,_),(1,_)]) ⟨rfl,rfl,trivial⟩ ?_;have E:=Mod.refl [] w;refine ab fun aV=>ak 2 rfl (J aV (ab fun aL=>aT rfl (J aL (ab fun aW=>ak 2 rfl (J aW (ax fun br=>ab fun bI=>aG rfl (qn Tryz.underlying9 rfl rfl fun uW aB gu Rc O4=>?_)))))));have pn:w.heap.size≤uW:=by have:=E.size;omega
 replace E:=E.then O4;refine J bI (eB (bU (σ:=Nat×Value×aa) (fun⟨k,v,nF⟩=>[(0,S s),(1,.bool url),(6,v),(7,.int .u64 (rest url s k:Int)),(8,.int .i64 ((6*k % 8:Nat):Int)),(14,.pointer (some ⟨uW,0,none⟩))]) (fun⟨k,v,nF⟩ aB=>k≤s.length∧(s.take k).all (fun b=>(n9 url b.toNat).isSome)=true∧Bu aB uW s k∧hK aB v nF∧nF.length=6*k / 8∧(∀ x∈a1 v,w.heap.size≤x)∧(∀ x∈a1 v,x≠uW)∧Mod [] w aB) (fun⟨k,v,nF⟩=>s.length-k) (⟨0,.slice none 0 0,[]⟩) ⟨rfl,rfl,rfl,rfl,rfl,rfl,trivial⟩ (⟨by omega,by simp,gu,Own.nil _ 5 1,rfl,by simp [a1],by simp [a1],E⟩) ?_));rintro⟨k,v,nF⟩ cN ⟨cp,ay,gu,O,HE,my,Ow,E⟩;refine ax fun bW=>?_
 by_cases fM:k<s.length
 rotate_left
 ·have lI:=fM;have hk:k=s.length:=by omega
  have kp:s.all (fun b=>(n9 url b.toNat).isSome)=true:=by rw [List.take_of_length_le (by omega)] at ay;exact ay
  refine bQ (lr rfl gu lI rfl (ag (eH rfl rfl) (J bW (ax fun gX=>?_))));refine a7 rfl (fun mK=>?_) (fun mK=>?_)
  ·cases mK
  skip
  refine bm (aO (by simp) (aO (by simp) (bS (aw br (ax fun hn=>ab fun hD=>aG rfl (ag (dr rfl rfl) ?_))))));refine cT (fun aR:((6*k % 8:Nat):Int)≥6=>?_) (fun aR=>?_)
  ·refine ak 4 rfl (J hD (aD rfl ?_));have yp:fS url s=false:=by unfold fS;rw [kp,← hk];simp only [bh aR,bZ']
   exact ab fun ho=>ak 2 rfl (J ho (aZ (aO (by simp) (ct rfl rfl rfl ⟨nh.no yp,E⟩))))
  refine ak 3 rfl ?_;refine cT (fun bp:(rest url s k:Int)≠0=>?_) (fun bp=>?_)
  ·refine ag (ji rfl rfl rfl) (J hD (aD rfl ?_));have yp:fS url s=false:=by unfold fS;rw [kp,← hk];simp only [bN aR,bh bp,bZ']
   exact ab fun hE=>ak 2 rfl (J hE (aZ (aO (by simp) (ct rfl rfl rfl ⟨nh.no yp,E⟩))))
  refine ag (ji rfl rfl rfl) (J hD (aE rfl ?_));have yp:fS url s=true:=by unfold fS;rw [kp,← hk];simp only [bN aR,bN bp,bZ']
  exact ca (aw hn (ab fun ij=>ak 3 rfl (J ij (aZ (ct rfl rfl rfl ⟨nh.yes yp O (by omega) my,E⟩)))))
 obtain⟨b,aS⟩:∃ b,s[k]? = some b:=⟨_,List.getElem?_eq_getElem fM⟩;have ap4:=b.toNat_lt
 by_cases nX:b.toNat<128
 rotate_left
 ·obtain⟨c,m,zq,T4,fH,gC⟩:=L8 aS (by omega);refine bQ (mE rfl gu fM (zq) rfl fun iw qS A3 DN=>?_);replace E:=E.trans' A3 (fun x ae=>.inr (by simp at ae;subst ae;exact pn));replace O:=O.mod A3 (fun x ae hm=>Ow x ae (by simpa using hm));clear gu;have gu:=qS;refine ag (eH rfl rfl) (J bW (ax fun eC=>?_));refine a7 rfl (fun mK=>?_) (fun mK=>?_)
  ·skip
   refine ca (aw eC (eB (ab fun eb=>ak 2 rfl (J eb (ab fun fq=>ak 2 rfl (cP (bF Md rfl) (HN _ url c (by omega)) fun n' R=>?_))))));replace gu:=gu.I R;replace E:=E.then R;replace O:=O.I R;refine ak 5 rfl (J fq (ax fun fE=>ab fun fa=>ak 2 rfl (J fa ?_)));refine a7 rfl (fun p6=>?_) (fun p6=>?_)
   ·have yp:fS url s=false:=yq aS (Kl url _ (by omega));exact ab fun fL=>ak 2 rfl (J fL (aZ (aO (by simp) (bx (by simp) (aO (by simp) (bx (by simp) (aO (by simp) (ct rfl rfl rfl ⟨nh.no yp,E⟩))))))))
   rw [Kl url c T4] at p6;cases p6
  cases mK
 skip
 refine bQ (mE rfl gu fM (dec_lt aS nX) rfl fun fV qS A3 DN=>?_);replace E:=E.trans' A3 (fun x ae=>.inr (by simp at ae;subst ae;exact pn));replace O:=O.mod A3 (fun x ae hm=>Ow x ae (by simpa using hm));clear gu;have gu:=qS;refine ag (eH rfl rfl) (J bW (ax fun cb=>?_));refine a7 rfl (fun mK=>?_) (fun mK=>?_);rotate_left
 ·cases mK
 skip
 refine ca (aw cb (eB (ab fun cx=>ak 2 rfl (J cx (ab fun cH=>ak 2 rfl (cP (bF Md rfl) (HN _ url b.toNat (by omega)) fun ic R=>?_))))));replace gu:=gu.I R;replace E:=E.then R;replace O:=O.I R;refine ak 5 rfl (J cH (ax fun b5=>ab fun bX=>ak 2 rfl (J bX ?_)));refine a7 rfl (fun p6=>?_) (fun p6=>?_)
 ·have yp:fS url s=false:=yq aS (by simpa using p6);exact ab fun cU=>ak 2 rfl (J cU (aZ (aO (by simp) (bx (by simp) (aO (by simp) (bx (by simp) (aO (by simp) (ct rfl rfl rfl ⟨nh.no yp,E⟩))))))))
 obtain⟨x,ae⟩:∃ x,n9 url b.toNat=some x:=Option.isSome_iff_exists.1 (by simpa using p6);have Fj:=AI ae;refine ca (aw b5 (ab fun b7=>?_));have Qn:=Uc url s k;refine aG rfl (ag ((zp rfl rfl (by omega)).to (v':=.int .u64 ((rest url s k*64:Nat):Int)) (by rw [ai6 Qn])) (ag ((ec rfl).to (v':=.int .u64 (x:Int)) (by rw [ae];rfl)) (ag ((pC rfl rfl).to (v':=.int .u64 ((rest url s k*64+x:Nat):Int)) (by rw [ai7 Qn Fj])) (aG rfl (ag (cW (r:=((6*k % 8+6:Nat):Int)) rfl rfl (by rw [wrap64_in _ (by omega)];omega)) (ak 2 rfl (J b7 (ab fun cS=>aG rfl (ag (dr rfl rfl) (J cS ?_))))))))));refine aI rfl (fun sZ=>?_) (fun sZ=>?_);rotate_left
 ·have aR:k % 4=0:=by omega
  have arG:6*k % 8+6=6*(k+1) % 8:=by omega
  have arH:rest url s k*64+x=rest url s (k+1):=by
   rw [rb aS ae,Kk aR];unfold lz;rw [if_neg (by omega),if_pos (by omega)];omega
  rw [arH,arG];refine ca (bx (by simp) ?_);have o3:(s.take (k+1)).all (fun b=>(n9 url b.toNat).isSome)=true:=all_succ (q:=fun c=>(n9 url c).isSome) aS ay (by rw [ae];rfl);exact fJ (σ:=Nat×Value×aa) (s:=⟨k,v,nF⟩) (⟨k+1,v,nF⟩) ⟨rfl,rfl,rfl,rfl,rfl,rfl,trivial⟩ ⟨by omega,o3,gu,O,by omega,my,Ow,E⟩ (by dsimp only;omega)
 refine ab fun de=>aG rfl (ag (ez (r:=((6*(k+1) % 8:Nat):Int)) rfl rfl (by rw [wrap64_in _ (by omega)];omega)) (aT rfl (J de (ab fun dG=>ak 3 rfl (ag (uc rfl rfl (by omega)) (ag (sK Tryz.underlying114 Tryz.underlying5 rfl) (bD (cs:=[_]) cV kF rfl rfl rfl (by decide) rfl fun g1 jn bR=>?_)))))));have bH:=bR.le E;have yk:=bR.b8 O;replace gu:=gu.I bR.mod;replace E:=E.then bR.mod;replace O:=O.I bR.mod;have U:=bR.az;refine bu cV rfl rfl O (Src.own Tryz.underlying65 (Own.all (cs:=[_]) U rfl (by omega)) (by simp [Value.oneCell'])) (by decide) (by omega) (by omega) rfl fun v1 jC jj=>?_;have KT:=jj.ne yk U;have tz:=jj.ge my E;replace U:=U.mod jj.mod (fun ae=>yk _ ae rfl);replace E:=E.trans' jj.mod (fun x ae=>.inr (my x ae));replace O:=jj.own;have aex:=jj.adz Ow gu;replace gu:=gu.mod jj.mod (fun ae=>Ow _ ae rfl);obtain⟨ZT,O⟩:=OL O rfl;refine aT rfl (J dG (bQ (ak 2 rfl (ag ((zp rfl rfl (by omega)).to (v':=.int .u64 (lz (k+1):Int)) (by rw [ZU rfl])) (ag ((hN rfl rfl).to (v':=.int .u64 ((lz (k+1)-1:Nat):Int)) (by have h1:=Me (k+1);have aq:=Ud (k+1);rw [fF _ (by omega)];congr 1;omega)) (ag ((zP rfl rfl).to (v':=.int .u64 (rest url s (k+1):Int)) (by rw [aeU (by omega) (Ue _),ZV,← rb aS ae])) (aT rfl (cF (bx (by simp) ?_)))))))));have o3:(s.take (k+1)).all (fun b=>(n9 url b.toNat).isSome)=true:=all_succ (q:=fun c=>(n9 url c).isSome) aS ay (by rw [ae];rfl);exact fJ (σ:=Nat×Value×aa) (s:=⟨k,v,nF⟩) (⟨k+1,v1,(nF ++ [ZT])⟩) ⟨rfl,rfl,rfl,rfl,rfl,rfl,trivial⟩ ⟨by omega,o3,gu,O,by simp;omega,tz,aex,E⟩ (by dsimp only;omega)
set_option maxRecDepth 10000
theorem Mf:aQ Tryz.prog 100:=aQ.of Tryz.func100 (by kernel_rfl) (by kernel_rfl)
theorem ZW:nM Tryz.prog 5=true:=by kernel_rfl
theorem CX (w:World) (url:Bool) (n:Nat) (ck:n<64):Calls Tryz.prog 100 [.int .i64 (n:Int),.bool url].toArray w (bL fun u w'=>u = .int .u8 (pP url n:Int)∧Mod [] w w'):=by
 refine enter Tryz.func100 rfl rfl rfl (l:=[(0,_),(1,_)]) ⟨rfl,rfl,trivial⟩ ?_;have E:=Mod.refl [] w;refine ab fun aV=>aT rfl (J aV (ax fun aL=>ab fun aW=>ak 2 rfl (J aW ?_)));refine aI rfl (fun eW=>?_) (fun eW=>?_)
 ·exact ab fun br=>aG rfl (ag (j3 Tryz.underlying3 Tryz.underlying5 rfl (iR _ (by omega))) (ag ((oO rfl rfl).to (v':=.int .u8 ((65+n:Nat):Int)) (by rw [iR _ (by omega)];rfl)) (aT rfl (J br (aZ (aO (by simp) (au rfl rfl ⟨by rw [pP,if_pos (by omega)],E⟩)))))))
 refine ca (aw aL (ax fun bI=>ab fun bW=>ak 2 rfl (J bW ?_)));refine aI rfl (fun uw=>?_) (fun uw=>?_)
 ·exact ab fun cb=>aG rfl (ag ((hN rfl rfl).to (v':=.int .i64 ((n-26:Nat):Int)) (by rw [wrap64_in _ (by omega)];congr 1;omega)) (ag (j3 Tryz.underlying3 Tryz.underlying5 rfl (iR _ (by omega))) (ag ((oO rfl rfl).to (v':=.int .u8 ((97+(n-26):Nat):Int)) (by rw [iR _ (by omega)];rfl)) (aT rfl (J cb (aZ (aO (by simp) (au rfl rfl ⟨by rw [pP,if_neg (by omega),if_pos (by omega)],E⟩))))))))
 refine ca (aw bI (ax fun cx=>ab fun cH=>ak 2 rfl (J cH ?_)));refine aI rfl (fun vV=>?_) (fun vV=>?_)
 ·exact ab fun b5=>aG rfl (ag ((hN rfl rfl).to (v':=.int .i64 ((n-52:Nat):Int)) (by rw [wrap64_in _ (by omega)];congr 1;omega)) (ag (j3 Tryz.underlying3 Tryz.underlying5 rfl (iR _ (by omega))) (ag ((oO rfl rfl).to (v':=.int .u8 ((48+(n-52):Nat):Int)) (by rw [iR _ (by omega)];rfl)) (aT rfl (J b5 (aZ (aO (by simp) (au rfl rfl ⟨by rw [pP,if_neg (by omega),if_neg (by omega),if_pos (by omega)],E⟩))))))))
 refine ca (aw cx (ax fun bX=>ab fun cU=>aG rfl (J cU ?_)));refine a7 rfl (fun xD=>?_) (fun xD=>?_)
 ·refine ab fun b7=>aG rfl (ag ((hN rfl rfl).to (v':=.int .i64 ((n-62:Nat):Int)) (by rw [wrap64_in _ (by omega)];congr 1;omega)) ?_);obtain⟨q,e5,yH⟩:∃ q:UInt8,([45,95]:aa)[n-62]? = some q∧q.toNat=pP url n:=by
   have:n=62∨n=63:=by omega
   rw [xD];rcases this with rfl | rfl <;> exact⟨_,rfl,rfl⟩
  exact ag (b' (u:=[45,95]) Tryz.underlying9 rfl rfl (by omega) (by rw [Int.toNat_natCast];exact e5)) (aT rfl (J b7 (aZ (aO (by simp) (au rfl rfl ⟨by rw [yH],E⟩)))))
 refine ca (aw bX (ab fun cS=>aG rfl (ag ((hN rfl rfl).to (v':=.int .i64 ((n-62:Nat):Int)) (by rw [wrap64_in _ (by omega)];congr 1;omega)) ?_)));obtain⟨q,e5,yH⟩:∃ q:UInt8,([43,47]:aa)[n-62]? = some q∧q.toNat=pP url n:=by
  have:n=62∨n=63:=by omega
  rw [xD];rcases this with rfl | rfl <;> exact⟨_,rfl,rfl⟩
 exact ag (b' (u:=[43,47]) Tryz.underlying9 rfl rfl (by omega) (by rw [Int.toNat_natCast];exact e5)) (aT rfl (J cS (aZ (au rfl rfl ⟨by rw [yH],E⟩))))
theorem AJ (w:World) (s:aa) (url:Bool) (bf:s.length≤140737488351232):Calls Tryz.prog 136 [S s,.bool url].toArray w (bL fun u w'=>nh w w' url s u∧Mod [] w w'):=by
 refine enter Tryz.func136 rfl rfl rfl (l:=[(0,_),(1,_)]) ⟨rfl,rfl,trivial⟩ ?_;have E:=Mod.refl [] w;refine ab fun aV=>ak 2 rfl (J aV (ab fun aL=>aG rfl (ag (bw Tryz.underlying9 rfl) (ag (xZ (r:=((s.length*6:Nat):Int)) rfl rfl (by rw [wrap64_in _ (by omega)];omega)) (ag ((q0 rfl rfl (by omega)).to (v':=.int .i64 ((s.length*6 / 8:Nat):Int)) (by rw [Int.natCast_ediv];rfl)) (XY cV kF rfl rfl rfl (by omega) rfl fun EK aB Nm=>?_))))));have aeV:w.heap.size≤EK:=by have:=Nm.at_;have:=E.size;omega
 replace E:=E.then Nm.mod;have O:Own aB 5 1 (.slice (some ⟨EK,0,none⟩) (s.length*6 / 8) (s.length*6 / 8)) (s.length*6 / 8) (((List.replicate (s.length*6 / 8) (0:UInt8)).map uD).flatten):=(Own.all (c:=s.length*6 / 8) (sz:=1) Nm.az (by simp;omega) (by omega)).same rfl (by simp [j8];omega);have HE:(List.replicate (s.length*6 / 8) (0:UInt8)).length=s.length*6 / 8:=by simp
 refine aT rfl (J aL (ax fun aW=>ab fun br=>aT rfl (J br (eB (bU (σ:=Nat×aa) (fun⟨i,nF⟩=>[(0,S s),(1,.bool url),(6,.slice (some ⟨EK,0,none⟩) (s.length*6 / 8) (s.length*6 / 8)),(7,.int .i64 (i:Int))]) (fun⟨i,nF⟩ aB=>i≤s.length∧(s.take i).all (fun b=>(n9 url b.toNat).isSome)=true∧(i=s.length→rest url s i=0)∧Own aB 5 1 (.slice (some ⟨EK,0,none⟩) (s.length*6 / 8) (s.length*6 / 8)) (s.length*6 / 8) ((nF.map uD).flatten)∧nF.length=s.length*6 / 8∧Mod [] w aB) (fun⟨i,nF⟩=>s.length-i) (⟨0,List.replicate (s.length*6 / 8) 0⟩) ⟨rfl,rfl,rfl,rfl,trivial⟩ (⟨by omega,by simp,fun _=>rfl,O,HE,E⟩) ?_)))));rintro⟨i,nF⟩ cN ⟨hi,ay,dk,O,HE,E⟩;refine ax fun bI=>ab fun bW=>ak 2 rfl (ag (bw Tryz.underlying9 rfl) (ag (cI rfl rfl) (J bW ?_)));refine aI rfl (fun nL=>?_) (fun nL=>?_);rotate_left
 ·have WM:i=s.length:=by omega
  have aof:=dk WM;have kp:s.all (fun b=>(n9 url b.toNat).isSome)=true:=by rw [List.take_of_length_le (by omega)] at ay;exact ay
  refine bm (aO (by simp) (aO (by simp) (bS (aw aW (ax fun ll=>ab fun rj=>aG rfl (ag (bw Tryz.underlying9 rfl) (ag (kQ rfl rfl (by omega)) (ag (lT rfl rfl) (J rj ?_)))))))));refine aI rfl (fun abv=>?_) (fun abv=>?_)
  ·have yp:fS url s=false:=by
    unfold fS;rw [show decide (((6*s.length % 8:Nat):Int)≥6)=true from bh (by omega)];simp
   exact ab fun pt=>ak 2 rfl (J pt (aZ (aO (by simp) (ct rfl rfl rfl ⟨nh.no yp,E⟩))))
  have yp:fS url s=true:=by
   unfold fS;rw [kp,← WM,aof,show decide (((6*i % 8:Nat):Int)≥6)=false from bN (by omega)];rfl
  exact ca (aw ll (ab fun mR=>ak 3 rfl (J mR (aZ (ct rfl rfl rfl ⟨nh.yes yp (O.same (by rw [HE]) rfl) HE (by simp only [a1,List.mem_singleton];intro x ae;subst ae;exact aeV),E⟩)))))
 obtain⟨b,aS⟩:∃ b,s[i]? = some b:=⟨_,List.getElem?_eq_getElem (by omega)⟩;refine ca (aw bI (ax fun cb=>eB (ab fun cx=>aT rfl (J cx (ax fun cH=>eB (bU (σ:=Nat) (fun n=>[(0,S s),(1,.bool url),(6,.slice (some ⟨EK,0,none⟩) (s.length*6 / 8) (s.length*6 / 8)),(7,.int .i64 (i:Int)),(8,.int .i64 (n:Int))]) (fun n aB=>n≤64∧(∀ y,y<n→pP url y≠b.toNat)∧Own aB 5 1 (.slice (some ⟨EK,0,none⟩) (s.length*6 / 8) (s.length*6 / 8)) (s.length*6 / 8) ((nF.map uD).flatten)∧Mod [] w aB) (fun n=>64-n) (0) ⟨rfl,rfl,rfl,rfl,rfl,trivial⟩ (⟨by omega,fun y h=>absurd h (by omega),O,E⟩) ?_))))));rintro n fV ⟨ck,kA,O,E⟩;refine ax fun b5=>ax fun bX=>?_
 by_cases aR:(n:Int)<64
 rotate_left
 ·refine bT wide (by kernel_rfl) (f' 3 rfl rfl (eV rfl (bN aR) (eV rfl (bN aR) (eV rfl (bN aR) (eV rfl (bN aR) (eV rfl (bN aR) (eV rfl (bN aR) (eV rfl (bN aR) (ai (fun R=>(ji (bN aR) rfl rfl)) (bV rfl fun iw R=>?_))))))))));replace E:=E.then R;replace O:=O.I R;refine aw bX (aE rfl ?_);have ae:n9 url b.toNat=none:=EL (fun y aY=>kA y (by omega));refine bm (aO (by simp) (aO (by simp) (bS (aw cH (ax fun hD=>ab fun ho=>ak 2 rfl (J ho ?_))))));refine aI rfl (fun nS=>?_) (fun nS=>?_)
  ·have yp:fS url s=false:=yq aS (EL (fun y aY=>kA y (by omega)));exact ab fun hE=>ak 2 rfl (J hE (aZ (aO (by simp) (bx (by simp) (aO (by simp) (aO (by simp) (bx (by simp) (aO (by simp) (ct rfl rfl rfl ⟨nh.no yp,E⟩)))))))))
  have ae:n9 url b.toNat=some n:=by first | assumption | (exfalso;omega)
  have aeW:n<64:=AI ae;refine ca (aw hD (ab fun ij=>aT rfl (J ij (eB (bU (σ:=Nat×aa) (fun⟨k,o5⟩=>[(0,S s),(1,.bool url),(6,.slice (some ⟨EK,0,none⟩) (s.length*6 / 8) (s.length*6 / 8)),(7,.int .i64 (i:Int)),(8,.int .i64 (n:Int)),(9,.int .i64 (k:Int))]) (fun⟨k,o5⟩ aB=>k≤6∧(∀ iC,iC<k→8*(s.length*6 / 8)≤6*i+iC→n / 2 ^ (5-iC) % 2=0)∧Own aB 5 1 (.slice (some ⟨EK,0,none⟩) (s.length*6 / 8) (s.length*6 / 8)) (s.length*6 / 8) ((o5.map uD).flatten)∧o5.length=s.length*6 / 8∧Mod [] w aB) (fun⟨k,o5⟩=>6-k) (⟨0,nF⟩) ⟨rfl,rfl,rfl,rfl,rfl,rfl,trivial⟩ (⟨by omega,fun iC h=>absurd h (by omega),O,HE,E⟩) ?_)))));rintro⟨k,o5⟩ n' ⟨hk,Km,O,AK,E⟩;refine ax fun jS=>ab fun jT=>ak 2 rfl (J jT ?_);refine aI rfl (fun qU=>?_) (fun qU=>?_);rotate_left
  ·have o3:(s.take (i+1)).all (fun b=>(n9 url b.toNat).isSome)=true:=all_succ (q:=fun c=>(n9 url c).isSome) aS ay (by rw [ae];rfl);have DX:=AL aS ae (fun iC h iq=>Km iC (by omega) iq);exact bm (aO (by simp) (aO (by simp) (bS (bx (by simp) (aw cb (bQ (aG rfl (ag (aN rfl rfl (by omega)) (aT rfl (cF (fJ (σ:=Nat×aa) (s:=⟨i,nF⟩) (⟨i+1,o5⟩) ⟨rfl,rfl,rfl,rfl,trivial⟩ ⟨by omega,o3,DX,O,AK,E⟩ (by dsimp only;omega))))))))))))
  refine ca (aw jS (ax fun lj=>eB (ab fun jd=>aG rfl (ag (xZ (r:=((6*i:Nat):Int)) rfl rfl (by rw [wrap64_in _ (by omega)];omega)) (aG rfl (ag (cW (r:=((6*i+k:Nat):Int)) rfl rfl (by rw [wrap64_in _ (by omega)];omega)) (aT rfl (J jd (ax fun kC=>ab fun lk=>ak 2 rfl ?_)))))))));refine ag (ez (r:=((5-k:Nat):Int)) rfl rfl (by rw [wrap64_in _ (by omega)];omega)) (ag (j3 Tryz.underlying3 Tryz.underlying154 rfl (fF _ (by omega))) (ag ((uc rfl rfl (by omega)).to (v':=.int .i64 ((n / 2 ^ (5-k):Nat):Int)) (by rw [Ug (by omega)])) ?_));have tY:n / 2 ^ (5-k)<64:=Nat.lt_of_le_of_lt (Nat.div_le_self _ _) aeW;refine ag ((zP rfl rfl).to (v':=.int .i64 ((n / 2 ^ (5-k) % 2:Nat):Int)) (by rw [abj tY])) (ag (lT rfl rfl) (J lk ?_));refine aI rfl (fun aeX=>?_) (fun aeX=>?_)
  ·skip
   exact bm (aO (by simp) (bS (aw lj (bQ (aG rfl (ag (aN rfl rfl (by omega)) (aT rfl (cF (fJ (σ:=Nat×aa) (s:=⟨k,o5⟩) (⟨k+1,o5⟩) ⟨rfl,rfl,rfl,rfl,rfl,rfl,trivial⟩ ⟨by omega,fun iC h iq=>(Nat.lt_succ_iff_lt_or_eq.1 h).elim (fun h=>Km iC h iq) (fun h=>by subst h;omega),O,AK,E⟩ (by dsimp only;omega))))))))))
  skip
  refine ca (aw kC (ax fun jU=>ab fun mQ=>aG rfl (ag ((q0 rfl rfl (by omega)).to (v':=.int .i64 (((6*i+k) / 8:Nat):Int)) (by rw [Int.natCast_ediv];rfl)) (aG rfl (ag (bl Tryz.underlying65 rfl) (ag (dr rfl rfl) (J mQ ?_)))))));refine aI rfl (fun zv=>?_) (fun zv=>?_)
  ·have yp:fS url s=false:=CY (k:=k) aS ae (by omega) (by omega) (by omega);exact ab fun kD=>ak 2 rfl (J kD (aZ (aO (by simp) (bx (by simp) (aO (by simp) (aO (by simp) (bx (by simp) (bx (by simp) (aO (by simp) (aO (by simp) (bx (by simp) (aO (by simp) (ct rfl rfl rfl ⟨nh.no yp,E⟩)))))))))))))
  refine ca (aw jU (bQ ?_));obtain⟨FD,Bv⟩:∃ FD,o5[(6*i+k) / 8]? = some FD:=⟨_,List.getElem?_eq_getElem (by omega)⟩;refine ak 2 rfl (ag ((q0 rfl rfl (by omega)).to (v':=.int .i64 (((6*i+k) / 8:Nat):Int)) (by rw [Int.natCast_ediv];rfl)) (ak 2 rfl (ag ((q0 rfl rfl (by omega)).to (v':=.int .i64 (((6*i+k) / 8:Nat):Int)) (by rw [Int.natCast_ediv];rfl)) (ag (b6 cV rfl rfl (by omega)) (ag (bc ZW rfl (Mg O Bv)) (aG rfl (ag (kQ rfl rfl (by omega)) (ag (j3 Tryz.underlying3 Tryz.underlying154 rfl (fF _ (by omega))) (ag (uc rfl rfl (by omega)) (ag (pC rfl rfl) (ag (b6 cV rfl rfl (by omega)) (Cq (i:=(6*i+k) / 8) ZW O rfl rfl rfl (by omega) fun arI qE aod aoe=>?_))))))))))));replace E:=E.own aod aeV;obtain⟨ZT,vO⟩:=HO qE;clear O qE;have O:=vO;exact cF (bx (by simp) (aw lj (bQ (aG rfl (ag (aN rfl rfl (by omega)) (aT rfl (cF (fJ (σ:=Nat×aa) (s:=⟨k,o5⟩) (⟨k+1,(o5.set ((6*i+k) / 8) ZT)⟩) ⟨rfl,rfl,rfl,rfl,rfl,rfl,trivial⟩ ⟨by omega,fun iC h iq=>(Nat.lt_succ_iff_lt_or_eq.1 h).elim (fun h=>Km iC h iq) (fun h=>by subst h;omega),O,by rw [List.length_set];exact AK,E⟩ (by dsimp only;omega)))))))))
 by_cases bp:(pP url n:Int)≠(b.toNat:Int)
 ·refine bT wide (by kernel_rfl) (f' 3 rfl rfl (aM (bh aR) (fun R=>(ec rfl)) (aM (bh aR) (fun R=>(ec rfl)) (Fc rfl (bh aR) (fun cQ R=>bF Mf rfl) (fun cQ R=>CX _ url n (by omega)) rfl rfl (aM (bh aR) (fun R=>(ec rfl)) (aM (bh aR) (fun R=>(ec rfl)) (aM (bh aR) (fun R=>(b' Tryz.underlying9 rfl rfl (by omega) (by rw [Int.toNat_natCast];exact aS))) (aM (bh aR) (fun R=>(eU rfl rfl)) (ai (fun R=>(lU (bh aR) rfl rfl)) (bV rfl fun ic R=>?_))))))))));replace E:=E.then R;replace O:=O.I R;refine aw bX ?_;refine aI rfl (fun wC=>?_) (fun wC=>absurd bp wC);have b1:pP url n≠b.toNat:=by omega
  exact ca (aw b5 (eB (bQ (aG rfl (ag (aN rfl rfl (by omega)) (aT rfl (cF (bx (by simp) (fJ (σ:=Nat) (s:=n) (n+1) ⟨rfl,rfl,rfl,rfl,rfl,trivial⟩ ⟨by omega,fun y aY=>(Nat.lt_succ_iff_lt_or_eq.1 aY).elim (kA y) (fun h=>by subst h;exact b1),O,E⟩ (by omega))))))))))
 refine bT wide (by kernel_rfl) (f' 3 rfl rfl (aM (bh aR) (fun R=>(ec rfl)) (aM (bh aR) (fun R=>(ec rfl)) (Fc rfl (bh aR) (fun cQ R=>bF Mf rfl) (fun cQ R=>CX _ url n (by omega)) rfl rfl (aM (bh aR) (fun R=>(ec rfl)) (aM (bh aR) (fun R=>(ec rfl)) (aM (bh aR) (fun R=>(b' Tryz.underlying9 rfl rfl (by omega) (by rw [Int.toNat_natCast];exact aS))) (aM (bh aR) (fun R=>(eU rfl rfl)) (ai (fun R=>(lU (bh aR) rfl rfl)) (bV rfl fun jn R=>?_))))))))));replace E:=E.then R;replace O:=O.I R;refine aw bX (aI rfl (fun wC=>absurd wC bp) (fun wC=>?_));have ae:n9 url b.toNat=some n:=Uf (by omega) (by omega);refine bm (aO (by simp) (aO (by simp) (bS (aw cH (ax fun cU=>ab fun b7=>ak 2 rfl (J b7 ?_))))));refine aI rfl (fun nS=>?_) (fun nS=>?_)
 ·have yp:fS url s=false:=yq aS (EL (fun y aY=>kA y (by omega)));exact ab fun cS=>ak 2 rfl (J cS (aZ (aO (by simp) (bx (by simp) (aO (by simp) (aO (by simp) (bx (by simp) (aO (by simp) (ct rfl rfl rfl ⟨nh.no yp,E⟩)))))))))
 have ae:n9 url b.toNat=some n:=by first | assumption | (exfalso;omega)
 have aeW:n<64:=AI ae;refine ca (aw cU (ab fun de=>aT rfl (J de (eB (bU (σ:=Nat×aa) (fun⟨k,o5⟩=>[(0,S s),(1,.bool url),(6,.slice (some ⟨EK,0,none⟩) (s.length*6 / 8) (s.length*6 / 8)),(7,.int .i64 (i:Int)),(8,.int .i64 (n:Int)),(9,.int .i64 (k:Int))]) (fun⟨k,o5⟩ aB=>k≤6∧(∀ iC,iC<k→8*(s.length*6 / 8)≤6*i+iC→n / 2 ^ (5-iC) % 2=0)∧Own aB 5 1 (.slice (some ⟨EK,0,none⟩) (s.length*6 / 8) (s.length*6 / 8)) (s.length*6 / 8) ((o5.map uD).flatten)∧o5.length=s.length*6 / 8∧Mod [] w aB) (fun⟨k,o5⟩=>6-k) (⟨0,nF⟩) ⟨rfl,rfl,rfl,rfl,rfl,rfl,trivial⟩ (⟨by omega,fun iC h=>absurd h (by omega),O,HE,E⟩) ?_)))));rintro⟨k,o5⟩ jC ⟨hk,Km,O,AK,E⟩;refine ax fun dG=>ab fun eC=>ak 2 rfl (J eC ?_);refine aI rfl (fun qU=>?_) (fun qU=>?_);rotate_left
 ·have o3:(s.take (i+1)).all (fun b=>(n9 url b.toNat).isSome)=true:=all_succ (q:=fun c=>(n9 url c).isSome) aS ay (by rw [ae];rfl);have DX:=AL aS ae (fun iC h iq=>Km iC (by omega) iq);exact bm (aO (by simp) (aO (by simp) (bS (bx (by simp) (aw cb (bQ (aG rfl (ag (aN rfl rfl (by omega)) (aT rfl (cF (fJ (σ:=Nat×aa) (s:=⟨i,nF⟩) (⟨i+1,o5⟩) ⟨rfl,rfl,rfl,rfl,trivial⟩ ⟨by omega,o3,DX,O,AK,E⟩ (by dsimp only;omega))))))))))))
 refine ca (aw dG (ax fun eb=>eB (ab fun fq=>aG rfl (ag (xZ (r:=((6*i:Nat):Int)) rfl rfl (by rw [wrap64_in _ (by omega)];omega)) (aG rfl (ag (cW (r:=((6*i+k:Nat):Int)) rfl rfl (by rw [wrap64_in _ (by omega)];omega)) (aT rfl (J fq (ax fun fE=>ab fun fa=>ak 2 rfl ?_)))))))));refine ag (ez (r:=((5-k:Nat):Int)) rfl rfl (by rw [wrap64_in _ (by omega)];omega)) (ag (j3 Tryz.underlying3 Tryz.underlying154 rfl (fF _ (by omega))) (ag ((uc rfl rfl (by omega)).to (v':=.int .i64 ((n / 2 ^ (5-k):Nat):Int)) (by rw [Ug (by omega)])) ?_));have tY:n / 2 ^ (5-k)<64:=Nat.lt_of_le_of_lt (Nat.div_le_self _ _) aeW;refine ag ((zP rfl rfl).to (v':=.int .i64 ((n / 2 ^ (5-k) % 2:Nat):Int)) (by rw [abj tY])) (ag (lT rfl rfl) (J fa ?_));refine aI rfl (fun aeX=>?_) (fun aeX=>?_)
 ·skip
  exact bm (aO (by simp) (bS (aw eb (bQ (aG rfl (ag (aN rfl rfl (by omega)) (aT rfl (cF (fJ (σ:=Nat×aa) (s:=⟨k,o5⟩) (⟨k+1,o5⟩) ⟨rfl,rfl,rfl,rfl,rfl,rfl,trivial⟩ ⟨by omega,fun iC h iq=>(Nat.lt_succ_iff_lt_or_eq.1 h).elim (fun h=>Km iC h iq) (fun h=>by subst h;omega),O,AK,E⟩ (by dsimp only;omega))))))))))
 skip
 refine ca (aw fE (ax fun fL=>ab fun gX=>aG rfl (ag ((q0 rfl rfl (by omega)).to (v':=.int .i64 (((6*i+k) / 8:Nat):Int)) (by rw [Int.natCast_ediv];rfl)) (aG rfl (ag (bl Tryz.underlying65 rfl) (ag (dr rfl rfl) (J gX ?_)))))));refine aI rfl (fun zv=>?_) (fun zv=>?_)
 ·have yp:fS url s=false:=CY (k:=k) aS ae (by omega) (by omega) (by omega);exact ab fun hn=>ak 2 rfl (J hn (aZ (aO (by simp) (bx (by simp) (aO (by simp) (aO (by simp) (bx (by simp) (bx (by simp) (aO (by simp) (aO (by simp) (bx (by simp) (aO (by simp) (ct rfl rfl rfl ⟨nh.no yp,E⟩)))))))))))))
 refine ca (aw fL (bQ ?_));obtain⟨FD,Bv⟩:∃ FD,o5[(6*i+k) / 8]? = some FD:=⟨_,List.getElem?_eq_getElem (by omega)⟩;refine ak 2 rfl (ag ((q0 rfl rfl (by omega)).to (v':=.int .i64 (((6*i+k) / 8:Nat):Int)) (by rw [Int.natCast_ediv];rfl)) (ak 2 rfl (ag ((q0 rfl rfl (by omega)).to (v':=.int .i64 (((6*i+k) / 8:Nat):Int)) (by rw [Int.natCast_ediv];rfl)) (ag (b6 cV rfl rfl (by omega)) (ag (bc ZW rfl (Mg O Bv)) (aG rfl (ag (kQ rfl rfl (by omega)) (ag (j3 Tryz.underlying3 Tryz.underlying154 rfl (fF _ (by omega))) (ag (uc rfl rfl (by omega)) (ag (pC rfl rfl) (ag (b6 cV rfl rfl (by omega)) (Cq (i:=(6*i+k) / 8) ZW O rfl rfl rfl (by omega) fun arI qE aod aoe=>?_))))))))))));replace E:=E.own aod aeV;obtain⟨ZT,vO⟩:=HO qE;clear O qE;have O:=vO;exact cF (bx (by simp) (aw eb (bQ (aG rfl (ag (aN rfl rfl (by omega)) (aT rfl (cF (fJ (σ:=Nat×aa) (s:=⟨k,o5⟩) (⟨k+1,(o5.set ((6*i+k) / 8) ZT)⟩) ⟨rfl,rfl,rfl,rfl,rfl,rfl,trivial⟩ ⟨by omega,fun iC h iq=>(Nat.lt_succ_iff_lt_or_eq.1 h).elim (fun h=>Km iC h iq) (fun h=>by subst h;omega),O,by rw [List.length_set];exact AK,E⟩ (by dsimp only;omega)))))))))
set_option maxRecDepth 10000
theorem Mh:aQ Tryz.prog 172:=aQ.of Tryz.func172 (by kernel_rfl) (by kernel_rfl)
theorem Mi:aQ Tryz.prog 136:=aQ.of Tryz.func136 (by kernel_rfl) (by kernel_rfl)
theorem gO:lC Tryz.prog 27 92 3 48=true:=by kernel_rfl
theorem pL:rO Tryz.prog 92 3=true:=by kernel_rfl
theorem Al:hG Tryz.prog 92 ([S [],S [],S []]):=by unfold hG;kernel_rfl
theorem eG:iz Tryz.prog 92 0 0 1=true:=by kernel_rfl
theorem jA:iz Tryz.prog 92 1 1 1=true:=by kernel_rfl
theorem ZX:aQ Tryz.prog 173:=aQ.of Tryz.func173 (by kernel_rfl) (by kernel_rfl)
theorem pw:iz Tryz.prog 92 2 2 1=true:=by kernel_rfl
theorem Mj:aQ Tryz.prog 131:=aQ.of Tryz.func131 (by kernel_rfl) (by kernel_rfl)
theorem Uh (w:World) (s:aa) (bf:s.length≤140737488351232):Calls Tryz.prog 134 [S s].toArray w (bL fun u w'=>u = .bool (dq s)∧Mod [] w w'):=by
 refine enter Tryz.func134 rfl rfl rfl (l:=[(0,_)]) ⟨rfl,trivial⟩ ?_;have E:=Mod.refl [] w;refine ab fun aV=>aT rfl (J aV (ax fun aL=>ab fun aW=>aG rfl (ag (dQ rfl rfl) ?_)));refine cT (fun aR:s = []=>?_) (fun aR=>?_)
 ·refine ak 5 rfl (J aW (aD rfl ?_));have ja:dq s=false:=by subst aR;simp [dq]
  exact ab fun br=>aT rfl (J br (aZ (aO (by simp) (au rfl rfl ⟨by rw [ja],E⟩))))
 obtain⟨b0,r,rfl⟩:∃ b r,s=b::r:=List.exists_cons_of_ne_nil aR;refine ak 2 rfl (ar (b' Tryz.underlying9 rfl rfl (by omega) rfl) (ar (eU rfl rfl) ?_));refine cT (fun bp:(b0.toNat:Int)≠36=>?_) (fun bp=>?_)
 ·refine ag (ji rfl rfl rfl) (J aW (aD rfl ?_));have ja:dq (b0::r)=false:=by
   have aA:b0≠36:=fun h=>bp (by rw [h];rfl);simp [dq,aA]
  exact ab fun bI=>aT rfl (J bI (aZ (aO (by simp) (au rfl rfl ⟨by rw [ja],E⟩))))
 refine ag (ji rfl rfl rfl) (J aW (aE rfl ?_));have nS:b0=36:=du (Classical.not_not.1 bp);have iq:decide ((b0::r).head? = some 36)=true:=by simp [nS]
 refine ca (aw aL (ab fun bW=>aG rfl (ag (cG (n:=1) Tryz.underlying9 rfl rfl (by simp)) (fA (bF Mh rfl) (CW _ ((b0::r).drop 1) true (by simp only [List.length_drop];omega)) rfl fun cO aB aA=>?_))));obtain⟨⟨aog,nF,o,rfl,eo,hO,nX,_⟩,R⟩:=aA;replace E:=E.then R;obtain⟨pd,OM,rfl,HP,HQ⟩:=hO.form;refine ak 5 rfl (J bW (ab fun cb=>aG rfl ?_));refine mT (fun aR:(o)=true=>?_) (fun aR=>?_)
 ·have Ui:decide (((b0::r).drop 1).length*6 / 8=32)=decide ((nF.length:Int)=32):=by
   rw [decide_eq_decide];rw [aR] at eo;rw [← eo,if_pos rfl] at nX;omega
  refine ak 2 rfl (ar (bl Tryz.underlying65 rfl) (ar (lT rfl rfl) ?_));refine cT (fun bp:(nF.length:Int)=32=>?_) (fun bp=>?_)
  ·exact ak 2 rfl (J cb (aZ (au rfl rfl ⟨congrArg Value.bool (by rw [dq,iq,← eo,Ui];simp only [aR,bh bp,bZ']),E⟩)))
  exact ak 2 rfl (J cb (aZ (au rfl rfl ⟨congrArg Value.bool (by rw [dq,iq,← eo,Ui];simp only [aR,bN bp,bZ']),E⟩)))
 exact ak 6 rfl (J cb (aZ (au rfl rfl ⟨congrArg Value.bool (by rw [dq,iq,← eo];simp only [dO aR,bZ']),E⟩)))
theorem CZ (w:World) (s:aa) (bf:s.length≤140737488351232):Calls Tryz.prog 75 [S s].toArray w (bL fun u w'=>u = .bool (dq s)∧Mod [] w w'):=by
 refine enter Tryz.func75 rfl rfl rfl (l:=[(0,_)]) ⟨rfl,trivial⟩ ?_;have E:=Mod.refl [] w;refine ab fun aV=>aT rfl (J aV (ax fun aL=>ab fun aW=>aG rfl (ag (dQ rfl rfl) ?_)));refine cT (fun aR:s = []=>?_) (fun aR=>?_)
 ·refine ak 5 rfl (J aW (aD rfl ?_));have ja:dq s=false:=by subst aR;simp [dq]
  exact ab fun br=>aT rfl (J br (aZ (aO (by simp) (au rfl rfl ⟨by rw [ja],E⟩))))
 obtain⟨b0,r,rfl⟩:∃ b r,s=b::r:=List.exists_cons_of_ne_nil aR;refine ak 2 rfl (ar (b' Tryz.underlying9 rfl rfl (by omega) rfl) (ar (eU rfl rfl) ?_));refine cT (fun bp:(b0.toNat:Int)≠36=>?_) (fun bp=>?_)
 ·refine ag (ji rfl rfl rfl) (J aW (aD rfl ?_));have ja:dq (b0::r)=false:=by
   have aA:b0≠36:=fun h=>bp (by rw [h];rfl);simp [dq,aA]
  exact ab fun bI=>aT rfl (J bI (aZ (aO (by simp) (au rfl rfl ⟨by rw [ja],E⟩))))
 refine ag (ji rfl rfl rfl) (J aW (aE rfl ?_));have nS:b0=36:=du (Classical.not_not.1 bp);have iq:decide ((b0::r).head? = some 36)=true:=by simp [nS]
 refine ca (aw aL (ab fun bW=>aG rfl (ag (cG (n:=1) Tryz.underlying9 rfl rfl (by simp)) (fA (bF Mi rfl) (AJ _ ((b0::r).drop 1) true (by simp only [List.length_drop];omega)) rfl fun cO aB aA=>?_))));obtain⟨⟨aog,nF,o,rfl,eo,hO,nX,_⟩,R⟩:=aA;replace E:=E.then R;obtain⟨pd,OM,rfl,HP,HQ⟩:=hO.form;refine ak 5 rfl (J bW (ab fun cb=>aG rfl ?_));refine mT (fun aR:(o)=true=>?_) (fun aR=>?_)
 ·have Ui:decide (((b0::r).drop 1).length*6 / 8=32)=decide ((nF.length:Int)=32):=by
   rw [decide_eq_decide];rw [aR] at eo;rw [← eo,if_pos rfl] at nX;omega
  refine ak 2 rfl (ar (bl Tryz.underlying65 rfl) (ar (lT rfl rfl) ?_));refine cT (fun bp:(nF.length:Int)=32=>?_) (fun bp=>?_)
  ·exact ak 2 rfl (J cb (aZ (au rfl rfl ⟨congrArg Value.bool (by rw [dq,iq,← eo,Ui];simp only [aR,bh bp,bZ']),E⟩)))
  exact ak 2 rfl (J cb (aZ (au rfl rfl ⟨congrArg Value.bool (by rw [dq,iq,← eo,Ui];simp only [aR,bN bp,bZ']),E⟩)))
 exact ak 6 rfl (J cb (aZ (au rfl rfl ⟨congrArg Value.bool (by rw [dq,iq,← eo];simp only [dO aR,bZ']),E⟩)))
theorem HR (w:World) (s:aa) (n:Nat) (bf:s.length≤140737488351232):Calls Tryz.prog 131 [S s,.int .i64 (n:Int)].toArray w (bL fun u w'=>u = .bool (eP s n)∧Mod [] w w'):=by
 refine enter Tryz.func131 rfl rfl rfl (l:=[(0,_),(1,_)]) ⟨rfl,rfl,trivial⟩ ?_;have E:=Mod.refl [] w;refine ab fun aV=>aT rfl (J aV (ab fun aL=>aG rfl (fA (bF Mh rfl) (CW _ (s) false bf) rfl fun cO aB aA=>?_)));obtain⟨⟨aog,nF,o,rfl,eo,hO,nX,_⟩,R⟩:=aA;replace E:=E.then R;obtain⟨pd,OM,rfl,HP,HQ⟩:=hO.form;refine ak 5 rfl (J aL (ab fun aW=>aG rfl ?_));refine mT (fun aR:(o)=true=>?_) (fun aR=>?_)
 ·have LJ:decide (s.length*6 / 8=n)=decide ((nF.length:Int)=(n:Int)):=by
   rw [decide_eq_decide];rw [aR] at eo;rw [← eo,if_pos rfl] at nX;omega
  refine ak 2 rfl (ar (bl Tryz.underlying65 rfl) (ak 2 rfl ?_));refine cT (fun bp:(nF.length:Int)=(n:Int)=>?_) (fun bp=>?_)
  ·exact ak 2 rfl (J aW (aZ (au rfl rfl ⟨congrArg Value.bool (by rw [eP,← eo,LJ];simp only [aR,bh bp,bZ']),E⟩)))
  exact ak 2 rfl (J aW (aZ (au rfl rfl ⟨congrArg Value.bool (by rw [eP,← eo,LJ];simp only [aR,bN bp,bZ']),E⟩)))
 exact ak 7 rfl (J aW (aZ (au rfl rfl ⟨congrArg Value.bool (by rw [eP,← eo];simp only [dO aR,bZ']),E⟩)))
theorem w1 (w:World) (s:aa) (n:Nat) (ck:n≤100) (bf:s.length≤140737488351232):Calls Tryz.prog 78 [S s,.int .i64 (n:Int)].toArray w (bL fun u w'=>u = .bool (eP s n)∧Mod [] w w'):=by
 refine enter Tryz.func78 rfl rfl rfl (l:=[(0,_),(1,_)]) ⟨rfl,rfl,trivial⟩ ?_;have E:=Mod.refl [] w;refine ab fun aV=>aT rfl (J aV (ax fun aL=>ab fun aW=>aG rfl (ag (bw Tryz.underlying9 rfl) (ag (gq rfl rfl) (J aW ?_)))));refine aI rfl (fun k0=>?_) (fun k0=>?_)
 ·exact ab fun br=>aT rfl (J br (aZ (aO (by simp) (au rfl rfl ⟨by rw [eP,show decide (s.length*6 / 8=n)=false from bN (by omega)];simp,E⟩))))
 refine ca (aw aL (ab fun bI=>aG rfl (fA (bF Mi rfl) (AJ _ (s) false bf) rfl fun cO aB aA=>?_)));obtain⟨⟨aog,nF,o,rfl,eo,hO,nX,_⟩,R⟩:=aA;replace E:=E.then R;obtain⟨pd,OM,rfl,HP,HQ⟩:=hO.form;refine ak 5 rfl (J bI (ab fun bW=>aG rfl ?_));refine mT (fun aR:(o)=true=>?_) (fun aR=>?_)
 ·have LJ:decide (s.length*6 / 8=n)=decide ((nF.length:Int)=(n:Int)):=by
   rw [decide_eq_decide];rw [aR] at eo;rw [← eo,if_pos rfl] at nX;omega
  refine ak 2 rfl (ar (bl Tryz.underlying65 rfl) (ak 2 rfl ?_));refine cT (fun bp:(nF.length:Int)=(n:Int)=>?_) (fun bp=>?_)
  ·exact ak 2 rfl (J bW (aZ (au rfl rfl ⟨congrArg Value.bool (by rw [eP,← eo,LJ];simp only [aR,bh bp,bZ']),E⟩)))
  exact ak 2 rfl (J bW (aZ (au rfl rfl ⟨congrArg Value.bool (by rw [eP,← eo,LJ];simp only [aR,bN bp,bZ']),E⟩)))
 exact ak 7 rfl (J bW (aZ (au rfl rfl ⟨congrArg Value.bool (by rw [eP,← eo];simp only [dO aR,bZ']),E⟩)))
theorem AM (w:World) (s:aa):Calls Tryz.prog 129 [S s].toArray w (bL fun u w'=>u = .bool (fe s)∧Mod [] w w'):=by
 refine enter Tryz.func129 rfl rfl rfl (l:=[(0,_)]) ⟨rfl,trivial⟩ ?_;have E:=Mod.refl [] w;refine ab fun aV=>aT rfl (J aV (ab fun aL=>aG rfl (ag (bw Tryz.underlying9 rfl) (ag (pX rfl rfl) ?_))));refine cT (fun aR:(s.length:Int)≤255=>?_) (fun aR=>?_)
 ·refine ak 2 rfl (fD (bF L1 rfl) (CQ _ s) fun aB R=>?_);replace E:=E.then R;refine mT (fun bp:(cn s)=true=>?_) (fun bp=>?_)
  ·exact ak 2 rfl (J aL (aZ (au rfl rfl ⟨congrArg Value.bool (by rw [fe];simp only [bh aR,bp,bZ']),E⟩)))
  exact ak 2 rfl (J aL (aZ (au rfl rfl ⟨congrArg Value.bool (by rw [fe];simp only [bh aR,dO bp,bZ']),E⟩)))
 exact ak 5 rfl (J aL (aZ (au rfl rfl ⟨congrArg Value.bool (by rw [fe];simp only [bN aR,bZ']),E⟩)))
theorem Uj (w:World) (s:aa):Calls Tryz.prog 81 [S s].toArray w (bL fun u w'=>u = .bool (fe s)∧Mod [] w w'):=by
 refine enter Tryz.func81 rfl rfl rfl (l:=[(0,_)]) ⟨rfl,trivial⟩ ?_;have E:=Mod.refl [] w;refine ab fun aV=>aT rfl (J aV (ab fun aL=>aG rfl (ag (bw Tryz.underlying9 rfl) (ag (pX rfl rfl) ?_))));refine cT (fun aR:(s.length:Int)≤255=>?_) (fun aR=>?_)
 ·refine ak 2 rfl (fD (bF KW rfl) (BU _ _) fun aB R=>?_);replace E:=E.then R;refine mT (fun bp:(cn s)=true=>?_) (fun bp=>?_)
  ·exact ak 2 rfl (J aL (aZ (au rfl rfl ⟨congrArg Value.bool (by rw [fe];simp only [bh aR,bp,bZ']),E⟩)))
  exact ak 2 rfl (J aL (aZ (au rfl rfl ⟨congrArg Value.bool (by rw [fe];simp only [bh aR,dO bp,bZ']),E⟩)))
 exact ak 5 rfl (J aL (aZ (au rfl rfl ⟨congrArg Value.bool (by rw [fe];simp only [bN aR,bZ']),E⟩)))
theorem C0 (w:World) (n:Int):Calls Tryz.prog 130 [.int .i64 n].toArray w (bL fun u w'=>u = .bool (ni n)∧Mod [] w w'):=by
 refine enter Tryz.func130 rfl rfl rfl (l:=[(0,_)]) ⟨rfl,trivial⟩ ?_;have E:=Mod.refl [] w;refine ab fun aV=>aT rfl (J aV (ab fun aL=>aG rfl (ag (dr rfl rfl) ?_)));refine cT (fun aR:0≤n=>?_) (fun aR=>?_)
 ·refine ak 3 rfl ?_;refine cT (fun bp:n≤9007199254740991=>?_) (fun bp=>?_)
  ·exact ak 2 rfl (J aL (aZ (au rfl rfl ⟨congrArg Value.bool (by rw [ni];simp only [bh aR,bh bp,bZ']),E⟩)))
  exact ak 2 rfl (J aL (aZ (au rfl rfl ⟨congrArg Value.bool (by rw [ni];simp only [bh aR,bN bp,bZ']),E⟩)))
 exact ak 5 rfl (J aL (aZ (au rfl rfl ⟨congrArg Value.bool (by rw [ni];simp only [bN aR,bZ']),E⟩)))
theorem ZY (w:World) (l:List dH) (ad:Option Addr) (c:Nat) (asp:ba [] w (flat 3 dH.cells l) (.slice ad l.length c)) (hlen:∀ s∈l,s.c8.length<4294967281∧s.key.length≤140737488351232∧s.sig.length≤140737488351232) (arJ:l.length≤140737488351232) (eY:iK w):Calls Tryz.prog 132 [.slice ad l.length c].toArray w (bL fun u w'=>u = .bool (eg none l)∧Mod [] w w'):=by
 refine enter Tryz.func132 rfl rfl rfl (l:=[(0,_)]) ⟨rfl,trivial⟩ ?_;have E:=Mod.refl [] w;obtain⟨_,c9,Kn,Uk,Ul⟩:=eN asp;injection Kn with _ _ Ko
 subst Ko;refine ab fun aV=>aT rfl (J aV (ax fun aL=>ab fun aW=>aG rfl (ag (bl Tryz.underlying27 rfl) (aG rfl (J aW (eB (bU (σ:=Nat) (fun k=>[(0,.slice ad l.length c),(5,.slice ad l.length c),(6,.int .i64 (l.length:Int)),(7,.int .i64 (k:Int))]) (fun k aB=>k≤l.length∧eg none l=eg (kx l k) (l.drop k)∧Mod [] w aB) (fun k=>l.length-k) (0) ⟨rfl,rfl,rfl,rfl,trivial⟩ (⟨by omega,rfl,E⟩) ?_)))))));rintro k aB ⟨hk,hinv,E⟩;refine ab fun br=>ag (cI rfl rfl) (J br (ax fun bI=>?_));refine aI rfl (fun kq=>?_) (fun kq=>?_);rotate_left
 ·exact bm (aO (by simp) (aO (by simp) (bS (aw aL (ab fun dG=>aT rfl (J dG (aZ (au rfl rfl ⟨by rw [hinv,AO (by omega)],E⟩))))))))
 refine ca (aw bI (ax fun bW=>eB (ab fun cb=>aG rfl ?_)));obtain⟨x,bO⟩:∃ x,l[k]? = some x:=⟨_,List.getElem?_eq_getElem (by omega)⟩;obtain⟨jD,dv,cj,_⟩:=dW (asp.bB E) bO;cases dv;obtain⟨Kp,Um,Kq⟩:=hlen x (List.mem_of_getElem? bO);refine ag (b6 gO rfl rfl (by omega)) (ag (a8 pL rfl rfl cj) (bt Al rfl fun g1 cN bR=>?_));have bH:=bR.le E;replace E:=E.then bR.mod;have U:=bR.az;refine aT rfl (bo (vs:=[_,_,_]) pL U rfl rfl rfl (by simp [Value.oneCell']) (by simp) fun fV sF=>?_);replace E:=E.own sF.mod bH;replace U:aF fV g1 _ [_,_,_]:=sF.az;refine J cb (ax fun cx=>ab fun cH=>ag (av eG rfl) (ag (bc bs rfl (U.cell rfl)) (cP (bF EF rfl) (wY _ x.c8 Kp (eY.I E)) fun ic R=>?_)));replace U:=U.I R;replace E:=E.then R;refine ag (ff rfl) ?_;refine mT (fun aR:(!dx x.c8)=true=>?_) (fun aR=>?_)
 ·refine ak 12 rfl (J cH (aD rfl ?_));have aA:dx x.c8=false:=by simpa using aR
  have ja:eg none l=false:=by rw [hinv,fB bO,show l5 x=false by simp [l5,aA]];rfl
  exact ab fun b5=>aT rfl (J b5 (aZ (aO (by simp) (bx (by simp) (aO (by simp) (aO (by simp) (bx (by simp) (aO (by simp) (au rfl rfl ⟨by rw [ja],E⟩)))))))))
 refine aG rfl (ar (av jA rfl) (ar (bc bs rfl (U.cell rfl)) (fD (bF ZX rfl) (aeQ _ x.key) fun jn R=>?_)));replace U:=U.I R;replace E:=E.then R;refine ar (ff rfl) ?_;refine mT (fun bp:(!nJ x.key)=true=>?_) (fun bp=>?_)
 ·refine ak 7 rfl (J cH (aD rfl ?_));have aA:nJ x.key=false:=by simpa using bp
  have ja:eg none l=false:=by rw [hinv,fB bO,show l5 x=false by simp [l5,aA]];rfl
  exact ab fun bX=>aT rfl (J bX (aZ (aO (by simp) (bx (by simp) (aO (by simp) (aO (by simp) (bx (by simp) (aO (by simp) (au rfl rfl ⟨by rw [ja],E⟩)))))))))
 refine ak 2 rfl (ar (av pw rfl) (ar (bc bs rfl (U.cell rfl)) (fD (bF Mj rfl) (HR _ x.sig 64 Kq) fun jC R=>?_)));replace U:=U.I R;replace E:=E.then R;refine ar (ff rfl) ?_;refine mT (fun bE:(!eP x.sig 64)=true=>?_) (fun bE=>?_)
 ·refine ag (ji rfl rfl rfl) (J cH (aD rfl ?_));have aA:eP x.sig 64=false:=by simpa using bE
  have ja:eg none l=false:=by rw [hinv,fB bO,show l5 x=false by simp [l5,aA]];rfl
  exact ab fun cU=>aT rfl (J cU (aZ (aO (by simp) (bx (by simp) (aO (by simp) (aO (by simp) (bx (by simp) (aO (by simp) (au rfl rfl ⟨by rw [ja],E⟩)))))))))
 refine ag (ji rfl rfl rfl) (J cH (aE rfl ?_));have g0:dx x.c8=true:=by simpa using aR
 have aeY:nJ x.key=true:=by simpa using bp
 have aeZ:eP x.sig 64=true:=by simpa using bE
 have AN:l5 x=true:=by rw [l5,g0,aeY,aeZ];rfl
 refine ca (aw cx (ax fun b7=>?_))
 by_cases cE:(k:Int) > 0
 rotate_left
 ·refine bT wide (by kernel_rfl) (f' 3 rfl rfl (eV rfl (bN cE) (eV rfl (bN cE) (eV rfl (bN cE) (eV rfl (bN cE) (eV rfl (bN cE) (eV rfl (bN cE) (eV rfl (bN cE) (eV rfl (bN cE) (eV rfl (bN cE) (eV rfl (bN cE) (f' 20 rfl rfl (eV rfl (bN cE) ?_)))))))))))));refine ai (fun R=>(ji (bN cE) rfl rfl)) (bV rfl fun kr R=>?_);replace U:=U.I R;replace E:=E.then R;refine aw b7 (aE rfl ?_);have o3:eg none l=eg (kx l (k+1)) (l.drop (k+1)):=by rw [hinv,fB bO,AN,Uo (by omega)];rfl
  exact ca (bx (by simp) (aw bW (bQ (ag (aN rfl rfl (by omega)) (aG rfl (cF (fJ (σ:=Nat) (s:=k) (k+1) ⟨rfl,rfl,rfl,rfl,trivial⟩ ⟨by omega,o3,E⟩ (by omega))))))))
 obtain⟨q,jy⟩:∃ x,l[k-1]? = some x:=⟨_,List.getElem?_eq_getElem (by omega)⟩;obtain⟨IG,uH,iW,_⟩:=dW (asp.bB E) jy;cases uH;obtain⟨ae0,ae1,ae2⟩:=hlen q (List.mem_of_getElem? jy)
 by_cases cY:(!(eR q.c8 x.c8||q.c8 == x.c8))=true
 ·refine bT wide (by kernel_rfl) (f' 3 rfl rfl (aM (bh cE) (fun R=>(ec rfl)) (aM (bh cE) (fun R=>(ec rfl)) (aM (bh cE) (fun R=>(ez (r:=((k-1:Nat):Int)) rfl rfl (by rw [wrap64_in _ (by omega)];omega))) (aM (bh cE) (fun R=>(b6 gO rfl rfl (by omega))) (aM (bh cE) (fun R=>(dD eG rfl)) (aM (bh cE) (fun R=>(bc bs rfl ((iW.I R) 0 _ rfl))) (aM (bh cE) (fun R=>(av eG rfl)) (aM (bh cE) (fun R=>(bc bs rfl ((U.I R).cell rfl))) (aM (bh cE) (fun R=>(vY rfl rfl)) (aM (bh cE) (fun R=>(ec rfl)) (eV rfl cY (eV rfl cY ?_)))))))))))));refine eV rfl cY (eV rfl cY (eV rfl cY (eV rfl cY (eV rfl cY (eV rfl cY (eV rfl cY (eV rfl cY (f' 9 rfl rfl (eV rfl cY (aM (bh cE) (fun R=>(lU cY rfl rfl)) (ai (fun R=>(lU (bh cE) rfl rfl)) (bV rfl fun iw R=>?_))))))))))));replace U:=U.I R;replace E:=E.then R;refine aw b7 (aD rfl ?_);have o4:gM q x=true:=by rw [gM];simp only [cY,bZ']
  have ja:eg none l=false:=by rw [hinv,fB bO,pQ jy (by omega),o4];simp
  exact ab fun cS=>aT rfl (J cS (aZ (bx (by simp) (aO (by simp) (aO (by simp) (bx (by simp) (aO (by simp) (au rfl rfl ⟨by rw [ja],E⟩))))))))
 by_cases eA:q.c8=x.c8
 rotate_left
 ·refine bT wide (by kernel_rfl) (f' 3 rfl rfl (aM (bh cE) (fun R=>(ec rfl)) (aM (bh cE) (fun R=>(ec rfl)) (aM (bh cE) (fun R=>(ez (r:=((k-1:Nat):Int)) rfl rfl (by rw [wrap64_in _ (by omega)];omega))) (aM (bh cE) (fun R=>(b6 gO rfl rfl (by omega))) (aM (bh cE) (fun R=>(dD eG rfl)) (aM (bh cE) (fun R=>(bc bs rfl ((iW.I R) 0 _ rfl))) (aM (bh cE) (fun R=>(av eG rfl)) (aM (bh cE) (fun R=>(bc bs rfl ((U.I R).cell rfl))) (aM (bh cE) (fun R=>(vY rfl rfl)) (aM (bh cE) (fun R=>(ec rfl)) (aM (dO cY) (fun R=>(ec rfl)) (aM (dO cY) (fun R=>(ec rfl)) ?_)))))))))))));refine aM (dO cY) (fun R=>(ez (r:=((k-1:Nat):Int)) rfl rfl (by rw [wrap64_in _ (by omega)];omega))) (aM (dO cY) (fun R=>(b6 gO rfl rfl (by omega))) (aM (dO cY) (fun R=>(dD eG rfl)) (aM (dO cY) (fun R=>(bc bs rfl ((iW.I R) 0 _ rfl))) (aM (dO cY) (fun R=>(av eG rfl)) (aM (dO cY) (fun R=>(bc bs rfl ((U.I R).cell rfl))) (aM (dO cY) (fun R=>(dQ rfl rfl)) (aM (dO cY) (fun R=>(ec rfl)) (eV rfl (bN eA) (eV rfl (bN eA) (eV rfl (bN eA) (eV rfl (bN eA) (eV rfl (bN eA) (eV rfl (bN eA) ?_)))))))))))));refine eV rfl (bN eA) (eV rfl (bN eA) (eV rfl (bN eA) (aM (dO cY) (fun R=>(ji (bN eA) rfl rfl)) (aM (bh cE) (fun R=>(ji (dO cY) rfl rfl)) (ai (fun R=>(lU (bh cE) rfl rfl)) (bV rfl fun iy R=>?_))))));replace U:=U.I R;replace E:=E.then R;refine aw b7 (aE rfl ?_);have o4:gM q x=false:=by rw [gM];simp only [dO cY,bN eA,bZ']
  have o3:eg none l=eg (kx l (k+1)) (l.drop (k+1)):=by rw [hinv,fB bO,AN,pQ jy (by omega),o4];rfl
  exact ca (bx (by simp) (aw bW (bQ (ag (aN rfl rfl (by omega)) (aG rfl (cF (fJ (σ:=Nat) (s:=k) (k+1) ⟨rfl,rfl,rfl,rfl,trivial⟩ ⟨by omega,o3,E⟩ (by omega))))))))
 by_cases nj:(!eR q.key x.key)=true
 ·refine bT wide (by kernel_rfl) (f' 3 rfl rfl (aM (bh cE) (fun R=>(ec rfl)) (aM (bh cE) (fun R=>(ec rfl)) (aM (bh cE) (fun R=>(ez (r:=((k-1:Nat):Int)) rfl rfl (by rw [wrap64_in _ (by omega)];omega))) (aM (bh cE) (fun R=>(b6 gO rfl rfl (by omega))) (aM (bh cE) (fun R=>(dD eG rfl)) (aM (bh cE) (fun R=>(bc bs rfl ((iW.I R) 0 _ rfl))) (aM (bh cE) (fun R=>(av eG rfl)) (aM (bh cE) (fun R=>(bc bs rfl ((U.I R).cell rfl))) (aM (bh cE) (fun R=>(vY rfl rfl)) (aM (bh cE) (fun R=>(ec rfl)) (aM (dO cY) (fun R=>(ec rfl)) (aM (dO cY) (fun R=>(ec rfl)) ?_)))))))))))));refine aM (dO cY) (fun R=>(ez (r:=((k-1:Nat):Int)) rfl rfl (by rw [wrap64_in _ (by omega)];omega))) (aM (dO cY) (fun R=>(b6 gO rfl rfl (by omega))) (aM (dO cY) (fun R=>(dD eG rfl)) (aM (dO cY) (fun R=>(bc bs rfl ((iW.I R) 0 _ rfl))) (aM (dO cY) (fun R=>(av eG rfl)) (aM (dO cY) (fun R=>(bc bs rfl ((U.I R).cell rfl))) (aM (dO cY) (fun R=>(dQ rfl rfl)) (aM (dO cY) (fun R=>(ec rfl)) (aM (bh eA) (fun R=>(ec rfl)) (aM (bh eA) (fun R=>(ec rfl)) (aM (bh eA) (fun R=>(ez (r:=((k-1:Nat):Int)) rfl rfl (by rw [wrap64_in _ (by omega)];omega))) (aM (bh eA) (fun R=>(b6 gO rfl rfl (by omega))) (aM (bh eA) (fun R=>(dD jA rfl)) (aM (bh eA) (fun R=>(bc bs rfl ((iW.I R) 1 _ rfl))) ?_)))))))))))));refine aM (bh eA) (fun R=>(av jA rfl)) (aM (bh eA) (fun R=>(bc bs rfl ((U.I R).cell rfl))) (aM (bh eA) (fun R=>(zQ rfl rfl)) (aM (dO cY) (fun R=>(lU (bh eA) rfl rfl)) (aM (bh cE) (fun R=>(ji (dO cY) rfl rfl)) (ai (fun R=>(lU (bh cE) rfl rfl)) (bV rfl fun n' R=>?_))))));replace U:=U.I R;replace E:=E.then R;refine aw b7 ?_;refine a7 rfl (fun Un=>?_) (fun Un=>absurd (nj.symm.trans Un) (by decide));have o4:gM q x=true:=by rw [gM];simp only [dO cY,bh eA,nj,bZ']
  have ja:eg none l=false:=by rw [hinv,fB bO,pQ jy (by omega),o4];simp
  exact ab fun de=>aT rfl (J de (aZ (bx (by simp) (aO (by simp) (aO (by simp) (bx (by simp) (aO (by simp) (au rfl rfl ⟨by rw [ja],E⟩))))))))
 refine bT wide (by kernel_rfl) (f' 3 rfl rfl (aM (bh cE) (fun R=>(ec rfl)) (aM (bh cE) (fun R=>(ec rfl)) (aM (bh cE) (fun R=>(ez (r:=((k-1:Nat):Int)) rfl rfl (by rw [wrap64_in _ (by omega)];omega))) (aM (bh cE) (fun R=>(b6 gO rfl rfl (by omega))) (aM (bh cE) (fun R=>(dD eG rfl)) (aM (bh cE) (fun R=>(bc bs rfl ((iW.I R) 0 _ rfl))) (aM (bh cE) (fun R=>(av eG rfl)) (aM (bh cE) (fun R=>(bc bs rfl ((U.I R).cell rfl))) (aM (bh cE) (fun R=>(vY rfl rfl)) (aM (bh cE) (fun R=>(ec rfl)) (aM (dO cY) (fun R=>(ec rfl)) (aM (dO cY) (fun R=>(ec rfl)) ?_)))))))))))));refine aM (dO cY) (fun R=>(ez (r:=((k-1:Nat):Int)) rfl rfl (by rw [wrap64_in _ (by omega)];omega))) (aM (dO cY) (fun R=>(b6 gO rfl rfl (by omega))) (aM (dO cY) (fun R=>(dD eG rfl)) (aM (dO cY) (fun R=>(bc bs rfl ((iW.I R) 0 _ rfl))) (aM (dO cY) (fun R=>(av eG rfl)) (aM (dO cY) (fun R=>(bc bs rfl ((U.I R).cell rfl))) (aM (dO cY) (fun R=>(dQ rfl rfl)) (aM (dO cY) (fun R=>(ec rfl)) (aM (bh eA) (fun R=>(ec rfl)) (aM (bh eA) (fun R=>(ec rfl)) (aM (bh eA) (fun R=>(ez (r:=((k-1:Nat):Int)) rfl rfl (by rw [wrap64_in _ (by omega)];omega))) (aM (bh eA) (fun R=>(b6 gO rfl rfl (by omega))) (aM (bh eA) (fun R=>(dD jA rfl)) (aM (bh eA) (fun R=>(bc bs rfl ((iW.I R) 1 _ rfl))) ?_)))))))))))));refine aM (bh eA) (fun R=>(av jA rfl)) (aM (bh eA) (fun R=>(bc bs rfl ((U.I R).cell rfl))) (aM (bh eA) (fun R=>(zQ rfl rfl)) (aM (dO cY) (fun R=>(lU (bh eA) rfl rfl)) (aM (bh cE) (fun R=>(ji (dO cY) rfl rfl)) (ai (fun R=>(lU (bh cE) rfl rfl)) (bV rfl fun lY R=>?_))))));replace U:=U.I R;replace E:=E.then R;refine aw b7 (a7 rfl (fun Un=>absurd ((dO nj).symm.trans Un) (by decide)) (fun Un=>?_));have o4:gM q x=false:=by rw [gM];simp only [dO cY,bh eA,dO nj,bZ']
 have o3:eg none l=eg (kx l (k+1)) (l.drop (k+1)):=by rw [hinv,fB bO,AN,pQ jy (by omega),o4];rfl
 exact ca (bx (by simp) (aw bW (bQ (ag (aN rfl rfl (by omega)) (aG rfl (cF (fJ (σ:=Nat) (s:=k) (k+1) ⟨rfl,rfl,rfl,rfl,trivial⟩ ⟨by omega,o3,E⟩ (by omega))))))))
set_option maxRecDepth 10000
def JV.seven:JV:=.mk 2 false 7 [] [] []
end Go.Proofs.YtnihidkbkhcfoaaGreatDoor.V
