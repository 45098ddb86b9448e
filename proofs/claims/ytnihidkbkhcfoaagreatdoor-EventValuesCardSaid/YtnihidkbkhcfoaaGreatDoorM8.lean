/-
  A part of the proof: walks of functions. No condition of its own.
-/
import Derived.Test.YtnihidkbkhcfoaaGreatDoorM7
import Derived.Test.YtnihidkbkhcfoaaGreatDoorM5
import Derived.Test.YtnihidkbkhcfoaaGreatDoorM3
import Derived.Test.YtnihidkbkhcfoaaGreatDoorM4
set_option linter.unusedVariables false
set_option linter.unusedSimpArgs false
set_option maxRecDepth 10000
namespace Go.Proofs.YtnihidkbkhcfoaaGreatDoor.V
open Go Go.Proofs
theorem Ly:aP Tryz.prog 137:=aP.of Tryz.func137 (by kernel_rfl) (by kernel_rfl)
theorem yi:aP Tryz.prog 138:=aP.of Tryz.func138 (by kernel_rfl) (by kernel_rfl)
theorem Tl:aP Tryz.prog 76:=aP.of Tryz.func76 (by kernel_rfl) (by kernel_rfl)
theorem Lz:aP Tryz.prog 139:=aP.of Tryz.func139 (by kernel_rfl) (by kernel_rfl)
theorem Hk (w:World) (s:aa) (bb:s.length≤140737488351232):Calls Tryz.prog 137 [S s].toArray w (bM fun u w'=>u = .int .i64 (aH s:Int)∧Mod [] w w'):=by
 refine enter Tryz.func137 rfl rfl rfl (l:=[(0,_)]) ⟨rfl,trivial⟩ ?_;have E:=Mod.refl [] w;refine ab fun aV=>aU rfl (J aV (ax fun aL=>ab fun aX=>aU rfl (J aX (eE (bX (σ:=Nat) (fun i=>[(0,S s),(3,.int .i64 (i:Int))]) (fun i aB=>i≤s.length∧(∀ j b,j<i→s[j]? = some b→b≠58)∧Mod [] w aB) (fun i=>s.length-i) (0) ⟨rfl,rfl,trivial⟩ (⟨by omega,fun j b h=>absurd h (by omega),E⟩) ?_)))));rintro i aB ⟨hi,ay,E⟩;refine ax fun bt=>ab fun bN=>ak 2 rfl (ag (br Tryz.underlying9 rfl) (ag (cL rfl rfl) (J bN ?_)));refine aK rfl (fun kB=>?_) (fun kB=>?_)
 ·obtain⟨b,aQ⟩:∃ b,s[i]? = some b:=⟨_,List.getElem?_eq_getElem (by omega)⟩;refine b8 (au bt (ax fun b2=>eE (ab fun cd=>ak 2 rfl (ag (b6 Tryz.underlying9 rfl rfl (by omega) (by rw [Int.toNat_natCast];exact aQ)) (ag (lS rfl rfl) (J cd ?_))))));refine aK rfl (fun ts=>?_) (fun ts=>?_)
  ·have hF:aH s=i:=N1 aQ ay (dt ts);exact ab fun cD=>ak 2 rfl (J cD (ba (bz (by simp) (aR (by simp) (aR (by simp) (bz (by simp) (aR (by simp) (ar rfl rfl ⟨by rw [hF],E⟩))))))))
  have bY:b≠58:=fun h=>ts (by rw [h];rfl);exact b8 (bz (by simp) (au b2 (bP (aG rfl (ag (aO rfl rfl (by omega)) (aU rfl (cF (fK (σ:=Nat) (s:=i) (i+1) ⟨rfl,rfl,trivial⟩ ⟨by omega,fun j H' dY az=>(Nat.lt_succ_iff_lt_or_eq.1 dY).elim (fun h=>ay j H' h az) (fun h=>by subst h;rw [aQ] at az;injection az with az;rw [← az];exact bY),E⟩ (by omega)))))))))
 have hF:=Hl (s:=s) (fun j b dY h=>ay j b (by omega) h);exact bo (aR (by simp) (aR (by simp) (bU (au aL (ab fun cJ=>aG rfl (ag (br Tryz.underlying9 rfl) (aU rfl (J cJ (ba (ar rfl rfl ⟨by rw [hF],E⟩))))))))))
theorem aiy (w:World) (s kinds fR:aa) (bb:s.length≤140737488351232) (hk:kinds.length≤100) (dv:fR.length≤100):Calls Tryz.prog 138 [S s,S kinds,S fR].toArray w (bM fun u w'=>u = .bool (gn (wT kinds fR) s)∧Mod [] w w'):=by
 refine enter Tryz.func138 rfl rfl rfl (l:=[(0,_),(1,_),(2,_)]) ⟨rfl,rfl,rfl,trivial⟩ ?_;have E:=Mod.refl [] w;refine ab fun aV=>aU rfl (J aV (ax fun aL=>ab fun aX=>aU rfl (J aX (eE (bX (σ:=Nat) (fun i=>[(0,S s),(1,S kinds),(2,S fR),(7,.int .i64 (i:Int))]) (fun i aB=>i≤s.length∧(s.take i).all (fun b=>wT kinds fR b.toNat)=true∧Mod [] w aB) (fun i=>s.length-i) (0) ⟨rfl,rfl,rfl,rfl,trivial⟩ (⟨by omega,by simp,E⟩) ?_)))));rintro i aB ⟨hi,ay,E⟩;refine ax fun bt=>ab fun bN=>ak 2 rfl (ag (br Tryz.underlying9 rfl) (ag (cL rfl rfl) (J bN ?_)));refine aK rfl (fun kn=>?_) (fun kn=>?_);rotate_left
 ·have iQ:=CC (q:=wT kinds fR) (by omega) ay;exact bo (aR (by simp) (aR (by simp) (bU (au aL (ab fun fF=>aG rfl (ag (e3 rfl rfl) (aU rfl (J fF (ba (ar rfl rfl ⟨by rw [iQ],E⟩))))))))))
 obtain⟨c,bh⟩:∃ c,s[i]? = some c:=⟨_,List.getElem?_eq_getElem (by omega)⟩;refine b8 (au bt (ax fun b2=>eE (ab fun cd=>ak 2 rfl (ag (b6 Tryz.underlying9 rfl rfl (by omega) (by rw [Int.toNat_natCast];exact bh)) (aU rfl (J cd (ab fun cD=>aU rfl (J cD (ax fun cJ=>ab fun cf=>?_)))))))));refine aU rfl (J cf (eE (bX (σ:=Nat×Bool) (fun⟨j,x⟩=>[(0,S s),(1,S kinds),(2,S fR),(7,.int .i64 (i:Int)),(8,.int .u8 (c.toNat:Int)),(9,.bool x),(10,.int .i64 (j:Int))]) (fun⟨j,x⟩ aB=>j≤kinds.length∧x=(kinds.take j).any (fJ c.toNat)∧Mod [] w aB) (fun⟨j,x⟩=>kinds.length-j) (⟨0,false⟩) ⟨rfl,rfl,rfl,rfl,rfl,rfl,rfl,trivial⟩ (⟨by omega,by simp,E⟩) ?_)));rintro⟨j,x⟩ cO ⟨dY,ae,E⟩;refine ax fun b1=>ab fun cX=>ak 2 rfl (ag (br Tryz.underlying9 rfl) (ag (cL rfl rfl) (J cX ?_)));refine aK rfl (fun IC=>?_) (fun IC=>?_);rotate_left
 ·have anF:x=kinds.any (fJ c.toNat):=by rw [ae,List.take_of_length_le (by omega)]
  refine bo (aR (by simp) (aR (by simp) (bU (au cJ (ax fun cU=>ab fun dj=>aU rfl (J dj (eE (bX (σ:=Nat×Bool) (fun⟨j,x⟩=>[(0,S s),(1,S kinds),(2,S fR),(7,.int .i64 (i:Int)),(8,.int .u8 (c.toNat:Int)),(9,.bool x),(11,.int .i64 (j:Int))]) (fun⟨j,x⟩ aB=>j≤fR.length∧x=(kinds.any (fJ c.toNat)||(fR.take j).any (fun g=>decide ((g.toNat:Int)=(c.toNat:Int))))∧Mod [] w aB) (fun⟨j,x⟩=>fR.length-j) (⟨0,x⟩) ⟨rfl,rfl,rfl,rfl,rfl,rfl,rfl,trivial⟩ (⟨by omega,by rw [anF];simp,E⟩) ?_))))))));rintro⟨j,x⟩ gb ⟨dY,ae,E⟩;refine ax fun dO=>ab fun eH=>ak 2 rfl (ag (br Tryz.underlying9 rfl) (ag (cL rfl rfl) (J eH ?_)));refine aK rfl (fun ael=>?_) (fun ael=>?_)
  ·obtain⟨g,nD⟩:∃ g,fR[j]? = some g:=⟨_,List.getElem?_eq_getElem (by omega)⟩;refine b8 (au dO (ax fun ee=>eE (bP (aG rfl ?_))));refine nk (fun aS:(x)=true=>?_) (fun aS=>?_)
   ·exact ak 7 rfl (ag ((cq rfl).to (v':=.bool (x||decide ((g.toNat:Int)=(c.toNat:Int)))) (congrArg Value.bool (by simp only [aS,bZ']))) (cF (bz (by simp) (au ee (bP (aG rfl (ag (aO rfl rfl (by omega)) (aU rfl (cF (fK (σ:=Nat×Bool) (s:=⟨j,x⟩) (⟨j+1,(x||decide ((g.toNat:Int)=(c.toNat:Int)))⟩) ⟨rfl,rfl,rfl,rfl,rfl,rfl,rfl,trivial⟩ ⟨by omega,by rw [fs _ nD,← Bool.or_assoc,← ae],E⟩ (by dsimp only;omega)))))))))))
   refine ak 3 rfl (aw (b6 Tryz.underlying9 rfl rfl (by omega) (by rw [Int.toNat_natCast];exact nD)) (ak 2 rfl ?_));refine da (fun bn:(g.toNat:Int)=(c.toNat:Int)=>?_) (fun bn=>?_)
   ·exact ag (jA rfl rfl rfl) (ag ((cq rfl).to (v':=.bool (x||decide ((g.toNat:Int)=(c.toNat:Int)))) (congrArg Value.bool (by simp only [dM aS,bd bn,bZ']))) (cF (bz (by simp) (au ee (bP (aG rfl (ag (aO rfl rfl (by omega)) (aU rfl (cF (fK (σ:=Nat×Bool) (s:=⟨j,x⟩) (⟨j+1,(x||decide ((g.toNat:Int)=(c.toNat:Int)))⟩) ⟨rfl,rfl,rfl,rfl,rfl,rfl,rfl,trivial⟩ ⟨by omega,by rw [fs _ nD,← Bool.or_assoc,← ae],E⟩ (by dsimp only;omega)))))))))))
   exact ag (jA rfl rfl rfl) (ag ((cq rfl).to (v':=.bool (x||decide ((g.toNat:Int)=(c.toNat:Int)))) (congrArg Value.bool (by simp only [dM aS,bJ bn,bZ']))) (cF (bz (by simp) (au ee (bP (aG rfl (ag (aO rfl rfl (by omega)) (aU rfl (cF (fK (σ:=Nat×Bool) (s:=⟨j,x⟩) (⟨j+1,(x||decide ((g.toNat:Int)=(c.toNat:Int)))⟩) ⟨rfl,rfl,rfl,rfl,rfl,rfl,rfl,trivial⟩ ⟨by omega,by rw [fs _ nD,← Bool.or_assoc,← ae],E⟩ (by dsimp only;omega)))))))))))
  have s3:x=wT kinds fR c.toNat:=by rw [ae,List.take_of_length_le (by omega)];rfl
  refine bo (aR (by simp) (aR (by simp) (bU (au cU (ab fun fE=>ak 2 rfl (J fE ?_))))));refine a1 rfl (fun aem=>?_) (fun aem=>?_)
  ·have iQ:gn (wT kinds fR) s=false:=Al bh (by rw [← s3];simpa using aem);exact ab fun fT=>aU rfl (J fT (ba (bz (by simp) (aR (by simp) (aR (by simp) (bz (by simp) (aR (by simp) (ar rfl rfl ⟨by rw [iQ],E⟩))))))))
  have oY:=all_succ bh ay (show wT kinds fR c.toNat=true by rw [← s3];simpa using aem);exact b8 (bz (by simp) (au b2 (bP (aG rfl (ag (aO rfl rfl (by omega)) (aU rfl (cF (fK (σ:=Nat) (s:=i) (i+1) ⟨rfl,rfl,rfl,rfl,trivial⟩ ⟨by omega,oY,E⟩ (by omega)))))))))
 obtain⟨g,nD⟩:∃ g,kinds[j]? = some g:=⟨_,List.getElem?_eq_getElem (by omega)⟩;refine b8 (au b1 (ax fun cb=>eE (bP (aG rfl ?_))));refine nk (fun aS:(x)=true=>?_) (fun aS=>?_)
 ·exact ak 42 rfl (ag ((cq rfl).to (v':=.bool (x||fJ c.toNat g)) (congrArg Value.bool (by simp only [fJ,aS,bZ']))) (cF (bz (by simp) (au cb (bP (aG rfl (ag (aO rfl rfl (by omega)) (aU rfl (cF (fK (σ:=Nat×Bool) (s:=⟨j,x⟩) (⟨j+1,(x||fJ c.toNat g)⟩) ⟨rfl,rfl,rfl,rfl,rfl,rfl,rfl,trivial⟩ ⟨by omega,by rw [fs _ nD,← ae],E⟩ (by dsimp only;omega)))))))))))
 refine ak 3 rfl (aw (b6 Tryz.underlying9 rfl rfl (by omega) (by rw [Int.toNat_natCast];exact nD)) (aw (lS rfl rfl) ?_));refine da (fun sg:(g.toNat:Int)=97=>?_) (fun sg=>?_)
 ·refine ak 2 rfl (aw (dq rfl rfl) ?_);refine da (fun Em:(c.toNat:Int)≥97=>?_) (fun Em=>?_)
  ·refine ak 4 rfl ?_;refine da (fun Jy:(c.toNat:Int)≤122=>?_) (fun Jy=>?_)
   ·exact ak 30 rfl (ag ((cq rfl).to (v':=.bool (x||fJ c.toNat g)) (congrArg Value.bool (by simp only [fJ,dM aS,bd sg,bd Em,bd Jy,bZ']))) (cF (bz (by simp) (au cb (bP (aG rfl (ag (aO rfl rfl (by omega)) (aU rfl (cF (fK (σ:=Nat×Bool) (s:=⟨j,x⟩) (⟨j+1,(x||fJ c.toNat g)⟩) ⟨rfl,rfl,rfl,rfl,rfl,rfl,rfl,trivial⟩ ⟨by omega,by rw [fs _ nD,← ae],E⟩ (by dsimp only;omega)))))))))))
   refine ak 5 rfl (aw (b6 Tryz.underlying9 rfl rfl (by omega) (by rw [Int.toNat_natCast];exact nD)) (aw (lS rfl rfl) (iD (bJ (show ¬ ((g.toNat:Int)=65)by omega)) (ak 12 rfl (aw (b6 Tryz.underlying9 rfl rfl (by omega) (by rw [Int.toNat_natCast];exact nD)) (aw (lS rfl rfl) (iD (bJ (show ¬ ((g.toNat:Int)=48)by omega)) (ak 9 rfl (ag ((cq rfl).to (v':=.bool (x||fJ c.toNat g)) (congrArg Value.bool (by simp only [fJ,dM aS,bd sg,bd Em,bJ Jy,bJ (show ¬ ((g.toNat:Int)=65)by omega),bJ (show ¬ ((g.toNat:Int)=48)by omega),bZ']))) (cF (bz (by simp) (au cb (bP ?_)))))))))))));exact aG rfl (ag (aO rfl rfl (by omega)) (aU rfl (cF (fK (σ:=Nat×Bool) (s:=⟨j,x⟩) (⟨j+1,(x||fJ c.toNat g)⟩) ⟨rfl,rfl,rfl,rfl,rfl,rfl,rfl,trivial⟩ ⟨by omega,by rw [fs _ nD,← ae],E⟩ (by dsimp only;omega)))))
  refine ak 9 rfl (aw (b6 Tryz.underlying9 rfl rfl (by omega) (by rw [Int.toNat_natCast];exact nD)) (aw (lS rfl rfl) (iD (bJ (show ¬ ((g.toNat:Int)=65)by omega)) (ak 12 rfl (aw (b6 Tryz.underlying9 rfl rfl (by omega) (by rw [Int.toNat_natCast];exact nD)) (aw (lS rfl rfl) (iD (bJ (show ¬ ((g.toNat:Int)=48)by omega)) (ak 9 rfl (ag ((cq rfl).to (v':=.bool (x||fJ c.toNat g)) (congrArg Value.bool (by simp only [fJ,dM aS,bd sg,bJ Em,bJ (show ¬ ((g.toNat:Int)=65)by omega),bJ (show ¬ ((g.toNat:Int)=48)by omega),bZ']))) (cF (bz (by simp) (au cb (bP ?_)))))))))))));exact aG rfl (ag (aO rfl rfl (by omega)) (aU rfl (cF (fK (σ:=Nat×Bool) (s:=⟨j,x⟩) (⟨j+1,(x||fJ c.toNat g)⟩) ⟨rfl,rfl,rfl,rfl,rfl,rfl,rfl,trivial⟩ ⟨by omega,by rw [fs _ nD,← ae],E⟩ (by dsimp only;omega)))))
 refine ak 12 rfl (aw (b6 Tryz.underlying9 rfl rfl (by omega) (by rw [Int.toNat_natCast];exact nD)) (aw (lS rfl rfl) ?_));refine da (fun xu:(g.toNat:Int)=65=>?_) (fun xu=>?_)
 ·refine ak 2 rfl (aw (dq rfl rfl) ?_);refine da (fun En:(c.toNat:Int)≥65=>?_) (fun En=>?_)
  ·refine ak 4 rfl ?_;refine da (fun Jz:(c.toNat:Int)≤90=>?_) (fun Jz=>?_)
   ·exact ak 16 rfl (ag ((cq rfl).to (v':=.bool (x||fJ c.toNat g)) (congrArg Value.bool (by simp only [fJ,dM aS,bJ sg,bd xu,bd En,bd Jz,bZ']))) (cF (bz (by simp) (au cb (bP (aG rfl (ag (aO rfl rfl (by omega)) (aU rfl (cF (fK (σ:=Nat×Bool) (s:=⟨j,x⟩) (⟨j+1,(x||fJ c.toNat g)⟩) ⟨rfl,rfl,rfl,rfl,rfl,rfl,rfl,trivial⟩ ⟨by omega,by rw [fs _ nD,← ae],E⟩ (by dsimp only;omega)))))))))))
   exact ak 5 rfl (aw (b6 Tryz.underlying9 rfl rfl (by omega) (by rw [Int.toNat_natCast];exact nD)) (aw (lS rfl rfl) (iD (bJ (show ¬ ((g.toNat:Int)=48)by omega)) (ak 9 rfl (ag ((cq rfl).to (v':=.bool (x||fJ c.toNat g)) (congrArg Value.bool (by simp only [fJ,dM aS,bJ sg,bd xu,bd En,bJ Jz,bJ (show ¬ ((g.toNat:Int)=48)by omega),bZ']))) (cF (bz (by simp) (au cb (bP (aG rfl (ag (aO rfl rfl (by omega)) (aU rfl (cF (fK (σ:=Nat×Bool) (s:=⟨j,x⟩) (⟨j+1,(x||fJ c.toNat g)⟩) ⟨rfl,rfl,rfl,rfl,rfl,rfl,rfl,trivial⟩ ⟨by omega,by rw [fs _ nD,← ae],E⟩ (by dsimp only;omega)))))))))))))))
  exact ak 9 rfl (aw (b6 Tryz.underlying9 rfl rfl (by omega) (by rw [Int.toNat_natCast];exact nD)) (aw (lS rfl rfl) (iD (bJ (show ¬ ((g.toNat:Int)=48)by omega)) (ak 9 rfl (ag ((cq rfl).to (v':=.bool (x||fJ c.toNat g)) (congrArg Value.bool (by simp only [fJ,dM aS,bJ sg,bd xu,bJ En,bJ (show ¬ ((g.toNat:Int)=48)by omega),bZ']))) (cF (bz (by simp) (au cb (bP (aG rfl (ag (aO rfl rfl (by omega)) (aU rfl (cF (fK (σ:=Nat×Bool) (s:=⟨j,x⟩) (⟨j+1,(x||fJ c.toNat g)⟩) ⟨rfl,rfl,rfl,rfl,rfl,rfl,rfl,trivial⟩ ⟨by omega,by rw [fs _ nD,← ae],E⟩ (by dsimp only;omega)))))))))))))))
 refine ak 12 rfl (aw (b6 Tryz.underlying9 rfl rfl (by omega) (by rw [Int.toNat_natCast];exact nD)) (aw (lS rfl rfl) ?_));refine da (fun Hm:(g.toNat:Int)=48=>?_) (fun Hm=>?_)
 ·refine ak 2 rfl (aw (dq rfl rfl) ?_);refine da (fun Eo:(c.toNat:Int)≥48=>?_) (fun Eo=>?_)
  ·refine ak 4 rfl ?_;refine da (fun JC:(c.toNat:Int)≤57=>?_) (fun JC=>?_)
   ·exact ak 2 rfl (ag ((cq rfl).to (v':=.bool (x||fJ c.toNat g)) (congrArg Value.bool (by simp only [fJ,dM aS,bJ sg,bJ xu,bd Hm,bd Eo,bd JC,bZ']))) (cF (bz (by simp) (au cb (bP (aG rfl (ag (aO rfl rfl (by omega)) (aU rfl (cF (fK (σ:=Nat×Bool) (s:=⟨j,x⟩) (⟨j+1,(x||fJ c.toNat g)⟩) ⟨rfl,rfl,rfl,rfl,rfl,rfl,rfl,trivial⟩ ⟨by omega,by rw [fs _ nD,← ae],E⟩ (by dsimp only;omega)))))))))))
   exact ak 2 rfl (ag ((cq rfl).to (v':=.bool (x||fJ c.toNat g)) (congrArg Value.bool (by simp only [fJ,dM aS,bJ sg,bJ xu,bd Hm,bd Eo,bJ JC,bZ']))) (cF (bz (by simp) (au cb (bP (aG rfl (ag (aO rfl rfl (by omega)) (aU rfl (cF (fK (σ:=Nat×Bool) (s:=⟨j,x⟩) (⟨j+1,(x||fJ c.toNat g)⟩) ⟨rfl,rfl,rfl,rfl,rfl,rfl,rfl,trivial⟩ ⟨by omega,by rw [fs _ nD,← ae],E⟩ (by dsimp only;omega)))))))))))
  exact ak 6 rfl (ag ((cq rfl).to (v':=.bool (x||fJ c.toNat g)) (congrArg Value.bool (by simp only [fJ,dM aS,bJ sg,bJ xu,bd Hm,bJ Eo,bZ']))) (cF (bz (by simp) (au cb (bP (aG rfl (ag (aO rfl rfl (by omega)) (aU rfl (cF (fK (σ:=Nat×Bool) (s:=⟨j,x⟩) (⟨j+1,(x||fJ c.toNat g)⟩) ⟨rfl,rfl,rfl,rfl,rfl,rfl,rfl,trivial⟩ ⟨by omega,by rw [fs _ nD,← ae],E⟩ (by dsimp only;omega)))))))))))
 exact ak 9 rfl (ag ((cq rfl).to (v':=.bool (x||fJ c.toNat g)) (congrArg Value.bool (by simp only [fJ,dM aS,bJ sg,bJ xu,bJ Hm,bZ']))) (cF (bz (by simp) (au cb (bP (aG rfl (ag (aO rfl rfl (by omega)) (aU rfl (cF (fK (σ:=Nat×Bool) (s:=⟨j,x⟩) (⟨j+1,(x||fJ c.toNat g)⟩) ⟨rfl,rfl,rfl,rfl,rfl,rfl,rfl,trivial⟩ ⟨by omega,by rw [fs _ nD,← ae],E⟩ (by dsimp only;omega)))))))))))
theorem Ep (w:World) (s kinds fR:aa) (q:Nat→Bool) (e2:∀ b:UInt8,q b.toNat=wT kinds fR b.toNat) (bb:s.length≤140737488351232) (hk:kinds.length≤100) (dv:fR.length≤100):Calls Tryz.prog 138 [S s,S kinds,S fR].toArray w (bM fun u w'=>u = .bool (gn q s)∧Mod [] w w'):=by
 rw [Hn e2 s];exact aiy w s kinds fR bb hk dv
theorem Am (w:World) (s:aa) (bb:s.length≤140737488351232):Calls Tryz.prog 76 [S s].toArray w (bM fun u w'=>u = .bool (dw s)∧Mod [] w w'):=by
 refine enter Tryz.func76 rfl rfl rfl (l:=[(0,_)]) ⟨rfl,trivial⟩ ?_;have E:=Mod.refl [] w;have lA:=jk s;refine ab fun aV=>aU rfl (J aV (ab fun aL=>aG rfl (cQ (bE Ly rfl) (Hk _ _ (by omega)) fun aB R=>?_)));replace E:=E.then R;refine aU rfl (J aL (ax fun aX=>ab fun bt=>aG rfl (ag (br Tryz.underlying9 rfl) (ag (gq rfl rfl) ?_))));refine da (fun aS:(s.length:Int) > 255=>?_) (fun aS=>?_)
 ·refine ak 7 rfl (J bt (aF rfl ?_));have i':dw s=false:=by rw [dw,show decide (s.length≤255)=false from bJ (by omega)];simp
  exact ab fun bN=>aU rfl (J bN (ba (aR (by simp) (ar rfl rfl ⟨by rw [i'],E⟩))))
 refine ak 3 rfl (aw (x3 Tryz.underlying9 rfl rfl lA) (fC (bE yi rfl) (Ep _ (s.take (aH s)) [97,48] [46,45] _ N2 (by have:=jk s;simp only [List.length_take,List.length_drop];omega) (by simp) (by simp)) fun cO R=>?_));replace E:=E.then R;refine aw (e4 rfl) ?_;refine nk (fun bn:(!gn g' (s.take (aH s)))=true=>?_) (fun bn=>?_)
 ·refine ag (jA rfl rfl rfl) (J bt (aF rfl ?_));have i':dw s=false:=by rw [dw,show gn g' (s.take (aH s))=false by simpa using bn];simp
  exact ab fun b2=>aU rfl (J b2 (ba (aR (by simp) (ar rfl rfl ⟨by rw [i'],E⟩))))
 refine ag (jA rfl rfl rfl) (J bt (aD rfl ?_));have dD:gn g' (s.take (aH s))=true:=by simpa using bn
 have o':decide (s.length≤255)=true:=bd (by omega);refine b8 (au aX (ab fun cd=>ak 2 rfl (ag (br Tryz.underlying9 rfl) (ag (lS rfl rfl) ?_))));refine da (fun bD:(aH s:Int)=(s.length:Int)=>?_) (fun bD=>?_)
 ·exact ak 15 rfl (J cd (ba (ar rfl rfl ⟨congrArg Value.bool (by rw [dw,dD,o',q2,q3];simp only [bd bD,bZ']),E⟩)))
 refine ak 2 rfl (aw (br Tryz.underlying9 rfl) (aw (d' rfl) (aw (ew (r:=((s.length-aH s:Nat):Int)) rfl rfl (by rw [wrap64_in _ (by omega)];omega)) (aw (pR rfl rfl) ?_))));refine da (fun cC:((s.length-aH s:Nat):Int)≤6=>?_) (fun cC=>?_)
 ·refine ak 3 rfl (aw (cS (r:=((aH s+1:Nat):Int)) rfl rfl (by rw [wrap64_in _ (by omega)];omega)) (aw (cE Tryz.underlying9 rfl rfl (by omega)) (fC (bE yi rfl) (Ep _ (s.drop (aH s+1)) [48] [] _ Tm (by have:=jk s;simp only [List.length_take,List.length_drop];omega) (by simp) (by simp)) fun gb R=>?_)));replace E:=E.then R;refine nk (fun cV:(gn sO (s.drop (aH s+1)))=true=>?_) (fun cV=>?_)
  ·exact ak 3 rfl (J cd (ba (ar rfl rfl ⟨congrArg Value.bool (by rw [dw,dD,o',q2,q3];simp only [bJ bD,bd cC,cV,bZ']),E⟩)))
  exact ak 3 rfl (J cd (ba (ar rfl rfl ⟨congrArg Value.bool (by rw [dw,dD,o',q2,q3];simp only [bJ bD,bd cC,dM cV,bZ']),E⟩)))
 exact ak 9 rfl (J cd (ba (ar rfl rfl ⟨congrArg Value.bool (by rw [dw,dD,o',q2,q3];simp only [bJ bD,bJ cC,bZ']),E⟩)))
theorem Ho (w:World) (s:aa) (sign:UInt8) (kinds fR:aa) (q:Nat→Bool) (e2:∀ b:UInt8,q b.toNat=wT kinds fR b.toNat) (Dc:sign≠58) (bb:s.length≤140737488351232) (hk:kinds.length≤100) (dv:fR.length≤100):Calls Tryz.prog 139 [S s,.int .u8 (sign.toNat:Int),S kinds,S fR].toArray w (bM fun u w'=>u = .bool (fr sign q s)∧Mod [] w w'):=by
 refine enter Tryz.func139 rfl rfl rfl (l:=[(0,_),(1,_),(2,_),(3,_)]) ⟨rfl,rfl,rfl,rfl,trivial⟩ ?_;have E:=Mod.refl [] w;have lA:=jk s;refine ab fun aV=>aU rfl (J aV (ab fun aL=>aG rfl (cQ (bE Ly rfl) (Hk _ _ (by omega)) fun aB R=>?_)));replace E:=E.then R;refine aU rfl (J aL (ab fun aX=>aG rfl (ag (br Tryz.underlying9 rfl) (ag (pR rfl rfl) ?_))));refine da (fun aS:(s.length:Int)≤255=>?_) (fun aS=>?_);rotate_left
 ·exact ak 32 rfl (J aX (ba (ar rfl rfl ⟨congrArg Value.bool (by rw [j1];simp only [bJ aS,bZ']),E⟩)))
 refine ak 3 rfl (aw (br Tryz.underlying9 rfl) (aw (cL rfl rfl) ?_));refine da (fun bn:(aH s:Int)<(s.length:Int)=>?_) (fun bn=>?_);rotate_left
 ·exact ak 27 rfl (J aX (ba (ar rfl rfl ⟨congrArg Value.bool (by rw [j1];simp only [bd aS,bJ bn,bZ']),E⟩)))
 refine ak 4 rfl ?_;refine da (fun bD:(aH s:Int) > 0=>?_) (fun bD=>?_)
 ·obtain⟨b0,C5⟩:∃ b,s[0]? = some b:=⟨_,List.getElem?_eq_getElem (by omega)⟩;have Gv:=N3 (sign:=sign) C5;refine ak 3 rfl (aw (b6 Tryz.underlying9 rfl rfl (by omega) C5) (ak 2 rfl ?_));refine da (fun cC:(b0.toNat:Int)=(sign.toNat:Int)=>?_) (fun cC=>?_)
  ·refine ak 4 rfl (aw (Tn (m:=1) Tryz.underlying9 rfl rfl rfl (by omega)) (ak 2 rfl (fC (bE yi rfl) (Ep _ ((s.take (aH s)).drop 1) kinds fR q e2 (by have:=jk s;simp only [List.length_take,List.length_drop];omega) hk dv) fun cO R=>?_)));replace E:=E.then R;refine nk (fun cV:(gn q ((s.take (aH s)).drop 1))=true=>?_) (fun cV=>?_)
   ·refine ak 4 rfl (aw (cS (r:=((aH s+1:Nat):Int)) rfl rfl (by rw [wrap64_in _ (by omega)];omega)) (aw (cE Tryz.underlying9 rfl rfl (by omega)) (fC (bE Tl rfl) (Am _ (s.drop (aH s+1)) (by have:=jk s;simp only [List.length_take,List.length_drop];omega)) fun gb R=>?_)));replace E:=E.then R;refine nk (fun ey:(dw (s.drop (aH s+1)))=true=>?_) (fun ey=>?_)
    ·exact ak 2 rfl (J aX (ba (ar rfl rfl ⟨congrArg Value.bool (by rw [j1];simp only [Gv,bd aS,bd bn,bd bD,bd cC,cV,ey,bZ']),E⟩)))
    exact ak 2 rfl (J aX (ba (ar rfl rfl ⟨congrArg Value.bool (by rw [j1];simp only [Gv,bd aS,bd bn,bd bD,bd cC,cV,dM ey,bZ']),E⟩)))
   exact ak 9 rfl (J aX (ba (ar rfl rfl ⟨congrArg Value.bool (by rw [j1];simp only [Gv,bd aS,bd bn,bd bD,bd cC,dM cV,bZ']),E⟩)))
  exact ak 17 rfl (J aX (ba (ar rfl rfl ⟨congrArg Value.bool (by rw [j1];simp only [Gv,bd aS,bd bn,bd bD,bJ cC,bZ']),E⟩)))
 have anG:=To Dc bD;exact ak 23 rfl (J aX (ba (ar rfl rfl ⟨congrArg Value.bool (by rw [j1];simp only [anG,bd aS,bd bn,bJ bD,bZ']),E⟩)))
theorem Tp (w:World) (s:aa) (bb:s.length≤140737488351232):Calls Tryz.prog 80 [S s].toArray w (bM fun u w'=>u = .bool (fr 64 iZ s)∧Mod [] w w'):=by
 refine enter Tryz.func80 rfl rfl rfl (l:=[(0,_)]) ⟨rfl,trivial⟩ ?_;have E:=Mod.refl [] w;refine ab fun aV=>aU rfl (J aV (ab fun aL=>aG rfl (cQ (bE Lz rfl) (Ho _ s 64 [97,48] q1 iZ Zk (by decide) bb (by simp) (by simp)) fun aB R=>?_)));replace E:=E.then R;exact aU rfl (J aL (ba (ar rfl rfl ⟨rfl,E⟩)))
theorem Tq (w:World) (s:aa) (bb:s.length≤140737488351232):Calls Tryz.prog 79 [S s].toArray w (bM fun u w'=>u = .bool (fr 33 h0 s)∧Mod [] w w'):=by
 refine enter Tryz.func79 rfl rfl rfl (l:=[(0,_)]) ⟨rfl,trivial⟩ ?_;have E:=Mod.refl [] w;refine ab fun aV=>aU rfl (J aV (ab fun aL=>aG rfl (cQ (bE Lz rfl) (Ho _ s 33 [97,65,48] [95,45] h0 Zl (by decide) bb (by simp) (by simp)) fun aB R=>?_)));replace E:=E.then R;exact aU rfl (J aL (ba (ar rfl rfl ⟨rfl,E⟩)))
theorem Zm (w:World) (s:aa) (bb:s.length≤140737488351232):Calls Tryz.prog 77 [S s].toArray w (bM fun u w'=>u = .bool (nI s)∧Mod [] w w'):=by
 refine enter Tryz.func77 rfl rfl rfl (l:=[(0,_)]) ⟨rfl,trivial⟩ ?_;have E:=Mod.refl [] w;refine ab fun aV=>aU rfl (J aV (ab fun aL=>aG rfl (ag (br Tryz.underlying9 rfl) (ag (pR rfl rfl) ?_))));refine da (fun aS:(s.length:Int)≤255=>?_) (fun aS=>?_)
 ·refine ak 2 rfl (aw (br Tryz.underlying9 rfl) (aw (gq rfl rfl) ?_));refine da (fun bn:(s.length:Int) > 8=>?_) (fun bn=>?_)
  ·refine ak 3 rfl (aw (x3 (n:=8) Tryz.underlying9 rfl rfl (by omega)) (aw (dG rfl rfl) ?_));refine da (fun bD:s.take 8=Bq=>?_) (fun bD=>?_)
   ·refine ak 3 rfl (aw (cE (n:=8) Tryz.underlying9 rfl rfl (by omega)) (fC (bE yi rfl) (Ep _ (s.drop 8) [97,65,48] [95] _ aen (by simp only [List.length_drop];omega) (by simp) (by simp)) fun aB R=>?_));replace E:=E.then R;refine nk (fun cC:(gn nH (s.drop 8))=true=>?_) (fun cC=>?_)
    ·exact ak 2 rfl (J aL (ba (ar rfl rfl ⟨congrArg Value.bool (by rw [nI,kc];simp only [bd aS,bd bn,bd bD,cC,bZ']),E⟩)))
    exact ak 2 rfl (J aL (ba (ar rfl rfl ⟨congrArg Value.bool (by rw [nI,kc];simp only [bd aS,bd bn,bd bD,dM cC,bZ']),E⟩)))
   exact ak 7 rfl (J aL (ba (ar rfl rfl ⟨congrArg Value.bool (by rw [nI,kc];simp only [bd aS,bd bn,bJ bD,bZ']),E⟩)))
  have b3:gn nH (s.drop 8)=false:=by rw [List.drop_eq_nil_of_le (by omega)];rfl
  exact ak 12 rfl (J aL (ba (ar rfl rfl ⟨congrArg Value.bool (by rw [nI,kc];simp only [b3,bd aS,bJ bn,bZ']),E⟩)))
 exact ak 16 rfl (J aL (ba (ar rfl rfl ⟨congrArg Value.bool (by rw [nI,kc];simp only [bJ aS,bZ']),E⟩)))
set_option maxRecDepth 10000
theorem LA:aP Tryz.prog 197:=aP.of Tryz.func197 (by kernel_rfl) (by kernel_rfl)
theorem Hp (w:World) (url:Bool) (c:Nat) (bh:c≤1114111):Calls Tryz.prog 197 [.int .i32 (c:Int),.bool url].toArray w (bM fun u w'=>u = .tuple #[.int .u64 (((nZ url c).getD 0:Nat):Int),.bool (nZ url c).isSome]∧Mod [] w w'):=by
 refine enter Tryz.func197 rfl rfl rfl (l:=[(0,_),(1,_)]) ⟨rfl,rfl,trivial⟩ ?_;have E:=Mod.refl [] w;refine ab fun aV=>ak 2 rfl (J aV (ax fun aL=>eE (nj fun K3 aX=>?_)));have J3:∀ (aB:World),True∧Mod [] w aB→∀ a,Has 62 [] [(0,.int .i32 (c:Int)),(1,.bool url),(6,.bool (Bp c))] a→K3 a aB:=by
  intro aB ox;obtain⟨_,E⟩:=ox;refine aX _ _ _ _ ?_;refine a1 rfl (fun eU=>?_) (fun eU=>?_)
  ·refine ab fun bt=>aG rfl ?_;have bl:65≤c∧c≤90:=by simp [Bp] at eU;omega
   exact ag ((hN rfl rfl).to (v':=.int .i32 ((c-65:Nat):Int)) (by rw [sh _ (by omega)];congr 1;omega)) (ag (jX Tryz.underlying21 Tryz.underlying154 rfl (fy _ (by omega))) (ak 2 rfl (J bt (ba (bz (by simp) (aR (by simp) (cr rfl rfl rfl ⟨by rw [show nZ url c=some (c-65)by rw [nZ,if_pos eU]];rfl,E⟩)))))))
  refine nj fun K5 bN=>?_;have J5:∀ (aB:World),True∧Mod [] w aB→∀ a,Has 62 [] [(0,.int .i32 (c:Int)),(1,.bool url),(16,.bool (wR c))] a→K5 a aB:=by
   intro cO ox;obtain⟨_,E⟩:=ox;refine bN _ _ _ _ ?_;refine a1 rfl (fun mH=>?_) (fun mH=>?_)
   ·refine ab fun b2=>aG rfl ?_;have bl:97≤c∧c≤122:=by simp [wR] at mH;omega
    exact ag ((hN rfl rfl).to (v':=.int .i32 ((c-97:Nat):Int)) (by rw [sh _ (by omega)];congr 1;omega)) (ag (jX Tryz.underlying21 Tryz.underlying154 rfl (fy _ (by omega))) (ag ((oJ rfl rfl).to (v':=.int .u64 ((c-97+26:Nat):Int)) (by rw [fy _ (by omega)];rfl)) (ak 2 rfl (J b2 (ba (bz (by simp) (aR (by simp) (cr rfl rfl rfl ⟨by rw [show nZ url c=some (c-97+26)by rw [nZ,if_neg (by simp [eU]),if_pos mH]];rfl,E⟩))))))))
   refine nj fun K7 cd=>?_;have J7:∀ (aB:World),True∧Mod [] w aB→∀ a,Has 62 [] [(0,.int .i32 (c:Int)),(1,.bool url),(27,.bool (sO c))] a→K7 a aB:=by
    intro gb ox;obtain⟨_,E⟩:=ox;refine cd _ _ _ _ ?_;refine a1 rfl (fun N5=>?_) (fun N5=>?_)
    ·refine ab fun cD=>aG rfl ?_;have bl:48≤c∧c≤57:=by simp [sO] at N5;omega
     exact ag ((hN rfl rfl).to (v':=.int .i32 ((c-48:Nat):Int)) (by rw [sh _ (by omega)];congr 1;omega)) (ag (jX Tryz.underlying21 Tryz.underlying154 rfl (fy _ (by omega))) (ag ((oJ rfl rfl).to (v':=.int .u64 ((c-48+52:Nat):Int)) (by rw [fy _ (by omega)];rfl)) (ak 2 rfl (J cD (ba (bz (by simp) (aR (by simp) (cr rfl rfl rfl ⟨by rw [show nZ url c=some (c-48+52)by rw [nZ,if_neg (by simp [eU]),if_neg (by simp [mH]),if_pos N5]];rfl,E⟩))))))))
    refine nj fun wx cJ=>?_;have J9:∀ (x:Bool) (aB:World),x=N6 url c∧Mod [] w aB→∀ a,Has 62 [] [(0,.int .i32 (c:Int)),(1,.bool url),(38,.bool x)] a→wx a aB:=by
     intro x iu ox;obtain⟨Tr,E⟩:=ox;refine cJ _ _ _ _ ?_;refine a1 rfl (fun qM=>?_) (fun qM=>?_)
     ·exact ab fun cf=>ak 2 rfl (J cf (ba (bz (by simp) (aR (by simp) (cr rfl rfl rfl ⟨by rw [show nZ url c=some 62 by rw [nZ,if_neg (by simp [eU]),if_neg (by simp [mH]),if_neg (by simp [N5]),if_pos (Tr.symm.trans qM)]];rfl,E⟩)))))
     refine nj fun H7 b1=>?_;have o9:∀ (x:Bool) (aB:World),x=N7 url c∧Mod [] w aB→∀ a,Has 62 [] [(0,.int .i32 (c:Int)),(1,.bool url),(50,.bool x)] a→H7 a aB:=by
      intro x js ox;obtain⟨aaQ,E⟩:=ox;refine b1 _ _ _ _ ?_;refine a1 rfl (fun wK=>?_) (fun wK=>?_)
      ·exact ab fun cX=>ak 2 rfl (J cX (ba (bz (by simp) (aR (by simp) (cr rfl rfl rfl ⟨by rw [show nZ url c=some 63 by rw [nZ,if_neg (by simp [eU]),if_neg (by simp [mH]),if_neg (by simp [N5]),if_neg (by rw [← Tr,qM];simp),if_pos (aaQ.symm.trans wK)]];rfl,E⟩)))))
      exact b8 (bz (by simp) (au aL (ab fun cb=>ak 2 rfl (J cb (ba (cr rfl rfl rfl ⟨by rw [show nZ url c=none by rw [nZ,if_neg (by simp [eU]),if_neg (by simp [mH]),if_neg (by simp [N5]),if_neg (by rw [← Tr,qM];simp),if_neg (by rw [← aaQ,wK];simp)]];rfl,E⟩))))))
     refine nj fun acF cU=>?_;have aeo:∀ (aB:World),True∧Mod [] w aB→∀ a,Has 62 [] [(0,.int .i32 (c:Int)),(1,.bool url),(50,.bool (decide ((c:Int)=47) && !url))] a→acF a aB:=by
      intro jD ox;obtain⟨_,E⟩:=ox;refine cU _ _ _ _ ?_;refine a1 rfl (fun wK=>?_) (fun wK=>?_)
      ·refine b8 ?_;refine fB.sub (l':=[(0,_),(1,_),(50,_)]) ⟨rfl,rfl,rfl,trivial⟩ (dT (o9 (decide ((c:Int)=47) && !url) jD ⟨(by rw [N7,wK,Bool.true_or]),E⟩))
      refine bP (ak 2 rfl ?_);refine da (fun aS:(c:Int)=95=>?_) (fun aS=>?_)
      ·refine ak 4 rfl (cF ?_);refine fB.sub (l':=[(0,_),(1,_),(50,_)]) ⟨rfl,rfl,rfl,trivial⟩ (dT (o9 url jD ⟨(by rw [N7,wK];simp only [bd aS,bZ']),E⟩))
      refine ak 4 rfl (cF ?_);refine fB.sub (l':=[(0,_),(1,_),(50,_)]) ⟨rfl,rfl,rfl,trivial⟩ (dT (o9 false jD ⟨(by rw [N7,wK];simp only [bJ aS,bZ']),E⟩))
     refine bP (ak 2 rfl ?_);refine da (fun aS:(c:Int)=47=>?_) (fun aS=>?_)
     ·refine ak 3 rfl ?_;refine nk (fun bn:(!url)=true=>?_) (fun bn=>?_)
      ·refine ag (lT rfl rfl rfl) (ag ((cq rfl).to (v':=.bool (decide ((c:Int)=47) && !url)) (congrArg Value.bool (by simp only [bd aS,bn,bZ']))) (cF ?_));refine fB.sub (l':=[(0,_),(1,_),(50,_)]) ⟨rfl,rfl,rfl,trivial⟩ (dT (aeo iu ⟨trivial,E⟩))
      refine ag (lT rfl rfl rfl) (ag ((cq rfl).to (v':=.bool (decide ((c:Int)=47) && !url)) (congrArg Value.bool (by simp only [bd aS,dM bn,bZ']))) (cF ?_));refine fB.sub (l':=[(0,_),(1,_),(50,_)]) ⟨rfl,rfl,rfl,trivial⟩ (dT (aeo iu ⟨trivial,E⟩))
     refine ak 4 rfl (ag ((cq rfl).to (v':=.bool (decide ((c:Int)=47) && !url)) (congrArg Value.bool (by simp only [bJ aS,bZ']))) (cF ?_));refine fB.sub (l':=[(0,_),(1,_),(50,_)]) ⟨rfl,rfl,rfl,trivial⟩ (dT (aeo iu ⟨trivial,E⟩))
    refine nj fun acG dj=>?_;have aep:∀ (aB:World),True∧Mod [] w aB→∀ a,Has 62 [] [(0,.int .i32 (c:Int)),(1,.bool url),(38,.bool (decide ((c:Int)=43) && !url))] a→acG a aB:=by
     intro iv ox;obtain⟨_,E⟩:=ox;refine dj _ _ _ _ ?_;refine a1 rfl (fun qM=>?_) (fun qM=>?_)
     ·refine b8 ?_;refine fB.sub (l':=[(0,_),(1,_),(38,_)]) ⟨rfl,rfl,rfl,trivial⟩ (dT (J9 (decide ((c:Int)=43) && !url) iv ⟨(by rw [N6,qM,Bool.true_or]),E⟩))
     refine bP (ak 2 rfl ?_);refine da (fun aS:(c:Int)=45=>?_) (fun aS=>?_)
     ·refine ak 4 rfl (cF ?_);refine fB.sub (l':=[(0,_),(1,_),(38,_)]) ⟨rfl,rfl,rfl,trivial⟩ (dT (J9 url iv ⟨(by rw [N6,qM];simp only [bd aS,bZ']),E⟩))
     refine ak 4 rfl (cF ?_);refine fB.sub (l':=[(0,_),(1,_),(38,_)]) ⟨rfl,rfl,rfl,trivial⟩ (dT (J9 false iv ⟨(by rw [N6,qM];simp only [bJ aS,bZ']),E⟩))
    refine bP (ak 2 rfl ?_);refine da (fun aS:(c:Int)=43=>?_) (fun aS=>?_)
    ·refine ak 3 rfl ?_;refine nk (fun bn:(!url)=true=>?_) (fun bn=>?_)
     ·refine ag (lT rfl rfl rfl) (ag ((cq rfl).to (v':=.bool (decide ((c:Int)=43) && !url)) (congrArg Value.bool (by simp only [bd aS,bn,bZ']))) (cF ?_));refine fB.sub (l':=[(0,_),(1,_),(38,_)]) ⟨rfl,rfl,rfl,trivial⟩ (dT (aep gb ⟨trivial,E⟩))
     refine ag (lT rfl rfl rfl) (ag ((cq rfl).to (v':=.bool (decide ((c:Int)=43) && !url)) (congrArg Value.bool (by simp only [bd aS,dM bn,bZ']))) (cF ?_));refine fB.sub (l':=[(0,_),(1,_),(38,_)]) ⟨rfl,rfl,rfl,trivial⟩ (dT (aep gb ⟨trivial,E⟩))
    refine ak 4 rfl (ag ((cq rfl).to (v':=.bool (decide ((c:Int)=43) && !url)) (congrArg Value.bool (by simp only [bJ aS,bZ']))) (cF ?_));refine fB.sub (l':=[(0,_),(1,_),(38,_)]) ⟨rfl,rfl,rfl,trivial⟩ (dT (aep gb ⟨trivial,E⟩))
   refine bP (aG rfl (ag (dq rfl rfl) ?_));refine da (fun aS:48≤(c:Int)=>?_) (fun aS=>?_)
   ·refine ak 3 rfl ?_;refine da (fun bn:(c:Int)≤57=>?_) (fun bn=>?_)
    ·refine ag (lT rfl rfl rfl) (ag ((cq rfl).to (v':=.bool (sO c)) (congrArg Value.bool (by simp only [sO,bd aS,bd bn,bZ']))) (cF ?_));refine fB.sub (l':=[(0,_),(1,_),(27,_)]) ⟨rfl,rfl,rfl,trivial⟩ (dT (J7 cO ⟨trivial,E⟩))
    refine ag (lT rfl rfl rfl) (ag ((cq rfl).to (v':=.bool (sO c)) (congrArg Value.bool (by simp only [sO,bd aS,bJ bn,bZ']))) (cF ?_));refine fB.sub (l':=[(0,_),(1,_),(27,_)]) ⟨rfl,rfl,rfl,trivial⟩ (dT (J7 cO ⟨trivial,E⟩))
   refine ak 4 rfl (ag ((cq rfl).to (v':=.bool (sO c)) (congrArg Value.bool (by simp only [sO,bJ aS,bZ']))) (cF ?_));refine fB.sub (l':=[(0,_),(1,_),(27,_)]) ⟨rfl,rfl,rfl,trivial⟩ (dT (J7 cO ⟨trivial,E⟩))
  refine bP (aG rfl (ag (dq rfl rfl) ?_));refine da (fun aS:97≤(c:Int)=>?_) (fun aS=>?_)
  ·refine ak 3 rfl ?_;refine da (fun bn:(c:Int)≤122=>?_) (fun bn=>?_)
   ·refine ag (lT rfl rfl rfl) (ag ((cq rfl).to (v':=.bool (wR c)) (congrArg Value.bool (by simp only [wR,bd aS,bd bn,bZ']))) (cF ?_));refine fB.sub (l':=[(0,_),(1,_),(16,_)]) ⟨rfl,rfl,rfl,trivial⟩ (dT (J5 aB ⟨trivial,E⟩))
   refine ag (lT rfl rfl rfl) (ag ((cq rfl).to (v':=.bool (wR c)) (congrArg Value.bool (by simp only [wR,bd aS,bJ bn,bZ']))) (cF ?_));refine fB.sub (l':=[(0,_),(1,_),(16,_)]) ⟨rfl,rfl,rfl,trivial⟩ (dT (J5 aB ⟨trivial,E⟩))
  refine ak 4 rfl (ag ((cq rfl).to (v':=.bool (wR c)) (congrArg Value.bool (by simp only [wR,bJ aS,bZ']))) (cF ?_));refine fB.sub (l':=[(0,_),(1,_),(16,_)]) ⟨rfl,rfl,rfl,trivial⟩ (dT (J5 aB ⟨trivial,E⟩))
 refine bP (aG rfl (ag (dq rfl rfl) ?_));refine da (fun aS:65≤(c:Int)=>?_) (fun aS=>?_)
 ·refine ak 3 rfl ?_;refine da (fun bn:(c:Int)≤90=>?_) (fun bn=>?_)
  ·refine ag (lT rfl rfl rfl) (ag ((cq rfl).to (v':=.bool (Bp c)) (congrArg Value.bool (by simp only [Bp,bd aS,bd bn,bZ']))) (cF ?_));refine fB.sub (l':=[(0,_),(1,_),(6,_)]) ⟨rfl,rfl,rfl,trivial⟩ (dT (J3 w ⟨trivial,E⟩))
  refine ag (lT rfl rfl rfl) (ag ((cq rfl).to (v':=.bool (Bp c)) (congrArg Value.bool (by simp only [Bp,bd aS,bJ bn,bZ']))) (cF ?_));refine fB.sub (l':=[(0,_),(1,_),(6,_)]) ⟨rfl,rfl,rfl,trivial⟩ (dT (J3 w ⟨trivial,E⟩))
 refine ak 4 rfl (ag ((cq rfl).to (v':=.bool (Bp c)) (congrArg Value.bool (by simp only [Bp,bJ aS,bZ']))) (cF ?_));refine fB.sub (l':=[(0,_),(1,_),(6,_)]) ⟨rfl,rfl,rfl,trivial⟩ (dT (J3 w ⟨trivial,E⟩))
theorem CD (w:World) (s:aa) (url:Bool) (bb:s.length≤140737488351232):Calls Tryz.prog 172 [S s,.bool url].toArray w (bM fun u w'=>nf w w' url s u∧Mod [] w w'):=by
 refine enter Tryz.func172 rfl rfl rfl (l:=[(0,_),(1,_)]) ⟨rfl,rfl,trivial⟩ ?_;have E:=Mod.refl [] w;refine ab fun aV=>ak 2 rfl (J aV (ab fun aL=>aU rfl (J aL (ab fun aX=>ak 2 rfl (J aX (ax fun bt=>ab fun bN=>aG rfl (qg Tryz.underlying9 rfl rfl fun uN aB gu Qw Ov=>?_)))))));have pb:w.heap.size≤uN:=by have:=E.size;omega
 replace E:=E.then Ov;refine J bN (eE (bX (σ:=Nat×Value×aa) (fun⟨k,v,nE⟩=>[(0,S s),(1,.bool url),(6,v),(7,.int .u64 (rest url s k:Int)),(8,.int .i64 ((6*k % 8:Nat):Int)),(14,.pointer (some ⟨uN,0,none⟩))]) (fun⟨k,v,nE⟩ aB=>k≤s.length∧(s.take k).all (fun b=>(nZ url b.toNat).isSome)=true∧A9 aB uN s k∧hI aB v nE∧nE.length=6*k / 8∧(∀ x∈aY v,w.heap.size≤x)∧(∀ x∈aY v,x≠uN)∧Mod [] w aB) (fun⟨k,v,nE⟩=>s.length-k) (⟨0,.slice none 0 0,[]⟩) ⟨rfl,rfl,rfl,rfl,rfl,rfl,trivial⟩ (⟨by omega,by simp,gu,Own.nil _ 5 1,rfl,by simp [aY],by simp [aY],E⟩) ?_));rintro⟨k,v,nE⟩ cO ⟨cn,ay,gu,O,Hg,mw,NR,E⟩;refine ax fun b2=>?_
 by_cases fH:k<s.length
 rotate_left
 ·have lG:=fH;have hk:k=s.length:=by omega
  have kk:s.all (fun b=>(nZ url b.toNat).isSome)=true:=by rw [List.take_of_length_le (by omega)] at ay;exact ay
  refine bP (lk rfl gu lG rfl (ag (eD rfl rfl) (J b2 (ax fun gU=>?_))));refine a1 rfl (fun mH=>?_) (fun mH=>?_)
  ·cases mH
  skip
  refine bo (aR (by simp) (aR (by simp) (bU (au bt (ax fun hg=>ab fun hA=>aG rfl (ag (dq rfl rfl) ?_))))));refine da (fun aS:((6*k % 8:Nat):Int)≥6=>?_) (fun aS=>?_)
  ·refine ak 4 rfl (J hA (aF rfl ?_));have yj:fS url s=false:=by unfold fS;rw [kk,← hk];simp only [bd aS,bZ']
   exact ab fun hh=>ak 2 rfl (J hh (ba (aR (by simp) (cr rfl rfl rfl ⟨nf.no yj,E⟩))))
  refine ak 3 rfl ?_;refine da (fun bn:(rest url s k:Int)≠0=>?_) (fun bn=>?_)
  ·refine ag (jA rfl rfl rfl) (J hA (aF rfl ?_));have yj:fS url s=false:=by unfold fS;rw [kk,← hk];simp only [bJ aS,bd bn,bZ']
   exact ab fun hB=>ak 2 rfl (J hB (ba (aR (by simp) (cr rfl rfl rfl ⟨nf.no yj,E⟩))))
  refine ag (jA rfl rfl rfl) (J hA (aD rfl ?_));have yj:fS url s=true:=by unfold fS;rw [kk,← hk];simp only [bJ aS,bJ bn,bZ']
  exact b8 (au hg (ab fun ie=>ak 3 rfl (J ie (ba (cr rfl rfl rfl ⟨nf.yes yj O (by omega) mw,E⟩)))))
 obtain⟨b,aQ⟩:∃ b,s[k]? = some b:=⟨_,List.getElem?_eq_getElem fH⟩;have apA:=b.toNat_lt
 by_cases nV:b.toNat<128
 rotate_left
 ·obtain⟨c,m,zi,Tj,fA,gB⟩:=Lu aQ (by omega);refine bP (mD rfl gu fH (zi) rfl fun iv qK AM Dw=>?_);replace E:=E.trans' AM (fun x ae=>.inr (by simp at ae;subst ae;exact pb));replace O:=O.mod AM (fun x ae hm=>NR x ae (by simpa using hm));clear gu;have gu:=qK;refine ag (eD rfl rfl) (J b2 (ax fun eH=>?_));refine a1 rfl (fun mH=>?_) (fun mH=>?_)
  ·skip
   refine b8 (au eH (eE (ab fun ee=>ak 2 rfl (J ee (ab fun fE=>ak 2 rfl (cQ (bE LA rfl) (Hp _ url c (by omega)) fun oj R=>?_))))));replace gu:=gu.I R;replace E:=E.then R;replace O:=O.I R;refine ak 5 rfl (J fE (ax fun fT=>ab fun fF=>ak 2 rfl (J fF ?_)));refine a1 rfl (fun pZ=>?_) (fun pZ=>?_)
   ·have yj:fS url s=false:=yk aQ (JE url _ (by omega));exact ab fun fG=>ak 2 rfl (J fG (ba (aR (by simp) (bz (by simp) (aR (by simp) (bz (by simp) (aR (by simp) (cr rfl rfl rfl ⟨nf.no yj,E⟩))))))))
   rw [JE url c Tj] at pZ;cases pZ
  cases mH
 skip
 refine bP (mD rfl gu fH (dec_lt aQ nV) rfl fun gb qK AM Dw=>?_);replace E:=E.trans' AM (fun x ae=>.inr (by simp at ae;subst ae;exact pb));replace O:=O.mod AM (fun x ae hm=>NR x ae (by simpa using hm));clear gu;have gu:=qK;refine ag (eD rfl rfl) (J b2 (ax fun cd=>?_));refine a1 rfl (fun mH=>?_) (fun mH=>?_);rotate_left
 ·cases mH
 skip
 refine b8 (au cd (eE (ab fun cD=>ak 2 rfl (J cD (ab fun cJ=>ak 2 rfl (cQ (bE LA rfl) (Hp _ url b.toNat (by omega)) fun iu R=>?_))))));replace gu:=gu.I R;replace E:=E.then R;replace O:=O.I R;refine ak 5 rfl (J cJ (ax fun cf=>ab fun b1=>ak 2 rfl (J b1 ?_)));refine a1 rfl (fun pZ=>?_) (fun pZ=>?_)
 ·have yj:fS url s=false:=yk aQ (by simpa using pZ);exact ab fun cX=>ak 2 rfl (J cX (ba (aR (by simp) (bz (by simp) (aR (by simp) (bz (by simp) (aR (by simp) (cr rfl rfl rfl ⟨nf.no yj,E⟩))))))))
 obtain⟨x,ae⟩:∃ x,nZ url b.toNat=some x:=Option.isSome_iff_exists.1 (by simpa using pZ);have EO:=An ae;refine b8 (au cf (ab fun cb=>?_));have PN:=Ts url s k;refine aG rfl (ag ((zh rfl rfl (by omega)).to (v':=.int .u64 ((rest url s k*64:Nat):Int)) (by rw [aiz PN])) (ag ((d' rfl).to (v':=.int .u64 (x:Int)) (by rw [ae];rfl)) (ag ((pw rfl rfl).to (v':=.int .u64 ((rest url s k*64+x:Nat):Int)) (by rw [aiA PN EO])) (aG rfl (ag (cS (r:=((6*k % 8+6:Nat):Int)) rfl rfl (by rw [wrap64_in _ (by omega)];omega)) (ak 2 rfl (J cb (ab fun cU=>aG rfl (ag (dq rfl rfl) (J cU ?_))))))))));refine aK rfl (fun sR=>?_) (fun sR=>?_);rotate_left
 ·have aS:k % 4=0:=by omega
  have arb:6*k % 8+6=6*(k+1) % 8:=by omega
  have arc:rest url s k*64+x=rest url s (k+1):=by
   rw [q4 aQ ae,JD aS];unfold lu;rw [if_neg (by omega),if_pos (by omega)];omega
  rw [arc,arb];refine b8 (bz (by simp) ?_);have oY:(s.take (k+1)).all (fun b=>(nZ url b.toNat).isSome)=true:=all_succ (q:=fun c=>(nZ url c).isSome) aQ ay (by rw [ae];rfl);exact fK (σ:=Nat×Value×aa) (s:=⟨k,v,nE⟩) (⟨k+1,v,nE⟩) ⟨rfl,rfl,rfl,rfl,rfl,rfl,trivial⟩ ⟨by omega,oY,gu,O,by omega,mw,NR,E⟩ (by dsimp only;omega)
 refine ab fun dj=>aG rfl (ag (ew (r:=((6*(k+1) % 8:Nat):Int)) rfl rfl (by rw [wrap64_in _ (by omega)];omega)) (aU rfl (J dj (ab fun dO=>ak 3 rfl (ag (tW rfl rfl (by omega)) (ag (sB Tryz.underlying114 Tryz.underlying5 rfl) (bC (cs:=[_]) cR kA rfl rfl rfl (by decide) rfl fun g1 js bT=>?_)))))));have bI:=bT.le E;have ye:=bT.b4 O;replace gu:=gu.I bT.mod;replace E:=E.then bT.mod;replace O:=O.I bT.mod;have U:=bT.aA;refine bq cR rfl rfl O (Src.own Tryz.underlying65 (Own.all (cs:=[_]) U rfl (by omega)) (by simp [Value.oneCell'])) (by decide) (by omega) (by omega) rfl fun v1 jD jh=>?_;have Kh:=jh.ne ye U;have tt:=jh.ge mw E;replace U:=U.mod jh.mod (fun ae=>ye _ ae rfl);replace E:=E.trans' jh.mod (fun x ae=>.inr (mw x ae));replace O:=jh.own;have ad2:=jh.ac5 NR gu;replace gu:=gu.mod jh.mod (fun ae=>NR _ ae rfl);obtain⟨Zn,O⟩:=N8 O rfl;refine aU rfl (J dO (bP (ak 2 rfl (ag ((zh rfl rfl (by omega)).to (v':=.int .u64 (lu (k+1):Int)) (by rw [Zo rfl])) (ag ((hN rfl rfl).to (v':=.int .u64 ((lu (k+1)-1:Nat):Int)) (by have h1:=LB (k+1);have aq:=Tt (k+1);rw [fy _ (by omega)];congr 1;omega)) (ag ((zG rfl rfl).to (v':=.int .u64 (rest url s (k+1):Int)) (by rw [aeq (by omega) (Tu _),Zp,← q4 aQ ae])) (aU rfl (cF (bz (by simp) ?_)))))))));have oY:(s.take (k+1)).all (fun b=>(nZ url b.toNat).isSome)=true:=all_succ (q:=fun c=>(nZ url c).isSome) aQ ay (by rw [ae];rfl);exact fK (σ:=Nat×Value×aa) (s:=⟨k,v,nE⟩) (⟨k+1,v1,(nE ++ [Zn])⟩) ⟨rfl,rfl,rfl,rfl,rfl,rfl,trivial⟩ ⟨by omega,oY,gu,O,by simp;omega,tt,ad2,E⟩ (by dsimp only;omega)
set_option maxRecDepth 10000
theorem LC:aP Tryz.prog 100:=aP.of Tryz.func100 (by kernel_rfl) (by kernel_rfl)
theorem Zq:nL Tryz.prog 5=true:=by kernel_rfl
theorem CE (w:World) (url:Bool) (n:Nat) (cj:n<64):Calls Tryz.prog 100 [.int .i64 (n:Int),.bool url].toArray w (bM fun u w'=>u = .int .u8 (pK url n:Int)∧Mod [] w w'):=by
 refine enter Tryz.func100 rfl rfl rfl (l:=[(0,_),(1,_)]) ⟨rfl,rfl,trivial⟩ ?_;have E:=Mod.refl [] w;refine ab fun aV=>aU rfl (J aV (ax fun aL=>ab fun aX=>ak 2 rfl (J aX ?_)));refine aK rfl (fun eU=>?_) (fun eU=>?_)
 ·exact ab fun bt=>aG rfl (ag (jX Tryz.underlying3 Tryz.underlying5 rfl (iR _ (by omega))) (ag ((oJ rfl rfl).to (v':=.int .u8 ((65+n:Nat):Int)) (by rw [iR _ (by omega)];rfl)) (aU rfl (J bt (ba (aR (by simp) (ar rfl rfl ⟨by rw [pK,if_pos (by omega)],E⟩)))))))
 refine b8 (au aL (ax fun bN=>ab fun b2=>ak 2 rfl (J b2 ?_)));refine aK rfl (fun vP=>?_) (fun vP=>?_)
 ·exact ab fun cd=>aG rfl (ag ((hN rfl rfl).to (v':=.int .i64 ((n-26:Nat):Int)) (by rw [wrap64_in _ (by omega)];congr 1;omega)) (ag (jX Tryz.underlying3 Tryz.underlying5 rfl (iR _ (by omega))) (ag ((oJ rfl rfl).to (v':=.int .u8 ((97+(n-26):Nat):Int)) (by rw [iR _ (by omega)];rfl)) (aU rfl (J cd (ba (aR (by simp) (ar rfl rfl ⟨by rw [pK,if_neg (by omega),if_pos (by omega)],E⟩))))))))
 refine b8 (au bN (ax fun cD=>ab fun cJ=>ak 2 rfl (J cJ ?_)));refine aK rfl (fun vO=>?_) (fun vO=>?_)
 ·exact ab fun cf=>aG rfl (ag ((hN rfl rfl).to (v':=.int .i64 ((n-52:Nat):Int)) (by rw [wrap64_in _ (by omega)];congr 1;omega)) (ag (jX Tryz.underlying3 Tryz.underlying5 rfl (iR _ (by omega))) (ag ((oJ rfl rfl).to (v':=.int .u8 ((48+(n-52):Nat):Int)) (by rw [iR _ (by omega)];rfl)) (aU rfl (J cf (ba (aR (by simp) (ar rfl rfl ⟨by rw [pK,if_neg (by omega),if_neg (by omega),if_pos (by omega)],E⟩))))))))
 refine b8 (au cD (ax fun b1=>ab fun cX=>aG rfl (J cX ?_)));refine a1 rfl (fun xy=>?_) (fun xy=>?_)
 ·refine ab fun cb=>aG rfl (ag ((hN rfl rfl).to (v':=.int .i64 ((n-62:Nat):Int)) (by rw [wrap64_in _ (by omega)];congr 1;omega)) ?_);obtain⟨q,e2,yB⟩:∃ q:UInt8,([45,95]:aa)[n-62]? = some q∧q.toNat=pK url n:=by
   have:n=62∨n=63:=by omega
   rw [xy];rcases this with rfl | rfl <;> exact⟨_,rfl,rfl⟩
  exact ag (b6 (u:=[45,95]) Tryz.underlying9 rfl rfl (by omega) (by rw [Int.toNat_natCast];exact e2)) (aU rfl (J cb (ba (aR (by simp) (ar rfl rfl ⟨by rw [yB],E⟩)))))
 refine b8 (au b1 (ab fun cU=>aG rfl (ag ((hN rfl rfl).to (v':=.int .i64 ((n-62:Nat):Int)) (by rw [wrap64_in _ (by omega)];congr 1;omega)) ?_)));obtain⟨q,e2,yB⟩:∃ q:UInt8,([43,47]:aa)[n-62]? = some q∧q.toNat=pK url n:=by
  have:n=62∨n=63:=by omega
  rw [xy];rcases this with rfl | rfl <;> exact⟨_,rfl,rfl⟩
 exact ag (b6 (u:=[43,47]) Tryz.underlying9 rfl rfl (by omega) (by rw [Int.toNat_natCast];exact e2)) (aU rfl (J cU (ba (ar rfl rfl ⟨by rw [yB],E⟩))))
theorem Ao (w:World) (s:aa) (url:Bool) (bb:s.length≤140737488351232):Calls Tryz.prog 136 [S s,.bool url].toArray w (bM fun u w'=>nf w w' url s u∧Mod [] w w'):=by
 refine enter Tryz.func136 rfl rfl rfl (l:=[(0,_),(1,_)]) ⟨rfl,rfl,trivial⟩ ?_;have E:=Mod.refl [] w;refine ab fun aV=>ak 2 rfl (J aV (ab fun aL=>aG rfl (ag (br Tryz.underlying9 rfl) (ag (xS (r:=((s.length*6:Nat):Int)) rfl rfl (by rw [wrap64_in _ (by omega)];omega)) (ag ((qS rfl rfl (by omega)).to (v':=.int .i64 ((s.length*6 / 8:Nat):Int)) (by rw [Int.natCast_ediv];rfl)) (Xo cR kA rfl rfl rfl (by omega) rfl fun Er aB Nm=>?_))))));have aer:w.heap.size≤Er:=by have:=Nm.at_;have:=E.size;omega
 replace E:=E.then Nm.mod;have O:Own aB 5 1 (.slice (some ⟨Er,0,none⟩) (s.length*6 / 8) (s.length*6 / 8)) (s.length*6 / 8) (((List.replicate (s.length*6 / 8) (0:UInt8)).map uw).flatten):=(Own.all (c:=s.length*6 / 8) (sz:=1) Nm.aA (by simp;omega) (by omega)).same rfl (by simp [j2];omega);have Hg:(List.replicate (s.length*6 / 8) (0:UInt8)).length=s.length*6 / 8:=by simp
 refine aU rfl (J aL (ax fun aX=>ab fun bt=>aU rfl (J bt (eE (bX (σ:=Nat×aa) (fun⟨i,nE⟩=>[(0,S s),(1,.bool url),(6,.slice (some ⟨Er,0,none⟩) (s.length*6 / 8) (s.length*6 / 8)),(7,.int .i64 (i:Int))]) (fun⟨i,nE⟩ aB=>i≤s.length∧(s.take i).all (fun b=>(nZ url b.toNat).isSome)=true∧(i=s.length→rest url s i=0)∧Own aB 5 1 (.slice (some ⟨Er,0,none⟩) (s.length*6 / 8) (s.length*6 / 8)) (s.length*6 / 8) ((nE.map uw).flatten)∧nE.length=s.length*6 / 8∧Mod [] w aB) (fun⟨i,nE⟩=>s.length-i) (⟨0,List.replicate (s.length*6 / 8) 0⟩) ⟨rfl,rfl,rfl,rfl,trivial⟩ (⟨by omega,by simp,fun _=>rfl,O,Hg,E⟩) ?_)))));rintro⟨i,nE⟩ cO ⟨hi,ay,di,O,Hg,E⟩;refine ax fun bN=>ab fun b2=>ak 2 rfl (ag (br Tryz.underlying9 rfl) (ag (cL rfl rfl) (J b2 ?_)));refine aK rfl (fun nK=>?_) (fun nK=>?_);rotate_left
 ·have Wh:i=s.length:=by omega
  have anJ:=di Wh;have kk:s.all (fun b=>(nZ url b.toNat).isSome)=true:=by rw [List.take_of_length_le (by omega)] at ay;exact ay
  refine bo (aR (by simp) (aR (by simp) (bU (au aX (ax fun lf=>ab fun q8=>aG rfl (ag (br Tryz.underlying9 rfl) (ag (kL rfl rfl (by omega)) (ag (lS rfl rfl) (J q8 ?_)))))))));refine aK rfl (fun aa4=>?_) (fun aa4=>?_)
  ·have yj:fS url s=false:=by
    unfold fS;rw [show decide (((6*s.length % 8:Nat):Int)≥6)=true from bd (by omega)];simp
   exact ab fun pg=>ak 2 rfl (J pg (ba (aR (by simp) (cr rfl rfl rfl ⟨nf.no yj,E⟩))))
  have yj:fS url s=true:=by
   unfold fS;rw [kk,← Wh,anJ,show decide (((6*i % 8:Nat):Int)≥6)=false from bJ (by omega)];rfl
  exact b8 (au lf (ab fun mN=>ak 3 rfl (J mN (ba (cr rfl rfl rfl ⟨nf.yes yj (O.same (by rw [Hg]) rfl) Hg (by simp only [aY,List.mem_singleton];intro x ae;subst ae;exact aer),E⟩)))))
 obtain⟨b,aQ⟩:∃ b,s[i]? = some b:=⟨_,List.getElem?_eq_getElem (by omega)⟩;refine b8 (au bN (ax fun cd=>eE (ab fun cD=>aU rfl (J cD (ax fun cJ=>eE (bX (σ:=Nat) (fun n=>[(0,S s),(1,.bool url),(6,.slice (some ⟨Er,0,none⟩) (s.length*6 / 8) (s.length*6 / 8)),(7,.int .i64 (i:Int)),(8,.int .i64 (n:Int))]) (fun n aB=>n≤64∧(∀ y,y<n→pK url y≠b.toNat)∧Own aB 5 1 (.slice (some ⟨Er,0,none⟩) (s.length*6 / 8) (s.length*6 / 8)) (s.length*6 / 8) ((nE.map uw).flatten)∧Mod [] w aB) (fun n=>64-n) (0) ⟨rfl,rfl,rfl,rfl,rfl,trivial⟩ (⟨by omega,fun y h=>absurd h (by omega),O,E⟩) ?_))))));rintro n gb ⟨cj,ku,O,E⟩;refine ax fun cf=>ax fun b1=>?_
 by_cases aS:(n:Int)<64
 rotate_left
 ·refine bQ wide (by kernel_rfl) (f' 3 rfl rfl (eF rfl (bJ aS) (eF rfl (bJ aS) (eF rfl (bJ aS) (eF rfl (bJ aS) (eF rfl (bJ aS) (eF rfl (bJ aS) (eF rfl (bJ aS) (aj (fun R=>(jA (bJ aS) rfl rfl)) (bS rfl fun iv R=>?_))))))))));replace E:=E.then R;replace O:=O.I R;refine au b1 (aD rfl ?_);have ae:nZ url b.toNat=none:=Es (fun y aZ=>ku y (by omega));refine bo (aR (by simp) (aR (by simp) (bU (au cJ (ax fun hA=>ab fun hh=>ak 2 rfl (J hh ?_))))));refine aK rfl (fun nR=>?_) (fun nR=>?_)
  ·have yj:fS url s=false:=yk aQ (Es (fun y aZ=>ku y (by omega)));exact ab fun hB=>ak 2 rfl (J hB (ba (aR (by simp) (bz (by simp) (aR (by simp) (aR (by simp) (bz (by simp) (aR (by simp) (cr rfl rfl rfl ⟨nf.no yj,E⟩)))))))))
  have ae:nZ url b.toNat=some n:=by first | assumption | (exfalso;omega)
  have aes:n<64:=An ae;refine b8 (au hA (ab fun ie=>aU rfl (J ie (eE (bX (σ:=Nat×aa) (fun⟨k,o0⟩=>[(0,S s),(1,.bool url),(6,.slice (some ⟨Er,0,none⟩) (s.length*6 / 8) (s.length*6 / 8)),(7,.int .i64 (i:Int)),(8,.int .i64 (n:Int)),(9,.int .i64 (k:Int))]) (fun⟨k,o0⟩ aB=>k≤6∧(∀ iA,iA<k→8*(s.length*6 / 8)≤6*i+iA→n / 2 ^ (5-iA) % 2=0)∧Own aB 5 1 (.slice (some ⟨Er,0,none⟩) (s.length*6 / 8) (s.length*6 / 8)) (s.length*6 / 8) ((o0.map uw).flatten)∧o0.length=s.length*6 / 8∧Mod [] w aB) (fun⟨k,o0⟩=>6-k) (⟨0,nE⟩) ⟨rfl,rfl,rfl,rfl,rfl,rfl,trivial⟩ (⟨by omega,fun iA h=>absurd h (by omega),O,Hg,E⟩) ?_)))));rintro⟨k,o0⟩ oj ⟨hk,JF,O,Ap,E⟩;refine ax fun jO=>ab fun jP=>ak 2 rfl (J jP ?_);refine aK rfl (fun qM=>?_) (fun qM=>?_);rotate_left
  ·have oY:(s.take (i+1)).all (fun b=>(nZ url b.toNat).isSome)=true:=all_succ (q:=fun c=>(nZ url c).isSome) aQ ay (by rw [ae];rfl);have DG:=Aq aQ ae (fun iA h ik=>JF iA (by omega) ik);exact bo (aR (by simp) (aR (by simp) (bU (bz (by simp) (au cd (bP (aG rfl (ag (aO rfl rfl (by omega)) (aU rfl (cF (fK (σ:=Nat×aa) (s:=⟨i,nE⟩) (⟨i+1,o0⟩) ⟨rfl,rfl,rfl,rfl,trivial⟩ ⟨by omega,oY,DG,O,Ap,E⟩ (by dsimp only;omega))))))))))))
  refine b8 (au jO (ax fun la=>eE (ab fun jc=>aG rfl (ag (xS (r:=((6*i:Nat):Int)) rfl rfl (by rw [wrap64_in _ (by omega)];omega)) (aG rfl (ag (cS (r:=((6*i+k:Nat):Int)) rfl rfl (by rw [wrap64_in _ (by omega)];omega)) (aU rfl (J jc (ax fun kx=>ab fun lb=>ak 2 rfl ?_)))))))));refine ag (ew (r:=((5-k:Nat):Int)) rfl rfl (by rw [wrap64_in _ (by omega)];omega)) (ag (jX Tryz.underlying3 Tryz.underlying154 rfl (fy _ (by omega))) (ag ((tW rfl rfl (by omega)).to (v':=.int .i64 ((n / 2 ^ (5-k):Nat):Int)) (by rw [Tw (by omega)])) ?_));have tS:n / 2 ^ (5-k)<64:=Nat.lt_of_le_of_lt (Nat.div_le_self _ _) aes;refine ag ((zG rfl rfl).to (v':=.int .i64 ((n / 2 ^ (5-k) % 2:Nat):Int)) (by rw [aaR tS])) (ag (lS rfl rfl) (J lb ?_));refine aK rfl (fun aet=>?_) (fun aet=>?_)
  ·skip
   exact bo (aR (by simp) (bU (au la (bP (aG rfl (ag (aO rfl rfl (by omega)) (aU rfl (cF (fK (σ:=Nat×aa) (s:=⟨k,o0⟩) (⟨k+1,o0⟩) ⟨rfl,rfl,rfl,rfl,rfl,rfl,trivial⟩ ⟨by omega,fun iA h ik=>(Nat.lt_succ_iff_lt_or_eq.1 h).elim (fun h=>JF iA h ik) (fun h=>by subst h;omega),O,Ap,E⟩ (by dsimp only;omega))))))))))
  skip
  refine b8 (au kx (ax fun jQ=>ab fun mM=>aG rfl (ag ((qS rfl rfl (by omega)).to (v':=.int .i64 (((6*i+k) / 8:Nat):Int)) (by rw [Int.natCast_ediv];rfl)) (aG rfl (ag (bs Tryz.underlying65 rfl) (ag (dq rfl rfl) (J mM ?_)))))));refine aK rfl (fun zm=>?_) (fun zm=>?_)
  ·have yj:fS url s=false:=CF (k:=k) aQ ae (by omega) (by omega) (by omega);exact ab fun ky=>ak 2 rfl (J ky (ba (aR (by simp) (bz (by simp) (aR (by simp) (aR (by simp) (bz (by simp) (bz (by simp) (aR (by simp) (aR (by simp) (bz (by simp) (aR (by simp) (cr rfl rfl rfl ⟨nf.no yj,E⟩)))))))))))))
  refine b8 (au jQ (bP ?_));obtain⟨Fg,Ba⟩:∃ Fg,o0[(6*i+k) / 8]? = some Fg:=⟨_,List.getElem?_eq_getElem (by omega)⟩;refine ak 2 rfl (ag ((qS rfl rfl (by omega)).to (v':=.int .i64 (((6*i+k) / 8:Nat):Int)) (by rw [Int.natCast_ediv];rfl)) (ak 2 rfl (ag ((qS rfl rfl (by omega)).to (v':=.int .i64 (((6*i+k) / 8:Nat):Int)) (by rw [Int.natCast_ediv];rfl)) (ag (ca cR rfl rfl (by omega)) (ag (bg Zq rfl (LD O Ba)) (aG rfl (ag (kL rfl rfl (by omega)) (ag (jX Tryz.underlying3 Tryz.underlying154 rfl (fy _ (by omega))) (ag (tW rfl rfl (by omega)) (ag (pw rfl rfl) (ag (ca cR rfl rfl (by omega)) (B7 (i:=(6*i+k) / 8) Zq O rfl rfl rfl (by omega) fun ard qw anH anI=>?_))))))))))));replace E:=E.own anH aer;obtain⟨Zn,vI⟩:=Hq qw;clear O qw;have O:=vI;exact cF (bz (by simp) (au la (bP (aG rfl (ag (aO rfl rfl (by omega)) (aU rfl (cF (fK (σ:=Nat×aa) (s:=⟨k,o0⟩) (⟨k+1,(o0.set ((6*i+k) / 8) Zn)⟩) ⟨rfl,rfl,rfl,rfl,rfl,rfl,trivial⟩ ⟨by omega,fun iA h ik=>(Nat.lt_succ_iff_lt_or_eq.1 h).elim (fun h=>JF iA h ik) (fun h=>by subst h;omega),O,by rw [List.length_set];exact Ap,E⟩ (by dsimp only;omega)))))))))
 by_cases bn:(pK url n:Int)≠(b.toNat:Int)
 ·refine bQ wide (by kernel_rfl) (f' 3 rfl rfl (aM (bd aS) (fun R=>(d' rfl)) (aM (bd aS) (fun R=>(d' rfl)) (EI rfl (bd aS) (fun cH R=>bE LC rfl) (fun cH R=>CE _ url n (by omega)) rfl rfl (aM (bd aS) (fun R=>(d' rfl)) (aM (bd aS) (fun R=>(d' rfl)) (aM (bd aS) (fun R=>(b6 Tryz.underlying9 rfl rfl (by omega) (by rw [Int.toNat_natCast];exact aQ))) (aM (bd aS) (fun R=>(fj rfl rfl)) (aj (fun R=>(lT (bd aS) rfl rfl)) (bS rfl fun iu R=>?_))))))))));replace E:=E.then R;replace O:=O.I R;refine au b1 ?_;refine aK rfl (fun wv=>?_) (fun wv=>absurd bn wv);have bY:pK url n≠b.toNat:=by omega
  exact b8 (au cf (eE (bP (aG rfl (ag (aO rfl rfl (by omega)) (aU rfl (cF (bz (by simp) (fK (σ:=Nat) (s:=n) (n+1) ⟨rfl,rfl,rfl,rfl,rfl,trivial⟩ ⟨by omega,fun y aZ=>(Nat.lt_succ_iff_lt_or_eq.1 aZ).elim (ku y) (fun h=>by subst h;exact bY),O,E⟩ (by omega))))))))))
 refine bQ wide (by kernel_rfl) (f' 3 rfl rfl (aM (bd aS) (fun R=>(d' rfl)) (aM (bd aS) (fun R=>(d' rfl)) (EI rfl (bd aS) (fun cH R=>bE LC rfl) (fun cH R=>CE _ url n (by omega)) rfl rfl (aM (bd aS) (fun R=>(d' rfl)) (aM (bd aS) (fun R=>(d' rfl)) (aM (bd aS) (fun R=>(b6 Tryz.underlying9 rfl rfl (by omega) (by rw [Int.toNat_natCast];exact aQ))) (aM (bd aS) (fun R=>(fj rfl rfl)) (aj (fun R=>(lT (bd aS) rfl rfl)) (bS rfl fun js R=>?_))))))))));replace E:=E.then R;replace O:=O.I R;refine au b1 (aK rfl (fun wv=>absurd wv bn) (fun wv=>?_));have ae:nZ url b.toNat=some n:=Tv (by omega) (by omega);refine bo (aR (by simp) (aR (by simp) (bU (au cJ (ax fun cX=>ab fun cb=>ak 2 rfl (J cb ?_))))));refine aK rfl (fun nR=>?_) (fun nR=>?_)
 ·have yj:fS url s=false:=yk aQ (Es (fun y aZ=>ku y (by omega)));exact ab fun cU=>ak 2 rfl (J cU (ba (aR (by simp) (bz (by simp) (aR (by simp) (aR (by simp) (bz (by simp) (aR (by simp) (cr rfl rfl rfl ⟨nf.no yj,E⟩)))))))))
 have ae:nZ url b.toNat=some n:=by first | assumption | (exfalso;omega)
 have aes:n<64:=An ae;refine b8 (au cX (ab fun dj=>aU rfl (J dj (eE (bX (σ:=Nat×aa) (fun⟨k,o0⟩=>[(0,S s),(1,.bool url),(6,.slice (some ⟨Er,0,none⟩) (s.length*6 / 8) (s.length*6 / 8)),(7,.int .i64 (i:Int)),(8,.int .i64 (n:Int)),(9,.int .i64 (k:Int))]) (fun⟨k,o0⟩ aB=>k≤6∧(∀ iA,iA<k→8*(s.length*6 / 8)≤6*i+iA→n / 2 ^ (5-iA) % 2=0)∧Own aB 5 1 (.slice (some ⟨Er,0,none⟩) (s.length*6 / 8) (s.length*6 / 8)) (s.length*6 / 8) ((o0.map uw).flatten)∧o0.length=s.length*6 / 8∧Mod [] w aB) (fun⟨k,o0⟩=>6-k) (⟨0,nE⟩) ⟨rfl,rfl,rfl,rfl,rfl,rfl,trivial⟩ (⟨by omega,fun iA h=>absurd h (by omega),O,Hg,E⟩) ?_)))));rintro⟨k,o0⟩ jD ⟨hk,JF,O,Ap,E⟩;refine ax fun dO=>ab fun eH=>ak 2 rfl (J eH ?_);refine aK rfl (fun qM=>?_) (fun qM=>?_);rotate_left
 ·have oY:(s.take (i+1)).all (fun b=>(nZ url b.toNat).isSome)=true:=all_succ (q:=fun c=>(nZ url c).isSome) aQ ay (by rw [ae];rfl);have DG:=Aq aQ ae (fun iA h ik=>JF iA (by omega) ik);exact bo (aR (by simp) (aR (by simp) (bU (bz (by simp) (au cd (bP (aG rfl (ag (aO rfl rfl (by omega)) (aU rfl (cF (fK (σ:=Nat×aa) (s:=⟨i,nE⟩) (⟨i+1,o0⟩) ⟨rfl,rfl,rfl,rfl,trivial⟩ ⟨by omega,oY,DG,O,Ap,E⟩ (by dsimp only;omega))))))))))))
 refine b8 (au dO (ax fun ee=>eE (ab fun fE=>aG rfl (ag (xS (r:=((6*i:Nat):Int)) rfl rfl (by rw [wrap64_in _ (by omega)];omega)) (aG rfl (ag (cS (r:=((6*i+k:Nat):Int)) rfl rfl (by rw [wrap64_in _ (by omega)];omega)) (aU rfl (J fE (ax fun fT=>ab fun fF=>ak 2 rfl ?_)))))))));refine ag (ew (r:=((5-k:Nat):Int)) rfl rfl (by rw [wrap64_in _ (by omega)];omega)) (ag (jX Tryz.underlying3 Tryz.underlying154 rfl (fy _ (by omega))) (ag ((tW rfl rfl (by omega)).to (v':=.int .i64 ((n / 2 ^ (5-k):Nat):Int)) (by rw [Tw (by omega)])) ?_));have tS:n / 2 ^ (5-k)<64:=Nat.lt_of_le_of_lt (Nat.div_le_self _ _) aes;refine ag ((zG rfl rfl).to (v':=.int .i64 ((n / 2 ^ (5-k) % 2:Nat):Int)) (by rw [aaR tS])) (ag (lS rfl rfl) (J fF ?_));refine aK rfl (fun aet=>?_) (fun aet=>?_)
 ·skip
  exact bo (aR (by simp) (bU (au ee (bP (aG rfl (ag (aO rfl rfl (by omega)) (aU rfl (cF (fK (σ:=Nat×aa) (s:=⟨k,o0⟩) (⟨k+1,o0⟩) ⟨rfl,rfl,rfl,rfl,rfl,rfl,trivial⟩ ⟨by omega,fun iA h ik=>(Nat.lt_succ_iff_lt_or_eq.1 h).elim (fun h=>JF iA h ik) (fun h=>by subst h;omega),O,Ap,E⟩ (by dsimp only;omega))))))))))
 skip
 refine b8 (au fT (ax fun fG=>ab fun gU=>aG rfl (ag ((qS rfl rfl (by omega)).to (v':=.int .i64 (((6*i+k) / 8:Nat):Int)) (by rw [Int.natCast_ediv];rfl)) (aG rfl (ag (bs Tryz.underlying65 rfl) (ag (dq rfl rfl) (J gU ?_)))))));refine aK rfl (fun zm=>?_) (fun zm=>?_)
 ·have yj:fS url s=false:=CF (k:=k) aQ ae (by omega) (by omega) (by omega);exact ab fun hg=>ak 2 rfl (J hg (ba (aR (by simp) (bz (by simp) (aR (by simp) (aR (by simp) (bz (by simp) (bz (by simp) (aR (by simp) (aR (by simp) (bz (by simp) (aR (by simp) (cr rfl rfl rfl ⟨nf.no yj,E⟩)))))))))))))
 refine b8 (au fG (bP ?_));obtain⟨Fg,Ba⟩:∃ Fg,o0[(6*i+k) / 8]? = some Fg:=⟨_,List.getElem?_eq_getElem (by omega)⟩;refine ak 2 rfl (ag ((qS rfl rfl (by omega)).to (v':=.int .i64 (((6*i+k) / 8:Nat):Int)) (by rw [Int.natCast_ediv];rfl)) (ak 2 rfl (ag ((qS rfl rfl (by omega)).to (v':=.int .i64 (((6*i+k) / 8:Nat):Int)) (by rw [Int.natCast_ediv];rfl)) (ag (ca cR rfl rfl (by omega)) (ag (bg Zq rfl (LD O Ba)) (aG rfl (ag (kL rfl rfl (by omega)) (ag (jX Tryz.underlying3 Tryz.underlying154 rfl (fy _ (by omega))) (ag (tW rfl rfl (by omega)) (ag (pw rfl rfl) (ag (ca cR rfl rfl (by omega)) (B7 (i:=(6*i+k) / 8) Zq O rfl rfl rfl (by omega) fun ard qw anH anI=>?_))))))))))));replace E:=E.own anH aer;obtain⟨Zn,vI⟩:=Hq qw;clear O qw;have O:=vI;exact cF (bz (by simp) (au ee (bP (aG rfl (ag (aO rfl rfl (by omega)) (aU rfl (cF (fK (σ:=Nat×aa) (s:=⟨k,o0⟩) (⟨k+1,(o0.set ((6*i+k) / 8) Zn)⟩) ⟨rfl,rfl,rfl,rfl,rfl,rfl,trivial⟩ ⟨by omega,fun iA h ik=>(Nat.lt_succ_iff_lt_or_eq.1 h).elim (fun h=>JF iA h ik) (fun h=>by subst h;omega),O,by rw [List.length_set];exact Ap,E⟩ (by dsimp only;omega)))))))))
set_option maxRecDepth 10000
theorem LF:aP Tryz.prog 172:=aP.of Tryz.func172 (by kernel_rfl) (by kernel_rfl)
theorem LG:aP Tryz.prog 136:=aP.of Tryz.func136 (by kernel_rfl) (by kernel_rfl)
theorem hj:ly Tryz.prog 27 92 3 48=true:=by kernel_rfl
theorem rl:rF Tryz.prog 92 3=true:=by kernel_rfl
theorem Ab:hD Tryz.prog 92 ([S [],S [],S []]):=by unfold hD;kernel_rfl
theorem eB:ix Tryz.prog 92 0 0 1=true:=by kernel_rfl
theorem jz:ix Tryz.prog 92 1 1 1=true:=by kernel_rfl
theorem Zr:aP Tryz.prog 173:=aP.of Tryz.func173 (by kernel_rfl) (by kernel_rfl)
theorem po:ix Tryz.prog 92 2 2 1=true:=by kernel_rfl
theorem LH:aP Tryz.prog 131:=aP.of Tryz.func131 (by kernel_rfl) (by kernel_rfl)
theorem Tx (w:World) (s:aa) (bb:s.length≤140737488351232):Calls Tryz.prog 134 [S s].toArray w (bM fun u w'=>u = .bool (dn s)∧Mod [] w w'):=by
 refine enter Tryz.func134 rfl rfl rfl (l:=[(0,_)]) ⟨rfl,trivial⟩ ?_;have E:=Mod.refl [] w;refine ab fun aV=>aU rfl (J aV (ax fun aL=>ab fun aX=>aG rfl (ag (dG rfl rfl) ?_)));refine da (fun aS:s = []=>?_) (fun aS=>?_)
 ·refine ak 5 rfl (J aX (aF rfl ?_));have i':dn s=false:=by subst aS;simp [dn]
  exact ab fun bt=>aU rfl (J bt (ba (aR (by simp) (ar rfl rfl ⟨by rw [i'],E⟩))))
 obtain⟨b0,r,rfl⟩:∃ b r,s=b::r:=List.exists_cons_of_ne_nil aS;refine ak 2 rfl (aw (b6 Tryz.underlying9 rfl rfl (by omega) rfl) (aw (fj rfl rfl) ?_));refine da (fun bn:(b0.toNat:Int)≠36=>?_) (fun bn=>?_)
 ·refine ag (jA rfl rfl rfl) (J aX (aF rfl ?_));have i':dn (b0::r)=false:=by
   have az:b0≠36:=fun h=>bn (by rw [h];rfl);simp [dn,az]
  exact ab fun bN=>aU rfl (J bN (ba (aR (by simp) (ar rfl rfl ⟨by rw [i'],E⟩))))
 refine ag (jA rfl rfl rfl) (J aX (aD rfl ?_));have nR:b0=36:=dt (Classical.not_not.1 bn);have ik:decide ((b0::r).head? = some 36)=true:=by simp [nR]
 refine b8 (au aL (ab fun b2=>aG rfl (ag (cE (n:=1) Tryz.underlying9 rfl rfl (by simp)) (fv (bE LF rfl) (CD _ ((b0::r).drop 1) true (by simp only [List.length_drop];omega)) rfl fun cK aB az=>?_))));obtain⟨⟨anK,nE,o,rfl,et,hO,nV,_⟩,R⟩:=az;replace E:=E.then R;obtain⟨o7,N9,rfl,Hr,Hs⟩:=hO.form;refine ak 5 rfl (J b2 (ab fun cd=>aG rfl ?_));refine nk (fun aS:(o)=true=>?_) (fun aS=>?_)
 ·have Ty:decide (((b0::r).drop 1).length*6 / 8=32)=decide ((nE.length:Int)=32):=by
   rw [decide_eq_decide];rw [aS] at et;rw [← et,if_pos rfl] at nV;omega
  refine ak 2 rfl (aw (bs Tryz.underlying65 rfl) (aw (lS rfl rfl) ?_));refine da (fun bn:(nE.length:Int)=32=>?_) (fun bn=>?_)
  ·exact ak 2 rfl (J cd (ba (ar rfl rfl ⟨congrArg Value.bool (by rw [dn,ik,← et,Ty];simp only [aS,bd bn,bZ']),E⟩)))
  exact ak 2 rfl (J cd (ba (ar rfl rfl ⟨congrArg Value.bool (by rw [dn,ik,← et,Ty];simp only [aS,bJ bn,bZ']),E⟩)))
 exact ak 6 rfl (J cd (ba (ar rfl rfl ⟨congrArg Value.bool (by rw [dn,ik,← et];simp only [dM aS,bZ']),E⟩)))
theorem CG (w:World) (s:aa) (bb:s.length≤140737488351232):Calls Tryz.prog 75 [S s].toArray w (bM fun u w'=>u = .bool (dn s)∧Mod [] w w'):=by
 refine enter Tryz.func75 rfl rfl rfl (l:=[(0,_)]) ⟨rfl,trivial⟩ ?_;have E:=Mod.refl [] w;refine ab fun aV=>aU rfl (J aV (ax fun aL=>ab fun aX=>aG rfl (ag (dG rfl rfl) ?_)));refine da (fun aS:s = []=>?_) (fun aS=>?_)
 ·refine ak 5 rfl (J aX (aF rfl ?_));have i':dn s=false:=by subst aS;simp [dn]
  exact ab fun bt=>aU rfl (J bt (ba (aR (by simp) (ar rfl rfl ⟨by rw [i'],E⟩))))
 obtain⟨b0,r,rfl⟩:∃ b r,s=b::r:=List.exists_cons_of_ne_nil aS;refine ak 2 rfl (aw (b6 Tryz.underlying9 rfl rfl (by omega) rfl) (aw (fj rfl rfl) ?_));refine da (fun bn:(b0.toNat:Int)≠36=>?_) (fun bn=>?_)
 ·refine ag (jA rfl rfl rfl) (J aX (aF rfl ?_));have i':dn (b0::r)=false:=by
   have az:b0≠36:=fun h=>bn (by rw [h];rfl);simp [dn,az]
  exact ab fun bN=>aU rfl (J bN (ba (aR (by simp) (ar rfl rfl ⟨by rw [i'],E⟩))))
 refine ag (jA rfl rfl rfl) (J aX (aD rfl ?_));have nR:b0=36:=dt (Classical.not_not.1 bn);have ik:decide ((b0::r).head? = some 36)=true:=by simp [nR]
 refine b8 (au aL (ab fun b2=>aG rfl (ag (cE (n:=1) Tryz.underlying9 rfl rfl (by simp)) (fv (bE LG rfl) (Ao _ ((b0::r).drop 1) true (by simp only [List.length_drop];omega)) rfl fun cK aB az=>?_))));obtain⟨⟨anK,nE,o,rfl,et,hO,nV,_⟩,R⟩:=az;replace E:=E.then R;obtain⟨o7,N9,rfl,Hr,Hs⟩:=hO.form;refine ak 5 rfl (J b2 (ab fun cd=>aG rfl ?_));refine nk (fun aS:(o)=true=>?_) (fun aS=>?_)
 ·have Ty:decide (((b0::r).drop 1).length*6 / 8=32)=decide ((nE.length:Int)=32):=by
   rw [decide_eq_decide];rw [aS] at et;rw [← et,if_pos rfl] at nV;omega
  refine ak 2 rfl (aw (bs Tryz.underlying65 rfl) (aw (lS rfl rfl) ?_));refine da (fun bn:(nE.length:Int)=32=>?_) (fun bn=>?_)
  ·exact ak 2 rfl (J cd (ba (ar rfl rfl ⟨congrArg Value.bool (by rw [dn,ik,← et,Ty];simp only [aS,bd bn,bZ']),E⟩)))
  exact ak 2 rfl (J cd (ba (ar rfl rfl ⟨congrArg Value.bool (by rw [dn,ik,← et,Ty];simp only [aS,bJ bn,bZ']),E⟩)))
 exact ak 6 rfl (J cd (ba (ar rfl rfl ⟨congrArg Value.bool (by rw [dn,ik,← et];simp only [dM aS,bZ']),E⟩)))
theorem Ht (w:World) (s:aa) (n:Nat) (bb:s.length≤140737488351232):Calls Tryz.prog 131 [S s,.int .i64 (n:Int)].toArray w (bM fun u w'=>u = .bool (eO s n)∧Mod [] w w'):=by
 refine enter Tryz.func131 rfl rfl rfl (l:=[(0,_),(1,_)]) ⟨rfl,rfl,trivial⟩ ?_;have E:=Mod.refl [] w;refine ab fun aV=>aU rfl (J aV (ab fun aL=>aG rfl (fv (bE LF rfl) (CD _ (s) false bb) rfl fun cK aB az=>?_)));obtain⟨⟨anK,nE,o,rfl,et,hO,nV,_⟩,R⟩:=az;replace E:=E.then R;obtain⟨o7,N9,rfl,Hr,Hs⟩:=hO.form;refine ak 5 rfl (J aL (ab fun aX=>aG rfl ?_));refine nk (fun aS:(o)=true=>?_) (fun aS=>?_)
 ·have K':decide (s.length*6 / 8=n)=decide ((nE.length:Int)=(n:Int)):=by
   rw [decide_eq_decide];rw [aS] at et;rw [← et,if_pos rfl] at nV;omega
  refine ak 2 rfl (aw (bs Tryz.underlying65 rfl) (ak 2 rfl ?_));refine da (fun bn:(nE.length:Int)=(n:Int)=>?_) (fun bn=>?_)
  ·exact ak 2 rfl (J aX (ba (ar rfl rfl ⟨congrArg Value.bool (by rw [eO,← et,K'];simp only [aS,bd bn,bZ']),E⟩)))
  exact ak 2 rfl (J aX (ba (ar rfl rfl ⟨congrArg Value.bool (by rw [eO,← et,K'];simp only [aS,bJ bn,bZ']),E⟩)))
 exact ak 7 rfl (J aX (ba (ar rfl rfl ⟨congrArg Value.bool (by rw [eO,← et];simp only [dM aS,bZ']),E⟩)))
theorem wU (w:World) (s:aa) (n:Nat) (cj:n≤100) (bb:s.length≤140737488351232):Calls Tryz.prog 78 [S s,.int .i64 (n:Int)].toArray w (bM fun u w'=>u = .bool (eO s n)∧Mod [] w w'):=by
 refine enter Tryz.func78 rfl rfl rfl (l:=[(0,_),(1,_)]) ⟨rfl,rfl,trivial⟩ ?_;have E:=Mod.refl [] w;refine ab fun aV=>aU rfl (J aV (ax fun aL=>ab fun aX=>aG rfl (ag (br Tryz.underlying9 rfl) (ag (gq rfl rfl) (J aX ?_)))));refine aK rfl (fun k9=>?_) (fun k9=>?_)
 ·exact ab fun bt=>aU rfl (J bt (ba (aR (by simp) (ar rfl rfl ⟨by rw [eO,show decide (s.length*6 / 8=n)=false from bJ (by omega)];simp,E⟩))))
 refine b8 (au aL (ab fun bN=>aG rfl (fv (bE LG rfl) (Ao _ (s) false bb) rfl fun cK aB az=>?_)));obtain⟨⟨anK,nE,o,rfl,et,hO,nV,_⟩,R⟩:=az;replace E:=E.then R;obtain⟨o7,N9,rfl,Hr,Hs⟩:=hO.form;refine ak 5 rfl (J bN (ab fun b2=>aG rfl ?_));refine nk (fun aS:(o)=true=>?_) (fun aS=>?_)
 ·have K':decide (s.length*6 / 8=n)=decide ((nE.length:Int)=(n:Int)):=by
   rw [decide_eq_decide];rw [aS] at et;rw [← et,if_pos rfl] at nV;omega
  refine ak 2 rfl (aw (bs Tryz.underlying65 rfl) (ak 2 rfl ?_));refine da (fun bn:(nE.length:Int)=(n:Int)=>?_) (fun bn=>?_)
  ·exact ak 2 rfl (J b2 (ba (ar rfl rfl ⟨congrArg Value.bool (by rw [eO,← et,K'];simp only [aS,bd bn,bZ']),E⟩)))
  exact ak 2 rfl (J b2 (ba (ar rfl rfl ⟨congrArg Value.bool (by rw [eO,← et,K'];simp only [aS,bJ bn,bZ']),E⟩)))
 exact ak 7 rfl (J b2 (ba (ar rfl rfl ⟨congrArg Value.bool (by rw [eO,← et];simp only [dM aS,bZ']),E⟩)))
theorem Ar (w:World) (s:aa):Calls Tryz.prog 129 [S s].toArray w (bM fun u w'=>u = .bool (fa s)∧Mod [] w w'):=by
 refine enter Tryz.func129 rfl rfl rfl (l:=[(0,_)]) ⟨rfl,trivial⟩ ?_;have E:=Mod.refl [] w;refine ab fun aV=>aU rfl (J aV (ab fun aL=>aG rfl (ag (br Tryz.underlying9 rfl) (ag (pR rfl rfl) ?_))));refine da (fun aS:(s.length:Int)≤255=>?_) (fun aS=>?_)
 ·refine ak 2 rfl (fC (bE Ln rfl) (Cx _ s) fun aB R=>?_);replace E:=E.then R;refine nk (fun bn:(ck s)=true=>?_) (fun bn=>?_)
  ·exact ak 2 rfl (J aL (ba (ar rfl rfl ⟨congrArg Value.bool (by rw [fa];simp only [bd aS,bn,bZ']),E⟩)))
  exact ak 2 rfl (J aL (ba (ar rfl rfl ⟨congrArg Value.bool (by rw [fa];simp only [bd aS,dM bn,bZ']),E⟩)))
 exact ak 5 rfl (J aL (ba (ar rfl rfl ⟨congrArg Value.bool (by rw [fa];simp only [bJ aS,bZ']),E⟩)))
theorem Tz (w:World) (s:aa):Calls Tryz.prog 81 [S s].toArray w (bM fun u w'=>u = .bool (fa s)∧Mod [] w w'):=by
 refine enter Tryz.func81 rfl rfl rfl (l:=[(0,_)]) ⟨rfl,trivial⟩ ?_;have E:=Mod.refl [] w;refine ab fun aV=>aU rfl (J aV (ab fun aL=>aG rfl (ag (br Tryz.underlying9 rfl) (ag (pR rfl rfl) ?_))));refine da (fun aS:(s.length:Int)≤255=>?_) (fun aS=>?_)
 ·refine ak 2 rfl (fC (bE Kk rfl) (By _ _) fun aB R=>?_);replace E:=E.then R;refine nk (fun bn:(ck s)=true=>?_) (fun bn=>?_)
  ·exact ak 2 rfl (J aL (ba (ar rfl rfl ⟨congrArg Value.bool (by rw [fa];simp only [bd aS,bn,bZ']),E⟩)))
  exact ak 2 rfl (J aL (ba (ar rfl rfl ⟨congrArg Value.bool (by rw [fa];simp only [bd aS,dM bn,bZ']),E⟩)))
 exact ak 5 rfl (J aL (ba (ar rfl rfl ⟨congrArg Value.bool (by rw [fa];simp only [bJ aS,bZ']),E⟩)))
theorem CH (w:World) (n:Int):Calls Tryz.prog 130 [.int .i64 n].toArray w (bM fun u w'=>u = .bool (ng n)∧Mod [] w w'):=by
 refine enter Tryz.func130 rfl rfl rfl (l:=[(0,_)]) ⟨rfl,trivial⟩ ?_;have E:=Mod.refl [] w;refine ab fun aV=>aU rfl (J aV (ab fun aL=>aG rfl (ag (dq rfl rfl) ?_)));refine da (fun aS:0≤n=>?_) (fun aS=>?_)
 ·refine ak 3 rfl ?_;refine da (fun bn:n≤9007199254740991=>?_) (fun bn=>?_)
  ·exact ak 2 rfl (J aL (ba (ar rfl rfl ⟨congrArg Value.bool (by rw [ng];simp only [bd aS,bd bn,bZ']),E⟩)))
  exact ak 2 rfl (J aL (ba (ar rfl rfl ⟨congrArg Value.bool (by rw [ng];simp only [bd aS,bJ bn,bZ']),E⟩)))
 exact ak 5 rfl (J aL (ba (ar rfl rfl ⟨congrArg Value.bool (by rw [ng];simp only [bJ aS,bZ']),E⟩)))
theorem Zs (w:World) (l:List dQ) (ad:Option Addr) (c:Nat) (arZ:a8 [] w (flat 3 dQ.cells l) (.slice ad l.length c)) (hlen:∀ s∈l,s.db.length<4294967281∧s.key.length≤140737488351232∧s.sig.length≤140737488351232) (arf:l.length≤140737488351232) (eW:je w):Calls Tryz.prog 132 [.slice ad l.length c].toArray w (bM fun u w'=>u = .bool (ed none l)∧Mod [] w w'):=by
 refine enter Tryz.func132 rfl rfl rfl (l:=[(0,_)]) ⟨rfl,trivial⟩ ?_;have E:=Mod.refl [] w;obtain⟨_,c9,JG,TE,TF⟩:=fO arZ;injection JG with _ _ JH
 subst JH;refine ab fun aV=>aU rfl (J aV (ax fun aL=>ab fun aX=>aG rfl (ag (bs Tryz.underlying27 rfl) (aG rfl (J aX (eE (bX (σ:=Nat) (fun k=>[(0,.slice ad l.length c),(5,.slice ad l.length c),(6,.int .i64 (l.length:Int)),(7,.int .i64 (k:Int))]) (fun k aB=>k≤l.length∧ed none l=ed (kr l k) (l.drop k)∧Mod [] w aB) (fun k=>l.length-k) (0) ⟨rfl,rfl,rfl,rfl,trivial⟩ (⟨by omega,rfl,E⟩) ?_)))))));rintro k aB ⟨hk,hinv,E⟩;refine ab fun bt=>ag (cL rfl rfl) (J bt (ax fun bN=>?_));refine aK rfl (fun kt=>?_) (fun kt=>?_);rotate_left
 ·exact bo (aR (by simp) (aR (by simp) (bU (au aL (ab fun dO=>aU rfl (J dO (ba (ar rfl rfl ⟨by rw [hinv,Au (by omega)],E⟩))))))))
 refine b8 (au bN (ax fun b2=>eE (ab fun cd=>aG rfl ?_)));obtain⟨x,bO⟩:∃ x,l[k]? = some x:=⟨_,List.getElem?_eq_getElem (by omega)⟩;obtain⟨j6,dL,cu,_⟩:=eC (arZ.bG E) bO;cases dL;obtain⟨JI,TG,JJ⟩:=hlen x (List.mem_of_getElem? bO);refine ag (ca hj rfl rfl (by omega)) (ag (bc rl rfl rfl cu) (bp Ab rfl fun g1 cO bT=>?_));have bI:=bT.le E;replace E:=E.then bT.mod;have U:=bT.aA;refine aU rfl (bm (vs:=[_,_,_]) rl U rfl rfl rfl (by simp [Value.oneCell']) (by simp) fun gb sw=>?_);replace E:=E.own sw.mod bI;replace U:aE gb g1 _ [_,_,_]:=sw.aA;refine J cd (ax fun cD=>ab fun cJ=>ag (av eB rfl) (ag (bg bB rfl (U.cell rfl)) (cQ (bE El rfl) (wS _ x.db JI (eW.I E)) fun iu R=>?_)));replace U:=U.I R;replace E:=E.then R;refine ag (e4 rfl) ?_;refine nk (fun aS:(!dw x.db)=true=>?_) (fun aS=>?_)
 ·refine ak 12 rfl (J cJ (aF rfl ?_));have az:dw x.db=false:=by simpa using aS
  have i':ed none l=false:=by rw [hinv,fw bO,show l5 x=false by simp [l5,az]];rfl
  exact ab fun cf=>aU rfl (J cf (ba (aR (by simp) (bz (by simp) (aR (by simp) (aR (by simp) (bz (by simp) (aR (by simp) (ar rfl rfl ⟨by rw [i'],E⟩)))))))))
 refine aG rfl (aw (av jz rfl) (aw (bg bB rfl (U.cell rfl)) (fC (bE Zr rfl) (aek _ x.key) fun js R=>?_)));replace U:=U.I R;replace E:=E.then R;refine aw (e4 rfl) ?_;refine nk (fun bn:(!nI x.key)=true=>?_) (fun bn=>?_)
 ·refine ak 7 rfl (J cJ (aF rfl ?_));have az:nI x.key=false:=by simpa using bn
  have i':ed none l=false:=by rw [hinv,fw bO,show l5 x=false by simp [l5,az]];rfl
  exact ab fun b1=>aU rfl (J b1 (ba (aR (by simp) (bz (by simp) (aR (by simp) (aR (by simp) (bz (by simp) (aR (by simp) (ar rfl rfl ⟨by rw [i'],E⟩)))))))))
 refine ak 2 rfl (aw (av po rfl) (aw (bg bB rfl (U.cell rfl)) (fC (bE LH rfl) (Ht _ x.sig 64 JJ) fun jD R=>?_)));replace U:=U.I R;replace E:=E.then R;refine aw (e4 rfl) ?_;refine nk (fun bD:(!eO x.sig 64)=true=>?_) (fun bD=>?_)
 ·refine ag (jA rfl rfl rfl) (J cJ (aF rfl ?_));have az:eO x.sig 64=false:=by simpa using bD
  have i':ed none l=false:=by rw [hinv,fw bO,show l5 x=false by simp [l5,az]];rfl
  exact ab fun cX=>aU rfl (J cX (ba (aR (by simp) (bz (by simp) (aR (by simp) (aR (by simp) (bz (by simp) (aR (by simp) (ar rfl rfl ⟨by rw [i'],E⟩)))))))))
 refine ag (jA rfl rfl rfl) (J cJ (aD rfl ?_));have g0:dw x.db=true:=by simpa using aS
 have aeu:nI x.key=true:=by simpa using bn
 have aev:eO x.sig 64=true:=by simpa using bD
 have As:l5 x=true:=by rw [l5,g0,aeu,aev];rfl
 refine b8 (au cD (ax fun cb=>?_))
 by_cases cC:(k:Int) > 0
 rotate_left
 ·refine bQ wide (by kernel_rfl) (f' 3 rfl rfl (eF rfl (bJ cC) (eF rfl (bJ cC) (eF rfl (bJ cC) (eF rfl (bJ cC) (eF rfl (bJ cC) (eF rfl (bJ cC) (eF rfl (bJ cC) (eF rfl (bJ cC) (eF rfl (bJ cC) (eF rfl (bJ cC) (f' 20 rfl rfl (eF rfl (bJ cC) ?_)))))))))))));refine aj (fun R=>(jA (bJ cC) rfl rfl)) (bS rfl fun kl R=>?_);replace U:=U.I R;replace E:=E.then R;refine au cb (aD rfl ?_);have oY:ed none l=ed (kr l (k+1)) (l.drop (k+1)):=by rw [hinv,fw bO,As,TI (by omega)];rfl
  exact b8 (bz (by simp) (au b2 (bP (ag (aO rfl rfl (by omega)) (aG rfl (cF (fK (σ:=Nat) (s:=k) (k+1) ⟨rfl,rfl,rfl,rfl,trivial⟩ ⟨by omega,oY,E⟩ (by omega))))))))
 obtain⟨q,jx⟩:∃ x,l[k-1]? = some x:=⟨_,List.getElem?_eq_getElem (by omega)⟩;obtain⟨Ig,uz,iW,_⟩:=eC (arZ.bG E) jx;cases uz;obtain⟨aew,aex,aey⟩:=hlen q (List.mem_of_getElem? jx)
 by_cases cV:(!(eQ q.db x.db||q.db == x.db))=true
 ·refine bQ wide (by kernel_rfl) (f' 3 rfl rfl (aM (bd cC) (fun R=>(d' rfl)) (aM (bd cC) (fun R=>(d' rfl)) (aM (bd cC) (fun R=>(ew (r:=((k-1:Nat):Int)) rfl rfl (by rw [wrap64_in _ (by omega)];omega))) (aM (bd cC) (fun R=>(ca hj rfl rfl (by omega))) (aM (bd cC) (fun R=>(dB eB rfl)) (aM (bd cC) (fun R=>(bg bB rfl ((iW.I R) 0 _ rfl))) (aM (bd cC) (fun R=>(av eB rfl)) (aM (bd cC) (fun R=>(bg bB rfl ((U.I R).cell rfl))) (aM (bd cC) (fun R=>(vR rfl rfl)) (aM (bd cC) (fun R=>(d' rfl)) (eF rfl cV (eF rfl cV ?_)))))))))))));refine eF rfl cV (eF rfl cV (eF rfl cV (eF rfl cV (eF rfl cV (eF rfl cV (eF rfl cV (eF rfl cV (f' 9 rfl rfl (eF rfl cV (aM (bd cC) (fun R=>(lT cV rfl rfl)) (aj (fun R=>(lT (bd cC) rfl rfl)) (bS rfl fun iv R=>?_))))))))))));replace U:=U.I R;replace E:=E.then R;refine au cb (aF rfl ?_);have oZ:gK q x=true:=by rw [gK];simp only [cV,bZ']
  have i':ed none l=false:=by rw [hinv,fw bO,pL jx (by omega),oZ];simp
  exact ab fun cU=>aU rfl (J cU (ba (bz (by simp) (aR (by simp) (aR (by simp) (bz (by simp) (aR (by simp) (ar rfl rfl ⟨by rw [i'],E⟩))))))))
 by_cases ey:q.db=x.db
 rotate_left
 ·refine bQ wide (by kernel_rfl) (f' 3 rfl rfl (aM (bd cC) (fun R=>(d' rfl)) (aM (bd cC) (fun R=>(d' rfl)) (aM (bd cC) (fun R=>(ew (r:=((k-1:Nat):Int)) rfl rfl (by rw [wrap64_in _ (by omega)];omega))) (aM (bd cC) (fun R=>(ca hj rfl rfl (by omega))) (aM (bd cC) (fun R=>(dB eB rfl)) (aM (bd cC) (fun R=>(bg bB rfl ((iW.I R) 0 _ rfl))) (aM (bd cC) (fun R=>(av eB rfl)) (aM (bd cC) (fun R=>(bg bB rfl ((U.I R).cell rfl))) (aM (bd cC) (fun R=>(vR rfl rfl)) (aM (bd cC) (fun R=>(d' rfl)) (aM (dM cV) (fun R=>(d' rfl)) (aM (dM cV) (fun R=>(d' rfl)) ?_)))))))))))));refine aM (dM cV) (fun R=>(ew (r:=((k-1:Nat):Int)) rfl rfl (by rw [wrap64_in _ (by omega)];omega))) (aM (dM cV) (fun R=>(ca hj rfl rfl (by omega))) (aM (dM cV) (fun R=>(dB eB rfl)) (aM (dM cV) (fun R=>(bg bB rfl ((iW.I R) 0 _ rfl))) (aM (dM cV) (fun R=>(av eB rfl)) (aM (dM cV) (fun R=>(bg bB rfl ((U.I R).cell rfl))) (aM (dM cV) (fun R=>(dG rfl rfl)) (aM (dM cV) (fun R=>(d' rfl)) (eF rfl (bJ ey) (eF rfl (bJ ey) (eF rfl (bJ ey) (eF rfl (bJ ey) (eF rfl (bJ ey) (eF rfl (bJ ey) ?_)))))))))))));refine eF rfl (bJ ey) (eF rfl (bJ ey) (eF rfl (bJ ey) (aM (dM cV) (fun R=>(jA (bJ ey) rfl rfl)) (aM (bd cC) (fun R=>(jA (dM cV) rfl rfl)) (aj (fun R=>(lT (bd cC) rfl rfl)) (bS rfl fun iw R=>?_))))));replace U:=U.I R;replace E:=E.then R;refine au cb (aD rfl ?_);have oZ:gK q x=false:=by rw [gK];simp only [dM cV,bJ ey,bZ']
  have oY:ed none l=ed (kr l (k+1)) (l.drop (k+1)):=by rw [hinv,fw bO,As,pL jx (by omega),oZ];rfl
  exact b8 (bz (by simp) (au b2 (bP (ag (aO rfl rfl (by omega)) (aG rfl (cF (fK (σ:=Nat) (s:=k) (k+1) ⟨rfl,rfl,rfl,rfl,trivial⟩ ⟨by omega,oY,E⟩ (by omega))))))))
 by_cases nh:(!eQ q.key x.key)=true
 ·refine bQ wide (by kernel_rfl) (f' 3 rfl rfl (aM (bd cC) (fun R=>(d' rfl)) (aM (bd cC) (fun R=>(d' rfl)) (aM (bd cC) (fun R=>(ew (r:=((k-1:Nat):Int)) rfl rfl (by rw [wrap64_in _ (by omega)];omega))) (aM (bd cC) (fun R=>(ca hj rfl rfl (by omega))) (aM (bd cC) (fun R=>(dB eB rfl)) (aM (bd cC) (fun R=>(bg bB rfl ((iW.I R) 0 _ rfl))) (aM (bd cC) (fun R=>(av eB rfl)) (aM (bd cC) (fun R=>(bg bB rfl ((U.I R).cell rfl))) (aM (bd cC) (fun R=>(vR rfl rfl)) (aM (bd cC) (fun R=>(d' rfl)) (aM (dM cV) (fun R=>(d' rfl)) (aM (dM cV) (fun R=>(d' rfl)) ?_)))))))))))));refine aM (dM cV) (fun R=>(ew (r:=((k-1:Nat):Int)) rfl rfl (by rw [wrap64_in _ (by omega)];omega))) (aM (dM cV) (fun R=>(ca hj rfl rfl (by omega))) (aM (dM cV) (fun R=>(dB eB rfl)) (aM (dM cV) (fun R=>(bg bB rfl ((iW.I R) 0 _ rfl))) (aM (dM cV) (fun R=>(av eB rfl)) (aM (dM cV) (fun R=>(bg bB rfl ((U.I R).cell rfl))) (aM (dM cV) (fun R=>(dG rfl rfl)) (aM (dM cV) (fun R=>(d' rfl)) (aM (bd ey) (fun R=>(d' rfl)) (aM (bd ey) (fun R=>(d' rfl)) (aM (bd ey) (fun R=>(ew (r:=((k-1:Nat):Int)) rfl rfl (by rw [wrap64_in _ (by omega)];omega))) (aM (bd ey) (fun R=>(ca hj rfl rfl (by omega))) (aM (bd ey) (fun R=>(dB jz rfl)) (aM (bd ey) (fun R=>(bg bB rfl ((iW.I R) 1 _ rfl))) ?_)))))))))))));refine aM (bd ey) (fun R=>(av jz rfl)) (aM (bd ey) (fun R=>(bg bB rfl ((U.I R).cell rfl))) (aM (bd ey) (fun R=>(zH rfl rfl)) (aM (dM cV) (fun R=>(lT (bd ey) rfl rfl)) (aM (bd cC) (fun R=>(jA (dM cV) rfl rfl)) (aj (fun R=>(lT (bd cC) rfl rfl)) (bS rfl fun oj R=>?_))))));replace U:=U.I R;replace E:=E.then R;refine au cb ?_;refine a1 rfl (fun TH=>?_) (fun TH=>absurd (nh.symm.trans TH) (by decide));have oZ:gK q x=true:=by rw [gK];simp only [dM cV,bd ey,nh,bZ']
  have i':ed none l=false:=by rw [hinv,fw bO,pL jx (by omega),oZ];simp
  exact ab fun dj=>aU rfl (J dj (ba (bz (by simp) (aR (by simp) (aR (by simp) (bz (by simp) (aR (by simp) (ar rfl rfl ⟨by rw [i'],E⟩))))))))
 refine bQ wide (by kernel_rfl) (f' 3 rfl rfl (aM (bd cC) (fun R=>(d' rfl)) (aM (bd cC) (fun R=>(d' rfl)) (aM (bd cC) (fun R=>(ew (r:=((k-1:Nat):Int)) rfl rfl (by rw [wrap64_in _ (by omega)];omega))) (aM (bd cC) (fun R=>(ca hj rfl rfl (by omega))) (aM (bd cC) (fun R=>(dB eB rfl)) (aM (bd cC) (fun R=>(bg bB rfl ((iW.I R) 0 _ rfl))) (aM (bd cC) (fun R=>(av eB rfl)) (aM (bd cC) (fun R=>(bg bB rfl ((U.I R).cell rfl))) (aM (bd cC) (fun R=>(vR rfl rfl)) (aM (bd cC) (fun R=>(d' rfl)) (aM (dM cV) (fun R=>(d' rfl)) (aM (dM cV) (fun R=>(d' rfl)) ?_)))))))))))));refine aM (dM cV) (fun R=>(ew (r:=((k-1:Nat):Int)) rfl rfl (by rw [wrap64_in _ (by omega)];omega))) (aM (dM cV) (fun R=>(ca hj rfl rfl (by omega))) (aM (dM cV) (fun R=>(dB eB rfl)) (aM (dM cV) (fun R=>(bg bB rfl ((iW.I R) 0 _ rfl))) (aM (dM cV) (fun R=>(av eB rfl)) (aM (dM cV) (fun R=>(bg bB rfl ((U.I R).cell rfl))) (aM (dM cV) (fun R=>(dG rfl rfl)) (aM (dM cV) (fun R=>(d' rfl)) (aM (bd ey) (fun R=>(d' rfl)) (aM (bd ey) (fun R=>(d' rfl)) (aM (bd ey) (fun R=>(ew (r:=((k-1:Nat):Int)) rfl rfl (by rw [wrap64_in _ (by omega)];omega))) (aM (bd ey) (fun R=>(ca hj rfl rfl (by omega))) (aM (bd ey) (fun R=>(dB jz rfl)) (aM (bd ey) (fun R=>(bg bB rfl ((iW.I R) 1 _ rfl))) ?_)))))))))))));refine aM (bd ey) (fun R=>(av jz rfl)) (aM (bd ey) (fun R=>(bg bB rfl ((U.I R).cell rfl))) (aM (bd ey) (fun R=>(zH rfl rfl)) (aM (dM cV) (fun R=>(lT (bd ey) rfl rfl)) (aM (bd cC) (fun R=>(jA (dM cV) rfl rfl)) (aj (fun R=>(lT (bd cC) rfl rfl)) (bS rfl fun l1 R=>?_))))));replace U:=U.I R;replace E:=E.then R;refine au cb (a1 rfl (fun TH=>absurd ((dM nh).symm.trans TH) (by decide)) (fun TH=>?_));have oZ:gK q x=false:=by rw [gK];simp only [dM cV,bd ey,dM nh,bZ']
 have oY:ed none l=ed (kr l (k+1)) (l.drop (k+1)):=by rw [hinv,fw bO,As,pL jx (by omega),oZ];rfl
 exact b8 (bz (by simp) (au b2 (bP (ag (aO rfl rfl (by omega)) (aG rfl (cF (fK (σ:=Nat) (s:=k) (k+1) ⟨rfl,rfl,rfl,rfl,trivial⟩ ⟨by omega,oY,E⟩ (by omega))))))))
set_option maxRecDepth 10000
def JV.seven:JV:=.mk 2 false 7 [] [] []
end Go.Proofs.YtnihidkbkhcfoaaGreatDoor.V
