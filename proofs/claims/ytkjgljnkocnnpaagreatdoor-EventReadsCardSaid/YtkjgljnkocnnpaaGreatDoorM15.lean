/-
  A part of the proof: walks of functions. No condition of its own.
-/
import Derived.Test.YtkjgljnkocnnpaaGreatDoorM0
import Derived.Test.YtkjgljnkocnnpaaGreatDoorM14
import Derived.Test.YtkjgljnkocnnpaaGreatDoorM3
import Derived.Test.YtkjgljnkocnnpaaGreatDoorM10
import Derived.Test.YtkjgljnkocnnpaaGreatDoorM4
import Derived.Test.YtkjgljnkocnnpaaGreatDoorM5
import Derived.Test.YtkjgljnkocnnpaaGreatDoorM11
import Derived.Test.YtkjgljnkocnnpaaGreatDoorM9
set_option linter.all false
set_option maxRecDepth 10000
namespace Go.Proofs.YtkjgljnkocnnpaaGreatDoor.V
open Go Go.Proofs
def s3:=eW Tryz.func146
def gS:=eW Tryz.func72
theorem mP (w:World) (s:ab) (k:Nat) (hk:k≤s.length) (bh:s.length≤1000000):Calls aR 41 [S s,.int .i64 (k:Int)].toArray w (bH fun u w'=>u = .int .i64 ((ai aT s k:Nat):Int)∧Mod [] w w'):=by
 refine cY Tryz.func41 rfl fun E=>aa fun a6=>a7 rfl (J a6 (aB fun aQ=>eN (bK (σ:=Nat) (fun p=>[(0,S s),(1,.int .i64 (p:Int))]) (fun p aJ=>(k≤p∧p≤s.length∧ai aT s p=ai aT s k)∧Mod [] w aJ) (fun p=>s.length-p) (k) (⟨⟨Nat.le_refl _,hk,rfl⟩,E⟩) ?_)));rintro p aJ ⟨⟨Wh,cc,kx⟩,E⟩;refine aB fun a'=>aa fun bp=>aj 2 rfl (ah (bQ aA rfl) (ah (cT rfl rfl) ?_));refine c7 (fun bM:(p:Int)<(s.length:Int)=>?_) (fun bM=>?_);rotate_left
 ·refine aj 24 rfl (J bp (aI rfl ?_));have k0:p=ai aT s k:=by
   rw [← kx]
   first | exact(gk (by omega)).symm | exact(fU aZ (Ja (by omega))).symm
  exact bL (aP (aP (ch (av aQ (aa fun bO=>aj 2 rfl (J bO (bn (aG rfl rfl ⟨by rw [← k0],E⟩))))))))
 obtain⟨c,aZ⟩:∃ c,s[p]? = some c:=⟨_,List.getElem?_eq_getElem (by omega)⟩;have lJ:=c.toNat_lt;refine aj 3 rfl (ay (bN aA rfl rfl aZ) (ay (k1 rfl rfl) ?_));refine c7 (fun h1:(c.toNat:Int)=32=>?_) (fun h1=>?_)
 ·refine aj 19 rfl (J bp (az rfl ?_));have g':aT c=true:=xg (by omega);exact b' (av a' (eN (b5 (aO rfl (ah (aS (r:=((p+1:Nat):Int)) rfl rfl) (a7 rfl (cx (bw (aw (σ:=Nat) (s:=p) (p+1) ⟨⟨by omega,by omega,by rw [fD aZ g'];exact kx⟩,E⟩)))))))))
 refine aj 3 rfl (ay (bN aA rfl rfl aZ) (ay (k1 rfl rfl) ?_));refine c7 (fun aq:(c.toNat:Int)=9=>?_) (fun aq=>?_)
 ·refine aj 14 rfl (J bp (az rfl ?_));have g':aT c=true:=xg (by omega);exact b' (av a' (eN (b5 (aO rfl (ah (aS (r:=((p+1:Nat):Int)) rfl rfl) (a7 rfl (cx (bw (aw (σ:=Nat) (s:=p) (p+1) ⟨⟨by omega,by omega,by rw [fD aZ g'];exact kx⟩,E⟩)))))))))
 refine aj 4 rfl (ay (bN aA rfl rfl aZ) (ay (k1 rfl rfl) ?_));refine c7 (fun bb:(c.toNat:Int)=10=>?_) (fun bb=>?_)
 ·refine aj 8 rfl (J bp (az rfl ?_));have g':aT c=true:=xg (by omega);exact b' (av a' (eN (b5 (aO rfl (ah (aS (r:=((p+1:Nat):Int)) rfl rfl) (a7 rfl (cx (bw (aw (σ:=Nat) (s:=p) (p+1) ⟨⟨by omega,by omega,by rw [fD aZ g'];exact kx⟩,E⟩)))))))))
 refine aj 4 rfl (ay (bN aA rfl rfl aZ) (ay (k1 rfl rfl) ?_));refine c7 (fun bP:(c.toNat:Int)=13=>?_) (fun bP=>?_)
 ·refine aj 2 rfl (J bp (az rfl ?_));have g':aT c=true:=xg (by omega);exact b' (av a' (eN (b5 (aO rfl (ah (aS (r:=((p+1:Nat):Int)) rfl rfl) (a7 rfl (cx (bw (aw (σ:=Nat) (s:=p) (p+1) ⟨⟨by omega,by omega,by rw [fD aZ g'];exact kx⟩,E⟩)))))))))
 refine aj 2 rfl (J bp (aI rfl ?_));have k0:p=ai aT s k:=by
  rw [← kx]
  first | exact(gk (by omega)).symm | exact(fU aZ (Ja (by omega))).symm
 exact bL (aP (aP (ch (av aQ (aa fun bx=>aj 2 rfl (J bx (bn (aG rfl rfl ⟨by rw [← k0],E⟩))))))))
theorem s4 (w:World) (s:ab) (k:Nat) (hk:k≤s.length) (bh:s.length≤1000000):Calls aR 146 [S s,.int .i64 (k:Int)].toArray w (bH fun u w'=>u = .int .i64 ((ai ct s k:Nat):Int)∧Mod [] w w'):=by
 refine cY Tryz.func146 rfl fun E=>aa fun a6=>a7 rfl (J a6 (aB fun aQ=>eN (bK (σ:=Nat) (fun p=>[(0,S s),(1,.int .i64 (p:Int))]) (fun p aJ=>(k≤p∧p≤s.length∧ai ct s p=ai ct s k)∧Mod [] w aJ) (fun p=>s.length-p) (k) (⟨⟨Nat.le_refl _,hk,rfl⟩,E⟩) ?_)));rintro p aJ ⟨⟨Wh,cc,kx⟩,E⟩;refine aB fun a'=>aa fun bp=>aj 2 rfl (ah (bQ aA rfl) (ah (cT rfl rfl) ?_));refine c7 (fun bM:(p:Int)<(s.length:Int)=>?_) (fun bM=>?_);rotate_left
 ·refine aj 12 rfl (J bp (aI rfl ?_));have k0:p=ai ct s k:=by
   rw [← kx]
   first | exact(gk (by omega)).symm | exact(fU aZ (AN (by omega))).symm
  exact bL (aP (aP (ch (av aQ (aa fun b4=>aj 2 rfl (J b4 (bn (aG rfl rfl ⟨by rw [← k0],E⟩))))))))
 obtain⟨c,aZ⟩:∃ c,s[p]? = some c:=⟨_,List.getElem?_eq_getElem (by omega)⟩;have lJ:=c.toNat_lt;refine aj 3 rfl (ay (bN aA rfl rfl aZ) (ay (dA rfl rfl) ?_));refine c7 (fun h1:(c.toNat:Int)≥48=>?_) (fun h1=>?_)
 ·refine aj 4 rfl (ay (bN aA rfl rfl aZ) (ay (pr rfl rfl) ?_));refine c7 (fun aq:(c.toNat:Int)≤57=>?_) (fun aq=>?_)
  ·refine ah (oH rfl rfl rfl) (J bp (az rfl ?_));have g':ct c=true:=OS (by omega);exact b' (av a' (eN (b5 (aO rfl (ah (aS (r:=((p+1:Nat):Int)) rfl rfl) (a7 rfl (cx (bw (aw (σ:=Nat) (s:=p) (p+1) ⟨⟨by omega,by omega,by rw [fD aZ g'];exact kx⟩,E⟩)))))))))
  refine ah (oH rfl rfl rfl) (J bp (aI rfl ?_));have k0:p=ai ct s k:=by
   rw [← kx]
   first | exact(gk (by omega)).symm | exact(fU aZ (AN (by omega))).symm
  exact bL (aP (aP (ch (av aQ (aa fun bx=>aj 2 rfl (J bx (bn (aG rfl rfl ⟨by rw [← k0],E⟩))))))))
 refine aj 7 rfl (J bp (aI rfl ?_));have k0:p=ai ct s k:=by
  rw [← kx]
  first | exact(gk (by omega)).symm | exact(fU aZ (AN (by omega))).symm
 exact bL (aP (aP (ch (av aQ (aa fun bO=>aj 2 rfl (J bO (bn (aG rfl rfl ⟨by rw [← k0],E⟩))))))))
theorem fi (w:World) (s t:ab) (k:Nat) (hk:k≤s.length) (bh:s.length≤1000000):Calls aR 72 [S s,.int .i64 (k:Int),S t].toArray w (bH fun u w'=>u = .bool (aC s k t)∧Mod [] w w'):=by
 refine iZ Tryz.func72 rfl fun E=>aa fun a6=>a7 rfl (J a6 (aa fun aQ=>aO rfl (ah (bQ aA rfl) (aO rfl (ah (xq rfl rfl (by omega)) (aO rfl (ah (bQ aA rfl) (ah (dA rfl rfl) ?_))))))));refine c7 (fun e5:((s.length:Int)-(k:Int))≥(t.length:Int)=>?_) (fun e5=>?_)
 ·exact aj 5 rfl (ay (bQ aA rfl) (ay (aS (r:=((k+t.length:Nat):Int)) rfl rfl) (ay ((tS aA rfl rfl rfl (by simp only [ib,iR];omega)).to (v':=S ((s.drop k).take t.length)) (by simp only [ib,iR,Int.toNat_natCast];rw [Nat.add_sub_cancel_left])) (ay (fj rfl) (ay (jr rfl rfl) (aj 2 rfl (J aQ (bn (aG rfl rfl ⟨by first | (rw [kf]) | (rw [yG]),E⟩)))))))))
 have kf:aC s k t=false:=V' (by omega) hk;exact aj 12 rfl (J aQ (bn (aG rfl rfl ⟨by first | (rw [kf]) | (rw [yG]),E⟩)))
set_option maxHeartbeats 2000000 in
theorem yQ (w:World) (s:ab) (bh:s.length≤1000000):Calls aR 111 [S s].toArray w (bH fun u w'=>u = .tuple #[.bool (dw s).1,.bool (dw s).2]∧Mod [] w w'):=by
 refine bs Tryz.func111 rfl fun E=>aa fun a6=>aj 2 rfl (J a6 (aa fun aQ=>a7 rfl (J aQ (mU fun K3 a'=>?_))));have J3:∀ (a0:Nat) (aJ:World),a0=(if aC s 0 [45] then 1 else 0)∧Mod [] w aJ→∀ a,Has 73 [] [(0,S s),(4,.int .i64 (a0:Int))] a→K3 a aJ:=by
  intro a0 aJ lI;obtain⟨aE,E⟩:=lI;refine a' _ _ _ _ (aB fun bp=>?_);have F4:a0≤s.length:=ET aE;refine b5 (aj 2 rfl (cG E (bB s3 rfl) (s4 _ s a0 F4 bh) fun cX U E=>?_));obtain⟨e,he⟩:∃ e,e=ai ct s a0:=⟨_,rfl⟩;rw [← he];have e5:=dc ct s a0;have hle:ai ct s a0≤s.length:=dD F4;rw [← he] at e5 hle;refine a7 rfl (J bp (aB fun bx=>aa fun bO=>aj 3 rfl ?_));refine c7 (fun h1:(e:Int)=(a0:Int)=>?_) (fun h1=>?_)
  ·refine aj 12 rfl (J bO (az rfl ?_));have dR:=Jb aE he (by first | exact .inl (by omega) | exact .inr ⟨by omega,by rw [aZ,dT (show(c.toNat:Int)=(48:UInt8).toNat from bb)]⟩);exact aa fun b4=>aj 2 rfl (J b4 (bn (aP (cj rfl rfl rfl ⟨by rw [dR],E⟩))))
  refine aj 3 rfl (ay (aS (r:=((a0+1:Nat):Int)) rfl rfl) (ay (hV rfl rfl) ?_));refine c7 (fun aq:(e:Int) > ((a0+1:Nat):Int)=>?_) (fun aq=>?_);rotate_left
  ·refine aj 7 rfl (J bO (aI rfl ?_));have jN:¬ (e=a0∨(a0+1<e∧s[a0]? = some 48)):=by
    rintro(h | ⟨h,fW⟩)
    ·omega
    first | omega | (rw [aZ] at fW;injection fW with fW;subst fW;exact bb rfl)
   refine b' (av bx (aa fun qp=>a7 rfl (J qp (mU fun asJ r8=>?_))));have amQ:∀ (bu:Nat) (m:Bool) (aJ:World),m=aC s e [46]∧bu=(if aC s e [46] then ai ct s (e+1)else e)∧¬ (aC s e [46]=true∧ai ct s (e+1)=e+1)∧bu≤s.length∧Mod [] w aJ→∀ a,Has 73 [] [(0,S s),(5,.int .i64 (bu:Int)),(6,.bool m)] a→asJ a aJ:=by
    intro bu m qT lI;obtain⟨rfl,l7,ui,qZ,E⟩:=lI;refine r8 _ _ _ _ (mU fun asK qq=>?_);have aht:∀ (kH:Nat) (m3:Bool) (aJ:World),dw s=(decide (kH=s.length),m3)∧Mod [] w aJ→∀ a,Has 73 [] [(0,S s),(5,.int .i64 (kH:Int)),(6,.bool m3)] a→asK a aJ:=by
     intro kH m3 qU lI;obtain⟨hI,E⟩:=lI;exact qq _ _ _ _ (aa fun r9=>aj 2 rfl (ah (bQ aA rfl) (aj 4 rfl (J r9 (bn (cj rfl rfl rfl ⟨by rw [hI];congr 2;simp;omega,E⟩))))))
    refine aa fun tO=>aj 2 rfl (cG E (bB gS rfl) (fi _ s [101] bu qZ bh) fun qV U E=>?_);refine tn (fun q0:(aC s bu [101])=true=>?_) (fun q0=>?_)
    ·refine aj 5 rfl (J tO (az rfl ?_));have gR:(aC s bu [101]||aC s bu [69])=true:=by first | (simp only [q0,Bool.true_or];done) | (simp only [q0,Bool.false_or];first | exact pf | exact r')
     have tj:bu+1≤s.length:=by rcases Bool.or_eq_true_iff.1 gR with h | h <;> exact b9 h (by simp)
     refine aa fun zt=>a7 rfl (J zt (aa fun nQ=>aO rfl (ah (aS (r:=((bu+1:Nat):Int)) rfl rfl) (a7 rfl (J nQ (mU fun asL BA=>?_))))));have ahu:∀ (ee:Nat) (aJ:World),ee=(if aC s (bu+1) [43]||aC s (bu+1) [45] then bu+2 else bu+1)∧ee≤s.length∧Mod [] w aJ→∀ a,Has 73 [] [(0,S s),(5,.int .i64 (ee:Int)),(6,.bool true)] a→asL a aJ:=by
      intro ee pK lI;obtain⟨l8,l6,E⟩:=lI;refine BA _ _ _ _ (aa fun BB=>aj 2 rfl (cG E (bB s3 rfl) (s4 _ s ee l6 bh) fun ts U E=>a7 rfl (J BB (aB fun Ev=>aa fun sb=>aj 3 rfl (J sb ?_)))));refine aX rfl (fun yn=>?_) (fun yn=>?_)
      ·have dR:=xh aE he jN ui l7 gR l8 (by omega);exact aa fun zu=>aj 2 rfl (J zu (bn (aP (aP (cj rfl rfl rfl ⟨by rw [dR],E⟩)))))
      have Cg:=AO aE he jN ui l7 gR l8 (by omega);refine b' (av Ev (b5 (aj 2 rfl (cx ?_))));refine fH.sub (l':=[(0,_),(5,_),(6,_)]) ⟨rfl,rfl,rfl,trivial⟩ (dq (aht (ai ct s ee) true ts ⟨Cg,E⟩))
     refine aa fun BC=>aj 2 rfl (cG E (bB gS rfl) (fi _ s [43] (bu+1) tj bh) fun sJ U E=>?_);refine tn (fun jK:(aC s (bu+1) [43])=true=>?_) (fun jK=>?_)
     ·refine aj 5 rfl (J BC (az rfl ?_));have lX:(aC s (bu+1) [43]||aC s (bu+1) [45])=true:=by first | (simp only [jK,Bool.true_or];done) | (simp only [jK,Bool.false_or];first | exact lN | exact lM)
      have lb:bu+2=(if aC s (bu+1) [43]||aC s (bu+1) [45] then bu+2 else bu+1):=by rw [aL lX]
      have Ch:bu+1+1≤s.length:=by rcases Bool.or_eq_true_iff.1 lX with h | h <;> exact b9 h (by simp)
      refine b5 (aO rfl (ah (aS (r:=(((bu+1)+1:Nat):Int)) rfl rfl) (a7 rfl (cx ?_))));refine fH.sub (l':=[(0,_),(5,_),(6,_)]) ⟨rfl,rfl,rfl,trivial⟩ (dq (ahu (bu+2) sJ ⟨lb,by omega,E⟩))
     refine aj 3 rfl (gN (bB gS rfl) (fi _ s [45] (bu+1) tj bh) fun tP U=>?_);replace E:=E.then U;refine tn (fun lN:(aC s (bu+1) [45])=true=>?_) (fun lN=>?_)
     ·refine ah (hG rfl rfl rfl) (J BC (az rfl ?_));have lM:=lN;have lX:(aC s (bu+1) [43]||aC s (bu+1) [45])=true:=by first | (simp only [jK,Bool.true_or];done) | (simp only [jK,Bool.false_or];first | exact lN | exact lM)
      have lb:bu+2=(if aC s (bu+1) [43]||aC s (bu+1) [45] then bu+2 else bu+1):=by rw [aL lX]
      have Ch:bu+1+1≤s.length:=by rcases Bool.or_eq_true_iff.1 lX with h | h <;> exact b9 h (by simp)
      refine b5 (aO rfl (ah (aS (r:=(((bu+1)+1:Nat):Int)) rfl rfl) (a7 rfl (cx ?_))));refine fH.sub (l':=[(0,_),(5,_),(6,_)]) ⟨rfl,rfl,rfl,trivial⟩ (dq (ahu (bu+2) tP ⟨lb,by omega,E⟩))
     refine ah (hG rfl rfl rfl) (J BC (aI rfl ?_));have lM:=lN;have lX:(aC s (bu+1) [43]||aC s (bu+1) [45])=false:=by simp only [jK,Bool.false_or];first | exact lN | exact lM
     have lb:bu+1=(if aC s (bu+1) [43]||aC s (bu+1) [45] then bu+2 else bu+1):=by rw [lX];rfl
     refine b' ?_;refine fH.sub (l':=[(0,_),(5,_),(6,_)]) ⟨rfl,rfl,rfl,trivial⟩ (dq (ahu (bu+1) tP ⟨lb,by omega,E⟩))
    refine aj 3 rfl (gN (bB gS rfl) (fi _ s [69] bu qZ bh) fun ve U=>?_);replace E:=E.then U;refine tn (fun pf:(aC s bu [69])=true=>?_) (fun pf=>?_);rotate_left
    ·refine ah (hG rfl rfl rfl) (J tO (aI rfl ?_));have r':=pf;have gR:(aC s bu [101]||aC s bu [69])=false:=by simp only [q0,Bool.false_or];first | exact pf | exact r'
     have Cg:=OT aE he jN ui l7 gR;refine b' ?_;refine fH.sub (l':=[(0,_),(5,_),(6,_)]) ⟨rfl,rfl,rfl,trivial⟩ (dq (aht bu (aC s e [46]) ve ⟨Cg,E⟩))
    refine ah (hG rfl rfl rfl) (J tO (az rfl ?_));have r':=pf;have gR:(aC s bu [101]||aC s bu [69])=true:=by first | (simp only [q0,Bool.true_or];done) | (simp only [q0,Bool.false_or];first | exact pf | exact r')
    have tj:bu+1≤s.length:=by rcases Bool.or_eq_true_iff.1 gR with h | h <;> exact b9 h (by simp)
    refine aa fun Iv=>a7 rfl (J Iv (aa fun BD=>aO rfl (ah (aS (r:=((bu+1:Nat):Int)) rfl rfl) (a7 rfl (J BD (mU fun asM Iy=>?_))))));have ahv:∀ (ee:Nat) (aJ:World),ee=(if aC s (bu+1) [43]||aC s (bu+1) [45] then bu+2 else bu+1)∧ee≤s.length∧Mod [] w aJ→∀ a,Has 73 [] [(0,S s),(5,.int .i64 (ee:Int)),(6,.bool true)] a→asM a aJ:=by
     intro ee DC lI;obtain⟨l8,l6,E⟩:=lI;refine Iy _ _ _ _ (aa fun Iz=>aj 2 rfl (cG E (bB s3 rfl) (s4 _ s ee l6 bh) fun vT U E=>a7 rfl (J Iz (aB fun IA=>aa fun T9=>aj 3 rfl (J T9 ?_)))));refine aX rfl (fun yn=>?_) (fun yn=>?_)
     ·have dR:=xh aE he jN ui l7 gR l8 (by omega);exact aa fun T'=>aj 2 rfl (J T' (bn (aP (aP (cj rfl rfl rfl ⟨by rw [dR],E⟩)))))
     have Cg:=AO aE he jN ui l7 gR l8 (by omega);refine b' (av IA (b5 (aj 2 rfl (cx ?_))));refine fH.sub (l':=[(0,_),(5,_),(6,_)]) ⟨rfl,rfl,rfl,trivial⟩ (dq (aht (ai ct s ee) true vT ⟨Cg,E⟩))
    refine aa fun Ex=>aj 2 rfl (cG E (bB gS rfl) (fi _ s [43] (bu+1) tj bh) fun DD U E=>?_);refine tn (fun jK:(aC s (bu+1) [43])=true=>?_) (fun jK=>?_)
    ·refine aj 5 rfl (J Ex (az rfl ?_));have lX:(aC s (bu+1) [43]||aC s (bu+1) [45])=true:=by first | (simp only [jK,Bool.true_or];done) | (simp only [jK,Bool.false_or];first | exact lN | exact lM)
     have lb:bu+2=(if aC s (bu+1) [43]||aC s (bu+1) [45] then bu+2 else bu+1):=by rw [aL lX]
     have Ch:bu+1+1≤s.length:=by rcases Bool.or_eq_true_iff.1 lX with h | h <;> exact b9 h (by simp)
     refine b5 (aO rfl (ah (aS (r:=(((bu+1)+1:Nat):Int)) rfl rfl) (a7 rfl (cx ?_))));refine fH.sub (l':=[(0,_),(5,_),(6,_)]) ⟨rfl,rfl,rfl,trivial⟩ (dq (ahv (bu+2) DD ⟨lb,by omega,E⟩))
    refine aj 3 rfl (gN (bB gS rfl) (fi _ s [45] (bu+1) tj bh) fun ys U=>?_);replace E:=E.then U;refine tn (fun lN:(aC s (bu+1) [45])=true=>?_) (fun lN=>?_)
    ·refine ah (hG rfl rfl rfl) (J Ex (az rfl ?_));have lM:=lN;have lX:(aC s (bu+1) [43]||aC s (bu+1) [45])=true:=by first | (simp only [jK,Bool.true_or];done) | (simp only [jK,Bool.false_or];first | exact lN | exact lM)
     have lb:bu+2=(if aC s (bu+1) [43]||aC s (bu+1) [45] then bu+2 else bu+1):=by rw [aL lX]
     have Ch:bu+1+1≤s.length:=by rcases Bool.or_eq_true_iff.1 lX with h | h <;> exact b9 h (by simp)
     refine b5 (aO rfl (ah (aS (r:=(((bu+1)+1:Nat):Int)) rfl rfl) (a7 rfl (cx ?_))));refine fH.sub (l':=[(0,_),(5,_),(6,_)]) ⟨rfl,rfl,rfl,trivial⟩ (dq (ahv (bu+2) ys ⟨lb,by omega,E⟩))
    refine ah (hG rfl rfl rfl) (J Ex (aI rfl ?_));have lM:=lN;have lX:(aC s (bu+1) [43]||aC s (bu+1) [45])=false:=by simp only [jK,Bool.false_or];first | exact lN | exact lM
    have lb:bu+1=(if aC s (bu+1) [43]||aC s (bu+1) [45] then bu+2 else bu+1):=by rw [lX];rfl
    refine b' ?_;refine fH.sub (l':=[(0,_),(5,_),(6,_)]) ⟨rfl,rfl,rfl,trivial⟩ (dq (ahv (bu+1) ys ⟨lb,by omega,E⟩))
   refine aa fun Ua=>aj 2 rfl (cG E (bB gS rfl) (fi _ s [46] e hle bh) fun Bz U E=>J Ua ?_);refine a1 rfl (fun gu=>?_) (fun gu=>?_)
   ·have GI:e+1≤s.length:=b9 (t:=[46]) gu (by simp);refine aa fun Ov=>a7 rfl (J Ov (aa fun Ub=>aj 2 rfl (ah (aS (r:=((e+1:Nat):Int)) rfl rfl) (cG E (bB s3 rfl) (s4 _ s (e+1) GI bh) fun L7 U E=>?_))));have Ci:ai ct s (e+1)≤s.length:=dD GI;refine a7 rfl (J Ub (aB fun Ue=>aa fun Uf=>aj 2 rfl (ah (aS (r:=((e+1:Nat):Int)) rfl rfl) (ah (k1 rfl rfl) (J Uf ?_)))));refine aX rfl (fun yp=>?_) (fun yp=>?_)
    ·have dR:=Jc aE he jN gu (by omega);exact aa fun Ug=>aj 2 rfl (J Ug (bn (aP (aP (cj rfl rfl rfl ⟨by rw [dR],E⟩)))))
    have bC:¬ ai ct s (e+1)=e+1:=by omega
    refine b' (av Ue (b5 (aj 2 rfl (cx ?_))));refine fH.sub (l':=[(0,_),(5,_),(6,_)]) ⟨rfl,rfl,rfl,trivial⟩ (dq (amQ (ai ct s (e+1)) true L7 ⟨gu.symm,by rw [gu];rfl,by rw [gu];simp;exact bC,Ci,E⟩))
   have Ci:=hle;refine b' ?_;refine fH.sub (l':=[(0,_),(5,_),(6,_)]) ⟨rfl,rfl,rfl,trivial⟩ (dq (amQ e false Bz ⟨gu.symm,by rw [gu];rfl,by rw [gu];simp,Ci,E⟩))
  obtain⟨c,aZ⟩:∃ c,s[a0]? = some c:=⟨_,List.getElem?_eq_getElem (by omega)⟩;refine aj 3 rfl (ay (bN aA rfl rfl aZ) (ay (k1 rfl rfl) ?_));refine c7 (fun bb:(c.toNat:Int)=48=>?_) (fun bb=>?_)
  ·refine aj 2 rfl (J bO (az rfl ?_));have dR:=Jb aE he (by first | exact .inl (by omega) | exact .inr ⟨by omega,by rw [aZ,dT (show(c.toNat:Int)=(48:UInt8).toNat from bb)]⟩);exact aa fun cw=>aj 2 rfl (J cw (bn (aP (cj rfl rfl rfl ⟨by rw [dR],E⟩))))
  refine aj 2 rfl (J bO (aI rfl ?_));have jN:¬ (e=a0∨(a0+1<e∧s[a0]? = some 48)):=by
   rintro(h | ⟨h,fW⟩)
   ·omega
   first | omega | (rw [aZ] at fW;injection fW with fW;subst fW;exact bb rfl)
  refine b' (av bx (aa fun cy=>a7 rfl (J cy (mU fun ahh b6=>?_))));have Wl:∀ (bu:Nat) (m:Bool) (aJ:World),m=aC s e [46]∧bu=(if aC s e [46] then ai ct s (e+1)else e)∧¬ (aC s e [46]=true∧ai ct s (e+1)=e+1)∧bu≤s.length∧Mod [] w aJ→∀ a,Has 73 [] [(0,S s),(5,.int .i64 (bu:Int)),(6,.bool m)] a→ahh a aJ:=by
   intro bu m gr lI;obtain⟨rfl,l7,ui,qZ,E⟩:=lI;refine b6 _ _ _ _ (mU fun Ge bR=>?_);have vd:∀ (kH:Nat) (m3:Bool) (aJ:World),dw s=(decide (kH=s.length),m3)∧Mod [] w aJ→∀ a,Has 73 [] [(0,S s),(5,.int .i64 (kH:Int)),(6,.bool m3)] a→Ge a aJ:=by
    intro kH m3 h8 lI;obtain⟨hI,E⟩:=lI;exact bR _ _ _ _ (aa fun cv=>aj 2 rfl (ah (bQ aA rfl) (aj 4 rfl (J cv (bn (cj rfl rfl rfl ⟨by rw [hI];congr 2;simp;omega,E⟩))))))
   refine aa fun bV=>aj 2 rfl (cG E (bB gS rfl) (fi _ s [101] bu qZ bh) fun iS U E=>?_);refine tn (fun q0:(aC s bu [101])=true=>?_) (fun q0=>?_)
   ·refine aj 5 rfl (J bV (az rfl ?_));have gR:(aC s bu [101]||aC s bu [69])=true:=by first | (simp only [q0,Bool.true_or];done) | (simp only [q0,Bool.false_or];first | exact pf | exact r')
    have tj:bu+1≤s.length:=by rcases Bool.or_eq_true_iff.1 gR with h | h <;> exact b9 h (by simp)
    refine aa fun cE=>a7 rfl (J cE (aa fun cI=>aO rfl (ah (aS (r:=((bu+1:Nat):Int)) rfl rfl) (a7 rfl (J cI (mU fun asI dr=>?_))))));have Qa:∀ (ee:Nat) (aJ:World),ee=(if aC s (bu+1) [43]||aC s (bu+1) [45] then bu+2 else bu+1)∧ee≤s.length∧Mod [] w aJ→∀ a,Has 73 [] [(0,S s),(5,.int .i64 (ee:Int)),(6,.bool true)] a→asI a aJ:=by
     intro ee i' lI;obtain⟨l8,l6,E⟩:=lI;refine dr _ _ _ _ (aa fun ec=>aj 2 rfl (cG E (bB s3 rfl) (s4 _ s ee l6 bh) fun iw U E=>a7 rfl (J ec (aB fun dG=>aa fun eV=>aj 3 rfl (J eV ?_)))));refine aX rfl (fun yn=>?_) (fun yn=>?_)
     ·have dR:=xh aE he jN ui l7 gR l8 (by omega);exact aa fun eO=>aj 2 rfl (J eO (bn (aP (aP (cj rfl rfl rfl ⟨by rw [dR],E⟩)))))
     have Cg:=AO aE he jN ui l7 gR l8 (by omega);refine b' (av dG (b5 (aj 2 rfl (cx ?_))));refine fH.sub (l':=[(0,_),(5,_),(6,_)]) ⟨rfl,rfl,rfl,trivial⟩ (dq (vd (ai ct s ee) true iw ⟨Cg,E⟩))
    refine aa fun eC=>aj 2 rfl (cG E (bB gS rfl) (fi _ s [43] (bu+1) tj bh) fun nd U E=>?_);refine tn (fun jK:(aC s (bu+1) [43])=true=>?_) (fun jK=>?_)
    ·refine aj 5 rfl (J eC (az rfl ?_));have lX:(aC s (bu+1) [43]||aC s (bu+1) [45])=true:=by first | (simp only [jK,Bool.true_or];done) | (simp only [jK,Bool.false_or];first | exact lN | exact lM)
     have lb:bu+2=(if aC s (bu+1) [43]||aC s (bu+1) [45] then bu+2 else bu+1):=by rw [aL lX]
     have Ch:bu+1+1≤s.length:=by rcases Bool.or_eq_true_iff.1 lX with h | h <;> exact b9 h (by simp)
     refine b5 (aO rfl (ah (aS (r:=(((bu+1)+1:Nat):Int)) rfl rfl) (a7 rfl (cx ?_))));refine fH.sub (l':=[(0,_),(5,_),(6,_)]) ⟨rfl,rfl,rfl,trivial⟩ (dq (Qa (bu+2) nd ⟨lb,by omega,E⟩))
    refine aj 3 rfl (gN (bB gS rfl) (fi _ s [45] (bu+1) tj bh) fun lF U=>?_);replace E:=E.then U;refine tn (fun lN:(aC s (bu+1) [45])=true=>?_) (fun lN=>?_)
    ·refine ah (hG rfl rfl rfl) (J eC (az rfl ?_));have lM:=lN;have lX:(aC s (bu+1) [43]||aC s (bu+1) [45])=true:=by first | (simp only [jK,Bool.true_or];done) | (simp only [jK,Bool.false_or];first | exact lN | exact lM)
     have lb:bu+2=(if aC s (bu+1) [43]||aC s (bu+1) [45] then bu+2 else bu+1):=by rw [aL lX]
     have Ch:bu+1+1≤s.length:=by rcases Bool.or_eq_true_iff.1 lX with h | h <;> exact b9 h (by simp)
     refine b5 (aO rfl (ah (aS (r:=(((bu+1)+1:Nat):Int)) rfl rfl) (a7 rfl (cx ?_))));refine fH.sub (l':=[(0,_),(5,_),(6,_)]) ⟨rfl,rfl,rfl,trivial⟩ (dq (Qa (bu+2) lF ⟨lb,by omega,E⟩))
    refine ah (hG rfl rfl rfl) (J eC (aI rfl ?_));have lM:=lN;have lX:(aC s (bu+1) [43]||aC s (bu+1) [45])=false:=by simp only [jK,Bool.false_or];first | exact lN | exact lM
    have lb:bu+1=(if aC s (bu+1) [43]||aC s (bu+1) [45] then bu+2 else bu+1):=by rw [lX];rfl
    refine b' ?_;refine fH.sub (l':=[(0,_),(5,_),(6,_)]) ⟨rfl,rfl,rfl,trivial⟩ (dq (Qa (bu+1) lF ⟨lb,by omega,E⟩))
   refine aj 3 rfl (gN (bB gS rfl) (fi _ s [69] bu qZ bh) fun h2 U=>?_);replace E:=E.then U;refine tn (fun pf:(aC s bu [69])=true=>?_) (fun pf=>?_);rotate_left
   ·refine ah (hG rfl rfl rfl) (J bV (aI rfl ?_));have r':=pf;have gR:(aC s bu [101]||aC s bu [69])=false:=by simp only [q0,Bool.false_or];first | exact pf | exact r'
    have Cg:=OT aE he jN ui l7 gR;refine b' ?_;refine fH.sub (l':=[(0,_),(5,_),(6,_)]) ⟨rfl,rfl,rfl,trivial⟩ (dq (vd bu (aC s e [46]) h2 ⟨Cg,E⟩))
   refine ah (hG rfl rfl rfl) (J bV (az rfl ?_));have r':=pf;have gR:(aC s bu [101]||aC s bu [69])=true:=by first | (simp only [q0,Bool.true_or];done) | (simp only [q0,Bool.false_or];first | exact pf | exact r')
   have tj:bu+1≤s.length:=by rcases Bool.or_eq_true_iff.1 gR with h | h <;> exact b9 h (by simp)
   refine aa fun eP=>a7 rfl (J eP (aa fun fw=>aO rfl (ah (aS (r:=((bu+1:Nat):Int)) rfl rfl) (a7 rfl (J fw (mU fun ahs fT=>?_))))));have ML:∀ (ee:Nat) (aJ:World),ee=(if aC s (bu+1) [43]||aC s (bu+1) [45] then bu+2 else bu+1)∧ee≤s.length∧Mod [] w aJ→∀ a,Has 73 [] [(0,S s),(5,.int .i64 (ee:Int)),(6,.bool true)] a→ahs a aJ:=by
    intro ee jJ lI;obtain⟨l8,l6,E⟩:=lI;refine fT _ _ _ _ (aa fun gh=>aj 2 rfl (cG E (bB s3 rfl) (s4 _ s ee l6 bh) fun mo U E=>a7 rfl (J gh (aB fun fk=>aa fun hq=>aj 3 rfl (J hq ?_)))));refine aX rfl (fun yn=>?_) (fun yn=>?_)
    ·have dR:=xh aE he jN ui l7 gR l8 (by omega);exact aa fun gY=>aj 2 rfl (J gY (bn (aP (aP (cj rfl rfl rfl ⟨by rw [dR],E⟩)))))
    have Cg:=AO aE he jN ui l7 gR l8 (by omega);refine b' (av fk (b5 (aj 2 rfl (cx ?_))));refine fH.sub (l':=[(0,_),(5,_),(6,_)]) ⟨rfl,rfl,rfl,trivial⟩ (dq (vd (ai ct s ee) true mo ⟨Cg,E⟩))
   refine aa fun iB=>aj 2 rfl (cG E (bB gS rfl) (fi _ s [43] (bu+1) tj bh) fun mT U E=>?_);refine tn (fun jK:(aC s (bu+1) [43])=true=>?_) (fun jK=>?_)
   ·refine aj 5 rfl (J iB (az rfl ?_));have lX:(aC s (bu+1) [43]||aC s (bu+1) [45])=true:=by first | (simp only [jK,Bool.true_or];done) | (simp only [jK,Bool.false_or];first | exact lN | exact lM)
    have lb:bu+2=(if aC s (bu+1) [43]||aC s (bu+1) [45] then bu+2 else bu+1):=by rw [aL lX]
    have Ch:bu+1+1≤s.length:=by rcases Bool.or_eq_true_iff.1 lX with h | h <;> exact b9 h (by simp)
    refine b5 (aO rfl (ah (aS (r:=(((bu+1)+1:Nat):Int)) rfl rfl) (a7 rfl (cx ?_))));refine fH.sub (l':=[(0,_),(5,_),(6,_)]) ⟨rfl,rfl,rfl,trivial⟩ (dq (ML (bu+2) mT ⟨lb,by omega,E⟩))
   refine aj 3 rfl (gN (bB gS rfl) (fi _ s [45] (bu+1) tj bh) fun lK U=>?_);replace E:=E.then U;refine tn (fun lN:(aC s (bu+1) [45])=true=>?_) (fun lN=>?_)
   ·refine ah (hG rfl rfl rfl) (J iB (az rfl ?_));have lM:=lN;have lX:(aC s (bu+1) [43]||aC s (bu+1) [45])=true:=by first | (simp only [jK,Bool.true_or];done) | (simp only [jK,Bool.false_or];first | exact lN | exact lM)
    have lb:bu+2=(if aC s (bu+1) [43]||aC s (bu+1) [45] then bu+2 else bu+1):=by rw [aL lX]
    have Ch:bu+1+1≤s.length:=by rcases Bool.or_eq_true_iff.1 lX with h | h <;> exact b9 h (by simp)
    refine b5 (aO rfl (ah (aS (r:=(((bu+1)+1:Nat):Int)) rfl rfl) (a7 rfl (cx ?_))));refine fH.sub (l':=[(0,_),(5,_),(6,_)]) ⟨rfl,rfl,rfl,trivial⟩ (dq (ML (bu+2) lK ⟨lb,by omega,E⟩))
   refine ah (hG rfl rfl rfl) (J iB (aI rfl ?_));have lM:=lN;have lX:(aC s (bu+1) [43]||aC s (bu+1) [45])=false:=by simp only [jK,Bool.false_or];first | exact lN | exact lM
   have lb:bu+1=(if aC s (bu+1) [43]||aC s (bu+1) [45] then bu+2 else bu+1):=by rw [lX];rfl
   refine b' ?_;refine fH.sub (l':=[(0,_),(5,_),(6,_)]) ⟨rfl,rfl,rfl,trivial⟩ (dq (ML (bu+1) lK ⟨lb,by omega,E⟩))
  refine aa fun jR=>aj 2 rfl (cG E (bB gS rfl) (fi _ s [46] e hle bh) fun nj U E=>J jR ?_);refine a1 rfl (fun gu=>?_) (fun gu=>?_)
  ·have GI:e+1≤s.length:=b9 (t:=[46]) gu (by simp);refine aa fun l3=>a7 rfl (J l3 (aa fun kb=>aj 2 rfl (ah (aS (r:=((e+1:Nat):Int)) rfl rfl) (cG E (bB s3 rfl) (s4 _ s (e+1) GI bh) fun pJ U E=>?_))));have Ci:ai ct s (e+1)≤s.length:=dD GI;refine a7 rfl (J kb (aB fun k6=>aa fun ni=>aj 2 rfl (ah (aS (r:=((e+1:Nat):Int)) rfl rfl) (ah (k1 rfl rfl) (J ni ?_)))));refine aX rfl (fun yp=>?_) (fun yp=>?_)
   ·have dR:=Jc aE he jN gu (by omega);exact aa fun kc=>aj 2 rfl (J kc (bn (aP (aP (cj rfl rfl rfl ⟨by rw [dR],E⟩)))))
   have bC:¬ ai ct s (e+1)=e+1:=by omega
   refine b' (av k6 (b5 (aj 2 rfl (cx ?_))));refine fH.sub (l':=[(0,_),(5,_),(6,_)]) ⟨rfl,rfl,rfl,trivial⟩ (dq (Wl (ai ct s (e+1)) true pJ ⟨gu.symm,by rw [gu];rfl,by rw [gu];simp;exact bC,Ci,E⟩))
  have Ci:=hle;refine b' ?_;refine fH.sub (l':=[(0,_),(5,_),(6,_)]) ⟨rfl,rfl,rfl,trivial⟩ (dq (Wl e false nj ⟨gu.symm,by rw [gu];rfl,by rw [gu];simp,Ci,E⟩))
 refine aa fun Uh=>aO rfl (cG E (bB gS rfl) (fi _ s [45] 0 (by omega) bh) fun Gj U E=>J Uh ?_);refine a1 rfl (fun jP=>?_) (fun jP=>?_)
 ·skip
  refine b5 (a7 rfl (cx ?_));refine fH.sub (l':=[(0,_),(4,_)]) ⟨rfl,rfl,trivial⟩ (dq (J3 1 Gj ⟨by rw [jP];rfl,E⟩))
 skip
 refine b' ?_;refine fH.sub (l':=[(0,_),(4,_)]) ⟨rfl,rfl,trivial⟩ (dq (J3 0 Gj ⟨by rw [jP];rfl,E⟩))
set_option maxRecDepth 10000
def GV:=eW Tryz.func111
/-- what a reading hands back, in memory -/
def fA (A:List Nat) (w w':World) (r:tA) (u:Value):Prop:=∃ us,u = .tuple #[.agg us.toArray,.int .i64 ((awm r:Nat):Int),.int .i64 (amj r)]∧ao A w' (awl r).D us∧Mod [] w w'
theorem fA.no {A:List Nat} {w w':World} {r:tA} {e:Int} {us:List Value} (h:r = .error e) (aBn:ao A w' JV.fg.D us) (E:Mod [] w w'):fA A w w' r (.tuple #[.agg us.toArray,.int .i64 0,.int .i64 e]):=by
 subst h;exact⟨us,rfl,aBn,E⟩
theorem fA.yes {A:List Nat} {w w':World} {r:tA} {v:JV} {k:Nat} {us:List Value} (h:r = .ok (v,k)) (aBn:ao A w' v.D us) (E:Mod [] w w'):fA A w w' r (.tuple #[.agg us.toArray,.int .i64 (k:Int),.int .i64 0]):=by
 subst h;exact⟨us,rfl,aBn,E⟩
theorem GW {s:ab} {n:Int} {ae2:Value} (h:Mc s n ae2) : -9223372036854775808≤n∧n≤9223372036854775807:=by
 rcases h with⟨h,_⟩ | ⟨_,_,h,_⟩
 ·exact zD h
 omega
theorem ja {w:ab} {n:Int} {ae2:Value} (pW:Mc w n ae2) (h1:¬ (dw w).1=false) (h:¬ (Lib.itoa n=w∧-9007199254740991≤n∧n≤9007199254740991)):iU w = .error 7:=by
 unfold iU;rw [ak h1];rcases pW with⟨yJ,_⟩ | ⟨jN,_⟩
 ·rw [sh yJ,ak h]
 rw [tU jN]
theorem iG {s:ab} {k:Nat} {e:Int} (h:iU ((s.drop k).take (ai cU s k-k)) = .error e):jW s k = .error e:=by
 unfold jW;rw [h];rfl
theorem yR {s:ab} {k:Nat} {n:Int} (h:iU ((s.drop k).take (ai cU s k-k)) = .ok n):jW s k = .ok (JV.hr n,ai cU s k):=by
 unfold jW;rw [h];rfl
theorem ac1 (A:List Nat) (w:World) (s:ab) (k:Nat) (hk:k≤s.length) (bh:s.length≤1000000) (gR:Env w):Calls aR 76 [S s,.int .i64 (k:Int)].toArray w (bH fun u w'=>fA A w w' (jW s k) u):=by
 refine cY Tryz.func76 rfl fun E=>aa fun a6=>bj bA rfl fun g1 aJ bZ=>?_;have aY:=bZ.le E;replace E:=E.then bZ.mod;have R:=bZ.ar;refine aj 2 rfl (J a6 (aa fun aQ=>aj 2 rfl (J aQ (aB fun a'=>eN (bK (σ:=Nat) (fun p=>[(0,S s),(1,.int .i64 (k:Int)),(4,.pointer (some ⟨g1,0,none⟩)),(7,.int .i64 (p:Int))]) (fun p aJ=>(k≤p∧p≤s.length∧ai cU s p=ai cU s k)∧aF aJ g1 25 [.int .i64 0,.bool false,.int .i64 0,S [],.slice none 0 0,.slice none 0 0]∧Mod [] w aJ) (fun p=>s.length-p) (k) (⟨⟨Nat.le_refl _,hk,rfl⟩,R,E⟩) ?_)))));rintro p cX ⟨⟨Wh,cc,kx⟩,R,E⟩;refine aB fun bp=>aa fun bx=>aj 2 rfl (ah (bQ aA rfl) (ah (cT rfl rfl) ?_));refine c7 (fun bM:(p:Int)<(s.length:Int)=>?_) (fun bM=>?_);rotate_left
 ·refine aj 42 rfl (J bx (aI rfl ?_));have k0:p=ai cU s k:=by
   rw [← kx]
   first | exact(gk (by omega)).symm | exact(fU aZ (GB (by omega))).symm
  refine bL (aP (aP (ch (av a' (aB fun kb=>?_)))));have Ai:((s.drop k).take (ai cU s k-k)).length≤1000000:=by rw [List.length_take,List.length_drop];omega
  refine b5 (aj 3 rfl (ah ((tS aA rfl rfl rfl (by simp only [ib,iR];omega)).to (v':=S ((s.drop k).take (ai cU s k-k))) (by simp only [ib,iR,Int.toNat_natCast];rw [k0])) (a7 rfl (J kb (aa fun k6=>aO rfl (cG E (bB GV rfl) (yQ _ ((s.drop k).take (ai cU s k-k)) Ai) fun ts U E=>?_))))));replace R:=R.I U;refine aj 5 rfl (J k6 (aB fun ni=>aa fun kc=>aj 2 rfl (J kc ?_)));refine a1 rfl (fun Cj=>?_) (fun Cj=>?_)
  ·have dR:=iG (s:=s) (k:=k) (e:=4) (by unfold iU;rw [aL (by simpa using Cj)]);refine aa fun qp=>ah (bc dz bA rfl rfl) (aK au R rfl rfl fun sJ s5=>?_);replace E:=E.own s5.mod aY;replace R:aF sJ g1 _ [_,_,_,_,_,_]:=s5.ar;exact aj 2 rfl (J qp (bn (aP (cp rfl au rfl (R.cs rfl) rfl rfl (fA.no dR JV.b3 E)))))
  have kN:¬ (dw ((s.drop k).take (ai cU s k-k))).1=false:=by simpa using Cj
  refine b' (av ni (aa fun r8=>aO rfl (cJ (bB AV rfl) (AH _ ((s.drop k).take (ai cU s k-k)) Ai (gR.I E).err) fun cN tP aH=>?_)));obtain⟨n,ae2,rfl,pW,U⟩:=aH;replace R:=R.I U;replace E:=E.then U;obtain⟨fu,hC⟩:=GW pW;refine aj 5 rfl (J r8 (aB fun qq=>aa fun r9=>aO rfl ?_));refine tn (fun hm:((dw ((s.drop k).take (ai cU s k-k))).2)=true=>?_) (fun hm=>?_)
  ·refine aj 14 rfl (J r9 (az rfl ?_));have dR:=iG (s:=s) (k:=k) (e:=7) (by first | exact hW kN hm | exact ja pW kN (by rintro⟨nc,po,sZ⟩;first | exact jy nc | omega));refine aa fun tO=>ah (bc dz bA rfl rfl) (aK au R rfl rfl fun ve Al=>?_);replace E:=E.own Al.mod aY;replace R:aF ve g1 _ [_,_,_,_,_,_]:=Al.ar;exact aj 2 rfl (J tO (bn (aP (cp rfl au rfl (R.cs rfl) rfl rfl (fA.no dR JV.b3 E)))))
  refine aj 2 rfl (gN (bB sK rfl) (pM _ n fu hC (gR.I E).Ag) fun DC U=>?_);replace R:=R.I U;replace E:=E.then U;refine ay (fj rfl) (ay (ia rfl rfl) ?_);refine c7 (fun jy:Lib.itoa n≠((s.drop k).take (ai cU s k-k))=>?_) (fun jy=>?_)
  ·refine aj 9 rfl (J r9 (az rfl ?_));have dR:=iG (s:=s) (k:=k) (e:=7) (by first | exact hW kN hm | exact ja pW kN (by rintro⟨nc,po,sZ⟩;first | exact jy nc | omega));refine aa fun zt=>ah (bc dz bA rfl rfl) (aK au R rfl rfl fun vT mZ=>?_);replace E:=E.own mZ.mod aY;replace R:aF vT g1 _ [_,_,_,_,_,_]:=mZ.ar;exact aj 2 rfl (J zt (bn (aP (cp rfl au rfl (R.cs rfl) rfl rfl (fA.no dR JV.b3 E)))))
  refine aj 4 rfl ?_;refine c7 (fun nJ:n > 9007199254740991=>?_) (fun nJ=>?_)
  ·refine aj 5 rfl (J r9 (az rfl ?_));have dR:=iG (s:=s) (k:=k) (e:=7) (by first | exact hW kN hm | exact ja pW kN (by rintro⟨nc,po,sZ⟩;first | exact jy nc | omega));refine aa fun nQ=>ah (bc dz bA rfl rfl) (aK au R rfl rfl fun DD DQ=>?_);replace E:=E.own DQ.mod aY;replace R:aF DD g1 _ [_,_,_,_,_,_]:=DQ.ar;exact aj 2 rfl (J nQ (bn (aP (cp rfl au rfl (R.cs rfl) rfl rfl (fA.no dR JV.b3 E)))))
  refine aj 4 rfl ?_;refine c7 (fun iQ:n < -9007199254740991=>?_) (fun iQ=>?_)
  ·refine ah (hG rfl rfl rfl) (J r9 (az rfl ?_));have dR:=iG (s:=s) (k:=k) (e:=7) (by first | exact hW kN hm | exact ja pW kN (by rintro⟨nc,po,sZ⟩;first | exact jy nc | omega));refine aa fun BA=>ah (bc dz bA rfl rfl) (aK au R rfl rfl fun ys Ri=>?_);replace E:=E.own Ri.mod aY;replace R:aF ys g1 _ [_,_,_,_,_,_]:=Ri.ar;exact aj 2 rfl (J BA (bn (aP (cp rfl au rfl (R.cs rfl) rfl rfl (fA.no dR JV.b3 E)))))
  refine ah (hG rfl rfl rfl) (J r9 (aI rfl ?_));have dR:=yR (s:=s) (k:=k) (yH kN (Classical.not_not.1 jy) (by omega) (by omega));refine b' (av qq (aa fun BB=>aO rfl (ah (bc dz bA rfl rfl) (aO rfl (aK au R rfl rfl fun Bz amR=>?_)))));replace E:=E.own amR.mod aY;replace R:aF Bz g1 _ [_,_,_,_,_,_]:=amR.ar;exact aj 2 rfl (J BB (bn (cp rfl au rfl (R.cs rfl) rfl rfl (fA.yes (by rw [dR,k0]) JV.mL E))))
 obtain⟨c,aZ⟩:∃ c,s[p]? = some c:=⟨_,List.getElem?_eq_getElem (by omega)⟩;have lJ:=c.toNat_lt;refine aj 3 rfl (ay (bN aA rfl rfl aZ) (ay (dA rfl rfl) ?_));refine c7 (fun d1:(c.toNat:Int)≥48=>?_) (fun d1=>?_);rotate_left
 ·refine aj 9 rfl (ay (bN aA rfl rfl aZ) (ay (k1 rfl rfl) ?_));refine c7 (fun bu:(c.toNat:Int)=43=>?_) (fun bu=>?_)
  ·refine aj 26 rfl (J bx (az rfl ?_));have g':cU c=true:=nr (by omega);exact b' (av bp (eN (b5 (aO rfl (ah (aS (r:=((p+1:Nat):Int)) rfl rfl) (a7 rfl (cx (bw (aw (σ:=Nat) (s:=p) (p+1) ⟨⟨by omega,by omega,by rw [fD aZ g'];exact kx⟩,R,E⟩)))))))))
  refine aj 4 rfl (ay (bN aA rfl rfl aZ) (ay (k1 rfl rfl) ?_));refine c7 (fun ee:(c.toNat:Int)=45=>?_) (fun ee=>?_)
  ·refine aj 20 rfl (J bx (az rfl ?_));have g':cU c=true:=nr (by omega);exact b' (av bp (eN (b5 (aO rfl (ah (aS (r:=((p+1:Nat):Int)) rfl rfl) (a7 rfl (cx (bw (aw (σ:=Nat) (s:=p) (p+1) ⟨⟨by omega,by omega,by rw [fD aZ g'];exact kx⟩,R,E⟩)))))))))
  refine aj 4 rfl (ay (bN aA rfl rfl aZ) (ay (k1 rfl rfl) ?_));refine c7 (fun kH:(c.toNat:Int)=46=>?_) (fun kH=>?_)
  ·refine aj 14 rfl (J bx (az rfl ?_));have g':cU c=true:=nr (by omega);exact b' (av bp (eN (b5 (aO rfl (ah (aS (r:=((p+1:Nat):Int)) rfl rfl) (a7 rfl (cx (bw (aw (σ:=Nat) (s:=p) (p+1) ⟨⟨by omega,by omega,by rw [fD aZ g'];exact kx⟩,R,E⟩)))))))))
  refine aj 4 rfl (ay (bN aA rfl rfl aZ) (ay (k1 rfl rfl) ?_));refine c7 (fun EJ:(c.toNat:Int)=101=>?_) (fun EJ=>?_)
  ·refine aj 8 rfl (J bx (az rfl ?_));have g':cU c=true:=nr (by omega);exact b' (av bp (eN (b5 (aO rfl (ah (aS (r:=((p+1:Nat):Int)) rfl rfl) (a7 rfl (cx (bw (aw (σ:=Nat) (s:=p) (p+1) ⟨⟨by omega,by omega,by rw [fD aZ g'];exact kx⟩,R,E⟩)))))))))
  refine aj 4 rfl (ay (bN aA rfl rfl aZ) (ay (k1 rfl rfl) ?_));refine c7 (fun abc:(c.toNat:Int)=69=>?_) (fun abc=>?_)
  ·refine aj 2 rfl (J bx (az rfl ?_));have g':cU c=true:=nr (by omega);exact b' (av bp (eN (b5 (aO rfl (ah (aS (r:=((p+1:Nat):Int)) rfl rfl) (a7 rfl (cx (bw (aw (σ:=Nat) (s:=p) (p+1) ⟨⟨by omega,by omega,by rw [fD aZ g'];exact kx⟩,R,E⟩)))))))))
  refine aj 2 rfl (J bx (aI rfl ?_));have k0:p=ai cU s k:=by
   rw [← kx]
   first | exact(gk (by omega)).symm | exact(fU aZ (GB (by omega))).symm
  refine bL (aP (aP (ch (av a' (aB fun eV=>?_)))));have Ai:((s.drop k).take (ai cU s k-k)).length≤1000000:=by rw [List.length_take,List.length_drop];omega
  refine b5 (aj 3 rfl (ah ((tS aA rfl rfl rfl (by simp only [ib,iR];omega)).to (v':=S ((s.drop k).take (ai cU s k-k))) (by simp only [ib,iR,Int.toNat_natCast];rw [k0])) (a7 rfl (J eV (aa fun eO=>aO rfl (cG E (bB GV rfl) (yQ _ ((s.drop k).take (ai cU s k-k)) Ai) fun mo U E=>?_))))));replace R:=R.I U;refine aj 5 rfl (J eO (aB fun eC=>aa fun eP=>aj 2 rfl (J eP ?_)));refine a1 rfl (fun Cj=>?_) (fun Cj=>?_)
  ·have dR:=iG (s:=s) (k:=k) (e:=4) (by unfold iU;rw [aL (by simpa using Cj)]);refine aa fun fw=>ah (bc dz bA rfl rfl) (aK au R rfl rfl fun mT nU=>?_);replace E:=E.own nU.mod aY;replace R:aF mT g1 _ [_,_,_,_,_,_]:=nU.ar;exact aj 2 rfl (J fw (bn (aP (cp rfl au rfl (R.cs rfl) rfl rfl (fA.no dR JV.b3 E)))))
  have kN:¬ (dw ((s.drop k).take (ai cU s k-k))).1=false:=by simpa using Cj
  refine b' (av eC (aa fun fT=>aO rfl (cJ (bB AV rfl) (AH _ ((s.drop k).take (ai cU s k-k)) Ai (gR.I E).err) fun cN lK aH=>?_)));obtain⟨n,ae2,rfl,pW,U⟩:=aH;replace R:=R.I U;replace E:=E.then U;obtain⟨fu,hC⟩:=GW pW;refine aj 5 rfl (J fT (aB fun gh=>aa fun fk=>aO rfl ?_));refine tn (fun hm:((dw ((s.drop k).take (ai cU s k-k))).2)=true=>?_) (fun hm=>?_)
  ·refine aj 14 rfl (J fk (az rfl ?_));have dR:=iG (s:=s) (k:=k) (e:=7) (by first | exact hW kN hm | exact ja pW kN (by rintro⟨nc,po,sZ⟩;first | exact jy nc | omega));refine aa fun hq=>ah (bc dz bA rfl rfl) (aK au R rfl rfl fun nj qx=>?_);replace E:=E.own qx.mod aY;replace R:aF nj g1 _ [_,_,_,_,_,_]:=qx.ar;exact aj 2 rfl (J hq (bn (aP (cp rfl au rfl (R.cs rfl) rfl rfl (fA.no dR JV.b3 E)))))
  refine aj 2 rfl (gN (bB sK rfl) (pM _ n fu hC (gR.I E).Ag) fun pJ U=>?_);replace R:=R.I U;replace E:=E.then U;refine ay (fj rfl) (ay (ia rfl rfl) ?_);refine c7 (fun jy:Lib.itoa n≠((s.drop k).take (ai cU s k-k))=>?_) (fun jy=>?_)
  ·refine aj 9 rfl (J fk (az rfl ?_));have dR:=iG (s:=s) (k:=k) (e:=7) (by first | exact hW kN hm | exact ja pW kN (by rintro⟨nc,po,sZ⟩;first | exact jy nc | omega));refine aa fun gY=>ah (bc dz bA rfl rfl) (aK au R rfl rfl fun qT nN=>?_);replace E:=E.own nN.mod aY;replace R:aF qT g1 _ [_,_,_,_,_,_]:=nN.ar;exact aj 2 rfl (J gY (bn (aP (cp rfl au rfl (R.cs rfl) rfl rfl (fA.no dR JV.b3 E)))))
  refine aj 4 rfl ?_;refine c7 (fun nJ:n > 9007199254740991=>?_) (fun nJ=>?_)
  ·refine aj 5 rfl (J fk (az rfl ?_));have dR:=iG (s:=s) (k:=k) (e:=7) (by first | exact hW kN hm | exact ja pW kN (by rintro⟨nc,po,sZ⟩;first | exact jy nc | omega));refine aa fun iB=>ah (bc dz bA rfl rfl) (aK au R rfl rfl fun qU xr=>?_);replace E:=E.own xr.mod aY;replace R:aF qU g1 _ [_,_,_,_,_,_]:=xr.ar;exact aj 2 rfl (J iB (bn (aP (cp rfl au rfl (R.cs rfl) rfl rfl (fA.no dR JV.b3 E)))))
  refine aj 4 rfl ?_;refine c7 (fun iQ:n < -9007199254740991=>?_) (fun iQ=>?_)
  ·refine ah (hG rfl rfl rfl) (J fk (az rfl ?_));have dR:=iG (s:=s) (k:=k) (e:=7) (by first | exact hW kN hm | exact ja pW kN (by rintro⟨nc,po,sZ⟩;first | exact jy nc | omega));refine aa fun jR=>ah (bc dz bA rfl rfl) (aK au R rfl rfl fun qV mY=>?_);replace E:=E.own mY.mod aY;replace R:aF qV g1 _ [_,_,_,_,_,_]:=mY.ar;exact aj 2 rfl (J jR (bn (aP (cp rfl au rfl (R.cs rfl) rfl rfl (fA.no dR JV.b3 E)))))
  refine ah (hG rfl rfl rfl) (J fk (aI rfl ?_));have dR:=yR (s:=s) (k:=k) (yH kN (Classical.not_not.1 jy) (by omega) (by omega));refine b' (av gh (aa fun l3=>aO rfl (ah (bc dz bA rfl rfl) (aO rfl (aK au R rfl rfl fun pK lp=>?_)))));replace E:=E.own lp.mod aY;replace R:aF pK g1 _ [_,_,_,_,_,_]:=lp.ar;exact aj 2 rfl (J l3 (bn (cp rfl au rfl (R.cs rfl) rfl rfl (fA.yes (by rw [dR,k0]) JV.mL E))))
 refine aj 3 rfl (ay (bN aA rfl rfl aZ) (ay (pr rfl rfl) ?_));refine c7 (fun d2:(c.toNat:Int)≤57=>?_) (fun d2=>?_)
 ·refine aj 32 rfl (J bx (az rfl ?_));have g':cU c=true:=nr (by omega);exact b' (av bp (eN (b5 (aO rfl (ah (aS (r:=((p+1:Nat):Int)) rfl rfl) (a7 rfl (cx (bw (aw (σ:=Nat) (s:=p) (p+1) ⟨⟨by omega,by omega,by rw [fD aZ g'];exact kx⟩,R,E⟩)))))))))
 refine aj 4 rfl (ay (bN aA rfl rfl aZ) (ay (k1 rfl rfl) ?_));refine c7 (fun bu:(c.toNat:Int)=43=>?_) (fun bu=>?_)
 ·refine aj 26 rfl (J bx (az rfl ?_));have g':cU c=true:=nr (by omega);exact b' (av bp (eN (b5 (aO rfl (ah (aS (r:=((p+1:Nat):Int)) rfl rfl) (a7 rfl (cx (bw (aw (σ:=Nat) (s:=p) (p+1) ⟨⟨by omega,by omega,by rw [fD aZ g'];exact kx⟩,R,E⟩)))))))))
 refine aj 4 rfl (ay (bN aA rfl rfl aZ) (ay (k1 rfl rfl) ?_));refine c7 (fun ee:(c.toNat:Int)=45=>?_) (fun ee=>?_)
 ·refine aj 20 rfl (J bx (az rfl ?_));have g':cU c=true:=nr (by omega);exact b' (av bp (eN (b5 (aO rfl (ah (aS (r:=((p+1:Nat):Int)) rfl rfl) (a7 rfl (cx (bw (aw (σ:=Nat) (s:=p) (p+1) ⟨⟨by omega,by omega,by rw [fD aZ g'];exact kx⟩,R,E⟩)))))))))
 refine aj 4 rfl (ay (bN aA rfl rfl aZ) (ay (k1 rfl rfl) ?_));refine c7 (fun kH:(c.toNat:Int)=46=>?_) (fun kH=>?_)
 ·refine aj 14 rfl (J bx (az rfl ?_));have g':cU c=true:=nr (by omega);exact b' (av bp (eN (b5 (aO rfl (ah (aS (r:=((p+1:Nat):Int)) rfl rfl) (a7 rfl (cx (bw (aw (σ:=Nat) (s:=p) (p+1) ⟨⟨by omega,by omega,by rw [fD aZ g'];exact kx⟩,R,E⟩)))))))))
 refine aj 4 rfl (ay (bN aA rfl rfl aZ) (ay (k1 rfl rfl) ?_));refine c7 (fun EJ:(c.toNat:Int)=101=>?_) (fun EJ=>?_)
 ·refine aj 8 rfl (J bx (az rfl ?_));have g':cU c=true:=nr (by omega);exact b' (av bp (eN (b5 (aO rfl (ah (aS (r:=((p+1:Nat):Int)) rfl rfl) (a7 rfl (cx (bw (aw (σ:=Nat) (s:=p) (p+1) ⟨⟨by omega,by omega,by rw [fD aZ g'];exact kx⟩,R,E⟩)))))))))
 refine aj 4 rfl (ay (bN aA rfl rfl aZ) (ay (k1 rfl rfl) ?_));refine c7 (fun abc:(c.toNat:Int)=69=>?_) (fun abc=>?_)
 ·refine aj 2 rfl (J bx (az rfl ?_));have g':cU c=true:=nr (by omega);exact b' (av bp (eN (b5 (aO rfl (ah (aS (r:=((p+1:Nat):Int)) rfl rfl) (a7 rfl (cx (bw (aw (σ:=Nat) (s:=p) (p+1) ⟨⟨by omega,by omega,by rw [fD aZ g'];exact kx⟩,R,E⟩)))))))))
 refine aj 2 rfl (J bx (aI rfl ?_));have k0:p=ai cU s k:=by
  rw [← kx]
  first | exact(gk (by omega)).symm | exact(fU aZ (GB (by omega))).symm
 refine bL (aP (aP (ch (av a' (aB fun bO=>?_)))));have Ai:((s.drop k).take (ai cU s k-k)).length≤1000000:=by rw [List.length_take,List.length_drop];omega
 refine b5 (aj 3 rfl (ah ((tS aA rfl rfl rfl (by simp only [ib,iR];omega)).to (v':=S ((s.drop k).take (ai cU s k-k))) (by simp only [ib,iR,Int.toNat_natCast];rw [k0])) (a7 rfl (J bO (aa fun b4=>aO rfl (cG E (bB GV rfl) (yQ _ ((s.drop k).take (ai cU s k-k)) Ai) fun gr U E=>?_))))));replace R:=R.I U;refine aj 5 rfl (J b4 (aB fun cw=>aa fun cy=>aj 2 rfl (J cy ?_)));refine a1 rfl (fun Cj=>?_) (fun Cj=>?_)
 ·have dR:=iG (s:=s) (k:=k) (e:=4) (by unfold iU;rw [aL (by simpa using Cj)]);refine aa fun b6=>ah (bc dz bA rfl rfl) (aK au R rfl rfl fun h8 j0=>?_);replace E:=E.own j0.mod aY;replace R:aF h8 g1 _ [_,_,_,_,_,_]:=j0.ar;exact aj 2 rfl (J b6 (bn (aP (cp rfl au rfl (R.cs rfl) rfl rfl (fA.no dR JV.b3 E)))))
 have kN:¬ (dw ((s.drop k).take (ai cU s k-k))).1=false:=by simpa using Cj
 refine b' (av cw (aa fun bR=>aO rfl (cJ (bB AV rfl) (AH _ ((s.drop k).take (ai cU s k-k)) Ai (gR.I E).err) fun cN iS aH=>?_)));obtain⟨n,ae2,rfl,pW,U⟩:=aH;replace R:=R.I U;replace E:=E.then U;obtain⟨fu,hC⟩:=GW pW;refine aj 5 rfl (J bR (aB fun cv=>aa fun bV=>aO rfl ?_));refine tn (fun hm:((dw ((s.drop k).take (ai cU s k-k))).2)=true=>?_) (fun hm=>?_)
 ·refine aj 14 rfl (J bV (az rfl ?_));have dR:=iG (s:=s) (k:=k) (e:=7) (by first | exact hW kN hm | exact ja pW kN (by rintro⟨nc,po,sZ⟩;first | exact jy nc | omega));refine aa fun cE=>ah (bc dz bA rfl rfl) (aK au R rfl rfl fun i' kI=>?_);replace E:=E.own kI.mod aY;replace R:aF i' g1 _ [_,_,_,_,_,_]:=kI.ar;exact aj 2 rfl (J cE (bn (aP (cp rfl au rfl (R.cs rfl) rfl rfl (fA.no dR JV.b3 E)))))
 refine aj 2 rfl (gN (bB sK rfl) (pM _ n fu hC (gR.I E).Ag) fun iw U=>?_);replace R:=R.I U;replace E:=E.then U;refine ay (fj rfl) (ay (ia rfl rfl) ?_);refine c7 (fun jy:Lib.itoa n≠((s.drop k).take (ai cU s k-k))=>?_) (fun jy=>?_)
 ·refine aj 9 rfl (J bV (az rfl ?_));have dR:=iG (s:=s) (k:=k) (e:=7) (by first | exact hW kN hm | exact ja pW kN (by rintro⟨nc,po,sZ⟩;first | exact jy nc | omega));refine aa fun cI=>ah (bc dz bA rfl rfl) (aK au R rfl rfl fun nd lY=>?_);replace E:=E.own lY.mod aY;replace R:aF nd g1 _ [_,_,_,_,_,_]:=lY.ar;exact aj 2 rfl (J cI (bn (aP (cp rfl au rfl (R.cs rfl) rfl rfl (fA.no dR JV.b3 E)))))
 refine aj 4 rfl ?_;refine c7 (fun nJ:n > 9007199254740991=>?_) (fun nJ=>?_)
 ·refine aj 5 rfl (J bV (az rfl ?_));have dR:=iG (s:=s) (k:=k) (e:=7) (by first | exact hW kN hm | exact ja pW kN (by rintro⟨nc,po,sZ⟩;first | exact jy nc | omega));refine aa fun dr=>ah (bc dz bA rfl rfl) (aK au R rfl rfl fun lF lW=>?_);replace E:=E.own lW.mod aY;replace R:aF lF g1 _ [_,_,_,_,_,_]:=lW.ar;exact aj 2 rfl (J dr (bn (aP (cp rfl au rfl (R.cs rfl) rfl rfl (fA.no dR JV.b3 E)))))
 refine aj 4 rfl ?_;refine c7 (fun iQ:n < -9007199254740991=>?_) (fun iQ=>?_)
 ·refine ah (hG rfl rfl rfl) (J bV (az rfl ?_));have dR:=iG (s:=s) (k:=k) (e:=7) (by first | exact hW kN hm | exact ja pW kN (by rintro⟨nc,po,sZ⟩;first | exact jy nc | omega));refine aa fun ec=>ah (bc dz bA rfl rfl) (aK au R rfl rfl fun h2 h9=>?_);replace E:=E.own h9.mod aY;replace R:aF h2 g1 _ [_,_,_,_,_,_]:=h9.ar;exact aj 2 rfl (J ec (bn (aP (cp rfl au rfl (R.cs rfl) rfl rfl (fA.no dR JV.b3 E)))))
 refine ah (hG rfl rfl rfl) (J bV (aI rfl ?_));have dR:=yR (s:=s) (k:=k) (yH kN (Classical.not_not.1 jy) (by omega) (by omega));refine b' (av cv (aa fun dG=>aO rfl (ah (bc dz bA rfl rfl) (aO rfl (aK au R rfl rfl fun jJ fa=>?_)))));replace E:=E.own fa.mod aY;replace R:aF jJ g1 _ [_,_,_,_,_,_]:=fa.ar;exact aj 2 rfl (J dG (bn (cp rfl au rfl (R.cs rfl) rfl rfl (fA.yes (by rw [dR,k0]) JV.mL E))))
set_option maxRecDepth 10000
def MM:=eW Tryz.func40
def uj:=eW Tryz.func41
def O8 (N:Nat):Prop:=∀ (f:Nat),f≤N→∀ (A:List Nat) (w:World) (s:ab) (k deep:Nat) (r:tA),(∀ a∈A,a<w.heap.size)→k≤s.length→s.length≤65536→deep≤32→Env w→jl f s k deep=some r→Calls aR 40 [S s,.int .i64 (k:Int),.int .i64 (deep:Int)].toArray w (bH fun u w'=>fA A w w' r u)
theorem rE.put {A:List Nat} {w0 w w':World} {e sz n:Nat} {eM:Value} {rows:List (List D)} {vs:List Value} {M:List Nat} (G:rE A w0 w e sz eM n rows vs) (k:Mod M w w') (eX:∀ x∈M,x∈A):rE A w0 w' e sz eM n rows vs:=
 ⟨G.own.mod k (fun x ae h=>G.wH x ae (eX x h)),G.rd.toM k (fun x ae=>List.mem_append_left _ (eX x ae)),G.uQ,G.wH,fun a aE=>Nat.lt_of_lt_of_le (G.al a aE) k.size⟩
theorem MN {r:tA} (h:amj r≠0):∃ e,r = .error e:=by
 cases r with
 | ok x=>exact absurd rfl h
 | error e=>exact⟨e,rfl⟩
theorem MO {s:ab} {f k deep:Nat} {r:tA} (bo:jl f s k deep=some r) (h:amj r=0):∃ x ef,r = .ok (x,ef):=by
 cases r with
 | ok x=>exact⟨x.1,x.2,rfl⟩
 | error e=>exact absurd h ((Vx s f).1 _ _ _ bo)
theorem O9 {f:Nat} {s:ab} {k deep:Nat} {r:tA} {F:Int→Option tA} {G:JV→Nat→Option tA} (h:(match jl f s k deep with | none=>none | some (.error e)=>F e | some (.ok (x,ef))=>G x ef)=some r):∃ r1,jl f s k deep=some r1:=by
 cases h1:jl f s k deep with
 | none=>rw [h1] at h;cases h
 | some r1=>exact⟨r1,rfl⟩
theorem JD (N:Nat) (ea:O8 N) (A:List Nat) (w:World) (s:ab) (k deep:Nat) (r:tA) (f:Nat) (dy:∀ a∈A,a<w.heap.size) (hk:k≤s.length) (bh:s.length≤65536) (bT:deep≤32) (gR:Env w) (dn:f≤N+1) (bo:(if aC s (ai aT s k) [93] then some (.ok (JV.de [],ai aT s k+1))else oP f s (ai aT s k) deep [])=some r):Calls aR 74 [S s,.int .i64 (k:Int),.int .i64 (deep:Int)].toArray w (bH fun u w'=>fA A w w' r u):=by
 refine iZ Tryz.func74 rfl fun E=>aa fun a6=>bj bA rfl fun g1 aJ bZ=>?_;have aY:=bZ.le E;replace E:=E.then bZ.mod;have R:=bZ.ar;refine aj 2 rfl (J a6 (aa fun aQ=>ah (bc dz bA rfl rfl) (bj bA rfl fun g2 cX cz=>?_)));have bJ:=cz.le E;have bl:=cz.ne R;replace R:=R.I cz.mod;replace E:=E.then cz.mod;have ag:=cz.ar;refine aK au ag rfl rfl fun gr rW=>?_;replace R:=R.ne rW.mod bl;replace E:=E.own rW.mod bJ;replace ag:aF gr g2 _ [_,_,_,_,_,_]:=rW.ar;refine J aQ (aa fun a'=>aj 2 rfl (cG E (bB uj rfl) (mP _ s k hk (by omega)) fun h8 U E=>?_));replace R:=R.I U;replace ag:=ag.I U;have WQ:=dc aT s k;have WR:ai aT s k≤s.length:=dD hk;obtain⟨ef,MP⟩:∃ q,q=ai aT s k:=⟨_,rfl⟩;rw [← MP] at WQ WR ⊢ bo;refine a7 rfl (J a' (aB fun bp=>aa fun bx=>aj 2 rfl (cG E (bB gS rfl) (fi _ s [93] ef (by omega) (by omega)) fun iS U E=>?_)));replace R:=R.I U;replace ag:=ag.I U;refine J bx ?_;refine a1 rfl (fun nH=>?_) (fun nH=>?_)
 ·rw [aL nH] at bo;injection bo with bo
  refine aa fun bO=>ah (br au rfl (ag.cs rfl)) (aO rfl (ah (aS (r:=((ef+1:Nat):Int)) rfl rfl) (aK au R rfl rfl fun i' kI=>?_)));replace ag:=ag.ne kI.mod (Ne.symm bl);replace E:=E.own kI.mod aY;replace R:aF i' g1 _ [_,_,_,_,_,_]:=kI.ar;exact aj 2 rfl (J bO (bn (aP (cp rfl au rfl (R.cs rfl) rfl rfl (fA.yes bo.symm (JV.Ck (l:=[]) rfl bq.eh) E)))))
 rw [ak (by rw [nH];simp)] at bo;refine b' (av bp (eN (bK (σ:=Nat×Nat×List JV×Value×List Value) (fun⟨m,j,acc,eM,vs⟩=>[(0,S s),(1,.int .i64 (j:Int)),(2,.int .i64 (deep:Int)),(6,.pointer (some ⟨g1,0,none⟩)),(9,.pointer (some ⟨g2,0,none⟩))]) (fun⟨m,j,acc,eM,vs⟩ aJ=>(m≤f∧j≤s.length∧acc.length≤j∧oP m s j deep acc=some r)∧rE (g1::g2::A) w aJ 25 6 eM acc.length (acc.map JV.D) vs∧aF aJ g2 25 [.int .i64 4,.bool false,.int .i64 0,S [],eM,.slice none 0 0]∧aF aJ g1 25 [.int .i64 0,.bool false,.int .i64 0,S [],.slice none 0 0,.slice none 0 0]∧Mod [] w aJ) (fun⟨m,j,acc,eM,vs⟩=>m) (⟨f,ef,[],.slice none 0 0,[]⟩) (⟨⟨by omega,by omega,by simp,bo⟩,rE.nil (fun a aE=>by rcases cB aE with rfl | aE;exact R.lt;rcases cB aE with rfl | aE;exact ag.lt;exact Nat.lt_of_lt_of_le (dy a aE) E.size),ag,R,E⟩) ?_)));rintro⟨m,j,acc,eM,vs⟩ iw ⟨⟨hm,eD,F4,su⟩,abd,ag,R,E⟩;obtain⟨q,rfl⟩:∃ q,m=q+1:=by
  cases m with
  | zero=>simp [oP] at su
  | succ q=>exact⟨q,rfl⟩
 rw [oP] at su;obtain⟨r1,GX⟩:=O9 su;rw [GX] at su;have eE:=Mod.refl [] iw;refine eN (aa fun b4=>aj 3 rfl (cJ (bB MM rfl) (ea q (by omega) ((g1::g2::A)++bk eM) _ s j deep r1 (abd.I eE).lt eD bh bT (gR.I E) GX) fun cN nd aH=>?_));obtain⟨yS,rfl,oK,U⟩:=aH;replace R:=R.I U;replace ag:=ag.I U;replace E:=E.then U;replace eE:=eE.then U;obtain⟨yT,yU,Am,An,rfl,oW,ps⟩:=JV.aU oK;replace oK:=JV.bX oW ps;have gi:=Mod.refl [] nd;refine aj 4 rfl (bj bA rfl fun g3 lF dF=>?_);have df:=dF.le E;have wP:=dF.le eE;have yV:=dF.le gi;have dv:=dF.ne R;have ca:=dF.ne ag;replace R:=R.I dF.mod;replace ag:=ag.I dF.mod;replace E:=E.then dF.mod;replace eE:=eE.then dF.mod;replace gi:=gi.then dF.mod;have bd:=dF.ar;refine aK au bd rfl rfl fun h2 h9=>?_;replace R:=R.ne h9.mod dv;replace ag:=ag.ne h9.mod ca;replace E:=E.own h9.mod df;replace eE:=eE.own h9.mod wP;replace gi:=gi.own h9.mod yV;replace bd:aF h2 g3 _ [_,_,_,_,_,_]:=h9.ar;refine aj 2 rfl (J b4 (aB fun cw=>aa fun cy=>aj 2 rfl (J cy ?_)));refine aX rfl (fun ug=>?_) (fun ug=>?_)
 ·obtain⟨e,rfl⟩:=MN ug;have dR:r = .error e:=by injection su with su;exact su.symm
  refine aa fun b6=>ah (bc dz bA rfl rfl) (aO rfl (aK au R rfl rfl fun jJ fa=>?_));replace ag:=ag.ne fa.mod (Ne.symm bl);replace bd:=bd.ne fa.mod (Ne.symm dv);replace E:=E.own fa.mod aY;replace R:aF jJ g1 _ [_,_,_,_,_,_]:=fa.ar;exact aj 2 rfl (J b6 (bn (aP (bw (aP (bw (cp rfl au rfl (R.cs rfl) rfl rfl (fA.no dR JV.b3 E))))))))
 obtain⟨x,jt,rfl⟩:=MO GX (Classical.not_not.1 ug);have rF:=(sf s q).1 _ _ _ _ eD GX
 dsimp only at su
 refine b' (av cw (aa fun bR=>ah (aD gU rfl) (ah (bF j8 rfl (ag.cell rfl)) (ah (br au rfl (bd.cs rfl)) (q8 kt bA rfl rfl fun g4 mo N4=>?_)))));have fQ:=N4.le E;have uW:=N4.le eE;have EZ:=N4.le gi;have gb:=N4.ne R;have eR:=N4.ne ag;have dC:=N4.ne bd;replace R:=R.I N4.mod;replace ag:=ag.I N4.mod;replace bd:=bd.I N4.mod;replace E:=E.then N4.mod;replace eE:=eE.then N4.mod;replace gi:=gi.then N4.mod;have bm:=N4.ar;have DR:=abd.I eE;have asN:ao _ _ x.D _:=oK.b1 gi;refine bz kt rfl rfl DR.own (Src.own hJ (Own.all (cs:=[_,_,_,_,_,_]) bm rfl (by omega)) (by simp [Value.oneCell',ku])) (by decide) (by omega) (by omega) rfl fun ahw mT ek=>?_;replace R:=R.mod ek.mod (fun ae=>DR.wH _ ae (by simp));replace ag:=ag.mod ek.mod (fun ae=>DR.wH _ ae (by simp));have Ao:=(DR.app E ek rfl asN).same (m:=(acc ++ [x]).length) (rows':=(acc ++ [x]).map JV.D) (by simp) (by simp);replace E:=E.trans' ek.mod (fun y ba=>.inr (DR.uQ y ba));obtain⟨asO,c2,rfl,eQ,h3⟩:=Ao.own.form;refine ah (aD gU rfl) (cL j8 ag rfl rfl fun lK lO=>?_);replace R:=R.ne lO.mod bl;replace E:=E.own lO.mod bJ;replace ag:aF lK g2 _ [_,_,_,_,_,_]:=lO.ar;replace Ao:=Ao.put lO.mod (fun a aE=>by simp [dx aE]);have uk:=Mod.refl [] lK;refine J bR (aa fun cv=>aj 2 rfl (cG E (bB uj rfl) (mP _ s jt rF.2 (by omega)) fun nj U E=>?_));replace R:=R.I U;replace ag:=ag.I U;replace uk:=uk.then U;have WS:=dc aT s jt;have WT:ai aT s jt≤s.length:=dD rF.2;obtain⟨pA,WU⟩:∃ q,q=ai aT s jt:=⟨_,rfl⟩;rw [← WU] at WS WT ⊢ su;refine a7 rfl (J cv (aB fun bV=>aa fun cE=>aj 2 rfl (cG E (bB gS rfl) (fi _ s [93] pA (by omega) (by omega)) fun pJ U E=>?_)));replace R:=R.I U;replace ag:=ag.I U;replace uk:=uk.then U;refine J cE ?_;refine a1 rfl (fun JE=>?_) (fun JE=>?_)
 ·rw [aL JE] at su;injection su with su
  refine aa fun cI=>?_;have MQ:=((Ao.I uk).rep (fun r bo=>by obtain⟨asP,_,rfl⟩:=List.mem_map.1 bo;exact JV.sO _) (by simp));refine ah (br au rfl (ag.cs rfl)) (aO rfl (ah (aS (r:=((pA+1:Nat):Int)) rfl rfl) (aK au R rfl rfl fun qT nN=>?_)));replace ag:=ag.ne nN.mod (Ne.symm bl);replace E:=E.own nN.mod aY;replace R:aF qT g1 _ [_,_,_,_,_,_]:=nN.ar;replace MQ:=MQ.toM nN.mod (fun a aE=>by simp [dx aE]);exact aj 2 rfl (J cI (bn (aP (bw (aP (bw (cp rfl au rfl (R.cs rfl) rfl rfl (fA.yes su.symm (JV.yW (MQ.eu (A':=A) (fun a aE=>by simp [aE]))) E))))))))
 rw [ak (by rw [JE];simp)] at su;refine b' (av bV (aB fun dr=>aa fun ec=>aj 2 rfl (cG E (bB gS rfl) (fi _ s [44] pA (by omega) (by omega)) fun qU U E=>?_)));replace R:=R.I U;replace ag:=ag.I U;replace uk:=uk.then U;refine ah (fC rfl) (J ec ?_);refine a1 rfl (fun TL=>?_) (fun TL=>?_)
 ·have amS:aC s pA [44]=false:=by simpa using TL
  rw [ak (by rw [amS];simp)] at su;injection su with su
  refine aa fun dG=>ah (bc dz bA rfl rfl) (aK au R rfl rfl fun qV mY=>?_);replace ag:=ag.ne mY.mod (Ne.symm bl);replace E:=E.own mY.mod aY;replace R:aF qV g1 _ [_,_,_,_,_,_]:=mY.ar;exact aj 2 rfl (J dG (bn (aP (bw (aP (bw (cp rfl au rfl (R.cs rfl) rfl rfl (fA.no su.symm JV.b3 E))))))))
 have ae9:aC s pA [44]=true:=by simpa using TL
 rw [aL ae9] at su;have ahx:=b9 ae9 (by simp);simp only [List.length_singleton] at ahx;exact b' (av dr (b5 (aO rfl (ah (aS (r:=((pA+1:Nat):Int)) rfl rfl) (a7 rfl (cx (bw (aw (σ:=Nat×Nat×List JV×Value×List Value) (s:=⟨q+1,j,acc,eM,vs⟩) (⟨q,pA+1,acc ++ [x],_,vs++_⟩) ⟨⟨by omega,by omega,by rw [List.length_append,List.length_singleton];omega,su⟩,Ao.I uk,ag,R,E⟩))))))))
set_option maxRecDepth 10000
def WV:=eW Tryz.func73
theorem E0 (N:Nat) (ea:O8 N) (A:List Nat) (w:World) (s:ab) (k deep:Nat) (r:tA) (f:Nat) (dy:∀ a∈A,a<w.heap.size) (hk:k≤s.length) (bh:s.length≤65536) (bT:deep≤32) (gR:Env w) (dn:f≤N+1) (bo:(if aC s (ai aT s k) [125] then some (.ok (JV.obj [],ai aT s k+1))else oQ f s (ai aT s k) deep [])=some r):Calls aR 75 [S s,.int .i64 (k:Int),.int .i64 (deep:Int)].toArray w (bH fun u w'=>fA A w w' r u):=by
 refine iZ Tryz.func75 rfl fun E=>aa fun a6=>bj bA rfl fun g1 aJ bZ=>?_;have aY:=bZ.le E;replace E:=E.then bZ.mod;have R:=bZ.ar;refine aj 2 rfl (J a6 (aa fun aQ=>ah (bc dz bA rfl rfl) (bj bA rfl fun g2 cX cz=>?_)));have bJ:=cz.le E;have bl:=cz.ne R;replace R:=R.I cz.mod;replace E:=E.then cz.mod;have ag:=cz.ar;refine aK au ag rfl rfl fun gr rW=>?_;replace R:=R.ne rW.mod bl;replace E:=E.own rW.mod bJ;replace ag:aF gr g2 _ [_,_,_,_,_,_]:=rW.ar;refine J aQ (aa fun a'=>aj 2 rfl (cG E (bB uj rfl) (mP _ s k hk (by omega)) fun h8 U E=>?_));replace R:=R.I U;replace ag:=ag.I U;have amT:=dc aT s k;have amU:ai aT s k≤s.length:=dD hk;obtain⟨o8,asQ⟩:∃ q,q=ai aT s k:=⟨_,rfl⟩;rw [← asQ] at amT amU ⊢ bo;refine a7 rfl (J a' (aB fun bp=>aa fun bx=>aj 2 rfl (cG E (bB gS rfl) (fi _ s [125] o8 (by omega) (by omega)) fun iS U E=>?_)));replace R:=R.I U;replace ag:=ag.I U;refine J bx ?_;refine a1 rfl (fun pL=>?_) (fun pL=>?_)
 ·rw [aL pL] at bo;injection bo with bo
  refine aa fun bO=>ah (br au rfl (ag.cs rfl)) (aO rfl (ah (aS (r:=((o8+1:Nat):Int)) rfl rfl) (aK au R rfl rfl fun i' kI=>?_)));replace ag:=ag.ne kI.mod (Ne.symm bl);replace E:=E.own kI.mod aY;replace R:aF i' g1 _ [_,_,_,_,_,_]:=kI.ar;exact aj 2 rfl (J bO (bn (aP (cp rfl au rfl (R.cs rfl) rfl rfl (fA.yes bo.symm (JV.k4 (m:=[]) rfl bq.eh) E)))))
 rw [ak (by rw [pL];simp)] at bo;refine b' (av bp (eN (bK (σ:=Nat×Nat×List (ab×JV)×Value) (fun⟨m,j,JF,aks⟩=>[(0,S s),(1,.int .i64 (j:Int)),(2,.int .i64 (deep:Int)),(6,.pointer (some ⟨g1,0,none⟩)),(9,.pointer (some ⟨g2,0,none⟩))]) (fun⟨m,j,JF,aks⟩ aJ=>(m≤f∧j≤s.length∧JF.length≤j∧et JF∧oQ m s j deep JF=some r)∧bq (g1::g2::A) aJ (.jH 7 (JF.map JV.jq)) aks∧aF aJ g2 25 [.int .i64 5,.bool false,.int .i64 0,S [],.slice none 0 0,aks]∧aF aJ g1 25 [.int .i64 0,.bool false,.int .i64 0,S [],.slice none 0 0,.slice none 0 0]∧Mod [] w aJ) (fun⟨m,j,JF,aks⟩=>m) (⟨f,o8,[],.slice none 0 0⟩) (⟨⟨by omega,by omega,by simp,List.Pairwise.nil,bo⟩,bq.eh,ag,R,E⟩) ?_)));rintro⟨m,j,JF,aks⟩ iw ⟨⟨hm,eD,F4,ae',lq⟩,j3,ag,R,E⟩;obtain⟨q,rfl⟩:∃ q,m=q+1:=by
  cases m with
  | zero=>simp [oQ] at lq
  | succ q=>exact⟨q,rfl⟩
 rw [oQ] at lq;have eE:=Mod.refl [] iw;refine eN (aa fun b4=>aj 3 rfl (cG E (bB uj rfl) (mP _ s j eD (by omega)) fun nd U E=>?_));replace R:=R.I U;replace ag:=ag.I U;replace eE:=eE.then U;have WQ:=dc aT s j;have WR:ai aT s j≤s.length:=dD eD;obtain⟨ef,MP⟩:∃ q,q=ai aT s j:=⟨_,rfl⟩;rw [← MP] at WQ WR ⊢;refine cG E (bB WV rfl) (JC _ s ef (by omega)) fun lF U E=>?_;replace R:=R.I U;replace ag:=ag.I U;replace eE:=eE.then U;refine aj 7 rfl (J b4 (aB fun cw=>aa fun cy=>aj 2 rfl (J cy ?_)));refine a1 rfl (fun Mv=>?_) (fun Mv=>?_)
 ·have lX:dP s ef=none:=by cases h:dP s ef with | none=>rfl | some x=>rw [h] at Mv;cases Mv
  have nI:h5 s j JF = .error 4:=by unfold h5;rw [← MP,lX]
  rw [nI] at lq;injection lq with lq
  refine aa fun b6=>ah (bc dz bA rfl rfl) (aK au R rfl rfl fun h2 h9=>?_);replace ag:=ag.ne h9.mod (Ne.symm bl);replace E:=E.own h9.mod aY;replace R:aF h2 g1 _ [_,_,_,_,_,_]:=h9.ar;exact aj 2 rfl (J b6 (bn (aP (bw (aP (bw (cp rfl au rfl (R.cs rfl) rfl rfl (fA.no lq.symm JV.b3 E))))))))
 obtain⟨t,jt,lX⟩:∃ t jt,dP s ef=some (t,jt):=by
  cases h:dP s ef with
  | none=>rw [h] at Mv;cases Mv
  | some x=>exact⟨x.1,x.2,rfl⟩
 rw [lX,Option.getD_some];have amV:=(mI lX).2.1;have awv:=(mI lX).1;refine b' (av cw (aa fun bR=>ah (aD cd rfl) (ah (bF dM rfl (ag.cell rfl)) (aO rfl (cJ (bB MR rfl) (yj (g1::g2::A) _ _ eE JF _ j3 t) fun cN jJ aH=>?_)))));obtain⟨yS,rfl,WW,U⟩:=aH;replace R:=R.I U;replace ag:=ag.I U;replace E:=E.then U;replace eE:=eE.then U;obtain⟨yT,yU,Am,An,rfl,oW,ps⟩:=JV.aU WW;replace WW:=JV.bX oW ps;have gi:=Mod.refl [] jJ;refine aj 3 rfl (bj bA rfl fun g3 mo dF=>?_);have df:=dF.le E;have wP:=dF.le eE;have yV:=dF.le gi;have dv:=dF.ne R;have ca:=dF.ne ag;replace R:=R.I dF.mod;replace ag:=ag.I dF.mod;replace E:=E.then dF.mod;replace eE:=eE.then dF.mod;replace gi:=gi.then dF.mod;have bd:=dF.ar;refine aK au bd rfl rfl fun mT nU=>?_;replace R:=R.ne nU.mod dv;replace ag:=ag.ne nU.mod ca;replace E:=E.own nU.mod df;replace eE:=eE.own nU.mod wP;replace gi:=gi.own nU.mod yV;replace bd:aF mT g3 _ [_,_,_,_,_,_]:=nU.ar;refine a7 rfl (J bR (aB fun cv=>aa fun bV=>aO rfl (J bV ?_)));refine a1 rfl (fun JE=>?_) (fun JE=>?_)
 ·have nI:h5 s j JF = .error 6:=by unfold h5;rw [← MP,lX];simp only;rw [aL JE]
  rw [nI] at lq;injection lq with lq
  refine aa fun cE=>ah (bc dz bA rfl rfl) (aK au R rfl rfl fun lK lO=>?_);replace ag:=ag.ne lO.mod (Ne.symm bl);replace bd:=bd.ne lO.mod (Ne.symm dv);replace E:=E.own lO.mod aY;replace R:aF lK g1 _ [_,_,_,_,_,_]:=lO.ar;exact aj 2 rfl (J cE (bn (aP (bw (aP (bw (cp rfl au rfl (R.cs rfl) rfl rfl (fA.no lq.symm JV.b3 E))))))))
 skip
 refine b' (av cv (aa fun cI=>aj 2 rfl (cG E (bB uj rfl) (mP _ s jt amV (by omega)) fun nj U E=>?_)));replace R:=R.I U;replace ag:=ag.I U;replace bd:=bd.I U;replace eE:=eE.then U;replace gi:=gi.then U;have WS:=dc aT s jt;have WT:ai aT s jt≤s.length:=dD amV;obtain⟨pA,WU⟩:∃ q,q=ai aT s jt:=⟨_,rfl⟩;rw [← WU] at WS WT ⊢;refine a7 rfl (J cI (aB fun dr=>aa fun ec=>aj 2 rfl (cG E (bB gS rfl) (fi _ s [58] pA (by omega) (by omega)) fun pJ U E=>?_)));replace R:=R.I U;replace ag:=ag.I U;replace bd:=bd.I U;replace eE:=eE.then U;replace gi:=gi.then U;refine ah (fC rfl) (J ec ?_);refine a1 rfl (fun wT=>?_) (fun wT=>?_)
 ·have amW:aC s pA [58]=false:=by simpa using wT
  have nI:h5 s j JF = .error 4:=by unfold h5;rw [← MP,lX];simp only;rw [ak (by rw [JE];simp),← WU,ak (by rw [amW];simp)]
  rw [nI] at lq;injection lq with lq
  refine aa fun dG=>ah (bc dz bA rfl rfl) (aK au R rfl rfl fun qT nN=>?_);replace ag:=ag.ne nN.mod (Ne.symm bl);replace bd:=bd.ne nN.mod (Ne.symm dv);replace E:=E.own nN.mod aY;replace R:aF qT g1 _ [_,_,_,_,_,_]:=nN.ar;exact aj 2 rfl (J dG (bn (aP (bw (aP (bw (cp rfl au rfl (R.cs rfl) rfl rfl (fA.no lq.symm JV.b3 E))))))))
 have afa:aC s pA [58]=true:=by simpa using wT
 have nI:h5 s j JF = .ok (t,pA+1):=by unfold h5;rw [← MP,lX];simp only;rw [ak (by rw [JE];simp),← WU,aL afa]
 rw [nI] at lq
 dsimp only at lq
 have ahx:=b9 afa (by simp);simp only [List.length_singleton] at ahx;obtain⟨r1,GX⟩:=O9 lq;rw [GX] at lq;refine b' (av dr (aa fun eV=>aj 2 rfl (ah (aS (r:=((pA+1:Nat):Int)) rfl rfl) (aO rfl (cJ (bB MM rfl) (ea q (by omega) (g1::g2::A) _ s (pA+1) deep r1 (fun a aE=>by rcases cB aE with rfl | aE;exact R.lt;rcases cB aE with rfl | aE;exact ag.lt;exact Nat.lt_of_lt_of_le (dy a aE) E.size) (by omega) bh bT (gR.I E) GX) fun cN qU aH=>?_)))));obtain⟨azE,rfl,oK,U⟩:=aH;replace R:=R.I U;replace ag:=ag.I U;replace bd:=bd.I U;replace E:=E.then U;replace eE:=eE.then U;replace gi:=gi.then U;obtain⟨amX,amY,amZ,am0,rfl,ahy,ahz⟩:=JV.aU oK;replace oK:=JV.bX ahy ahz;have zK:=Mod.refl [] qU;refine aj 4 rfl (bj bA rfl fun g4 qV N4=>?_);have fQ:=N4.le E;have uW:=N4.le eE;have EZ:=N4.le gi;have Rj:=N4.le zK;have gb:=N4.ne R;have eR:=N4.ne ag;have dC:=N4.ne bd;replace R:=R.I N4.mod;replace ag:=ag.I N4.mod;replace bd:=bd.I N4.mod;replace E:=E.then N4.mod;replace eE:=eE.then N4.mod;replace gi:=gi.then N4.mod;replace zK:=zK.then N4.mod;have bm:=N4.ar;refine aK au bm rfl rfl fun pK lp=>?_;replace R:=R.ne lp.mod gb;replace ag:=ag.ne lp.mod eR;replace bd:=bd.ne lp.mod dC;replace E:=E.own lp.mod fQ;replace eE:=eE.own lp.mod uW;replace gi:=gi.own lp.mod EZ;replace zK:=zK.own lp.mod Rj;replace bm:aF pK g4 _ [_,_,_,_,_,_]:=lp.ar;refine aj 2 rfl (J eV (aB fun eO=>aa fun eC=>aj 2 rfl (J eC ?_)));refine aX rfl (fun yn=>?_) (fun yn=>?_)
 ·obtain⟨e,rfl⟩:=MN yn;have dR:r = .error e:=by injection lq with lq;exact lq.symm
  refine aa fun eP=>ah (bc dz bA rfl rfl) (aO rfl (aK au R rfl rfl fun ts sv=>?_));replace ag:=ag.ne sv.mod (Ne.symm bl);replace bd:=bd.ne sv.mod (Ne.symm dv);replace bm:=bm.ne sv.mod (Ne.symm gb);replace E:=E.own sv.mod aY;replace R:aF ts g1 _ [_,_,_,_,_,_]:=sv.ar;exact aj 2 rfl (J eP (bn (aP (bw (aP (bw (cp rfl au rfl (R.cs rfl) rfl rfl (fA.no dR JV.b3 E))))))))
 obtain⟨x,qX,rfl⟩:=MO GX (Classical.not_not.1 yn);have rF:=(sf s q).1 _ _ _ _ (by omega) GX
 dsimp only at lq
 have zZ:(dO JF t x).length≤JF.length+1:=uX ae';refine b' (av eO (aa fun fw=>ah (aD cd rfl) (ah (bF dM rfl (ag.cell rfl)) (aO rfl (ah (br au rfl (bm.cs rfl)) (ah ((cD iT eU rfl rfl)) (cJ (bB GY rfl) (wQ (g1::g2::A) _ (fun a aE=>by rcases cB aE with rfl | aE;exact R.lt;rcases cB aE with rfl | aE;exact ag.lt;exact Nat.lt_of_lt_of_le (dy a aE) E.size) JF _ (j3.b1 eE) t x _ (show ao _ _ x.D _ from oK.b1 zK) (by omega)) fun cN sJ aH=>?_)))))));obtain⟨ac2,U⟩:=aH;replace R:=R.I U;replace ag:=ag.I U;replace bd:=bd.I U;replace bm:=bm.I U;replace E:=E.then U;replace eE:=eE.then U;replace gi:=gi.then U;replace zK:=zK.then U;have am1:=Mod.refl [] sJ;obtain⟨am2,abb,afb,iE,fR⟩:=ac2.vL;rw [List.length_map] at afb;subst afb;refine ah (aD cd rfl) (cL dM ag rfl rfl fun tP Ap=>?_);replace R:=R.ne Ap.mod bl;replace bd:=bd.ne Ap.mod (Ne.symm ca);replace bm:=bm.ne Ap.mod (Ne.symm eR);replace E:=E.own Ap.mod bJ;replace ag:aF tP g2 _ [_,_,_,_,_,_]:=Ap.ar;replace ac2:=ac2.toM Ap.mod (fun a aE=>by simp [dx aE]);have uk:=Mod.refl [] tP;refine J fw (aa fun fT=>aj 2 rfl (cG E (bB uj rfl) (mP _ s qX rF.2 (by omega)) fun ve U E=>?_));replace R:=R.I U;replace ag:=ag.I U;replace uk:=uk.then U;have am3:=dc aT s qX;have am4:ai aT s qX≤s.length:=dD rF.2;obtain⟨ahA,asR⟩:∃ q,q=ai aT s qX:=⟨_,rfl⟩;rw [← asR] at am3 am4 ⊢ lq;refine a7 rfl (J fT (aB fun gh=>aa fun fk=>aj 2 rfl (cG E (bB gS rfl) (fi _ s [125] ahA (by omega) (by omega)) fun DC U E=>?_)));replace R:=R.I U;replace ag:=ag.I U;replace uk:=uk.then U;refine J fk ?_;refine a1 rfl (fun L4=>?_) (fun L4=>?_)
 ·rw [aL L4] at lq;injection lq with lq
  refine aa fun hq=>?_;have MQ:=ac2.b1 uk;refine ah (br au rfl (ag.cs rfl)) (aO rfl (ah (aS (r:=((ahA+1:Nat):Int)) rfl rfl) (aK au R rfl rfl fun vT mZ=>?_)));replace ag:=ag.ne mZ.mod (Ne.symm bl);replace E:=E.own mZ.mod aY;replace R:aF vT g1 _ [_,_,_,_,_,_]:=mZ.ar;replace MQ:=MQ.toM mZ.mod (fun a aE=>by simp [dx aE]);exact aj 2 rfl (J hq (bn (aP (bw (aP (bw (cp rfl au rfl (R.cs rfl) rfl rfl (fA.yes lq.symm (JV.r4 (MQ.eu (A':=A) (fun a aE=>by simp [aE]))) E))))))))
 rw [ak (by rw [L4];simp)] at lq;refine b' (av gh (aB fun gY=>aa fun iB=>aj 2 rfl (cG E (bB gS rfl) (fi _ s [44] ahA (by omega) (by omega)) fun DD U E=>?_)));replace R:=R.I U;replace ag:=ag.I U;replace uk:=uk.then U;refine ah (fC rfl) (J iB ?_);refine a1 rfl (fun TN=>?_) (fun TN=>?_)
 ·have am5:aC s ahA [44]=false:=by simpa using TN
  rw [ak (by rw [am5];simp)] at lq;injection lq with lq
  refine aa fun jR=>ah (bc dz bA rfl rfl) (aK au R rfl rfl fun ys Ri=>?_);replace ag:=ag.ne Ri.mod (Ne.symm bl);replace E:=E.own Ri.mod aY;replace R:aF ys g1 _ [_,_,_,_,_,_]:=Ri.ar;exact aj 2 rfl (J jR (bn (aP (bw (aP (bw (cp rfl au rfl (R.cs rfl) rfl rfl (fA.no lq.symm JV.b3 E))))))))
 have afc:aC s ahA [44]=true:=by simpa using TN
 rw [aL afc] at lq;have ag6:=b9 afc (by simp);simp only [List.length_singleton] at ag6;exact b' (av gY (b5 (aO rfl (ah (aS (r:=((ahA+1:Nat):Int)) rfl rfl) (a7 rfl (cx (bw (aw (σ:=Nat×Nat×List (ab×JV)×Value) (s:=⟨q+1,j,JF,aks⟩) (⟨q,ahA+1,dO JF t x,_⟩) ⟨⟨by omega,by omega,by omega,p9 ae',lq⟩,ac2.b1 uk,ag,R,E⟩))))))))
set_option maxRecDepth 10000
def WX:=eW Tryz.func74
def WY:=eW Tryz.func75
def ahB:=eW Tryz.func76
theorem GZ (N:Nat) (ea:O8 N) (A:List Nat) (w:World) (s:ab) (o8 deep:Nat) (r:tA) (f:Nat) (dy:∀ a∈A,a<w.heap.size) (hk:o8≤s.length) (bh:s.length≤65536) (bT:deep≤32) (gR:Env w) (dn:f≤N) (bo:jl (f+1) s o8 deep=some r):Calls aR 40 [S s,.int .i64 (o8:Int),.int .i64 (deep:Int)].toArray w (bH fun u w'=>fA A w w' r u):=by
 refine iZ Tryz.func40 rfl fun E=>?_;rw [jl] at bo
 dsimp only at bo
 refine aa fun a6=>bj bA rfl fun g1 aJ bZ=>?_;have aY:=bZ.le E;replace E:=E.then bZ.mod;have R:=bZ.ar;refine aj 2 rfl (J a6 (aa fun aQ=>aj 2 rfl (cG E (bB uj rfl) (mP _ s o8 hk (by omega)) fun cX U E=>?_)));replace R:=R.I U;have Jq:=dc aT s o8;have abu:ai aT s o8≤s.length:=dD hk;obtain⟨k,azF⟩:∃ q,q=ai aT s o8:=⟨_,rfl⟩;rw [← azF] at Jq abu ⊢ bo;refine a7 rfl (J aQ (aB fun a'=>aa fun bp=>aj 2 rfl (cG E (bB gS rfl) (fi _ s JV.kM k (by omega) (by omega)) fun gr U E=>?_)));replace R:=R.I U;refine J bp ?_;refine a1 rfl (fun tG=>?_) (fun tG=>?_)
 ·rw [aL tG] at bo;injection bo with bo
  refine aa fun bx=>ah (bc dz bA rfl rfl) (aO rfl (ah (aS (r:=((k+4:Nat):Int)) rfl rfl) (aK au R rfl rfl fun h8 j0=>?_)));replace E:=E.own j0.mod aY;replace R:aF h8 g1 _ [_,_,_,_,_,_]:=j0.ar;exact aj 2 rfl (J bx (bn (aP (cp rfl au rfl (R.cs rfl) rfl rfl (fA.yes bo.symm JV.b3 E)))))
 rw [ak (by rw [tG];simp)] at bo;refine b' (av a' (aB fun bO=>aa fun b4=>aj 2 rfl (cG E (bB gS rfl) (fi _ s JV.jT k (by omega) (by omega)) fun iS U E=>?_)));replace R:=R.I U;refine J b4 ?_;refine a1 rfl (fun pL=>?_) (fun pL=>?_)
 ·rw [aL pL] at bo;injection bo with bo
  refine aa fun cw=>ah (bc dz bA rfl rfl) (aO rfl (ah (aS (r:=((k+4:Nat):Int)) rfl rfl) (aK au R rfl rfl fun i' kI=>?_)));replace E:=E.own kI.mod aY;replace R:aF i' g1 _ [_,_,_,_,_,_]:=kI.ar;exact aj 2 rfl (J cw (bn (aP (cp rfl au rfl (R.cs rfl) rfl rfl (fA.yes bo.symm JV.sV E)))))
 rw [ak (by rw [pL];simp)] at bo;refine b' (av bO (aB fun cy=>aa fun b6=>aj 2 rfl (cG E (bB gS rfl) (fi _ s JV.hP k (by omega) (by omega)) fun iw U E=>?_)));replace R:=R.I U;refine J b6 ?_;refine a1 rfl (fun vf=>?_) (fun vf=>?_)
 ·rw [aL vf] at bo;injection bo with bo
  refine aa fun bR=>ah (bc dz bA rfl rfl) (aO rfl (ah (aS (r:=((k+5:Nat):Int)) rfl rfl) (aK au R rfl rfl fun nd lY=>?_)));replace E:=E.own lY.mod aY;replace R:aF nd g1 _ [_,_,_,_,_,_]:=lY.ar;exact aj 2 rfl (J bR (bn (aP (cp rfl au rfl (R.cs rfl) rfl rfl (fA.yes bo.symm JV.sV E)))))
 rw [ak (by rw [vf];simp)] at bo;refine b' (av cy (aB fun cv=>aa fun bV=>aj 2 rfl (cG E (bB gS rfl) (fi _ s [34] k (by omega) (by omega)) fun lF U E=>?_)));replace R:=R.I U;refine J bV ?_;refine a1 rfl (fun ahC=>?_) (fun ahC=>?_)
 ·rw [aL ahC] at bo
  skip
  refine aa fun cE=>aj 2 rfl (cG E (bB WV rfl) (JC _ s k (by omega)) fun h2 U E=>?_);replace R:=R.I U;refine aj 7 rfl (J cE (aB fun cI=>aa fun dr=>aj 2 rfl (J dr ?_)));refine a1 rfl (fun G0=>?_) (fun G0=>?_)
  ·have lX:dP s k=none:=by cases h:dP s k with | none=>rfl | some x=>rw [h] at G0;cases G0
   rw [lX] at bo;injection bo with bo
   refine aa fun ec=>ah (bc dz bA rfl rfl) (aK au R rfl rfl fun jJ fa=>?_);replace E:=E.own fa.mod aY;replace R:aF jJ g1 _ [_,_,_,_,_,_]:=fa.ar;exact aj 2 rfl (J ec (bn (aP (aP (cp rfl au rfl (R.cs rfl) rfl rfl (fA.no bo.symm JV.b3 E))))))
  obtain⟨t,jt,lX⟩:∃ t jt,dP s k=some (t,jt):=by
   cases h:dP s k with
   | none=>rw [h] at G0;cases G0
   | some x=>exact⟨x.1,x.2,rfl⟩
  rw [lX] at bo;rw [lX,Option.getD_some];injection bo with bo
  refine b' (av cI (aa fun dG=>aO rfl (ah (bc dz bA rfl rfl) (aO rfl (aK au R rfl rfl fun mo l0=>?_)))));replace E:=E.own l0.mod aY;replace R:aF mo g1 _ [_,_,_,_,_,_]:=l0.ar;exact aj 2 rfl (J dG (bn (aP (cp rfl au rfl (R.cs rfl) rfl rfl (fA.yes bo.symm JV.gl E)))))
 rw [ak (by rw [ahC];simp)] at bo;refine b' (av cv (aB fun eV=>aa fun eO=>aj 2 rfl (cG E (bB gS rfl) (fi _ s [91] k (by omega) (by omega)) fun mT U E=>?_)));replace R:=R.I U;refine tn (fun q0:(aC s k [91])=true=>?_) (fun q0=>?_)
 ·refine aj 5 rfl (J eO (az rfl ?_));have ev:(aC s k [91]||aC s k [123])=true:=by first | (simp only [q0,Bool.true_or];done) | (simp only [q0,Bool.false_or];first | exact pf | exact DM)
  rw [aL ev] at bo;obtain⟨c,aZ⟩:∃ c,s[k]? = some c:=by
   rcases Bool.or_eq_true_iff.1 ev with h | h <;> exact⟨_,gK.1 h⟩
  have nL:=(List.getElem?_eq_some_iff.1 aZ).1;refine aB fun eC=>aa fun eP=>aj 2 rfl (J eP ?_);refine aX rfl (fun lM=>?_) (fun lM=>?_)
  ·rw [aL (by omega)] at bo;injection bo with bo
   refine aa fun fw=>ah (bc dz bA rfl rfl) (aK au R rfl rfl fun lK lO=>?_);replace E:=E.own lO.mod aY;replace R:aF lK g1 _ [_,_,_,_,_,_]:=lO.ar;exact aj 2 rfl (J fw (bn (aP (aP (cp rfl au rfl (R.cs rfl) rfl rfl (fA.no bo.symm JV.b3 E))))))
  rw [ak (by omega)] at bo;refine b' (av eC (aB fun fT=>aa fun gh=>aj 2 rfl (ah (bN aA rfl rfl aZ) (ah (k1 rfl rfl) (J gh ?_)))));refine aX rfl (fun B'=>?_) (fun B'=>?_)
  ·rw [aL (by rw [fL aZ];exact bD (dT B'))] at bo;refine aa fun fk=>aj 2 rfl (ah (aS (r:=((k+1:Nat):Int)) rfl rfl) (aO rfl (ah (aS (r:=((deep+1:Nat):Int)) rfl rfl) (cJ (bB WX rfl) (JD N ea (g1::A) _ s (k+1) (deep+1) r f (fun a aE=>by rcases cB aE with rfl | aE;exact R.lt;exact Nat.lt_of_lt_of_le (dy a aE) E.size) (by omega) bh (by omega) (gR.I E) (by omega) bo) fun cN nj aH=>?_))));obtain⟨yS,rfl,oK,U⟩:=aH;replace R:=R.I U;replace E:=E.then U;obtain⟨yT,yU,Am,An,rfl,oW,ps⟩:=JV.aU oK;replace oK:=JV.bX oW ps;have gi:=Mod.refl [] nj;refine aj 3 rfl (aK au R rfl rfl fun pJ Aq=>?_);replace E:=E.own Aq.mod aY;replace R:aF pJ g1 _ [_,_,_,_,_,_]:=Aq.ar;replace oK:=oK.toM Aq.mod (fun a aE=>by simp [dx aE]);exact aj 2 rfl (J fk (bn (aP (aP (cp rfl au rfl (R.cs rfl) rfl rfl ⟨_,rfl,oK.eu (A':=A) (fun a aE=>by simp [aE]),E⟩)))))
  rw [ak (by rw [fL aZ];intro h;exact B' (by rw [of_decide_eq_true h];rfl))] at bo;refine b' (av fT (aa fun hq=>aj 2 rfl (ah (aS (r:=((k+1:Nat):Int)) rfl rfl) (aO rfl (ah (aS (r:=((deep+1:Nat):Int)) rfl rfl) (cJ (bB WY rfl) (E0 N ea (g1::A) _ s (k+1) (deep+1) r f (fun a aE=>by rcases cB aE with rfl | aE;exact R.lt;exact Nat.lt_of_lt_of_le (dy a aE) E.size) (by omega) bh (by omega) (gR.I E) (by omega) bo) fun cN qT aH=>?_))))));obtain⟨yS,rfl,oK,U⟩:=aH;replace R:=R.I U;replace E:=E.then U;obtain⟨yT,yU,Am,An,rfl,oW,ps⟩:=JV.aU oK;replace oK:=JV.bX oW ps;have gi:=Mod.refl [] qT;refine aj 3 rfl (aK au R rfl rfl fun qU xr=>?_);replace E:=E.own xr.mod aY;replace R:aF qU g1 _ [_,_,_,_,_,_]:=xr.ar;replace oK:=oK.toM xr.mod (fun a aE=>by simp [dx aE]);exact aj 2 rfl (J hq (bn (aP (cp rfl au rfl (R.cs rfl) rfl rfl ⟨_,rfl,oK.eu (A':=A) (fun a aE=>by simp [aE]),E⟩))))
 refine aj 3 rfl (gN (bB gS rfl) (fi _ s [123] k (by omega) (by omega)) fun qV U=>?_);replace R:=R.I U;replace E:=E.then U;refine tn (fun pf:(aC s k [123])=true=>?_) (fun pf=>?_);rotate_left
 ·refine ah (hG rfl rfl rfl) (J eO (aI rfl ?_));have DM:=pf;have ev:(aC s k [91]||aC s k [123])=false:=by simp only [q0,Bool.false_or];first | exact pf | exact DM
  rw [ak (by rw [ev];simp)] at bo;injection bo with bo
  subst bo;refine b' (av eV (aa fun kc=>aj 2 rfl (cJ (bB ahB rfl) (ac1 (g1::A) _ s k (by omega) (by omega) (gR.I E)) fun cN DC aH=>?_)));obtain⟨yS,rfl,oK,U⟩:=aH;replace R:=R.I U;replace E:=E.then U;obtain⟨yT,yU,Am,An,rfl,oW,ps⟩:=JV.aU oK;replace oK:=JV.bX oW ps;have gi:=Mod.refl [] DC;refine aj 3 rfl (aK au R rfl rfl fun vT mZ=>?_);replace E:=E.own mZ.mod aY;replace R:aF vT g1 _ [_,_,_,_,_,_]:=mZ.ar;replace oK:=oK.toM mZ.mod (fun a aE=>by simp [dx aE]);exact aj 2 rfl (J kc (bn (cp rfl au rfl (R.cs rfl) rfl rfl ⟨_,rfl,oK.eu (A':=A) (fun a aE=>by simp [aE]),E⟩)))
 refine ah (hG rfl rfl rfl) (J eO (az rfl ?_));have DM:=pf;have ev:(aC s k [91]||aC s k [123])=true:=by first | (simp only [q0,Bool.true_or];done) | (simp only [q0,Bool.false_or];first | exact pf | exact DM)
 rw [aL ev] at bo;obtain⟨c,aZ⟩:∃ c,s[k]? = some c:=by
  rcases Bool.or_eq_true_iff.1 ev with h | h <;> exact⟨_,gK.1 h⟩
 have nL:=(List.getElem?_eq_some_iff.1 aZ).1;refine aB fun gY=>aa fun iB=>aj 2 rfl (J iB ?_);refine aX rfl (fun lM=>?_) (fun lM=>?_)
 ·rw [aL (by omega)] at bo;injection bo with bo
  refine aa fun jR=>ah (bc dz bA rfl rfl) (aK au R rfl rfl fun pK lp=>?_);replace E:=E.own lp.mod aY;replace R:aF pK g1 _ [_,_,_,_,_,_]:=lp.ar;exact aj 2 rfl (J jR (bn (aP (aP (cp rfl au rfl (R.cs rfl) rfl rfl (fA.no bo.symm JV.b3 E))))))
 rw [ak (by omega)] at bo;refine b' (av gY (aB fun l3=>aa fun kb=>aj 2 rfl (ah (bN aA rfl rfl aZ) (ah (k1 rfl rfl) (J kb ?_)))));refine aX rfl (fun B'=>?_) (fun B'=>?_)
 ·rw [aL (by rw [fL aZ];exact bD (dT B'))] at bo;refine aa fun k6=>aj 2 rfl (ah (aS (r:=((k+1:Nat):Int)) rfl rfl) (aO rfl (ah (aS (r:=((deep+1:Nat):Int)) rfl rfl) (cJ (bB WX rfl) (JD N ea (g1::A) _ s (k+1) (deep+1) r f (fun a aE=>by rcases cB aE with rfl | aE;exact R.lt;exact Nat.lt_of_lt_of_le (dy a aE) E.size) (by omega) bh (by omega) (gR.I E) (by omega) bo) fun cN ts aH=>?_))));obtain⟨yS,rfl,oK,U⟩:=aH;replace R:=R.I U;replace E:=E.then U;obtain⟨yT,yU,Am,An,rfl,oW,ps⟩:=JV.aU oK;replace oK:=JV.bX oW ps;have gi:=Mod.refl [] ts;refine aj 3 rfl (aK au R rfl rfl fun sJ s5=>?_);replace E:=E.own s5.mod aY;replace R:aF sJ g1 _ [_,_,_,_,_,_]:=s5.ar;replace oK:=oK.toM s5.mod (fun a aE=>by simp [dx aE]);exact aj 2 rfl (J k6 (bn (aP (aP (cp rfl au rfl (R.cs rfl) rfl rfl ⟨_,rfl,oK.eu (A':=A) (fun a aE=>by simp [aE]),E⟩)))))
 rw [ak (by rw [fL aZ];intro h;exact B' (by rw [of_decide_eq_true h];rfl))] at bo;refine b' (av l3 (aa fun ni=>aj 2 rfl (ah (aS (r:=((k+1:Nat):Int)) rfl rfl) (aO rfl (ah (aS (r:=((deep+1:Nat):Int)) rfl rfl) (cJ (bB WY rfl) (E0 N ea (g1::A) _ s (k+1) (deep+1) r f (fun a aE=>by rcases cB aE with rfl | aE;exact R.lt;exact Nat.lt_of_lt_of_le (dy a aE) E.size) (by omega) bh (by omega) (gR.I E) (by omega) bo) fun cN tP aH=>?_))))));obtain⟨yS,rfl,oK,U⟩:=aH;replace R:=R.I U;replace E:=E.then U;obtain⟨yT,yU,Am,An,rfl,oW,ps⟩:=JV.aU oK;replace oK:=JV.bX oW ps;have gi:=Mod.refl [] tP;refine aj 3 rfl (aK au R rfl rfl fun ve Al=>?_);replace E:=E.own Al.mod aY;replace R:aF ve g1 _ [_,_,_,_,_,_]:=Al.ar;replace oK:=oK.toM Al.mod (fun a aE=>by simp [dx aE]);exact aj 2 rfl (J ni (bn (aP (cp rfl au rfl (R.cs rfl) rfl rfl ⟨_,rfl,oK.eu (A':=A) (fun a aE=>by simp [aE]),E⟩))))
set_option maxRecDepth 10000
theorem O':∀ N:Nat,O8 N
 | 0,f,dn,A,w,s,k,deep,r,dy,hk,bh,bT,gR,bo=>by
  obtain rfl:f=0:=by omega
  simp [jl] at bo
 | N+1,f,dn,A,w,s,k,deep,r,dy,hk,bh,bT,gR,bo=>by
  cases f with
  | zero=>simp [jl] at bo
  | succ f=>exact GZ N (O' N) A w s k deep r f dy hk bh bT gR (by omega) bo
theorem WZ (A:List Nat) (w:World) (s:ab) (dy:∀ a∈A,a<w.heap.size) (bh:s.length≤65536) (gR:Env w):Calls aR 40 [S s,.int .i64 0,.int .i64 0].toArray w (bH fun u w'=>fA A w w' (vZ s) u):=O' _ _ (Nat.le_refl _) A w s 0 0 _ dy (by omega) bh (by decide) gR (w4 s)
theorem Rk {s:ab} (h:65536<s.length):iv s=JV.fg∧jY s=3:=by
 have:parse s = .error 3:=by unfold parse;rw [aL h]
 exact⟨by unfold iv;rw [this],by unfold jY;rw [this]⟩
theorem ac3 {s:ab} {e:Int} (bh:s.length≤65536) (h:vZ s = .error e):iv s=JV.fg∧jY s=amj (vZ s):=by
 have:parse s = .error e:=by unfold parse;rw [ak (by omega),h]
 exact⟨by unfold iv;rw [this],by unfold jY;rw [this,h];rfl⟩
theorem Rl {s:ab} {x:JV} {k:Nat} (bh:s.length≤65536) (h:vZ s = .ok (x,k)) (hk:ai aT s k<s.length):iv s=JV.fg∧jY s=4:=by
 have:parse s = .error 4:=by
  unfold parse;rw [ak (by omega),h];simp only;rw [aL hk]
 exact⟨by unfold iv;rw [this],by unfold jY;rw [this]⟩
theorem W6 {s:ab} {x:JV} {k:Nat} (bh:s.length≤65536) (h:vZ s = .ok (x,k)) (hk:¬ ai aT s k<s.length):iv s=awl (vZ s)∧jY s=0:=by
 have:parse s = .ok x:=by
  unfold parse;rw [ak (by omega),h];simp only;rw [ak hk]
 exact⟨by unfold iv;rw [this,h];rfl,by unfold jY;rw [this]⟩
theorem MS (A:List Nat) (w:World) (dy:∀ a∈A,a<w.heap.size) (s:ab) (gR:Env w) (DI:s.length≤1000000):Calls aR 17 [S s].toArray w (bH fun u w'=>∃ us,u = .tuple #[.agg us.toArray,.int .i64 (jY s)]∧ao A w' (iv s).D us∧Mod [] w w'):=by
 refine bs Tryz.func17 rfl fun E=>aa fun a6=>bj bA rfl fun g1 aJ bZ=>?_;have aY:=bZ.le E;replace E:=E.then bZ.mod;have R:=bZ.ar;refine a7 rfl (J a6 (aB fun aQ=>aa fun a'=>aO rfl (ah (bQ aA rfl) (ah (hV rfl rfl) (J a' ?_)))));refine aX rfl (fun l2=>?_) (fun l2=>?_)
 ·have cc:=Rk (s:=s) (by omega);refine aa fun bp=>ah (bc dz bA rfl rfl) (aK au R rfl rfl fun cX Ds=>?_);replace E:=E.own Ds.mod aY;replace R:aF cX g1 _ [_,_,_,_,_,_]:=Ds.ar;exact a7 rfl (J bp (bn (aP (jO rfl au rfl (R.cs rfl) rfl ⟨_,by rw [cc.2];try rfl,by rw [cc.1];exact JV.b3,E⟩))))
 have vb:s.length≤65536:=by omega
 refine b' (av aQ (aa fun bx=>aO rfl (cJ (bB MM rfl) (WZ (g1::A) _ s (fun a aE=>by rcases cB aE with rfl | aE;exact R.lt;exact Nat.lt_of_lt_of_le (dy a aE) E.size) vb (gR.I E)) fun cN gr aH=>?_)));obtain⟨yS,rfl,oK,U⟩:=aH;replace R:=R.I U;replace E:=E.then U;obtain⟨yT,yU,Am,An,rfl,oW,ps⟩:=JV.aU oK;replace oK:=JV.bX oW ps;have gi:=Mod.refl [] gr;refine aj 4 rfl (bj bA rfl fun g2 h8 cz=>?_);have bJ:=cz.le E;have Rm:=cz.le gi;have bl:=cz.ne R;replace R:=R.I cz.mod;replace E:=E.then cz.mod;replace gi:=gi.then cz.mod;have ag:=cz.ar;refine aK au ag rfl rfl fun iS hd=>?_;replace R:=R.ne hd.mod bl;replace E:=E.own hd.mod bJ;replace gi:=gi.own hd.mod Rm;replace ag:aF iS g2 _ [_,_,_,_,_,_]:=hd.ar;refine aj 2 rfl (J bx (aB fun bO=>aa fun b4=>aj 2 rfl ?_));refine c7 (fun cP:amj (vZ s)=0=>?_) (fun cP=>?_);rotate_left
 ·obtain⟨e,Rn⟩:=MN cP;have cc:=ac3 vb Rn;refine aj 8 rfl (J b4 (aI rfl (b' (av bO (aB fun cE=>aa fun cI=>aj 2 rfl (kq (bD cP) (J cI (az rfl (aa fun dr=>ah (bc dz bA rfl rfl) (aO rfl ?_))))))))));refine aK au R rfl rfl fun lF lW=>?_;replace ag:=ag.ne lW.mod (Ne.symm bl);replace E:=E.own lW.mod aY;replace R:aF lF g1 _ [_,_,_,_,_,_]:=lW.ar;exact a7 rfl (J dr (bn (aP (jO rfl au rfl (R.cs rfl) rfl ⟨_,by rw [cc.2];try rfl,by rw [cc.1];exact JV.b3,E⟩))))
 obtain⟨x,k,Rn⟩:=MO (w4 s) cP;have aW:=(sf s _).1 _ _ _ _ (Nat.zero_le _) ((w4 s).trans (by rw [Rn]));have afd:awm (vZ s)=k:=by rw [Rn];rfl
 rw [afd];refine aj 3 rfl (gN (bB uj rfl) (mP _ s k (by omega) (by omega)) fun i' U=>?_);replace R:=R.I U;replace ag:=ag.I U;replace E:=E.then U;replace gi:=gi.then U;refine ay (fj rfl) (ay (bQ aA rfl) (ay (cT rfl rfl) ?_));refine c7 (fun bM:((ai aT s k:Nat):Int)<(s.length:Int)=>?_) (fun bM=>?_)
 ·have cc:=Rl vb Rn (by omega);refine ah (oH rfl rfl rfl) (J b4 (az rfl (b5 (a7 rfl (J bO (aB fun cw=>aa fun cy=>aj 2 rfl (kq (bD (by decide)) (J cy (az rfl (aa fun b6=>ah (bc dz bA rfl rfl) ?_))))))))));refine aO rfl (aK au R rfl rfl fun iw ml=>?_);replace ag:=ag.ne ml.mod (Ne.symm bl);replace E:=E.own ml.mod aY;replace R:aF iw g1 _ [_,_,_,_,_,_]:=ml.ar;exact a7 rfl (J b6 (bn (aP (jO rfl au rfl (R.cs rfl) rfl ⟨_,by rw [cc.2];try rfl,by rw [cc.1];exact JV.b3,E⟩))))
 have cc:=W6 vb Rn (by omega);refine ah (oH rfl rfl rfl) (J b4 (aI rfl (b' (av bO (aB fun bR=>aa fun cv=>aj 2 rfl (kq (cr (fun h=>h cP)) (J cv (aI rfl (b' (av bR (aa fun bV=>?_)))))))))));refine ah (br au rfl (ag.cs rfl)) ?_;replace oK:=oK.b1 gi;refine aK au R rfl rfl fun nd lY=>?_;replace ag:=ag.ne lY.mod (Ne.symm bl);replace E:=E.own lY.mod aY;replace R:aF nd g1 _ [_,_,_,_,_,_]:=lY.ar;replace oK:=oK.toM lY.mod (fun a aE=>by simp [dx aE]);exact a7 rfl (J bV (bn (jO rfl au rfl (R.cs rfl) rfl ⟨_,by rw [cc.2];try rfl,by rw [cc.1];exact oK.eu (fun x ae=>List.mem_cons_of_mem _ ae),E⟩)))
set_option maxRecDepth 10000
def aiX:=eW Tryz.func17
def Yv:=eW Tryz.func21
def aiY:=eW Tryz.func18
def aiZ:=eW Tryz.func24
noncomputable def KH (s:ab):Int:=if jY s≠0 then jY s else EV.ru (iv s)
noncomputable def KK (s:ab):EV:=if jY s≠0 then EV.fg else KN (iv s)
/-- what the reading of a value hands back -/
noncomputable def Ea (v:JV):EV:=if jF v=0 then fV v else EV.fg
theorem Po (v:JV):KN v=Ea v:=by
 obtain⟨h1,aq⟩:=EV.CZ v;unfold KN Ea;rw [h1]
 by_cases h:jF v=0
 ·rw [aL h,aL h,aq h]
 rw [ak h,ak h]
theorem Pp (s:ab):KH s=nC s∧KK s=rO s:=by
 unfold KH KK rO
 by_cases h:jY s≠0
 ·have bT:nC s=jY s:=aL h;rw [aL h,aL h,bT,ak h];exact⟨rfl,rfl⟩
 have bT:nC s=jF (iv s):=ak h;rw [ak h,ak h,bT,Po,(EV.CZ _).1];exact⟨rfl,rfl⟩
theorem adK {v:JV} (h:jF v=0):v.o'≤65536:=by
 obtain⟨h1,aq,_,_⟩:=EV.Fv h;have hw:=EV.Hq aq;rw [h1] at hw;exact JV.CS hw
theorem adL (v:JV):(Ea v).ok:=by
 unfold Ea
 split
 ·rename_i h;exact Hm (adK h)
 exact EV.Gw
theorem Yw (s:ab):(rO s).ok:=by
 by_cases h:nC s=0
 ·exact(Sh h).2.1
 have:rO s=EV.fg:=ak h;rw [this];exact EV.Gw
theorem Yx (w:World) (v:JV) (us:List Value) (aBn:ao [] w v.D us) (kp:pd w) (eX:kv w):Calls aR 20 [.agg us.toArray].toArray w (bH fun u w'=>∃ us,u = .tuple #[.agg us.toArray,.int .i64 (jF v)]∧ao [] w' (Ea v).D us∧Mod [] w w'):=by
 refine Calls.imp (Pf [] w v us aBn (by simp) kp eX) fun u w' h=>?_;obtain⟨us,h1,bP,cZ⟩:=h;refine⟨us,h1,?_,cZ⟩;unfold Ea
 by_cases h:jF v=0
 ·rw [aL h];exact bP.I1 h
 rw [ak h];exact bP.afC h
theorem adM (w:World) (v:JV) (us:List Value) (aBn:ao [] w v.D us) (kp:pd w):Calls aR 21 [.agg us.toArray].toArray w (bH fun u w'=>∃ us,u = .tuple #[.agg us.toArray,.int .i64 (jF v)]∧ao [] w' (Ea v).D us∧Mod [] w w'):=by
 have h:=Yy [] w v us aBn (by simp) kp;rw [(EV.CZ v).1,Po] at h;exact h
theorem adN (A:List Nat) (w:World) (dy:∀ a∈A,a<w.heap.size) (s:ab) (gR:Env w) (DI:s.length≤1000000):Calls aR 24 [S s].toArray w (bH fun u w'=>∃ us,u = .tuple #[.agg us.toArray,.int .i64 (KH s)]∧ao A w' (KK s).D us∧Mod [] w w'):=by
 refine bs Tryz.func24 rfl fun E=>?_;have kp:=gR.Ag;refine aa fun a6=>bj kh rfl fun g1 aJ bZ=>?_;have aY:=bZ.le E;replace E:=E.then bZ.mod;have R:=bZ.ar;refine a7 rfl (J a6 (aa fun aQ=>aO rfl (cJ (bB aiX rfl) (MS (g1::A) _ (fun a aE=>by rcases cB aE with rfl | aE;exact R.lt;exact Nat.lt_of_lt_of_le (dy a aE) E.size) s (gR.I E) DI) fun cN cX aH=>?_)));obtain⟨aiJ,rfl,anX,U⟩:=aH;replace R:=R.I U;replace E:=E.then U;obtain⟨aiF,aiG,aiH,aiI,rfl,Sd,Se⟩:=JV.aU anX;replace anX:=JV.bX Sd Se;have E8:=Mod.refl [] cX;refine aj 3 rfl (bj bA rfl fun g2 gr cz=>?_);have bJ:=cz.le E;have Hr:=cz.le E8;have bl:=cz.ne R;replace R:=R.I cz.mod;replace E:=E.then cz.mod;replace E8:=E8.then cz.mod;have ag:=cz.ar;refine aK au ag rfl rfl fun h8 j0=>?_;replace R:=R.ne j0.mod bl;replace E:=E.own j0.mod bJ;replace E8:=E8.own j0.mod Hr;replace ag:aF h8 g2 _ [_,_,_,_,_,_]:=j0.ar;refine a7 rfl (J aQ (aB fun a'=>aa fun bp=>aj 2 rfl (J bp ?_)));refine aX rfl (fun tQ=>?_) (fun tQ=>?_)
 ·refine aa fun bx=>ah (fq qF kh rfl rfl) (aO rfl (ed eK R rfl rfl fun iS hd=>?_));replace ag:=ag.ne hd.mod (Ne.symm bl);replace E:=E.own hd.mod aY;replace R:aF iS g1 _ [_,_,_,_,_,_,_,_,_,_,_,_,_,_,_,_,_]:=hd.ar;exact a7 rfl (J bx (bn (aP (gL rfl eK rfl (R.cs rfl) rfl ⟨_,by rw [show KH s=jY s from aL tQ];rfl,by rw [show KK s=EV.fg from aL tQ];exact EV.b3,E⟩))))
 refine b' (av a' (aa fun bO=>ah (br au rfl (ag.cs rfl)) (cJ (bB Yv rfl) (Yy (g1::A) _ (iv s) _ (anX.b1 E8) (fun a aE=>by rcases cB aE with rfl | aE;exact R.lt;exact Nat.lt_of_lt_of_le (dy a aE) E.size) (kp.mod E (by simp))) fun cN i' aH=>?_)));obtain⟨aw6,rfl,Yz,U⟩:=aH;replace R:=R.I U;replace ag:=ag.I U;replace E:=E.then U;replace E8:=E8.then U;obtain⟨aw7,aw8,aw9,aw',axa,axb,axc,axd,axe,axf,rfl,an7,an8,an9,an'⟩:=EV.jk Yz;replace Yz:=EV.bX (e:=KN (iv s)) an7 an8 an9 an';refine aj 2 rfl (ed eK R rfl rfl fun iw ml=>?_);replace ag:=ag.ne ml.mod (Ne.symm bl);replace E:=E.own ml.mod aY;replace R:aF iw g1 _ [_,_,_,_,_,_,_,_,_,_,_,_,_,_,_,_,_]:=ml.ar;replace Yz:=Yz.toM ml.mod (fun a aE=>by simp [dx aE]);exact a7 rfl (J bO (bn (gL rfl eK rfl (R.cs rfl) rfl ⟨_,by rw [show KH s=EV.ru (iv s) from ak tQ];rfl,by rw [show KK s=KN (iv s) from ak tQ];exact Yz.eu (fun x ae=>List.mem_cons_of_mem _ ae),E⟩)))
theorem YY (A:List Nat) (w:World) (dy:∀ a∈A,a<w.heap.size) (s:ab) (gR:Env w) (DI:s.length≤1000000):Calls aR 24 [S s].toArray w (bH fun u w'=>∃ us,u = .tuple #[.agg us.toArray,.int .i64 (nC s)]∧ao A w' (rO s).D us∧Mod [] w w'):=by
 have h:=adN A w dy s gR DI;rw [(Pp s).1,(Pp s).2] at h;exact h
theorem DH (w:World) (v:JV) (s:ab) (us:List Value) (aBn:ao [] w v.D us) (gR:Env w) (eX:kv w):Calls aR 4 [.agg us.toArray,S s].toArray w (bH fun u w'=>u = .bool true∧Mod [] w w'):=by
 refine cY Tryz.func4 rfl fun E=>?_;obtain⟨al,cl,am,cm,rfl,k3,j3⟩:=JV.aU aBn;have aBn:=JV.bX k3 j3;have kp:=gR.Ag;refine aa fun a6=>eY rfl rfl rfl fun g1 aJ bZ=>?_;have aY:=bZ.le E;replace E:=E.then bZ.mod;have R:=bZ.ar;refine a7 rfl (J a6 (aB fun aQ=>aa fun a'=>cG E (bB aiY rfl) (Nu _ (gR.I E) (eX.I E)) fun cX U E=>?_));replace R:=R.I U;refine ah (fC rfl) (J a' (aI rfl (b' (av aQ (aB fun bp=>aa fun bx=>ah (br au rfl (R.cs rfl)) (cG E (bB F0 rfl) (Tt _ v _ 8192 60 (aBn.b1 E)) fun gr U E=>?_))))));replace R:=R.I U;refine ah (cT rfl rfl) ?_;refine c7 (fun xa:v.kj 8192 60<0=>?_) (fun xa=>?_)
 ·exact aj 5 rfl (J bx (az rfl (aa fun bO=>a7 rfl (J bO (bn (aP (aG rfl rfl ⟨rfl,E⟩)))))))
 refine aj 2 rfl (ay (bQ aA rfl) (ay (hV rfl rfl) ?_));refine c7 (fun cb:(s.length:Int) > 8192=>?_) (fun cb=>?_)
 ·exact ah (hG rfl rfl rfl) (J bx (az rfl (aa fun b4=>a7 rfl (J b4 (bn (aP (aG rfl rfl ⟨rfl,E⟩)))))))
 refine ah (hG rfl rfl rfl) (J bx (aI rfl (b' (av bp (aa fun cw=>ah (br au rfl (R.cs rfl)) (cJ (bB Yl rfl) (Yx _ v _ (aBn.b1 E) (kp.mod E (by simp)) (eX.I E)) fun cN h8 aH=>?_))))));obtain⟨axg,rfl,ai0,U⟩:=aH;replace R:=R.I U;replace E:=E.then U;obtain⟨axh,axi,axj,axk,axl,axm,axn,axo,axp,axq,rfl,aoa,aob,aoc,aod⟩:=EV.jk ai0;replace ai0:=EV.bX (e:=Ea v) aoa aob aoc aod;have uB:=Mod.refl [] h8;refine aj 3 rfl (bj kh rfl fun g2 iS cz=>?_);have bJ:=cz.le E;have YZ:=cz.le uB;have bl:=cz.ne R;replace R:=R.I cz.mod;replace E:=E.then cz.mod;replace uB:=uB.then cz.mod;have ag:=cz.ar;refine ed eK ag rfl rfl fun i' kI=>?_;replace R:=R.ne kI.mod bl;replace E:=E.own kI.mod bJ;replace uB:=uB.own kI.mod YZ;replace ag:aF i' g2 _ [_,_,_,_,_,_,_,_,_,_,_,_,_,_,_,_,_]:=kI.ar;refine a7 rfl (J cw (aa fun cy=>ah (br au rfl (R.cs rfl)) (cJ (bB Yv rfl) (adM _ v _ (aBn.b1 E) (kp.mod E (by simp))) fun cN iw aH=>?_)));obtain⟨axr,rfl,ai1,U⟩:=aH;replace R:=R.I U;replace ag:=ag.I U;replace E:=E.then U;replace uB:=uB.then U;obtain⟨axs,axt,axu,axv,axw,axx,axy,axz,axA,axB,rfl,aoe,aof,aog,aoh⟩:=EV.jk ai1;replace ai1:=EV.bX (e:=Ea v) aoe aof aog aoh;have Eb:=Mod.refl [] iw;refine aj 3 rfl (bj kh rfl fun g3 nd dF=>?_);have df:=dF.le E;have Y0:=dF.le uB;have Y9:=dF.le Eb;have dv:=dF.ne R;have ca:=dF.ne ag;replace R:=R.I dF.mod;replace ag:=ag.I dF.mod;replace E:=E.then dF.mod;replace uB:=uB.then dF.mod;replace Eb:=Eb.then dF.mod;have bd:=dF.ar;refine ed eK bd rfl rfl fun lF lW=>?_;replace R:=R.ne lW.mod dv;replace ag:=ag.ne lW.mod ca;replace E:=E.own lW.mod df;replace uB:=uB.own lW.mod Y0;replace Eb:=Eb.own lW.mod Y9;replace bd:aF lF g3 _ [_,_,_,_,_,_,_,_,_,_,_,_,_,_,_,_,_]:=lW.ar;refine a7 rfl (J cy (aB fun b6=>aa fun bR=>aj 3 rfl (kq (cr (fun h=>h rfl)) (aO rfl (ay (jb eK rfl (ag.cs rfl)) (ay (jb eK rfl (bd.cs rfl)) (gN (bB Nx rfl) (y9 _ (Ea v) _ _ (ai0.b1 uB) (ai1.b1 Eb) (adL v)) fun h2 U=>?_)))))));replace R:=R.I U;replace ag:=ag.I U;replace bd:=bd.I U;replace E:=E.then U;replace uB:=uB.then U;replace Eb:=Eb.then U;refine ay (fC rfl) (kq rfl (ah (hG rfl rfl rfl) (J bR (aI rfl (b' (av b6 (aa fun cv=>aO rfl (cJ (bB Ns rfl) (Fx [g2,g3] _ (fun a aE=>by rcases cB aE with rfl | aE;exact ag.lt;rw [dx aE];exact bd.lt) s (gR.I E) (eX.I E)) fun cN jJ aH=>?_))))))));obtain⟨axC,rfl,Hs,U⟩:=aH;replace R:=R.I U;replace ag:=ag.I U;replace bd:=bd.I U;replace E:=E.then U;replace uB:=uB.then U;replace Eb:=Eb.then U;obtain⟨axD,axE,axF,axG,axH,axI,axJ,axK,axL,axM,rfl,aoi,aoj,aok,aol⟩:=EV.jk Hs;replace Hs:=EV.bX (e:=rO s) aoi aoj aok aol;refine aj 3 rfl (ed eK ag rfl rfl fun mo l0=>?_);replace R:=R.ne l0.mod bl;replace bd:=bd.ne l0.mod (Ne.symm ca);replace E:=E.own l0.mod bJ;replace ag:aF mo g2 _ [_,_,_,_,_,_,_,_,_,_,_,_,_,_,_,_,_]:=l0.ar;replace Hs:=Hs.toM l0.mod (fun a aE=>by simp [dx aE]);have ai2:=Mod.refl [] mo;refine a7 rfl (J cv (aa fun bV=>aO rfl (cJ (bB aiZ rfl) (YY [g3] _ (fun a aE=>by rw [dx aE];exact bd.lt) s (gR.I E) (by omega)) fun cN mT aH=>?_)));obtain⟨axN,rfl,Y',U⟩:=aH;replace R:=R.I U;replace ag:=ag.I U;replace bd:=bd.I U;replace E:=E.then U;replace ai2:=ai2.then U;obtain⟨axO,axP,axQ,axR,axS,axT,axU,axV,axW,axX,rfl,aom,aon,aoo,aop⟩:=EV.jk Y';replace Y':=EV.bX (e:=rO s) aom aon aoo aop;refine aj 3 rfl ?_;replace Hs:=Hs.b1 ai2;refine ed eK bd rfl rfl fun lK lO=>?_;replace R:=R.ne lO.mod dv;replace ag:=ag.ne lO.mod ca;replace E:=E.own lO.mod df;replace bd:aF lK g3 _ [_,_,_,_,_,_,_,_,_,_,_,_,_,_,_,_,_]:=lO.ar;replace Hs:=Hs.toM lO.mod (fun a aE=>by simp [dx aE]);replace Y':=Y'.toM lO.mod (fun a aE=>by simp [dx aE]);have aqJ:=Mod.refl [] lK;refine a7 rfl (J bV (aa fun cE=>aj 3 rfl (kq (bD rfl) (aO rfl (ay (jb eK rfl (ag.cs rfl)) (ay (jb eK rfl (bd.cs rfl)) (gN (bB Nx rfl) (y9 _ (rO s) _ _ ((Hs.eu (by simp)).b1 aqJ) ((Y'.eu (by simp)).b1 aqJ) (Yw s)) fun nj U=>?_)))))));replace R:=R.I U;replace ag:=ag.I U;replace bd:=bd.I U;replace E:=E.then U;replace aqJ:=aqJ.then U;exact aj 2 rfl (J cE (bn (aG rfl rfl ⟨rfl,E⟩)))
end Go.Proofs.YtkjgljnkocnnpaaGreatDoor.V
