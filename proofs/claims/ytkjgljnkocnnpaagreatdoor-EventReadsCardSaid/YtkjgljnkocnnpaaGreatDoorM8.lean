/-
  A part of the proof: two events: one that can be, and the empty one. No condition of its own.
-/
import Derived.Test.YtkjgljnkocnnpaaGreatDoorM0
import Derived.Test.YtkjgljnkocnnpaaGreatDoorM7
import Derived.Test.YtkjgljnkocnnpaaGreatDoorM5
import Derived.Test.YtkjgljnkocnnpaaGreatDoorM3
import Derived.Test.YtkjgljnkocnnpaaGreatDoorM4
set_option linter.all false
set_option maxRecDepth 10000
namespace Go.Proofs.YtkjgljnkocnnpaaGreatDoor.V
open Go Go.Proofs
def PI:=eW Tryz.func152
theorem Lj (w:World) (url:Bool) (c:Nat) (aZ:c≤1114111):Calls aR 152 [.int .i32 (c:Int),.bool url].toArray w (bH fun u w'=>u = .tuple #[.int .u64 (((p5 url c).getD 0:Nat):Int),.bool (p5 url c).isSome]∧Mod [] w w'):=by
 refine cY Tryz.func152 rfl fun E=>aa fun a6=>aj 2 rfl (J a6 (aB fun aQ=>eN (mU fun K3 a'=>?_)));have J3:∀ (aJ:World),True∧Mod [] w aJ→∀ a,Has 62 [] [(0,.int .i32 (c:Int)),(1,.bool url),(6,.bool (C5 c))] a→K3 a aJ:=by
  intro aJ lI;obtain⟨_,E⟩:=lI;refine a' _ _ _ _ ?_;refine a1 rfl (fun fy=>?_) (fun fy=>?_)
  ·refine aa fun bp=>aO rfl ?_;have bo:65≤c∧c≤90:=by simp [C5] at fy;omega
   exact ah ((hB rfl rfl).to (v':=.int .i32 ((c-65:Nat):Int)) (by rw [uG _ (by omega)];congr 1;omega)) (ah (nw gE sd rfl (im _ (by omega))) (aj 2 rfl (J bp (bn (bw (aP (cj rfl rfl rfl ⟨by rw [show p5 url c=some (c-65)by rw [p5,aL fy]];rfl,E⟩)))))))
  refine mU fun K5 bx=>?_;have J5:∀ (aJ:World),True∧Mod [] w aJ→∀ a,Has 62 [] [(0,.int .i32 (c:Int)),(1,.bool url),(16,.bool (xX c))] a→K5 a aJ:=by
   intro cX lI;obtain⟨_,E⟩:=lI;refine bx _ _ _ _ ?_;refine a1 rfl (fun oG=>?_) (fun oG=>?_)
   ·refine aa fun bO=>aO rfl ?_;have bo:97≤c∧c≤122:=by simp [xX] at oG;omega
    exact ah ((hB rfl rfl).to (v':=.int .i32 ((c-97:Nat):Int)) (by rw [uG _ (by omega)];congr 1;omega)) (ah (nw gE sd rfl (im _ (by omega))) (ah ((sT rfl rfl).to (v':=.int .u64 ((c-97+26:Nat):Int)) (by rw [im _ (by omega)];rfl)) (aj 2 rfl (J bO (bn (bw (aP (cj rfl rfl rfl ⟨by rw [show p5 url c=some (c-97+26)by rw [p5,ak (by simp [fy]),aL oG]];rfl,E⟩))))))))
   refine mU fun K7 b4=>?_;have J7:∀ (aJ:World),True∧Mod [] w aJ→∀ a,Has 62 [] [(0,.int .i32 (c:Int)),(1,.bool url),(27,.bool (tD c))] a→K7 a aJ:=by
    intro gr lI;obtain⟨_,E⟩:=lI;refine b4 _ _ _ _ ?_;refine a1 rfl (fun SH=>?_) (fun SH=>?_)
    ·refine aa fun cw=>aO rfl ?_;have bo:48≤c∧c≤57:=by simp [tD] at SH;omega
     exact ah ((hB rfl rfl).to (v':=.int .i32 ((c-48:Nat):Int)) (by rw [uG _ (by omega)];congr 1;omega)) (ah (nw gE sd rfl (im _ (by omega))) (ah ((sT rfl rfl).to (v':=.int .u64 ((c-48+52:Nat):Int)) (by rw [im _ (by omega)];rfl)) (aj 2 rfl (J cw (bn (bw (aP (cj rfl rfl rfl ⟨by rw [show p5 url c=some (c-48+52)by rw [p5,ak (by simp [fy]),ak (by simp [oG]),aL SH]];rfl,E⟩))))))))
    refine mU fun yO cy=>?_;have J9:∀ (x:Bool) (aJ:World),x=SL url c∧Mod [] w aJ→∀ a,Has 62 [] [(0,.int .i32 (c:Int)),(1,.bool url),(38,.bool x)] a→yO a aJ:=by
     intro x h8 lI;obtain⟨ZT,E⟩:=lI;refine cy _ _ _ _ ?_;refine a1 rfl (fun ue=>?_) (fun ue=>?_)
     ·exact aa fun b6=>aj 2 rfl (J b6 (bn (bw (aP (cj rfl rfl rfl ⟨by rw [show p5 url c=some 62 by rw [p5,ak (by simp [fy]),ak (by simp [oG]),ak (by simp [SH]),aL (ZT.symm.trans ue)]];rfl,E⟩)))))
     refine mU fun Ge bR=>?_;have vd:∀ (x:Bool) (aJ:World),x=SM url c∧Mod [] w aJ→∀ a,Has 62 [] [(0,.int .i32 (c:Int)),(1,.bool url),(50,.bool x)] a→Ge a aJ:=by
      intro x iS lI;obtain⟨afP,E⟩:=lI;refine bR _ _ _ _ ?_;refine a1 rfl (fun za=>?_) (fun za=>?_)
      ·exact aa fun cv=>aj 2 rfl (J cv (bn (bw (aP (cj rfl rfl rfl ⟨by rw [show p5 url c=some 63 by rw [p5,ak (by simp [fy]),ak (by simp [oG]),ak (by simp [SH]),ak (by rw [← ZT,ue];simp),aL (afP.symm.trans za)]];rfl,E⟩)))))
      exact b' (bw (av aQ (aa fun bV=>aj 2 rfl (J bV (bn (cj rfl rfl rfl ⟨by rw [show p5 url c=none by rw [p5,ak (by simp [fy]),ak (by simp [oG]),ak (by simp [SH]),ak (by rw [← ZT,ue];simp),ak (by rw [← afP,za];simp)]];rfl,E⟩))))))
     refine mU fun ahj cE=>?_;have Jf:∀ (aJ:World),True∧Mod [] w aJ→∀ a,Has 62 [] [(0,.int .i32 (c:Int)),(1,.bool url),(50,.bool (decide ((c:Int)=47) && !url))] a→ahj a aJ:=by
      intro i' lI;obtain⟨_,E⟩:=lI;refine cE _ _ _ _ ?_;refine a1 rfl (fun za=>?_) (fun za=>?_)
      ·refine b' ?_;refine fH.sub (l':=[(0,_),(1,_),(50,_)]) ⟨rfl,rfl,rfl,trivial⟩ (dq (vd (decide ((c:Int)=47) && !url) i' ⟨(by rw [SM,za,Bool.true_or]),E⟩))
      refine b5 (aj 2 rfl ?_);refine c7 (fun bg:(c:Int)=95=>?_) (fun bg=>?_)
      ·refine aj 4 rfl (cx ?_);refine fH.sub (l':=[(0,_),(1,_),(50,_)]) ⟨rfl,rfl,rfl,trivial⟩ (dq (vd url i' ⟨(by rw [SM,za];simp only [bD bg,bZ']),E⟩))
      refine aj 4 rfl (cx ?_);refine fH.sub (l':=[(0,_),(1,_),(50,_)]) ⟨rfl,rfl,rfl,trivial⟩ (dq (vd false i' ⟨(by rw [SM,za];simp only [cr bg,bZ']),E⟩))
     refine b5 (aj 2 rfl ?_);refine c7 (fun bg:(c:Int)=47=>?_) (fun bg=>?_)
     ·refine aj 3 rfl ?_;refine oM (fun bC:(!url)=true=>?_) (fun bC=>?_)
      ·refine ah (oH rfl rfl rfl) (ah ((cS rfl).to (v':=.bool (decide ((c:Int)=47) && !url)) (cf (by simp only [bD bg,bC,bZ']))) (cx ?_));refine fH.sub (l':=[(0,_),(1,_),(50,_)]) ⟨rfl,rfl,rfl,trivial⟩ (dq (Jf h8 ⟨trivial,E⟩))
      refine ah (oH rfl rfl rfl) (ah ((cS rfl).to (v':=.bool (decide ((c:Int)=47) && !url)) (cf (by simp only [bD bg,ew bC,bZ']))) (cx ?_));refine fH.sub (l':=[(0,_),(1,_),(50,_)]) ⟨rfl,rfl,rfl,trivial⟩ (dq (Jf h8 ⟨trivial,E⟩))
     refine aj 4 rfl (ah ((cS rfl).to (v':=.bool (decide ((c:Int)=47) && !url)) (cf (by simp only [cr bg,bZ']))) (cx ?_));refine fH.sub (l':=[(0,_),(1,_),(50,_)]) ⟨rfl,rfl,rfl,trivial⟩ (dq (Jf h8 ⟨trivial,E⟩))
    refine mU fun ahk cI=>?_;have ajC:∀ (aJ:World),True∧Mod [] w aJ→∀ a,Has 62 [] [(0,.int .i32 (c:Int)),(1,.bool url),(38,.bool (decide ((c:Int)=43) && !url))] a→ahk a aJ:=by
     intro iw lI;obtain⟨_,E⟩:=lI;refine cI _ _ _ _ ?_;refine a1 rfl (fun ue=>?_) (fun ue=>?_)
     ·refine b' ?_;refine fH.sub (l':=[(0,_),(1,_),(38,_)]) ⟨rfl,rfl,rfl,trivial⟩ (dq (J9 (decide ((c:Int)=43) && !url) iw ⟨(by rw [SL,ue,Bool.true_or]),E⟩))
     refine b5 (aj 2 rfl ?_);refine c7 (fun bg:(c:Int)=45=>?_) (fun bg=>?_)
     ·refine aj 4 rfl (cx ?_);refine fH.sub (l':=[(0,_),(1,_),(38,_)]) ⟨rfl,rfl,rfl,trivial⟩ (dq (J9 url iw ⟨(by rw [SL,ue];simp only [bD bg,bZ']),E⟩))
     refine aj 4 rfl (cx ?_);refine fH.sub (l':=[(0,_),(1,_),(38,_)]) ⟨rfl,rfl,rfl,trivial⟩ (dq (J9 false iw ⟨(by rw [SL,ue];simp only [cr bg,bZ']),E⟩))
    refine b5 (aj 2 rfl ?_);refine c7 (fun bg:(c:Int)=43=>?_) (fun bg=>?_)
    ·refine aj 3 rfl ?_;refine oM (fun bC:(!url)=true=>?_) (fun bC=>?_)
     ·refine ah (oH rfl rfl rfl) (ah ((cS rfl).to (v':=.bool (decide ((c:Int)=43) && !url)) (cf (by simp only [bD bg,bC,bZ']))) (cx ?_));refine fH.sub (l':=[(0,_),(1,_),(38,_)]) ⟨rfl,rfl,rfl,trivial⟩ (dq (ajC gr ⟨trivial,E⟩))
     refine ah (oH rfl rfl rfl) (ah ((cS rfl).to (v':=.bool (decide ((c:Int)=43) && !url)) (cf (by simp only [bD bg,ew bC,bZ']))) (cx ?_));refine fH.sub (l':=[(0,_),(1,_),(38,_)]) ⟨rfl,rfl,rfl,trivial⟩ (dq (ajC gr ⟨trivial,E⟩))
    refine aj 4 rfl (ah ((cS rfl).to (v':=.bool (decide ((c:Int)=43) && !url)) (cf (by simp only [cr bg,bZ']))) (cx ?_));refine fH.sub (l':=[(0,_),(1,_),(38,_)]) ⟨rfl,rfl,rfl,trivial⟩ (dq (ajC gr ⟨trivial,E⟩))
   refine b5 (aO rfl (ah (dA rfl rfl) ?_));refine c7 (fun bg:48≤(c:Int)=>?_) (fun bg=>?_)
   ·refine aj 3 rfl ?_;refine c7 (fun bC:(c:Int)≤57=>?_) (fun bC=>?_)
    ·refine ah (oH rfl rfl rfl) (ah ((cS rfl).to (v':=.bool (tD c)) (cf (by simp only [tD,bD bg,bD bC,bZ']))) (cx ?_));refine fH.sub (l':=[(0,_),(1,_),(27,_)]) ⟨rfl,rfl,rfl,trivial⟩ (dq (J7 cX ⟨trivial,E⟩))
    refine ah (oH rfl rfl rfl) (ah ((cS rfl).to (v':=.bool (tD c)) (cf (by simp only [tD,bD bg,cr bC,bZ']))) (cx ?_));refine fH.sub (l':=[(0,_),(1,_),(27,_)]) ⟨rfl,rfl,rfl,trivial⟩ (dq (J7 cX ⟨trivial,E⟩))
   refine aj 4 rfl (ah ((cS rfl).to (v':=.bool (tD c)) (cf (by simp only [tD,cr bg,bZ']))) (cx ?_));refine fH.sub (l':=[(0,_),(1,_),(27,_)]) ⟨rfl,rfl,rfl,trivial⟩ (dq (J7 cX ⟨trivial,E⟩))
  refine b5 (aO rfl (ah (dA rfl rfl) ?_));refine c7 (fun bg:97≤(c:Int)=>?_) (fun bg=>?_)
  ·refine aj 3 rfl ?_;refine c7 (fun bC:(c:Int)≤122=>?_) (fun bC=>?_)
   ·refine ah (oH rfl rfl rfl) (ah ((cS rfl).to (v':=.bool (xX c)) (cf (by simp only [xX,bD bg,bD bC,bZ']))) (cx ?_));refine fH.sub (l':=[(0,_),(1,_),(16,_)]) ⟨rfl,rfl,rfl,trivial⟩ (dq (J5 aJ ⟨trivial,E⟩))
   refine ah (oH rfl rfl rfl) (ah ((cS rfl).to (v':=.bool (xX c)) (cf (by simp only [xX,bD bg,cr bC,bZ']))) (cx ?_));refine fH.sub (l':=[(0,_),(1,_),(16,_)]) ⟨rfl,rfl,rfl,trivial⟩ (dq (J5 aJ ⟨trivial,E⟩))
  refine aj 4 rfl (ah ((cS rfl).to (v':=.bool (xX c)) (cf (by simp only [xX,cr bg,bZ']))) (cx ?_));refine fH.sub (l':=[(0,_),(1,_),(16,_)]) ⟨rfl,rfl,rfl,trivial⟩ (dq (J5 aJ ⟨trivial,E⟩))
 refine b5 (aO rfl (ah (dA rfl rfl) ?_));refine c7 (fun bg:65≤(c:Int)=>?_) (fun bg=>?_)
 ·refine aj 3 rfl ?_;refine c7 (fun bC:(c:Int)≤90=>?_) (fun bC=>?_)
  ·refine ah (oH rfl rfl rfl) (ah ((cS rfl).to (v':=.bool (C5 c)) (cf (by simp only [C5,bD bg,bD bC,bZ']))) (cx ?_));refine fH.sub (l':=[(0,_),(1,_),(6,_)]) ⟨rfl,rfl,rfl,trivial⟩ (dq (J3 w ⟨trivial,E⟩))
  refine ah (oH rfl rfl rfl) (ah ((cS rfl).to (v':=.bool (C5 c)) (cf (by simp only [C5,bD bg,cr bC,bZ']))) (cx ?_));refine fH.sub (l':=[(0,_),(1,_),(6,_)]) ⟨rfl,rfl,rfl,trivial⟩ (dq (J3 w ⟨trivial,E⟩))
 refine aj 4 rfl (ah ((cS rfl).to (v':=.bool (C5 c)) (cf (by simp only [C5,cr bg,bZ']))) (cx ?_));refine fH.sub (l':=[(0,_),(1,_),(6,_)]) ⟨rfl,rfl,rfl,trivial⟩ (dq (J3 w ⟨trivial,E⟩))
theorem FH (w:World) (s:ab) (url:Bool) (bh:s.length≤140737488351232):Calls aR 123 [S s,.bool url].toArray w (bH fun u w'=>qM w w' url s u∧Mod [] w w'):=by
 refine cY Tryz.func123 rfl fun E=>aa fun a6=>aj 2 rfl (J a6 (aa fun aQ=>a7 rfl (J aQ (aa fun a'=>aj 2 rfl (J a' (aB fun bp=>aa fun bx=>aO rfl (sl aA rfl rfl fun xi aJ hX Wa Ti=>?_)))))));have qY:w.heap.size≤xi:=by have:=E.size;omega
 replace E:=E.then Ti;refine J bx (eN (bK (σ:=Nat×Value×ab) (fun⟨k,v,p6⟩=>[(0,S s),(1,.bool url),(6,v),(7,.int .u64 (rest url s k:Int)),(8,.int .i64 ((6*k % 8:Nat):Int)),(14,.pointer (some ⟨xi,0,none⟩))]) (fun⟨k,v,p6⟩ aJ=>k≤s.length∧(s.take k).all (fun b=>(p5 url b.toNat).isSome)=true∧DK aJ xi s k∧iD aJ v p6∧p6.length=6*k / 8∧(∀ x∈bk v,w.heap.size≤x)∧(∀ x∈bk v,x≠xi)∧Mod [] w aJ) (fun⟨k,v,p6⟩=>s.length-k) (⟨0,.slice none 0 0,[]⟩) (⟨by omega,by simp,hX,Own.nil _ 5 1,rfl,by simp [bk],by simp [bk],E⟩) ?_));rintro⟨k,v,p6⟩ cX ⟨cc,aE,hX,O,Jz,nh,Sp,E⟩;refine aB fun bO=>?_
 by_cases hb:k<s.length
 rotate_left
 ·have ns:=hb;have hk:k=s.length:=by omega
  have lD:s.all (fun b=>(p5 url b.toNat).isSome)=true:=by rw [List.take_of_length_le (by omega)] at aE;exact aE
  refine b5 (mK rfl hX ns rfl (ah (fo rfl rfl) (J bO (aB fun fw=>?_))));refine a1 rfl (fun oG=>?_) (fun oG=>?_)
  ·cases oG
  skip
  refine bL (aP (aP (ch (av bp (aB fun fT=>aa fun gh=>aO rfl (ah (dA rfl rfl) ?_))))));refine c7 (fun bg:((6*k % 8:Nat):Int)≥6=>?_) (fun bg=>?_)
  ·refine aj 4 rfl (J gh (az rfl ?_));have AA:h0 url s=false:=by unfold h0;rw [lD,← hk];simp only [bD bg,bZ']
   exact aa fun fk=>aj 2 rfl (J fk (bn (aP (cj rfl rfl rfl ⟨qM.no AA,E⟩))))
  refine aj 3 rfl ?_;refine c7 (fun bC:(rest url s k:Int)≠0=>?_) (fun bC=>?_)
  ·refine ah (hG rfl rfl rfl) (J gh (az rfl ?_));have AA:h0 url s=false:=by unfold h0;rw [lD,← hk];simp only [cr bg,bD bC,bZ']
   exact aa fun hq=>aj 2 rfl (J hq (bn (aP (cj rfl rfl rfl ⟨qM.no AA,E⟩))))
  refine ah (hG rfl rfl rfl) (J gh (aI rfl ?_));have AA:h0 url s=true:=by unfold h0;rw [lD,← hk];simp only [cr bg,cr bC,bZ']
  exact b' (av fT (aa fun gY=>aj 3 rfl (J gY (bn (cj rfl rfl rfl ⟨qM.yes AA O (by omega) nh,E⟩)))))
 obtain⟨b,aW⟩:∃ b,s[k]? = some b:=⟨_,List.getElem?_eq_getElem hb⟩;have ayG:=b.toNat_lt
 by_cases pV:b.toNat<128
 rotate_left
 ·obtain⟨c,m,B0,ZL,eQ,h3⟩:=PC aW (by omega);refine b5 (oB rfl hX hb (B0) rfl fun iw sS Dr GC=>?_);replace E:=E.trans' Dr (fun x ae=>.inr (by simp at ae;subst ae;exact qY));replace O:=O.mod Dr (fun x ae hm=>Sp x ae (by simpa using hm));clear hX;have hX:=sS;refine ah (fo rfl rfl) (J bO (aB fun ec=>?_));refine a1 rfl (fun oG=>?_) (fun oG=>?_)
  ·skip
   refine b' (av ec (eN (aa fun dG=>aj 2 rfl (J dG (aa fun eV=>aj 2 rfl (cG E (bB PI rfl) (Lj _ url c (by omega)) fun nd U E=>?_))))));replace hX:=hX.I U;replace O:=O.I U;refine aj 5 rfl (J eV (aB fun eO=>aa fun eC=>aj 2 rfl (J eC ?_)));refine a1 rfl (fun r0=>?_) (fun r0=>?_)
   ·have AA:h0 url s=false:=HG aW (NL url _ (by omega));exact aa fun eP=>aj 2 rfl (J eP (bn (aP (bw (aP (bw (aP (cj rfl rfl rfl ⟨qM.no AA,E⟩))))))))
   rw [NL url c ZL] at r0;cases r0
  cases oG
 skip
 refine b5 (oB rfl hX hb (dec_lt aW pV) rfl fun gr sS Dr GC=>?_);replace E:=E.trans' Dr (fun x ae=>.inr (by simp at ae;subst ae;exact qY));replace O:=O.mod Dr (fun x ae hm=>Sp x ae (by simpa using hm));clear hX;have hX:=sS;refine ah (fo rfl rfl) (J bO (aB fun b4=>?_));refine a1 rfl (fun oG=>?_) (fun oG=>?_);rotate_left
 ·cases oG
 skip
 refine b' (av b4 (eN (aa fun cw=>aj 2 rfl (J cw (aa fun cy=>aj 2 rfl (cG E (bB PI rfl) (Lj _ url b.toNat (by omega)) fun h8 U E=>?_))))));replace hX:=hX.I U;replace O:=O.I U;refine aj 5 rfl (J cy (aB fun b6=>aa fun bR=>aj 2 rfl (J bR ?_)));refine a1 rfl (fun r0=>?_) (fun r0=>?_)
 ·have AA:h0 url s=false:=HG aW (by simpa using r0);exact aa fun cv=>aj 2 rfl (J cv (bn (aP (bw (aP (bw (aP (cj rfl rfl rfl ⟨qM.no AA,E⟩))))))))
 obtain⟨x,ae⟩:∃ x,p5 url b.toNat=some x:=Option.isSome_iff_exists.1 (by simpa using r0);have F6:=HH ae;refine b' (av b6 (aa fun bV=>?_));have Uy:=ZU url s k;refine aO rfl (ah ((GF rfl rfl (by omega)).to (v':=.int .u64 ((rest url s k*64:Nat):Int)) (by rw [apd Uy])) (ah ((fj rfl).to (v':=.int .u64 (x:Int)) (by rw [ae];rfl)) (ah ((vt rfl rfl).to (v':=.int .u64 ((rest url s k*64+x:Nat):Int)) (by rw [ape Uy F6])) (aO rfl (ah (aS (r:=((6*k % 8+6:Nat):Int)) rfl rfl) (aj 2 rfl (J bV (aa fun cE=>aO rfl (ah (dA rfl rfl) (J cE ?_))))))))));refine aX rfl (fun vc=>?_) (fun vc=>?_);rotate_left
 ·have bg:k % 4=0:=by omega
  have acB:6*k % 8+6=6*(k+1) % 8:=by omega
  have aAh:rest url s k*64+x=rest url s (k+1):=by
   rw [tg aW ae,NK bg];unfold na;rw [ak (by omega),aL (by omega)];omega
  rw [aAh,acB];refine b' (bw ?_);have rT:(s.take (k+1)).all (fun b=>(p5 url b.toNat).isSome)=true:=all_succ (q:=fun c=>(p5 url c).isSome) aW aE (by rw [ae];rfl);exact aw (σ:=Nat×Value×ab) (s:=⟨k,v,p6⟩) (⟨k+1,v,p6⟩) ⟨by omega,rT,hX,O,by omega,nh,Sp,E⟩
 refine aa fun cI=>aO rfl (ah (eZ (r:=((6*(k+1) % 8:Nat):Int)) rfl rfl) (a7 rfl (J cI (aa fun dr=>aj 3 rfl (ah (Cq rfl rfl (by omega)) (ah (uT Bj dH rfl) (dm di kX rfl rfl fun g1 iS bZ=>?_)))))));have aY:=bZ.le E;have A3:=bZ.bU O;replace hX:=hX.I bZ.mod;replace E:=E.then bZ.mod;replace O:=O.I bZ.mod;have R:=bZ.ar;refine bz di rfl rfl O (Src.own da (Own.all (cs:=[_]) R rfl (by omega)) (by simp [Value.oneCell'])) (by decide) (by omega) (by omega) rfl fun v1 i' kB=>?_;have Oc:=kB.ne A3 R;have vN:=kB.ge nh E;replace R:=R.mod kB.mod (fun ae=>A3 _ ae rfl);replace E:=E.trans' kB.mod (fun x ae=>.inr (nh x ae));replace O:=kB.own;have aje:=kB.ahX Sp hX;replace hX:=hX.mod kB.mod (fun ae=>Sp _ ae rfl);obtain⟨ajD,O⟩:=SN O rfl;refine a7 rfl (J dr (b5 (aj 2 rfl (ah ((GF rfl rfl (by omega)).to (v':=.int .u64 (na (k+1):Int)) (by rw [aes rfl])) (ah ((hB rfl rfl).to (v':=.int .u64 ((na (k+1)-1:Nat):Int)) (by have h1:=PJ (k+1);have aq:=ZV (k+1);rw [im _ (by omega)];congr 1;omega)) (ah ((G7 rfl rfl).to (v':=.int .u64 (rest url s (k+1):Int)) (by rw [ajE (by omega) (ZW _),aet,← tg aW ae])) (a7 rfl (cx (bw ?_)))))))));have rT:(s.take (k+1)).all (fun b=>(p5 url b.toNat).isSome)=true:=all_succ (q:=fun c=>(p5 url c).isSome) aW aE (by rw [ae];rfl);exact aw (σ:=Nat×Value×ab) (s:=⟨k,v,p6⟩) (⟨k+1,v1,(p6 ++ [ajD])⟩) ⟨by omega,rT,hX,O,by simp;omega,vN,aje,E⟩
set_option maxRecDepth 10000
def PK:=eW Tryz.func156
def apf:=kT (pa aR 5)
theorem FI (w:World) (url:Bool) (n:Nat) (cu:n<64):Calls aR 156 [.int .i64 (n:Int),.bool url].toArray w (bH fun u w'=>u = .int .u8 (rA url n:Int)∧Mod [] w w'):=by
 refine cY Tryz.func156 rfl fun E=>aa fun a6=>a7 rfl (J a6 (aB fun aQ=>aa fun a'=>aj 2 rfl (J a' ?_)));refine aX rfl (fun fy=>?_) (fun fy=>?_)
 ·exact aa fun bp=>aO rfl (ah (nw gj dH rfl (du _ (by omega))) (ah ((sT rfl rfl).to (v':=.int .u8 ((65+n:Nat):Int)) (by rw [du _ (by omega)];rfl)) (a7 rfl (J bp (bn (aP (aG rfl rfl ⟨by rw [rA,aL (by omega)],E⟩)))))))
 refine b' (av aQ (aB fun bx=>aa fun bO=>aj 2 rfl (J bO ?_)));refine aX rfl (fun wL=>?_) (fun wL=>?_)
 ·exact aa fun b4=>aO rfl (ah ((hB rfl rfl).to (v':=.int .i64 ((n-26:Nat):Int)) (by rw [wrap64_in _ (by omega)];congr 1;omega)) (ah (nw gj dH rfl (du _ (by omega))) (ah ((sT rfl rfl).to (v':=.int .u8 ((97+(n-26):Nat):Int)) (by rw [du _ (by omega)];rfl)) (a7 rfl (J b4 (bn (aP (aG rfl rfl ⟨by rw [rA,ak (by omega),aL (by omega)],E⟩))))))))
 refine b' (av bx (aB fun cw=>aa fun cy=>aj 2 rfl (J cy ?_)));refine aX rfl (fun tG=>?_) (fun tG=>?_)
 ·exact aa fun b6=>aO rfl (ah ((hB rfl rfl).to (v':=.int .i64 ((n-52:Nat):Int)) (by rw [wrap64_in _ (by omega)];congr 1;omega)) (ah (nw gj dH rfl (du _ (by omega))) (ah ((sT rfl rfl).to (v':=.int .u8 ((48+(n-52):Nat):Int)) (by rw [du _ (by omega)];rfl)) (a7 rfl (J b6 (bn (aP (aG rfl rfl ⟨by rw [rA,ak (by omega),ak (by omega),aL (by omega)],E⟩))))))))
 refine b' (av cw (aB fun bR=>aa fun cv=>aO rfl (J cv ?_)));refine a1 rfl (fun wM=>?_) (fun wM=>?_)
 ·refine aa fun bV=>aO rfl (ah ((hB rfl rfl).to (v':=.int .i64 ((n-62:Nat):Int)) (by rw [wrap64_in _ (by omega)];congr 1;omega)) ?_);obtain⟨q,e8,tr⟩:∃ q:UInt8,([45,95]:ab)[n-62]? = some q∧q.toNat=rA url n:=by
   have:n=62∨n=63:=by omega
   rw [wM];rcases this with rfl | rfl <;> exact⟨_,rfl,rfl⟩
  exact ah (bN (u:=[45,95]) aA rfl rfl e8) (a7 rfl (J bV (bn (aP (aG rfl rfl ⟨by rw [tr],E⟩)))))
 refine b' (av bR (aa fun cE=>aO rfl (ah ((hB rfl rfl).to (v':=.int .i64 ((n-62:Nat):Int)) (by rw [wrap64_in _ (by omega)];congr 1;omega)) ?_)));obtain⟨q,e8,tr⟩:∃ q:UInt8,([43,47]:ab)[n-62]? = some q∧q.toNat=rA url n:=by
  have:n=62∨n=63:=by omega
  rw [wM];rcases this with rfl | rfl <;> exact⟨_,rfl,rfl⟩
 exact ah (bN (u:=[43,47]) aA rfl rfl e8) (a7 rfl (J cE (bn (aG rfl rfl ⟨by rw [tr],E⟩))))
theorem C9 (w:World) (s:ab) (url:Bool) (bh:s.length≤140737488351232):Calls aR 128 [S s,.bool url].toArray w (bH fun u w'=>qM w w' url s u∧Mod [] w w'):=by
 refine cY Tryz.func128 rfl fun E=>aa fun a6=>aj 2 rfl (J a6 (aa fun aQ=>aO rfl (ah (bQ aA rfl) (ah (Bt (r:=((s.length*6:Nat):Int)) rfl rfl) (ah ((oC rfl rfl (by omega)).to (v':=.int .i64 ((s.length*6 / 8:Nat):Int)) (by rw [Int.natCast_ediv];rfl)) (adf di kX rfl rfl rfl (by omega) rfl fun Lk aJ Nm=>?_))))));have apg:w.heap.size≤Lk:=by have:=Nm.at_;have:=E.size;omega
 replace E:=E.then Nm.mod;have O:Own aJ 5 1 (.slice (some ⟨Lk,0,none⟩) (s.length*6 / 8) (s.length*6 / 8)) (s.length*6 / 8) (((List.replicate (s.length*6 / 8) (0:UInt8)).map ym).flatten):=(Own.all (c:=s.length*6 / 8) (sz:=1) Nm.ar (by simp;omega) (by omega)).same rfl (by simp [ku];omega);have Jz:(List.replicate (s.length*6 / 8) (0:UInt8)).length=s.length*6 / 8:=by simp
 refine a7 rfl (J aQ (aB fun a'=>aa fun bp=>a7 rfl (J bp (eN (bK (σ:=Nat×ab) (fun⟨i,p6⟩=>[(0,S s),(1,.bool url),(6,.slice (some ⟨Lk,0,none⟩) (s.length*6 / 8) (s.length*6 / 8)),(7,.int .i64 (i:Int))]) (fun⟨i,p6⟩ aJ=>i≤s.length∧(s.take i).all (fun b=>(p5 url b.toNat).isSome)=true∧(i=s.length→rest url s i=0)∧Own aJ 5 1 (.slice (some ⟨Lk,0,none⟩) (s.length*6 / 8) (s.length*6 / 8)) (s.length*6 / 8) ((p6.map ym).flatten)∧p6.length=s.length*6 / 8∧Mod [] w aJ) (fun⟨i,p6⟩=>s.length-i) (⟨0,List.replicate (s.length*6 / 8) 0⟩) (⟨by omega,by simp,fun _=>rfl,O,Jz,E⟩) ?_)))));rintro⟨i,p6⟩ cX ⟨hi,aE,cP,O,Jz,E⟩;refine aB fun bx=>aa fun bO=>aj 2 rfl (ah (bQ aA rfl) (ah (cT rfl rfl) (J bO ?_)));refine aX rfl (fun nH=>?_) (fun nH=>?_)
 ·obtain⟨b,aW⟩:∃ b,s[i]? = some b:=⟨_,List.getElem?_eq_getElem (by omega)⟩;refine b' (av bx (aB fun b4=>eN (aa fun cw=>a7 rfl (J cw ?_))));apply share
  ·intro J8;refine aB fun cy=>eN (bK (σ:=Nat) (fun n=>[(0,S s),(1,.bool url),(6,.slice (some ⟨Lk,0,none⟩) (s.length*6 / 8) (s.length*6 / 8)),(7,.int .i64 (i:Int)),(8,.int .i64 (n:Int))]) (fun n aJ=>n≤64∧(∀ y,y<n→rA url y≠b.toNat)∧Own aJ 5 1 (.slice (some ⟨Lk,0,none⟩) (s.length*6 / 8) (s.length*6 / 8)) (s.length*6 / 8) ((p6.map ym).flatten)∧Mod [] w aJ) (fun n=>64-n) (0) (⟨by omega,fun y h=>absurd h (by omega),O,E⟩) ?_);rintro n gr ⟨cu,jN,O,E⟩;refine aB fun b6=>aB fun bR=>?_
   by_cases bg:(n:Int)<64
   ·by_cases bC:(rA url n:Int)≠(b.toNat:Int)
    ·refine cn wide (by kernel_rfl) (hF 3 rfl rfl (a8 (bD bg) (fun U=>(fj rfl)) (a8 (bD bg) (fun U=>(fj rfl)) (H5 rfl (bD bg) (fun db U=>bB PK rfl) (fun db U=>FI _ url n (by omega)) rfl rfl (a8 (bD bg) (fun U=>(fj rfl)) (a8 (bD bg) (fun U=>(fj rfl)) (a8 (bD bg) (fun U=>(bN aA rfl rfl aW)) (a8 (bD bg) (fun U=>(fO rfl rfl)) (ax (fun U=>(oH (bD bg) rfl rfl)) (cq rfl fun h8 U=>?_))))))))));replace E:=E.then U;replace O:=O.I U;refine av bR ?_;refine aX rfl (fun ug=>?_) (fun ug=>absurd bC ug);have cH:rA url n≠b.toNat:=by omega
     exact b' (av b6 (eN (b5 (aO rfl (ah (bt rfl rfl (by omega)) (a7 rfl (cx (bw (aw (σ:=Nat) (s:=n) (n+1) ⟨by omega,fun y ba=>(Nat.lt_succ_iff_lt_or_eq.1 ba).elim (jN y) (fun h=>by subst h;exact cH),O,E⟩)))))))))
    refine cn wide (by kernel_rfl) (hF 3 rfl rfl (a8 (bD bg) (fun U=>(fj rfl)) (a8 (bD bg) (fun U=>(fj rfl)) (H5 rfl (bD bg) (fun db U=>bB PK rfl) (fun db U=>FI _ url n (by omega)) rfl rfl (a8 (bD bg) (fun U=>(fj rfl)) (a8 (bD bg) (fun U=>(fj rfl)) (a8 (bD bg) (fun U=>(bN aA rfl rfl aW)) (a8 (bD bg) (fun U=>(fO rfl rfl)) (ax (fun U=>(oH (bD bg) rfl rfl)) (cq rfl fun iS U=>?_))))))))));replace E:=E.then U;replace O:=O.I U;refine av bR (aX rfl (fun ug=>absurd ug bC) (fun ug=>?_));have ae:p5 url b.toNat=some n:=ZX (by omega) (by omega);refine bL (aP (aP (ch ?_)));have e8:(n=64∧p5 url b.toNat=none)∨(n<64∧p5 url b.toNat=some n):=by first | exact .inl ⟨by omega,ae⟩ | exact .inr ⟨by omega,ae⟩
    obtain⟨ave,Mz⟩:∃ m,m=n:=⟨_,rfl⟩;rw [← Mz] at e8 ⊢;clear Mz;refine dq (cy _ _ _ _ (k2.sub (l':=[(0,_),(1,_),(6,_),(7,_),(8,_)]) ⟨rfl,rfl,rfl,rfl,rfl,trivial⟩ ?_))
    try clear U
    revert e8
    revert E
    revert O
    revert iS
    revert ave
    exact J8.o
   refine cn wide (by kernel_rfl) (hF 3 rfl rfl (fP rfl (cr bg) (fP rfl (cr bg) (fP rfl (cr bg) (fP rfl (cr bg) (fP rfl (cr bg) (fP rfl (cr bg) (fP rfl (cr bg) (ax (fun U=>(hG (cr bg) rfl rfl)) (cq rfl fun i' U=>?_))))))))));replace E:=E.then U;replace O:=O.I U;refine av bR (aI rfl ?_);have ae:p5 url b.toNat=none:=aeu (fun y ba=>jN y (by omega));refine bL (aP (aP (ch ?_)));have e8:(n=64∧p5 url b.toNat=none)∨(n<64∧p5 url b.toNat=some n):=by first | exact .inl ⟨by omega,ae⟩ | exact .inr ⟨by omega,ae⟩
   obtain⟨ave,Mz⟩:∃ m,m=n:=⟨_,rfl⟩;rw [← Mz] at e8 ⊢;clear Mz;exact dq (cy _ _ _ _ (k2.sub (l':=[(0,_),(1,_),(6,_),(7,_),(8,_)]) ⟨rfl,rfl,rfl,rfl,rfl,trivial⟩ (J8.o ave i' O E e8)))
  intro n iS O E e8;refine aB fun cv=>aa fun bV=>aj 2 rfl (J bV ?_);refine aX rfl (fun qS=>?_) (fun qS=>?_)
  ·have AA:h0 url s=false:=HG aW (e8.resolve_right (fun h=>by omega)).2;exact aa fun cE=>aj 2 rfl (J cE (bn (aP (bw (aP (aP (bw (aP (cj rfl rfl rfl ⟨qM.no AA,E⟩)))))))))
  have ae:=(e8.resolve_left (fun h=>by omega)).2;have avf:n<64:=HH ae;refine b' (av cv (aa fun cI=>a7 rfl (J cI (eN (bK (σ:=Nat×ab) (fun⟨k,C'⟩=>[(0,S s),(1,.bool url),(6,.slice (some ⟨Lk,0,none⟩) (s.length*6 / 8) (s.length*6 / 8)),(7,.int .i64 (i:Int)),(8,.int .i64 (n:Int)),(9,.int .i64 (k:Int))]) (fun⟨k,C'⟩ aJ=>k≤6∧(∀ kS,kS<k→8*(s.length*6 / 8)≤6*i+kS→n / 2 ^ (5-kS) % 2=0)∧Own aJ 5 1 (.slice (some ⟨Lk,0,none⟩) (s.length*6 / 8) (s.length*6 / 8)) (s.length*6 / 8) ((C'.map ym).flatten)∧C'.length=s.length*6 / 8∧Mod [] w aJ) (fun⟨k,C'⟩=>6-k) (⟨0,p6⟩) (⟨by omega,fun kS h=>absurd h (by omega),O,Jz,E⟩) ?_)))));rintro⟨k,C'⟩ iw ⟨hk,ajF,O,ZY,E⟩;refine aB fun dr=>aa fun ec=>aj 2 rfl (J ec ?_);refine aX rfl (fun ue=>?_) (fun ue=>?_);rotate_left
  ·have rT:(s.take (i+1)).all (fun b=>(p5 url b.toNat).isSome)=true:=all_succ (q:=fun c=>(p5 url c).isSome) aW aE (by rw [ae];rfl);have MD:=NM aW ae (fun kS h kf=>ajF kS (by omega) kf);exact bL (aP (aP (ch (bw (av b4 (b5 (aO rfl (ah (bt rfl rfl (by omega)) (a7 rfl (cx (aw (σ:=Nat×ab) (s:=⟨i,p6⟩) (⟨i+1,C'⟩) ⟨by omega,rT,MD,O,ZY,E⟩)))))))))))
  refine b' (av dr (aB fun dG=>eN (aa fun eV=>aO rfl (ah (Bt (r:=((6*i:Nat):Int)) rfl rfl) (aO rfl (ah (aS (r:=((6*i+k:Nat):Int)) rfl rfl) (a7 rfl (J eV (aB fun eO=>aa fun eC=>aj 2 rfl ?_)))))))));refine ah (eZ (r:=((5-k:Nat):Int)) rfl rfl) (ah (nw gj sd rfl (im _ (by omega))) (ah ((Cq rfl rfl (by omega)).to (v':=.int .i64 ((n / 2 ^ (5-k):Nat):Int)) (by rw [ajG (by omega)])) ?_));have yN:n / 2 ^ (5-k)<64:=Nat.lt_of_le_of_lt (Nat.div_le_self _ _) avf;refine ah ((G7 rfl rfl).to (v':=.int .i64 ((n / 2 ^ (5-k) % 2:Nat):Int)) (by rw [aph yN])) (ah (k1 rfl rfl) (J eC ?_));refine aX rfl (fun avg=>?_) (fun avg=>?_)
  ·skip
   exact bL (aP (ch (av dG (b5 (aO rfl (ah (bt rfl rfl (by omega)) (a7 rfl (cx (aw (σ:=Nat×ab) (s:=⟨k,C'⟩) (⟨k+1,C'⟩) ⟨by omega,fun kS h kf=>(Nat.lt_succ_iff_lt_or_eq.1 h).elim (fun h=>ajF kS h kf) (fun h=>by subst h;omega),O,ZY,E⟩)))))))))
  skip
  refine b' (av eO (aB fun eP=>aa fun fw=>aO rfl (ah ((oC rfl rfl (by omega)).to (v':=.int .i64 (((6*i+k) / 8:Nat):Int)) (by rw [Int.natCast_ediv];rfl)) (aO rfl (ah (bY da rfl) (ah (dA rfl rfl) (J fw ?_)))))));refine aX rfl (fun DM=>?_) (fun DM=>?_)
  ·have AA:h0 url s=false:=SO (k:=k) aW ae (by omega) (by omega) (by omega);exact aa fun fT=>aj 2 rfl (J fT (bn (aP (bw (aP (aP (bw (bw (aP (aP (bw (aP (cj rfl rfl rfl ⟨qM.no AA,E⟩)))))))))))))
  refine b' (av eP (b5 ?_));obtain⟨On,Jr⟩:∃ On,C'[(6*i+k) / 8]? = some On:=⟨_,List.getElem?_eq_getElem (by omega)⟩;refine aj 2 rfl (ah ((oC rfl rfl (by omega)).to (v':=.int .i64 (((6*i+k) / 8:Nat):Int)) (by rw [Int.natCast_ediv];rfl)) (aj 2 rfl (ah ((oC rfl rfl (by omega)).to (v':=.int .i64 (((6*i+k) / 8:Nat):Int)) (by rw [Int.natCast_ediv];rfl)) (ah (c8 di rfl rfl (by omega)) (ah (bF apf rfl (aev O Jr)) (aO rfl (ah (ln rfl rfl (by omega)) (ah (nw gj sd rfl (im _ (by omega))) (ah (Cq rfl rfl (by omega)) (ah (vt rfl rfl) (ah (c8 di rfl rfl (by omega)) (Rp (i:=(6*i+k) / 8) apf O rfl rfl rfl (by omega) fun aBk rV aAi aAj=>?_))))))))))));replace E:=E.own aAi apg;obtain⟨ajD,zo⟩:=ZZ rV;clear O rV;have O:=zo;exact cx (bw (av dG (b5 (aO rfl (ah (bt rfl rfl (by omega)) (a7 rfl (cx (aw (σ:=Nat×ab) (s:=⟨k,C'⟩) (⟨k+1,(C'.set ((6*i+k) / 8) ajD)⟩) ⟨by omega,fun kS h kf=>(Nat.lt_succ_iff_lt_or_eq.1 h).elim (fun h=>ajF kS h kf) (fun h=>by subst h;omega),O,by rw [List.length_set];exact ZY,E⟩))))))))
 have ab5:i=s.length:=by omega
 have avh:=cP ab5;have lD:s.all (fun b=>(p5 url b.toNat).isSome)=true:=by rw [List.take_of_length_le (by omega)] at aE;exact aE
 refine bL (aP (aP (ch (av a' (aB fun gh=>aa fun fk=>aO rfl (ah (bQ aA rfl) (ah (ln rfl rfl (by omega)) (ah (k1 rfl rfl) (J fk ?_)))))))));refine aX rfl (fun afY=>?_) (fun afY=>?_)
 ·have AA:h0 url s=false:=by
   unfold h0;rw [show decide (((6*s.length % 8:Nat):Int)≥6)=true from bD (by omega)];simp
  exact aa fun hq=>aj 2 rfl (J hq (bn (aP (cj rfl rfl rfl ⟨qM.no AA,E⟩))))
 have AA:h0 url s=true:=by
  unfold h0;rw [lD,← ab5,avh,show decide (((6*i % 8:Nat):Int)≥6)=false from cr (by omega)];rfl
 exact b' (av gh (aa fun gY=>aj 3 rfl (J gY (bn (cj rfl rfl rfl ⟨qM.yes AA (O.same (by rw [Jz]) rfl) Jz (by simp only [bk,List.mem_singleton];intro x ae;subst ae;exact apg),E⟩)))))
set_option maxRecDepth 10000
def PL:=eW Tryz.func123
def PM:=eW Tryz.func128
def mS:=kT (kU aR 44 86 3 48)
def tm:=kT (lG aR 86 3)
theorem xN:gX aR 86 ([S [],S [],S []]):=by unfold gX;kernel_rfl
def gp:=kT (j4 aR 86 0 0 1)
def oD:=kT (j4 aR 86 1 1 1)
def aew:=eW Tryz.func124
def A8:=kT (j4 aR 86 2 2 1)
def Z0:=eW Tryz.func81
theorem Z' (w:World) (s:ab) (bh:s.length≤140737488351232):Calls aR 84 [S s].toArray w (bH fun u w'=>u = .bool (dQ s)∧Mod [] w w'):=by
 refine bs Tryz.func84 rfl fun E=>aa fun a6=>a7 rfl (J a6 (aB fun aQ=>aa fun a'=>aO rfl (ah (jr rfl rfl) ?_)));refine c7 (fun bg:s = []=>?_) (fun bg=>?_)
 ·refine aj 5 rfl (J a' (az rfl ?_));have jA:dQ s=false:=by subst bg;simp [dQ]
  exact aa fun bp=>a7 rfl (J bp (bn (aP (aG rfl rfl ⟨by rw [jA],E⟩))))
 obtain⟨b0,r,rfl⟩:∃ b r,s=b::r:=List.exists_cons_of_ne_nil bg;refine aj 2 rfl (ay (hM aA rfl rfl (by omega) rfl) (ay (fO rfl rfl) ?_));refine c7 (fun bC:(b0.toNat:Int)≠36=>?_) (fun bC=>?_)
 ·refine ah (hG rfl rfl rfl) (J a' (az rfl ?_));have jA:dQ (b0::r)=false:=by
   have aH:b0≠36:=fun h=>bC (by rw [h];rfl);simp [dQ,aH]
  exact aa fun bx=>a7 rfl (J bx (bn (aP (aG rfl rfl ⟨by rw [jA],E⟩))))
 refine ah (hG rfl rfl rfl) (J a' (aI rfl ?_));have qS:b0=36:=dT (Classical.not_not.1 bC);have kf:decide ((b0::r).head? = some 36)=true:=by simp [qS]
 refine b' (av aQ (aa fun bO=>aO rfl (ah (dV (n:=1) aA rfl rfl (by simp)) (cJ (bB PL rfl) (FH _ ((b0::r).drop 1) true (by simp only [List.length_drop];omega)) fun cN aJ aH=>?_))));obtain⟨⟨avi,p6,o,rfl,fv,hO,pV,_⟩,U⟩:=aH;replace E:=E.then U;obtain⟨qR,SP,rfl,Ll,Lm⟩:=hO.form;refine aj 5 rfl (J bO (aa fun b4=>aO rfl ?_));refine oM (fun bg:(o)=true=>?_) (fun bg=>?_)
 ·have aaa:decide (((b0::r).drop 1).length*6 / 8=32)=decide ((p6.length:Int)=32):=by
   rw [decide_eq_decide];rw [bg] at fv;rw [← fv,aL rfl] at pV;omega
  refine aj 2 rfl (ay (bY da rfl) (ay (k1 rfl rfl) ?_));refine c7 (fun bC:(p6.length:Int)=32=>?_) (fun bC=>?_)
  ·exact aj 2 rfl (J b4 (bn (aG rfl rfl ⟨cf (by rw [dQ,kf,← fv,aaa];simp only [bg,bD bC,bZ']),E⟩)))
  exact aj 2 rfl (J b4 (bn (aG rfl rfl ⟨cf (by rw [dQ,kf,← fv,aaa];simp only [bg,cr bC,bZ']),E⟩)))
 exact aj 6 rfl (J b4 (bn (aG rfl rfl ⟨cf (by rw [dQ,kf,← fv];simp only [ew bg,bZ']),E⟩)))
theorem FJ (w:World) (s:ab) (bh:s.length≤140737488351232):Calls aR 90 [S s].toArray w (bH fun u w'=>u = .bool (dQ s)∧Mod [] w w'):=by
 refine bs Tryz.func90 rfl fun E=>aa fun a6=>a7 rfl (J a6 (aB fun aQ=>aa fun a'=>aO rfl (ah (jr rfl rfl) ?_)));refine c7 (fun bg:s = []=>?_) (fun bg=>?_)
 ·refine aj 5 rfl (J a' (az rfl ?_));have jA:dQ s=false:=by subst bg;simp [dQ]
  exact aa fun bp=>a7 rfl (J bp (bn (aP (aG rfl rfl ⟨by rw [jA],E⟩))))
 obtain⟨b0,r,rfl⟩:∃ b r,s=b::r:=List.exists_cons_of_ne_nil bg;refine aj 2 rfl (ay (hM aA rfl rfl (by omega) rfl) (ay (fO rfl rfl) ?_));refine c7 (fun bC:(b0.toNat:Int)≠36=>?_) (fun bC=>?_)
 ·refine ah (hG rfl rfl rfl) (J a' (az rfl ?_));have jA:dQ (b0::r)=false:=by
   have aH:b0≠36:=fun h=>bC (by rw [h];rfl);simp [dQ,aH]
  exact aa fun bx=>a7 rfl (J bx (bn (aP (aG rfl rfl ⟨by rw [jA],E⟩))))
 refine ah (hG rfl rfl rfl) (J a' (aI rfl ?_));have qS:b0=36:=dT (Classical.not_not.1 bC);have kf:decide ((b0::r).head? = some 36)=true:=by simp [qS]
 refine b' (av aQ (aa fun bO=>aO rfl (ah (dV (n:=1) aA rfl rfl (by simp)) (cJ (bB PM rfl) (C9 _ ((b0::r).drop 1) true (by simp only [List.length_drop];omega)) fun cN aJ aH=>?_))));obtain⟨⟨avi,p6,o,rfl,fv,hO,pV,_⟩,U⟩:=aH;replace E:=E.then U;obtain⟨qR,SP,rfl,Ll,Lm⟩:=hO.form;refine aj 5 rfl (J bO (aa fun b4=>aO rfl ?_));refine oM (fun bg:(o)=true=>?_) (fun bg=>?_)
 ·have aaa:decide (((b0::r).drop 1).length*6 / 8=32)=decide ((p6.length:Int)=32):=by
   rw [decide_eq_decide];rw [bg] at fv;rw [← fv,aL rfl] at pV;omega
  refine aj 2 rfl (ay (bY da rfl) (ay (k1 rfl rfl) ?_));refine c7 (fun bC:(p6.length:Int)=32=>?_) (fun bC=>?_)
  ·exact aj 2 rfl (J b4 (bn (aG rfl rfl ⟨cf (by rw [dQ,kf,← fv,aaa];simp only [bg,bD bC,bZ']),E⟩)))
  exact aj 2 rfl (J b4 (bn (aG rfl rfl ⟨cf (by rw [dQ,kf,← fv,aaa];simp only [bg,cr bC,bZ']),E⟩)))
 exact aj 6 rfl (J b4 (bn (aG rfl rfl ⟨cf (by rw [dQ,kf,← fv];simp only [ew bg,bZ']),E⟩)))
theorem Ln (w:World) (s:ab) (n:Nat) (bh:s.length≤140737488351232):Calls aR 81 [S s,.int .i64 (n:Int)].toArray w (bH fun u w'=>u = .bool (fG s n)∧Mod [] w w'):=by
 refine cY Tryz.func81 rfl fun E=>aa fun a6=>a7 rfl (J a6 (aa fun aQ=>aO rfl (cJ (bB PL rfl) (FH _ (s) false bh) fun cN aJ aH=>?_)));obtain⟨⟨avi,p6,o,rfl,fv,hO,pV,_⟩,U⟩:=aH;replace E:=E.then U;obtain⟨qR,SP,rfl,Ll,Lm⟩:=hO.form;refine aj 5 rfl (J aQ (aa fun a'=>aO rfl ?_));refine oM (fun bg:(o)=true=>?_) (fun bg=>?_)
 ·have eW:decide (s.length*6 / 8=n)=decide ((p6.length:Int)=(n:Int)):=by
   rw [decide_eq_decide];rw [bg] at fv;rw [← fv,aL rfl] at pV;omega
  refine aj 2 rfl (ay (bY da rfl) (aj 2 rfl ?_));refine c7 (fun bC:(p6.length:Int)=(n:Int)=>?_) (fun bC=>?_)
  ·exact aj 2 rfl (J a' (bn (aG rfl rfl ⟨cf (by rw [fG,← fv,eW];simp only [bg,bD bC,bZ']),E⟩)))
  exact aj 2 rfl (J a' (bn (aG rfl rfl ⟨cf (by rw [fG,← fv,eW];simp only [bg,cr bC,bZ']),E⟩)))
 exact aj 7 rfl (J a' (bn (aG rfl rfl ⟨cf (by rw [fG,← fv];simp only [ew bg,bZ']),E⟩)))
theorem zj (w:World) (s:ab) (n:Nat) (cu:n≤100) (bh:s.length≤140737488351232):Calls aR 93 [S s,.int .i64 (n:Int)].toArray w (bH fun u w'=>u = .bool (fG s n)∧Mod [] w w'):=by
 refine cY Tryz.func93 rfl fun E=>aa fun a6=>a7 rfl (J a6 (aB fun aQ=>aa fun a'=>aO rfl (ah (bQ aA rfl) (ah (hV rfl rfl) (J a' ?_)))));refine aX rfl (fun l2=>?_) (fun l2=>?_)
 ·exact aa fun bp=>a7 rfl (J bp (bn (aP (aG rfl rfl ⟨by rw [fG,show decide (s.length*6 / 8=n)=false from cr (by omega)];simp,E⟩))))
 refine b' (av aQ (aa fun bx=>aO rfl (cJ (bB PM rfl) (C9 _ (s) false bh) fun cN aJ aH=>?_)));obtain⟨⟨avi,p6,o,rfl,fv,hO,pV,_⟩,U⟩:=aH;replace E:=E.then U;obtain⟨qR,SP,rfl,Ll,Lm⟩:=hO.form;refine aj 5 rfl (J bx (aa fun bO=>aO rfl ?_));refine oM (fun bg:(o)=true=>?_) (fun bg=>?_)
 ·have eW:decide (s.length*6 / 8=n)=decide ((p6.length:Int)=(n:Int)):=by
   rw [decide_eq_decide];rw [bg] at fv;rw [← fv,aL rfl] at pV;omega
  refine aj 2 rfl (ay (bY da rfl) (aj 2 rfl ?_));refine c7 (fun bC:(p6.length:Int)=(n:Int)=>?_) (fun bC=>?_)
  ·exact aj 2 rfl (J bO (bn (aG rfl rfl ⟨cf (by rw [fG,← fv,eW];simp only [bg,bD bC,bZ']),E⟩)))
  exact aj 2 rfl (J bO (bn (aG rfl rfl ⟨cf (by rw [fG,← fv,eW];simp only [bg,cr bC,bZ']),E⟩)))
 exact aj 7 rfl (J bO (bn (aG rfl rfl ⟨cf (by rw [fG,← fv];simp only [ew bg,bZ']),E⟩)))
theorem Da (w:World) (s:ab):Calls aR 79 [S s].toArray w (bH fun u w'=>u = .bool (gq s)∧Mod [] w w'):=by
 refine bs Tryz.func79 rfl fun E=>aa fun a6=>a7 rfl (J a6 (aa fun aQ=>aO rfl (ah (bQ aA rfl) (ah (pr rfl rfl) ?_))));refine c7 (fun bg:(s.length:Int)≤255=>?_) (fun bg=>?_)
 ·refine aj 2 rfl (gN (bB Pw rfl) (FC _ s) fun aJ U=>?_);replace E:=E.then U;refine oM (fun bC:(cC s)=true=>?_) (fun bC=>?_)
  ·exact aj 2 rfl (J aQ (bn (aG rfl rfl ⟨cf (by rw [gq];simp only [bD bg,bC,bZ']),E⟩)))
  exact aj 2 rfl (J aQ (bn (aG rfl rfl ⟨cf (by rw [gq];simp only [bD bg,ew bC,bZ']),E⟩)))
 exact aj 5 rfl (J aQ (bn (aG rfl rfl ⟨cf (by rw [gq];simp only [cr bg,bZ']),E⟩)))
theorem aab (w:World) (s:ab):Calls aR 96 [S s].toArray w (bH fun u w'=>u = .bool (gq s)∧Mod [] w w'):=by
 refine bs Tryz.func96 rfl fun E=>aa fun a6=>a7 rfl (J a6 (aa fun aQ=>aO rfl (ah (bQ aA rfl) (ah (pr rfl rfl) ?_))));refine c7 (fun bg:(s.length:Int)≤255=>?_) (fun bg=>?_)
 ·refine aj 2 rfl (gN (bB Oh rfl) (Ep _ _) fun aJ U=>?_);replace E:=E.then U;refine oM (fun bC:(cC s)=true=>?_) (fun bC=>?_)
  ·exact aj 2 rfl (J aQ (bn (aG rfl rfl ⟨cf (by rw [gq];simp only [bD bg,bC,bZ']),E⟩)))
  exact aj 2 rfl (J aQ (bn (aG rfl rfl ⟨cf (by rw [gq];simp only [bD bg,ew bC,bZ']),E⟩)))
 exact aj 5 rfl (J aQ (bn (aG rfl rfl ⟨cf (by rw [gq];simp only [cr bg,bZ']),E⟩)))
theorem FK (w:World) (n:Int):Calls aR 80 [.int .i64 n].toArray w (bH fun u w'=>u = .bool (o5 n)∧Mod [] w w'):=by
 refine bs Tryz.func80 rfl fun E=>aa fun a6=>a7 rfl (J a6 (aa fun aQ=>aO rfl (ah (dA rfl rfl) ?_)));refine c7 (fun bg:0≤n=>?_) (fun bg=>?_)
 ·refine aj 3 rfl ?_;refine c7 (fun bC:n≤9007199254740991=>?_) (fun bC=>?_)
  ·exact aj 2 rfl (J aQ (bn (aG rfl rfl ⟨cf (by rw [o5];simp only [bD bg,bD bC,bZ']),E⟩)))
  exact aj 2 rfl (J aQ (bn (aG rfl rfl ⟨cf (by rw [o5];simp only [bD bg,cr bC,bZ']),E⟩)))
 exact aj 5 rfl (J aQ (bn (aG rfl rfl ⟨cf (by rw [o5];simp only [cr bg,bZ']),E⟩)))
theorem aex (w:World) (l:List ei) (ad:Option Addr) (c:Nat) (aBn:bq [] w (flat 3 ei.cells l) (.slice ad l.length c)) (hlen:∀ s∈l,s.eo.length<4294967281∧s.key.length≤140737488351232∧s.sig.length≤140737488351232) (aAk:l.length≤140737488351232) (eX:kv w):Calls aR 82 [.slice ad l.length c].toArray w (bH fun u w'=>u = .bool (eT none l)∧Mod [] w w'):=by
 refine bs Tryz.func82 rfl fun E=>?_;obtain⟨_,c9,NN,aac,aad⟩:=hh aBn;injection NN with _ _ NO
 subst NO;refine aa fun a6=>a7 rfl (J a6 (aB fun aQ=>aa fun a'=>aO rfl (ah (bY pR rfl) (aO rfl (J a' (eN (bK (σ:=Nat) (fun k=>[(0,.slice ad l.length c),(5,.slice ad l.length c),(6,.int .i64 (l.length:Int)),(7,.int .i64 (k:Int))]) (fun k aJ=>k≤l.length∧eT none l=eT (lV l k) (l.drop k)∧Mod [] w aJ) (fun k=>l.length-k) (0) (⟨by omega,rfl,E⟩) ?_)))))));rintro k aJ ⟨hk,hinv,E⟩;refine aa fun bp=>ah (cT rfl rfl) (J bp (aB fun bx=>?_));refine aX rfl (fun lZ=>?_) (fun lZ=>?_);rotate_left
 ·exact bL (aP (aP (ch (av aQ (aa fun dr=>a7 rfl (J dr (bn (aG rfl rfl ⟨by rw [hinv,Dc (by omega)],E⟩))))))))
 refine b' (av bx (aB fun bO=>eN (aa fun b4=>aO rfl ?_)));obtain⟨x,bS⟩:∃ x,l[k]? = some x:=⟨_,List.getElem?_eq_getElem (by omega)⟩;obtain⟨kJ,dW,cA,_⟩:=h7 (aBn.b1 E) bS;cases dW;obtain⟨NP,aae,NQ⟩:=hlen x (List.mem_of_getElem? bS);refine ah (c8 mS rfl rfl (by omega)) (ah (fb tm rfl rfl cA) (bj xN rfl fun g1 cX bZ=>?_));have aY:=bZ.le E;replace E:=E.then bZ.mod;have R:=bZ.ar;refine a7 rfl (ur tm R rfl rfl fun gr rW=>?_);replace E:=E.own rW.mod aY;replace R:aF gr g1 _ [_,_,_]:=rW.ar;refine J b4 (aB fun cw=>aa fun cy=>ah (aD gp rfl) (ah (bF b2 rfl (R.cell rfl)) (cG E (bB HB rfl) (zh _ x.eo NP (eX.I E)) fun h8 U E=>?_)));replace R:=R.I U;refine ah (fC rfl) ?_;refine oM (fun bg:(!d' x.eo)=true=>?_) (fun bg=>?_)
 ·refine aj 12 rfl (J cy (az rfl ?_));have aH:d' x.eo=false:=by simpa using bg
  have jA:eT none l=false:=by rw [hinv,gM bS,show nS x=false by simp [nS,aH]];rfl
  exact aa fun b6=>a7 rfl (J b6 (bn (aP (bw (aP (aP (bw (aP (aG rfl rfl ⟨by rw [jA],E⟩)))))))))
 refine aO rfl (ay (aD oD rfl) (ay (bF b2 rfl (R.cell rfl)) (gN (bB aew rfl) (ajz _ x.key) fun iS U=>?_)));replace R:=R.I U;replace E:=E.then U;refine ay (fC rfl) ?_;refine oM (fun bC:(!pD x.key)=true=>?_) (fun bC=>?_)
 ·refine aj 7 rfl (J cy (az rfl ?_));have aH:pD x.key=false:=by simpa using bC
  have jA:eT none l=false:=by rw [hinv,gM bS,show nS x=false by simp [nS,aH]];rfl
  exact aa fun bR=>a7 rfl (J bR (bn (aP (bw (aP (aP (bw (aP (aG rfl rfl ⟨by rw [jA],E⟩)))))))))
 refine aj 2 rfl (ay (aD A8 rfl) (ay (bF b2 rfl (R.cell rfl)) (gN (bB Z0 rfl) (Ln _ x.sig 64 NQ) fun i' U=>?_)));replace R:=R.I U;replace E:=E.then U;refine ay (fC rfl) ?_;refine oM (fun dh:(!fG x.sig 64)=true=>?_) (fun dh=>?_)
 ·refine ah (hG rfl rfl rfl) (J cy (az rfl ?_));have aH:fG x.sig 64=false:=by simpa using dh
  have jA:eT none l=false:=by rw [hinv,gM bS,show nS x=false by simp [nS,aH]];rfl
  exact aa fun cv=>a7 rfl (J cv (bn (aP (bw (aP (aP (bw (aP (aG rfl rfl ⟨by rw [jA],E⟩)))))))))
 refine ah (hG rfl rfl rfl) (J cy (aI rfl ?_));have g0:d' x.eo=true:=by simpa using bg
 have ajH:pD x.key=true:=by simpa using bC
 have ajI:fG x.sig 64=true:=by simpa using dh
 have Db:nS x=true:=by rw [nS,g0,ajH,ajI];rfl
 refine b' (av cw (aB fun bV=>?_))
 by_cases cW:(k:Int) > 0
 rotate_left
 ·refine cn wide (by kernel_rfl) (hF 3 rfl rfl (fP rfl (cr cW) (fP rfl (cr cW) (fP rfl (cr cW) (fP rfl (cr cW) (fP rfl (cr cW) (fP rfl (cr cW) (fP rfl (cr cW) (fP rfl (cr cW) (fP rfl (cr cW) (fP rfl (cr cW) (hF 20 rfl rfl (fP rfl (cr cW) ?_)))))))))))));refine ax (fun U=>(hG (cr cW) rfl rfl)) (cq rfl fun jJ U=>?_);replace R:=R.I U;replace E:=E.then U;refine av bV (aI rfl ?_);have rT:eT none l=eT (lV l (k+1)) (l.drop (k+1)):=by rw [hinv,gM bS,Db,aag (by omega)];rfl
  exact b' (bw (av bO (b5 (ah (bt rfl rfl (by omega)) (aO rfl (cx (aw (σ:=Nat) (s:=k) (k+1) ⟨by omega,rT,E⟩)))))))
 obtain⟨q,jU⟩:∃ x,l[k-1]? = some x:=⟨_,List.getElem?_eq_getElem (by omega)⟩;obtain⟨Iw,tR,jw,_⟩:=h7 (aBn.b1 E) jU;cases tR;obtain⟨ajJ,ajK,ajL⟩:=hlen q (List.mem_of_getElem? jU)
 by_cases dB:(!(fx q.eo x.eo||q.eo == x.eo))=true
 ·refine cn wide (by kernel_rfl) (hF 3 rfl rfl (a8 (bD cW) (fun U=>(fj rfl)) (a8 (bD cW) (fun U=>(fj rfl)) (a8 (bD cW) (fun U=>(eZ (r:=((k-1:Nat):Int)) rfl rfl)) (a8 (bD cW) (fun U=>(c8 mS rfl rfl (by omega))) (a8 (bD cW) (fun U=>(fY gp rfl)) (a8 (bD cW) (fun U=>(bF b2 rfl ((jw.I U) 0 _ rfl))) (a8 (bD cW) (fun U=>(aD gp rfl)) (a8 (bD cW) (fun U=>(bF b2 rfl ((R.I U).cell rfl))) (a8 (bD cW) (fun U=>(yl rfl rfl)) (a8 (bD cW) (fun U=>(fj rfl)) (fP rfl dB (fP rfl dB ?_)))))))))))));refine fP rfl dB (fP rfl dB (fP rfl dB (fP rfl dB (fP rfl dB (fP rfl dB (fP rfl dB (fP rfl dB (hF 9 rfl rfl (fP rfl dB (a8 (bD cW) (fun U=>(oH dB rfl rfl)) (ax (fun U=>(oH (bD cW) rfl rfl)) (cq rfl fun iw U=>?_))))))))))));replace R:=R.I U;replace E:=E.then U;refine av bV (az rfl ?_);have qL:ij q x=true:=by rw [ij];simp only [dB,bZ']
  have jA:eT none l=false:=by rw [hinv,gM bS,rB jU (by omega),qL];simp
  exact aa fun cE=>a7 rfl (J cE (bn (bw (aP (aP (bw (aP (aG rfl rfl ⟨by rw [jA],E⟩))))))))
 by_cases fc:q.eo=x.eo
 rotate_left
 ·refine cn wide (by kernel_rfl) (hF 3 rfl rfl (a8 (bD cW) (fun U=>(fj rfl)) (a8 (bD cW) (fun U=>(fj rfl)) (a8 (bD cW) (fun U=>(eZ (r:=((k-1:Nat):Int)) rfl rfl)) (a8 (bD cW) (fun U=>(c8 mS rfl rfl (by omega))) (a8 (bD cW) (fun U=>(fY gp rfl)) (a8 (bD cW) (fun U=>(bF b2 rfl ((jw.I U) 0 _ rfl))) (a8 (bD cW) (fun U=>(aD gp rfl)) (a8 (bD cW) (fun U=>(bF b2 rfl ((R.I U).cell rfl))) (a8 (bD cW) (fun U=>(yl rfl rfl)) (a8 (bD cW) (fun U=>(fj rfl)) (a8 (ew dB) (fun U=>(fj rfl)) (a8 (ew dB) (fun U=>(fj rfl)) ?_)))))))))))));refine a8 (ew dB) (fun U=>(eZ (r:=((k-1:Nat):Int)) rfl rfl)) (a8 (ew dB) (fun U=>(c8 mS rfl rfl (by omega))) (a8 (ew dB) (fun U=>(fY gp rfl)) (a8 (ew dB) (fun U=>(bF b2 rfl ((jw.I U) 0 _ rfl))) (a8 (ew dB) (fun U=>(aD gp rfl)) (a8 (ew dB) (fun U=>(bF b2 rfl ((R.I U).cell rfl))) (a8 (ew dB) (fun U=>(jr rfl rfl)) (a8 (ew dB) (fun U=>(fj rfl)) (fP rfl (cr fc) (fP rfl (cr fc) (fP rfl (cr fc) (fP rfl (cr fc) (fP rfl (cr fc) (fP rfl (cr fc) ?_)))))))))))));refine fP rfl (cr fc) (fP rfl (cr fc) (fP rfl (cr fc) (a8 (ew dB) (fun U=>(hG (cr fc) rfl rfl)) (a8 (bD cW) (fun U=>(hG (ew dB) rfl rfl)) (ax (fun U=>(oH (bD cW) rfl rfl)) (cq rfl fun h2 U=>?_))))));replace R:=R.I U;replace E:=E.then U;refine av bV (aI rfl ?_);have qL:ij q x=false:=by rw [ij];simp only [ew dB,cr fc,bZ']
  have rT:eT none l=eT (lV l (k+1)) (l.drop (k+1)):=by rw [hinv,gM bS,Db,rB jU (by omega),qL];rfl
  exact b' (bw (av bO (b5 (ah (bt rfl rfl (by omega)) (aO rfl (cx (aw (σ:=Nat) (s:=k) (k+1) ⟨by omega,rT,E⟩)))))))
 by_cases o6:(!fx q.key x.key)=true
 ·refine cn wide (by kernel_rfl) (hF 3 rfl rfl (a8 (bD cW) (fun U=>(fj rfl)) (a8 (bD cW) (fun U=>(fj rfl)) (a8 (bD cW) (fun U=>(eZ (r:=((k-1:Nat):Int)) rfl rfl)) (a8 (bD cW) (fun U=>(c8 mS rfl rfl (by omega))) (a8 (bD cW) (fun U=>(fY gp rfl)) (a8 (bD cW) (fun U=>(bF b2 rfl ((jw.I U) 0 _ rfl))) (a8 (bD cW) (fun U=>(aD gp rfl)) (a8 (bD cW) (fun U=>(bF b2 rfl ((R.I U).cell rfl))) (a8 (bD cW) (fun U=>(yl rfl rfl)) (a8 (bD cW) (fun U=>(fj rfl)) (a8 (ew dB) (fun U=>(fj rfl)) (a8 (ew dB) (fun U=>(fj rfl)) ?_)))))))))))));refine a8 (ew dB) (fun U=>(eZ (r:=((k-1:Nat):Int)) rfl rfl)) (a8 (ew dB) (fun U=>(c8 mS rfl rfl (by omega))) (a8 (ew dB) (fun U=>(fY gp rfl)) (a8 (ew dB) (fun U=>(bF b2 rfl ((jw.I U) 0 _ rfl))) (a8 (ew dB) (fun U=>(aD gp rfl)) (a8 (ew dB) (fun U=>(bF b2 rfl ((R.I U).cell rfl))) (a8 (ew dB) (fun U=>(jr rfl rfl)) (a8 (ew dB) (fun U=>(fj rfl)) (a8 (bD fc) (fun U=>(fj rfl)) (a8 (bD fc) (fun U=>(fj rfl)) (a8 (bD fc) (fun U=>(eZ (r:=((k-1:Nat):Int)) rfl rfl)) (a8 (bD fc) (fun U=>(c8 mS rfl rfl (by omega))) (a8 (bD fc) (fun U=>(fY oD rfl)) (a8 (bD fc) (fun U=>(bF b2 rfl ((jw.I U) 1 _ rfl))) ?_)))))))))))));refine a8 (bD fc) (fun U=>(aD oD rfl)) (a8 (bD fc) (fun U=>(bF b2 rfl ((R.I U).cell rfl))) (a8 (bD fc) (fun U=>(Cr rfl rfl)) (a8 (ew dB) (fun U=>(oH (bD fc) rfl rfl)) (a8 (bD cW) (fun U=>(hG (ew dB) rfl rfl)) (ax (fun U=>(oH (bD cW) rfl rfl)) (cq rfl fun nd U=>?_))))));replace R:=R.I U;replace E:=E.then U;refine av bV ?_;refine a1 rfl (fun aaf=>?_) (fun aaf=>absurd (o6.symm.trans aaf) (by decide));have qL:ij q x=true:=by rw [ij];simp only [ew dB,bD fc,o6,bZ']
  have jA:eT none l=false:=by rw [hinv,gM bS,rB jU (by omega),qL];simp
  exact aa fun cI=>a7 rfl (J cI (bn (bw (aP (aP (bw (aP (aG rfl rfl ⟨by rw [jA],E⟩))))))))
 refine cn wide (by kernel_rfl) (hF 3 rfl rfl (a8 (bD cW) (fun U=>(fj rfl)) (a8 (bD cW) (fun U=>(fj rfl)) (a8 (bD cW) (fun U=>(eZ (r:=((k-1:Nat):Int)) rfl rfl)) (a8 (bD cW) (fun U=>(c8 mS rfl rfl (by omega))) (a8 (bD cW) (fun U=>(fY gp rfl)) (a8 (bD cW) (fun U=>(bF b2 rfl ((jw.I U) 0 _ rfl))) (a8 (bD cW) (fun U=>(aD gp rfl)) (a8 (bD cW) (fun U=>(bF b2 rfl ((R.I U).cell rfl))) (a8 (bD cW) (fun U=>(yl rfl rfl)) (a8 (bD cW) (fun U=>(fj rfl)) (a8 (ew dB) (fun U=>(fj rfl)) (a8 (ew dB) (fun U=>(fj rfl)) ?_)))))))))))));refine a8 (ew dB) (fun U=>(eZ (r:=((k-1:Nat):Int)) rfl rfl)) (a8 (ew dB) (fun U=>(c8 mS rfl rfl (by omega))) (a8 (ew dB) (fun U=>(fY gp rfl)) (a8 (ew dB) (fun U=>(bF b2 rfl ((jw.I U) 0 _ rfl))) (a8 (ew dB) (fun U=>(aD gp rfl)) (a8 (ew dB) (fun U=>(bF b2 rfl ((R.I U).cell rfl))) (a8 (ew dB) (fun U=>(jr rfl rfl)) (a8 (ew dB) (fun U=>(fj rfl)) (a8 (bD fc) (fun U=>(fj rfl)) (a8 (bD fc) (fun U=>(fj rfl)) (a8 (bD fc) (fun U=>(eZ (r:=((k-1:Nat):Int)) rfl rfl)) (a8 (bD fc) (fun U=>(c8 mS rfl rfl (by omega))) (a8 (bD fc) (fun U=>(fY oD rfl)) (a8 (bD fc) (fun U=>(bF b2 rfl ((jw.I U) 1 _ rfl))) ?_)))))))))))));refine a8 (bD fc) (fun U=>(aD oD rfl)) (a8 (bD fc) (fun U=>(bF b2 rfl ((R.I U).cell rfl))) (a8 (bD fc) (fun U=>(Cr rfl rfl)) (a8 (ew dB) (fun U=>(oH (bD fc) rfl rfl)) (a8 (bD cW) (fun U=>(hG (ew dB) rfl rfl)) (ax (fun U=>(oH (bD cW) rfl rfl)) (cq rfl fun lF U=>?_))))));replace R:=R.I U;replace E:=E.then U;refine av bV (a1 rfl (fun aaf=>absurd ((ew o6).symm.trans aaf) (by decide)) (fun aaf=>?_));have qL:ij q x=false:=by rw [ij];simp only [ew dB,bD fc,ew o6,bZ']
 have rT:eT none l=eT (lV l (k+1)) (l.drop (k+1)):=by rw [hinv,gM bS,Db,rB jU (by omega),qL];rfl
 exact b' (bw (av bO (b5 (ah (bt rfl rfl (by omega)) (aO rfl (cx (aw (σ:=Nat) (s:=k) (k+1) ⟨by omega,rT,E⟩)))))))
set_option maxRecDepth 10000
def JV.seven:JV:=.mk 2 false 7 [] [] []
set_option maxRecDepth 10000
def sL:=kT (j4 aR 46 0 0 1)
def sM:=kT (j4 aR 46 1 1 1)
def pO:=kT (j4 aR 46 2 2 1)
def oz:=kT (j4 aR 46 4 4 1)
def nm:=kT (j4 aR 46 10 15 1)
def pP:=kT (j4 aR 46 6 11 1)
def nR:=kT (pa aR 43)
def pQ:=kT (j4 aR 46 7 12 1)
def jj:=kT (j4 aR 46 11 16 1)
def q':=kT (pa aR 44)
def l4:=kT (kU aR 43 9 1 16)
def oA:=kT (j4 aR 46 5 5 6)
set_option maxRecDepth 10000
def ajM:=eW Tryz.func83
def Nn:=eW Tryz.func10
def ajN:=eW Tryz.func84
def p0:=kT (j4 aR 46 8 13 1)
def aah:=eW Tryz.func80
def p1:=kT (j4 aR 46 9 14 1)
def ajO:=eW Tryz.func82
def ajP:=eW Tryz.func77
def ajQ:=eW Tryz.func78
def aai:=eW Tryz.func79
def rr:=kT (j4 aR 46 3 3 1)
def aaj:=eW Tryz.func90
def ajR:=eW Tryz.func92
def NR:=eW Tryz.func93
def Zg:=eW Tryz.func47
def ajS:=eW Tryz.func94
def ajT:=eW Tryz.func95
def aak:=eW Tryz.func96
theorem SQ (w:World) (xs:List ab) (ad:Option Addr) (c:Nat) (aBn:bq [] w (pz xs) (.slice ad xs.length c)) (cu:xs.length≤1000000):Calls aR 83 [.slice ad xs.length c].toArray w (bH fun u w'=>Own w' 9 1 u xs.length ((xs.map fun s=>[S s]).flatten)∧(∀ x∈bk u,w.heap.size≤x)∧Mod [] w w'):=by
 refine bs Tryz.func83 rfl fun E=>?_;have cH:ad=none→xs = []:=fun h=>by subst h;exact Na aBn
 refine aa fun a6=>a7 rfl (J a6 (aB fun aQ=>aa fun a'=>aO rfl (ah (Ob hQ rfl rfl) (J a' ?_))));refine a1 rfl (fun bP=>?_) (fun bP=>?_)
 ·have af3:xs = []:=cH (by cases ad with | none=>rfl | some a=>simp at bP);subst af3;exact aa fun bp=>a7 rfl (J bp (bn (aP (aG rfl rfl ⟨by simpa using Own.nil _ 9 1,by simp [bk],E⟩))))
 refine b' (av aQ (aa fun bx=>kA (cs:=[]) l4 Ji rfl rfl rfl (by decide) rfl fun g1 aJ bZ=>?_));have aY:=bZ.le E;replace E:=E.then bZ.mod;have R:=bZ.ar;refine aO rfl (bz l4 rfl rfl (Own.all (c:=0) (cs:=[]) R rfl (by omega)) (Src.flat hQ (aBn.b1 E)) (by decide) (by omega) (by omega) rfl fun v1 cX kB=>?_);replace E:=E.trans' kB.mod (fun x ae=>.inr (by simp [bk] at ae;subst ae;exact aY));have rZ:∀ x∈bk v1,w.heap.size≤x:=fun x ae=>(kB.lH x ae).elim (fun h=>by simp [bk] at h;subst h;exact aY) (fun h=>Nat.le_trans (Nat.le_trans aY (Nat.le_of_lt R.lt)) h);exact a7 rfl (J bx (bn (aG rfl rfl ⟨kB.own.same (by simp) (by simp),rZ,E⟩)))
theorem KB (w:World) (e:EV) (us:List Value) (aBn:ao [] w e.D us) (fv:e.ok) (aal:e.lens) (kp:pd w) (eX:kv w):Calls aR 46 [.agg us.toArray].toArray w (bH fun u w'=>u = .int .i64 e.q5∧Mod [] w w'):=by
 refine bs Tryz.func46 rfl fun E=>?_;obtain⟨al,cl,am,cm,ap,w1,BK,yw,BL,BM,rfl,XS,Dw,abg,Tl⟩:=EV.jk aBn;obtain⟨sn,ajU,Ed,Az,Ee,KX,ajV,aey,Zu,Lo,FL,aam⟩:=fv;have ajW:∀ s∈e.sigs,s.eo.length<4294967281∧s.key.length≤140737488351232∧s.sig.length≤140737488351232:=fun s bh=>⟨aal.2.2 s bh,(FL s bh).2.1,(FL s bh).2.2⟩;refine aa fun a6=>eY rfl rfl rfl fun g1 aJ bZ=>?_;have aY:=bZ.le E;replace E:=E.then bZ.mod;have R:=bZ.ar;refine a7 rfl (J a6 (aB fun aQ=>aa fun a'=>ah (aD pP rfl) (ah (bF nR rfl (R.cell rfl)) (ah (bY hQ rfl) (ah (hV rfl rfl) ?_)))));refine c7 (fun bg:(e.prev.length:Int) > 20=>?_) (fun bg=>?_)
 ·refine aj 6 rfl (J a' (az rfl ?_));have wA:20<e.prev.length∨10<e.b8.length:=by omega
  exact aa fun bp=>a7 rfl (J bp (bn (aP (aG rfl rfl ⟨by rw [EV.va wA],E⟩))))
 refine aO rfl (ay (aD pQ rfl) (ay (bF nR rfl (R.cell rfl)) (ay (bY hQ rfl) (ay (hV rfl rfl) ?_))));refine c7 (fun bC:(e.b8.length:Int) > 10=>?_) (fun bC=>?_)
 ·refine ah (hG rfl rfl rfl) (J a' (az rfl ?_));have wA:20<e.prev.length∨10<e.b8.length:=by omega
  exact aa fun bx=>a7 rfl (J bx (bn (aP (aG rfl rfl ⟨by rw [EV.va wA],E⟩))))
 refine ah (hG rfl rfl rfl) (J a' (aI rfl ?_));have ky:¬ (20<e.prev.length∨10<e.b8.length):=by omega
 refine b' (av aQ (aa fun bO=>ah (aD oA rfl) (ah (br au rfl (R.cs rfl)) (cG E (bB Nn rfl) (CR _ e.b7 _ (XS.b1 E) (kp.mod E (by simp))) fun cX U E=>?_))));replace R:=R.I U;refine aj 5 rfl (J bO (mU fun K7 b4=>?_));have J7:∀ (aJ:World),aF aJ g1 46 [S e.room,S e.snd,S e.ty,.bool e.st,S e.key,.int .i64 e.b7.kind,.bool e.b7.is,.int .i64 e.b7.num,S e.b7.str,.slice al e.b7.list.length cl,.slice am e.b7.map.length cm,.slice ap e.prev.length w1,.slice BK e.b8.length yw,.int .i64 e.dep,.int .i64 e.time,S e.hash,.slice BL e.sigs.length BM]∧Mod [] w aJ→∀ a,Has 106 [] [(1,.pointer (some ⟨g1,0,none⟩)),(4,.int .i64 (gz (e.b7.wr 0 []))),(5,.bool e.jD)] a→K7 a aJ:=by
  intro gr lI;obtain⟨R,E⟩:=lI;refine b4 _ _ _ _ (mU fun agY cw=>?_);have J8:∀ (aJ:World),aF aJ g1 46 [S e.room,S e.snd,S e.ty,.bool e.st,S e.key,.int .i64 e.b7.kind,.bool e.b7.is,.int .i64 e.b7.num,S e.b7.str,.slice al e.b7.list.length cl,.slice am e.b7.map.length cm,.slice ap e.prev.length w1,.slice BK e.b8.length yw,.int .i64 e.dep,.int .i64 e.time,S e.hash,.slice BL e.sigs.length BM]∧Mod [] w aJ→∀ a,Has 106 [] [(1,.pointer (some ⟨g1,0,none⟩)),(5,.bool e.iY)] a→agY a aJ:=by
   intro h8 lI;obtain⟨R,E⟩:=lI;refine cw _ _ _ _ (aB fun cy=>aB fun b6=>ks [7] [0,1,2,3,4] 5 [6] wide (by kernel_rfl) (fun _ _ _ h=>h.2) (abV (fun _=>(fj rfl)) rfl rfl (jG (ax (fun U=>(aD pP rfl)) (ax (fun U=>(bF nR rfl ((R.I U).cell rfl))) (Av (fun xp db=>Own db 9 1 xp e.prev.length ((e.prev.map fun s=>[S s]).flatten)∧∀ x∈bk xp,w.heap.size≤x) (fun cN nM jX kr aH=>⟨aH.1.I kr,aH.2⟩) (fun db U=>bB ajM rfl) (fun db U=>Calls.imp (SQ _ e.prev ap w1 (Dw.b1 (E.then U)) (by omega)) fun nD jX bo=>⟨⟨bo.1,fun x ae=>Nat.le_trans (E.then U).size (bo.2.1 x ae)⟩,bo.2.2⟩) rfl rfl rfl (ax (fun U=>(aD pQ rfl)) (ax (fun U=>(bF nR rfl ((R.I U).cell rfl))) (mN (t:=89) rfl rfl rfl rfl fun iS v9 U aH=>?_)))))))));obtain⟨O,nh⟩:=aH;replace R:=R.I U;replace E:=E.then U;refine bz l4 rfl rfl O (Src.flat hQ (abg.b1 E)) (by decide) (by omega) (by omega) rfl fun hN i' kB=>?_;replace E:=E.trans' kB.mod (fun x ae=>.inr (nh x ae));have fs:Own i' 9 1 hN (e.prev++e.b8).length (((e.prev++e.b8).map fun s=>[S s]).flatten):=kB.own.same (by simp) (by simp);obtain⟨qR,SP,rfl,Ll,Lm⟩:=fs.form;have abh:=Own.strs [] fs (by simp);refine ah (bY hQ rfl) (J b6 (eN (bK (σ:=Nat×Bool) (fun⟨k,x⟩=>[(5,.bool x),(92,.slice qR (e.prev++e.b8).length SP),(93,.int .i64 ((e.prev++e.b8).length:Int)),(94,.int .i64 (k:Int))]) (fun⟨k,x⟩ aJ=>k≤(e.prev++e.b8).length∧x=(e.iY&&((e.prev++e.b8).take k).all dQ)∧bq [] aJ (pz (e.prev++e.b8)) (.slice qR (e.prev++e.b8).length SP)∧Mod [] w aJ) (fun⟨k,x⟩=>(e.prev++e.b8).length-k) (⟨0,e.iY⟩) (⟨by omega,by simp,abh,E⟩) ?_)));rintro⟨k,x⟩ iw ⟨hk,ae,abh,E⟩;refine aa fun bR=>ah (cT rfl rfl) (J bR (aB fun cv=>?_));refine aX rfl (fun avj=>?_) (fun avj=>?_)
   ·obtain⟨y,ba⟩:∃ y,(e.prev++e.b8)[k]? = some y:=⟨_,List.getElem?_eq_getElem (by omega)⟩;obtain⟨P9,r6,nV,_⟩:=h7 abh ba;cases r6;have aan:y.length≤140737488351232:=(List.mem_append.1 (List.mem_of_getElem? ba)).elim (KX y) (aey y);refine b' (av cv (aB fun bV=>eN (aa fun cE=>ah (c8 l4 rfl rfl (by omega)) (ah (bF b2 rfl nV.first) (a7 rfl (J cE (b5 (aO rfl ?_))))))));refine oM (fun bg:(x)=true=>?_) (fun bg=>?_)
    ·refine aj 2 rfl (gN (bB ajN rfl) (Z' _ y aan) fun nd U=>?_);replace abh:=abh.I U;replace E:=E.then U;refine oM (fun bC:(dQ y)=true=>?_) (fun bC=>?_)
     ·exact ah (oH rfl rfl rfl) (ah ((cS rfl).to (v':=.bool (x&&dQ y)) (cf (by simp only [bg,bC,bZ']))) (cx (bw (av bV (b5 (ah (bt rfl rfl (by omega)) (aO rfl (cx (aw (σ:=Nat×Bool) (s:=⟨k,x⟩) (⟨k+1,(x&&dQ y)⟩) ⟨by omega,by rw [qN _ ba,← Bool.and_assoc,← ae],abh,E⟩)))))))))
     exact ah (oH rfl rfl rfl) (ah ((cS rfl).to (v':=.bool (x&&dQ y)) (cf (by simp only [bg,ew bC,bZ']))) (cx (bw (av bV (b5 (ah (bt rfl rfl (by omega)) (aO rfl (cx (aw (σ:=Nat×Bool) (s:=⟨k,x⟩) (⟨k+1,(x&&dQ y)⟩) ⟨by omega,by rw [qN _ ba,← Bool.and_assoc,← ae],abh,E⟩)))))))))
    exact aj 4 rfl (ah ((cS rfl).to (v':=.bool (x&&dQ y)) (cf (by simp only [ew bg,bZ']))) (cx (bw (av bV (b5 (ah (bt rfl rfl (by omega)) (aO rfl (cx (aw (σ:=Nat×Bool) (s:=⟨k,x⟩) (⟨k+1,(x&&dQ y)⟩) ⟨by omega,by rw [qN _ ba,← Bool.and_assoc,← ae],abh,E⟩)))))))))
   have api:x=e.iL:=by rw [ae,List.take_of_length_le (by omega)];rfl
   refine bL (aP (aP (ch (av cy (aB fun cI=>aa fun dr=>aj 2 rfl (J dr ?_))))));refine a1 rfl (fun aao=>?_) (fun aao=>?_)
   ·have jA:e.iL=false:=by rw [← api];simpa using aao
    exact aa fun ec=>a7 rfl (J ec (bn (aP (aG rfl rfl ⟨by rw [EV.jn ky jA],E⟩))))
   have jA:e.iL=true:=by rw [← api];simpa using aao
   exact b' (av cI (aa fun dG=>a7 rfl (J dG (bn (aG rfl rfl ⟨by rw [EV.x0 ky jA],E⟩)))))
  refine b5 (aO rfl ?_);refine oM (fun bg:(e.jD)=true=>?_) (fun bg=>?_);rotate_left
  ·refine aj 30 rfl (ah ((cS rfl).to (v':=.bool e.iY) (cf (by rw [EV.iY];simp only [ew bg,bZ']))) (cx ?_));refine fH.sub (l':=[(1,_),(5,_)]) ⟨rfl,rfl,trivial⟩ (dq (J8 gr ⟨R,E⟩))
  refine aO rfl (ay (aD oA rfl) (ay (vx hK rfl) (ay (bF eg rfl (R.cell rfl)) (ay (k1 rfl rfl) ?_))));refine c7 (fun bC:e.b7.kind=5=>?_) (fun bC=>?_);rotate_left
  ·refine aj 25 rfl (ah ((cS rfl).to (v':=.bool e.iY) (cf (by rw [EV.iY];simp only [bg,cr bC,bZ']))) (cx ?_));refine fH.sub (l':=[(1,_),(5,_)]) ⟨rfl,rfl,trivial⟩ (dq (J8 gr ⟨R,E⟩))
  refine aj 4 rfl ?_;refine c7 (fun dh:gz (e.b7.wr 0 [])=0=>?_) (fun dh=>?_);rotate_left
  ·refine aj 21 rfl (ah ((cS rfl).to (v':=.bool e.iY) (cf (by rw [EV.iY];simp only [bg,bD bC,cr dh,bZ']))) (cx ?_));refine fH.sub (l':=[(1,_),(5,_)]) ⟨rfl,rfl,trivial⟩ (dq (J8 gr ⟨R,E⟩))
  refine aj 2 rfl (ay (aD p0 rfl) (ay (bF eg rfl (R.cell rfl)) (gN (bB aah rfl) (FK _ _) fun lF U=>?_)));replace R:=R.I U;replace E:=E.then U;refine oM (fun cW:(o5 e.dep)=true=>?_) (fun cW=>?_);rotate_left
  ·refine aj 16 rfl (ah ((cS rfl).to (v':=.bool e.iY) (cf (by rw [EV.iY];simp only [bg,bD bC,bD dh,ew cW,bZ']))) (cx ?_));refine fH.sub (l':=[(1,_),(5,_)]) ⟨rfl,rfl,trivial⟩ (dq (J8 lF ⟨R,E⟩))
  refine aj 2 rfl (ay (aD p1 rfl) (ay (bF eg rfl (R.cell rfl)) (gN (bB aah rfl) (FK _ _) fun h2 U=>?_)));replace R:=R.I U;replace E:=E.then U;refine oM (fun dB:(o5 e.time)=true=>?_) (fun dB=>?_)
  ·refine aj 2 rfl (ay (aD nm rfl) (ay (bF b2 rfl (R.cell rfl)) (gN (bB Z0 rfl) (Ln _ e.hash 32 Lo) fun jJ U=>?_)));replace R:=R.I U;replace E:=E.then U;refine oM (fun fc:(fG e.hash 32)=true=>?_) (fun fc=>?_)
   ·refine aj 2 rfl (ay (aD jj rfl) (ay (bF q' rfl (R.cell rfl)) (gN (bB ajO rfl) (aex _ e.sigs BL BM (Tl.b1 E) ajW aam (eX.I E)) fun mo U=>?_)));replace R:=R.I U;replace E:=E.then U;refine oM (fun o6:(eT none e.sigs)=true=>?_) (fun o6=>?_)
    ·refine ah (oH rfl rfl rfl) (ah ((cS rfl).to (v':=.bool e.iY) (cf (by rw [EV.iY];simp only [bg,bD bC,bD dh,cW,dB,fc,o6,bZ']))) (cx ?_));refine fH.sub (l':=[(1,_),(5,_)]) ⟨rfl,rfl,trivial⟩ (dq (J8 mo ⟨R,E⟩))
    refine ah (oH rfl rfl rfl) (ah ((cS rfl).to (v':=.bool e.iY) (cf (by rw [EV.iY];simp only [bg,bD bC,bD dh,cW,dB,fc,ew o6,bZ']))) (cx ?_));refine fH.sub (l':=[(1,_),(5,_)]) ⟨rfl,rfl,trivial⟩ (dq (J8 mo ⟨R,E⟩))
   refine aj 6 rfl (ah ((cS rfl).to (v':=.bool e.iY) (cf (by rw [EV.iY];simp only [bg,bD bC,bD dh,cW,dB,ew fc,bZ']))) (cx ?_));refine fH.sub (l':=[(1,_),(5,_)]) ⟨rfl,rfl,trivial⟩ (dq (J8 jJ ⟨R,E⟩))
  refine aj 11 rfl (ah ((cS rfl).to (v':=.bool e.iY) (cf (by rw [EV.iY];simp only [bg,bD bC,bD dh,cW,ew dB,bZ']))) (cx ?_));refine fH.sub (l':=[(1,_),(5,_)]) ⟨rfl,rfl,trivial⟩ (dq (J8 h2 ⟨R,E⟩))
 refine b5 (ah (aD sL rfl) (ah (bF b2 rfl (R.cell rfl)) (cG E (bB ajP rfl) (aeo _ e.room aal.1 (eX.I E)) fun mT U E=>?_)));replace R:=R.I U;refine oM (fun bg:(gH 33 jC e.room)=true=>?_) (fun bg=>?_);rotate_left
 ·refine aj 29 rfl (ah ((cS rfl).to (v':=.bool e.jD) (cf (by rw [EV.jD];simp only [ew bg,bZ']))) (cx ?_));refine fH.sub (l':=[(1,_),(4,_),(5,_)]) ⟨rfl,rfl,rfl,trivial⟩ (dq (J7 mT ⟨R,E⟩))
 refine aO rfl (ay (aD sM rfl) (ay (bF b2 rfl (R.cell rfl)) (gN (bB ajQ rfl) (aen _ e.snd aal.2.1 (eX.I E)) fun lK U=>?_)));replace R:=R.I U;replace E:=E.then U;refine oM (fun bC:(gH 64 ko e.snd)=true=>?_) (fun bC=>?_);rotate_left
 ·refine aj 25 rfl (ah ((cS rfl).to (v':=.bool e.jD) (cf (by rw [EV.jD];simp only [bg,ew bC,bZ']))) (cx ?_));refine fH.sub (l':=[(1,_),(4,_),(5,_)]) ⟨rfl,rfl,rfl,trivial⟩ (dq (J7 lK ⟨R,E⟩))
 refine aj 2 rfl (ay (aD pO rfl) (ay (bF b2 rfl (R.cell rfl)) (ay (ia rfl rfl) ?_)));refine c7 (fun dh:e.ty≠[]=>?_) (fun dh=>?_);rotate_left
 ·refine aj 20 rfl (ah ((cS rfl).to (v':=.bool e.jD) (cf (by rw [EV.jD];simp only [bg,bC,cr dh,bZ']))) (cx ?_));refine fH.sub (l':=[(1,_),(4,_),(5,_)]) ⟨rfl,rfl,rfl,trivial⟩ (dq (J7 lK ⟨R,E⟩))
 refine aj 2 rfl (ay (aD pO rfl) (ay (bF b2 rfl (R.cell rfl)) (gN (bB aai rfl) (Da _ _) fun nj U=>?_)));replace R:=R.I U;replace E:=E.then U;refine oM (fun cW:(gq e.ty)=true=>?_) (fun cW=>?_)
 ·refine aj 2 rfl (ay (aD oz rfl) (ay (bF b2 rfl (R.cell rfl)) (gN (bB aai rfl) (Da _ _) fun pJ U=>?_)));replace R:=R.I U;replace E:=E.then U;refine oM (fun dB:(gq e.key)=true=>?_) (fun dB=>?_)
  ·refine aj 2 rfl (ay (aD rr rfl) (ay (bF kV rfl (R.cell rfl)) ?_));refine oM (fun fc:(e.st)=true=>?_) (fun fc=>?_)
   ·refine aj 6 rfl (ah ((cS rfl).to (v':=.bool e.jD) (cf (by rw [EV.jD];simp only [bg,bC,bD dh,cW,dB,fc,bZ']))) (cx ?_));refine fH.sub (l':=[(1,_),(4,_),(5,_)]) ⟨rfl,rfl,rfl,trivial⟩ (dq (J7 pJ ⟨R,E⟩))
   refine ay (fj rfl) (ay (aD oz rfl) (ay (bF b2 rfl (R.cell rfl)) (ay (jr rfl rfl) ?_)));refine c7 (fun o6:e.key = []=>?_) (fun o6=>?_)
   ·refine aj 2 rfl (ah ((cS rfl).to (v':=.bool e.jD) (cf (by rw [EV.jD];simp only [bg,bC,bD dh,cW,dB,ew fc,bD o6,bZ']))) (cx ?_));refine fH.sub (l':=[(1,_),(4,_),(5,_)]) ⟨rfl,rfl,rfl,trivial⟩ (dq (J7 pJ ⟨R,E⟩))
   refine aj 2 rfl (ah ((cS rfl).to (v':=.bool e.jD) (cf (by rw [EV.jD];simp only [bg,bC,bD dh,cW,dB,ew fc,cr o6,bZ']))) (cx ?_));refine fH.sub (l':=[(1,_),(4,_),(5,_)]) ⟨rfl,rfl,rfl,trivial⟩ (dq (J7 pJ ⟨R,E⟩))
  refine aj 10 rfl (ah ((cS rfl).to (v':=.bool e.jD) (cf (by rw [EV.jD];simp only [bg,bC,bD dh,cW,ew dB,bZ']))) (cx ?_));refine fH.sub (l':=[(1,_),(4,_),(5,_)]) ⟨rfl,rfl,rfl,trivial⟩ (dq (J7 pJ ⟨R,E⟩))
 refine aj 15 rfl (ah ((cS rfl).to (v':=.bool e.jD) (cf (by rw [EV.jD];simp only [bg,bC,bD dh,ew cW,bZ']))) (cx ?_));refine fH.sub (l':=[(1,_),(4,_),(5,_)]) ⟨rfl,rfl,rfl,trivial⟩ (dq (J7 nj ⟨R,E⟩))
theorem Sn (w:World) (e:EV) (us:List Value) (aBn:ao [] w e.D us) (fv:e.ok) (kp:pd w):Calls aR 51 [.agg us.toArray].toArray w (bH fun u w'=>u = .int .i64 e.q5∧Mod [] w w'):=by
 refine bs Tryz.func51 rfl fun E=>?_;obtain⟨al,cl,am,cm,ap,w1,BK,yw,BL,BM,rfl,XS,Dw,abg,Tl⟩:=EV.jk aBn;obtain⟨sn,ajU,Ed,Az,Ee,KX,ajV,aey,Zu,Lo,FL,aam⟩:=fv;have aap:decide (e.dep≤9007199254740991)=decide (e.dep<9007199254740992):=by rw [decide_eq_decide];omega
 have aaq:decide (e.time≤9007199254740991)=decide (e.time<9007199254740992):=by rw [decide_eq_decide];omega
 obtain⟨_,c9,NN,aac,aad⟩:=hh Tl;injection NN with _ _ NO
 subst NO;obtain⟨_,aAl,apj,Ll,Lm⟩:=hh Dw;injection apj with _ _ apk
 subst apk;obtain⟨_,aez,x1,ayH,ayI⟩:=hh abg;injection x1 with _ _ x2
 subst x2;refine aa fun a6=>eY rfl rfl rfl fun g1 aJ bZ=>?_;have aY:=bZ.le E;replace E:=E.then bZ.mod;have R:=bZ.ar;refine a7 rfl (J a6 (aB fun aQ=>aa fun a'=>ah (aD pP rfl) (ah (bF nR rfl (R.cell rfl)) (ah (bY hQ rfl) (ah (hV rfl rfl) ?_)))));refine c7 (fun bg:(e.prev.length:Int) > 20=>?_) (fun bg=>?_)
 ·refine aj 6 rfl (J a' (az rfl ?_));have wA:20<e.prev.length∨10<e.b8.length:=by omega
  exact aa fun bp=>a7 rfl (J bp (bn (aP (aG rfl rfl ⟨by rw [EV.va wA],E⟩))))
 refine aO rfl (ay (aD pQ rfl) (ay (bF nR rfl (R.cell rfl)) (ay (bY hQ rfl) (ay (hV rfl rfl) ?_))));refine c7 (fun bC:(e.b8.length:Int) > 10=>?_) (fun bC=>?_)
 ·refine ah (hG rfl rfl rfl) (J a' (az rfl ?_));have wA:20<e.prev.length∨10<e.b8.length:=by omega
  exact aa fun bx=>a7 rfl (J bx (bn (aP (aG rfl rfl ⟨by rw [EV.va wA],E⟩))))
 refine ah (hG rfl rfl rfl) (J a' (aI rfl ?_));have ky:¬ (20<e.prev.length∨10<e.b8.length):=by omega
 refine b' (av aQ (aB fun bO=>aa fun b4=>ah (aD pP rfl) (ah (bF nR rfl (R.cell rfl)) (ah (bY hQ rfl) (aO rfl (J b4 (eN (bK (σ:=Nat) (fun k=>[(1,.pointer (some ⟨g1,0,none⟩)),(25,.slice ap e.prev.length w1),(26,.int .i64 (e.prev.length:Int)),(27,.int .i64 (k:Int))]) (fun k aJ=>k≤e.prev.length∧(e.prev.take k).all dQ=true∧aF aJ g1 46 [S e.room,S e.snd,S e.ty,.bool e.st,S e.key,.int .i64 e.b7.kind,.bool e.b7.is,.int .i64 e.b7.num,S e.b7.str,.slice al e.b7.list.length cl,.slice am e.b7.map.length cm,.slice ap e.prev.length w1,.slice BK e.b8.length yw,.int .i64 e.dep,.int .i64 e.time,S e.hash,.slice BL e.sigs.length BM]∧Mod [] w aJ) (fun k=>e.prev.length-k) (0) (⟨by omega,by simp,R,E⟩) ?_))))))));rintro k cX ⟨hk,aE,R,E⟩;refine aa fun cw=>ah (cT rfl rfl) (J cw (aB fun cy=>?_));refine aX rfl (fun Gi=>?_) (fun Gi=>?_)
 ·obtain⟨y,ba⟩:∃ y,e.prev[k]? = some y:=⟨_,List.getElem?_eq_getElem (by omega)⟩;obtain⟨P9,r6,nV,_⟩:=h7 (Dw.b1 E) ba;cases r6;have aan:y.length≤140737488351232:=KX y (List.mem_of_getElem? ba);refine b' (av cy (aB fun b6=>eN (aa fun bR=>ah (c8 l4 rfl rfl (by omega)) (ah (bF b2 rfl nV.first) (a7 rfl (J bR (aa fun cv=>aO rfl (cG E (bB aaj rfl) (FJ _ y aan) fun gr U E=>?_))))))));replace R:=R.I U;refine ah (fC rfl) (J cv ?_);refine a1 rfl (fun vc=>?_) (fun vc=>?_)
  ·have jA:e.iL=false:=EV.NS (Lp _ ba (by simpa using vc));exact aa fun bV=>a7 rfl (J bV (bn (bw (aP (aP (bw (aP (aG rfl rfl ⟨by rw [EV.jn ky jA],E⟩))))))))
  have RS:dQ y=true:=by simpa using vc
  exact b' (bw (av b6 (b5 (ah (bt rfl rfl (by omega)) (aO rfl (cx (aw (σ:=Nat) (s:=k) (k+1) ⟨by omega,by rw [qN _ ba,aE,RS];rfl,R,E⟩)))))))
 have uH:e.prev.all dQ=true:=by rw [List.take_of_length_le (by omega)] at aE;exact aE
 refine bL (aP (aP (ch (av bO (aB fun cE=>aa fun cI=>ah (aD pQ rfl) (ah (bF nR rfl (R.cell rfl)) (ah (bY hQ rfl) (aO rfl (J cI (eN (bK (σ:=Nat) (fun k=>[(1,.pointer (some ⟨g1,0,none⟩)),(36,.slice BK e.b8.length yw),(37,.int .i64 (e.b8.length:Int)),(38,.int .i64 (k:Int))]) (fun k aJ=>k≤e.b8.length∧(e.b8.take k).all dQ=true∧aF aJ g1 46 [S e.room,S e.snd,S e.ty,.bool e.st,S e.key,.int .i64 e.b7.kind,.bool e.b7.is,.int .i64 e.b7.num,S e.b7.str,.slice al e.b7.list.length cl,.slice am e.b7.map.length cm,.slice ap e.prev.length w1,.slice BK e.b8.length yw,.int .i64 e.dep,.int .i64 e.time,S e.hash,.slice BL e.sigs.length BM]∧Mod [] w aJ) (fun k=>e.b8.length-k) (0) (⟨by omega,by simp,R,E⟩) ?_)))))))))));rintro k h8 ⟨hk,aE,R,E⟩;refine aa fun dr=>ah (cT rfl rfl) (J dr (aB fun ec=>?_));refine aX rfl (fun yp=>?_) (fun yp=>?_)
 ·obtain⟨y,ba⟩:∃ y,e.b8[k]? = some y:=⟨_,List.getElem?_eq_getElem (by omega)⟩;obtain⟨P9,r6,nV,_⟩:=h7 (abg.b1 E) ba;cases r6;have aan:y.length≤140737488351232:=aey y (List.mem_of_getElem? ba);refine b' (av ec (aB fun dG=>eN (aa fun eV=>ah (c8 l4 rfl rfl (by omega)) (ah (bF b2 rfl nV.first) (a7 rfl (J eV (aa fun eO=>aO rfl (cG E (bB aaj rfl) (FJ _ y aan) fun iS U E=>?_))))))));replace R:=R.I U;refine ah (fC rfl) (J eO ?_);refine a1 rfl (fun G0=>?_) (fun G0=>?_)
  ·have jA:e.iL=false:=EV.NT (Lp _ ba (by simpa using G0));exact aa fun eC=>a7 rfl (J eC (bn (bw (aP (aP (bw (aP (aG rfl rfl ⟨by rw [EV.jn ky jA],E⟩))))))))
  have RS:dQ y=true:=by simpa using G0
  exact b' (bw (av dG (b5 (ah (bt rfl rfl (by omega)) (aO rfl (cx (aw (σ:=Nat) (s:=k) (k+1) ⟨by omega,by rw [qN _ ba,aE,RS];rfl,R,E⟩)))))))
 have uI:e.b8.all dQ=true:=by rw [List.take_of_length_le (by omega)] at aE;exact aE
 refine bL (aP (aP (ch (av cE (aB fun eP=>aa fun fw=>ah (aD jj rfl) (ah (bF q' rfl (R.cell rfl)) (ah (bY pR rfl) (aO rfl (J fw (eN (bK (σ:=Nat) (fun k=>[(1,.pointer (some ⟨g1,0,none⟩)),(47,.slice BL e.sigs.length BM),(48,.int .i64 (e.sigs.length:Int)),(49,.int .i64 (k:Int))]) (fun k aJ=>k≤e.sigs.length∧eT none e.sigs=eT (lV e.sigs k) (e.sigs.drop k)∧aF aJ g1 46 [S e.room,S e.snd,S e.ty,.bool e.st,S e.key,.int .i64 e.b7.kind,.bool e.b7.is,.int .i64 e.b7.num,S e.b7.str,.slice al e.b7.list.length cl,.slice am e.b7.map.length cm,.slice ap e.prev.length w1,.slice BK e.b8.length yw,.int .i64 e.dep,.int .i64 e.time,S e.hash,.slice BL e.sigs.length BM]∧Mod [] w aJ) (fun k=>e.sigs.length-k) (0) (⟨by omega,rfl,R,E⟩) ?_)))))))))));rintro k i' ⟨hk,hinv,R,E⟩;refine aa fun fT=>ah (cT rfl rfl) (J fT (aB fun gh=>?_));refine aX rfl (fun za=>?_) (fun za=>?_)
 ·refine b' (av gh (aB fun fk=>eN (aa fun hq=>aO rfl ?_)));obtain⟨x,bS⟩:∃ x,e.sigs[k]? = some x:=⟨_,List.getElem?_eq_getElem (by omega)⟩;obtain⟨kJ,dW,cA,_⟩:=h7 (Tl.b1 E) bS;cases dW;obtain⟨NP,aae,NQ⟩:=FL x (List.mem_of_getElem? bS);refine ah (c8 mS rfl rfl (by omega)) (ah (fb tm rfl rfl cA) (bj xN rfl fun g2 iw cz=>?_));have bJ:=cz.le E;have bl:=cz.ne R;replace R:=R.I cz.mod;replace E:=E.then cz.mod;have ag:=cz.ar;refine a7 rfl (ur tm ag rfl rfl fun nd lY=>?_);replace R:=R.ne lY.mod bl;replace E:=E.own lY.mod bJ;replace ag:aF nd g2 _ [_,_,_]:=lY.ar;refine J hq (aB fun gY=>aa fun iB=>ah (aD gp rfl) (ah (bF b2 rfl (ag.cell rfl)) (cG E (bB ZN rfl) (C8 _ x.eo NP) fun lF U E=>?_)));replace R:=R.I U;replace ag:=ag.I U;refine ah (fC rfl) ?_;refine oM (fun bg:(!d' x.eo)=true=>?_) (fun bg=>?_)
  ·refine aj 12 rfl (J iB (az rfl ?_));have aH:d' x.eo=false:=by simpa using bg
   have jA:e.iL=false:=EV.qO (by rw [hinv,gM bS,show nS x=false by simp [nS,aH]];rfl);exact aa fun jR=>a7 rfl (J jR (bn (aP (bw (aP (aP (bw (aP (aG rfl rfl ⟨by rw [EV.jn ky jA],E⟩)))))))))
  refine aO rfl (ay (aD oD rfl) (ay (bF b2 rfl (ag.cell rfl)) (gN (bB ajR rfl) (aer _ x.key aae) fun h2 U=>?_)));replace R:=R.I U;replace ag:=ag.I U;replace E:=E.then U;refine ay (fC rfl) ?_;refine oM (fun bC:(!pD x.key)=true=>?_) (fun bC=>?_)
  ·refine aj 7 rfl (J iB (az rfl ?_));have aH:pD x.key=false:=by simpa using bC
   have jA:e.iL=false:=EV.qO (by rw [hinv,gM bS,show nS x=false by simp [nS,aH]];rfl);exact aa fun l3=>a7 rfl (J l3 (bn (aP (bw (aP (aP (bw (aP (aG rfl rfl ⟨by rw [EV.jn ky jA],E⟩)))))))))
  refine aj 2 rfl (ay (aD A8 rfl) (ay (bF b2 rfl (ag.cell rfl)) (gN (bB NR rfl) (zj _ x.sig 64 (by omega) NQ) fun jJ U=>?_)));replace R:=R.I U;replace ag:=ag.I U;replace E:=E.then U;refine ay (fC rfl) ?_;refine oM (fun dh:(!fG x.sig 64)=true=>?_) (fun dh=>?_)
  ·refine ah (hG rfl rfl rfl) (J iB (az rfl ?_));have aH:fG x.sig 64=false:=by simpa using dh
   have jA:e.iL=false:=EV.qO (by rw [hinv,gM bS,show nS x=false by simp [nS,aH]];rfl);exact aa fun kb=>a7 rfl (J kb (bn (aP (bw (aP (aP (bw (aP (aG rfl rfl ⟨by rw [EV.jn ky jA],E⟩)))))))))
  refine ah (hG rfl rfl rfl) (J iB (aI rfl ?_));have g0:d' x.eo=true:=by simpa using bg
  have ajH:pD x.key=true:=by simpa using bC
  have ajI:fG x.sig 64=true:=by simpa using dh
  have Db:nS x=true:=by rw [nS,g0,ajH,ajI];rfl
  refine b' (av gY (aa fun k6=>aj 2 rfl (J k6 ?_)));refine aX rfl (fun avk=>?_) (fun avk=>?_);rotate_left
  ·have rT:eT none e.sigs=eT (lV e.sigs (k+1)) (e.sigs.drop (k+1)):=by rw [hinv,gM bS,Db,aag (by omega)];rfl
   exact b' (bw (av fk (b5 (ah (bt rfl rfl (by omega)) (aO rfl (cx (aw (σ:=Nat) (s:=k) (k+1) ⟨by omega,rT,R,E⟩)))))))
  refine aa fun ni=>ah (aD jj rfl) (ah (bF q' rfl (R.cell rfl)) (aO rfl (ah (eZ (r:=((k-1:Nat):Int)) rfl rfl) ?_)));obtain⟨q,jU⟩:∃ x,e.sigs[k-1]? = some x:=⟨_,List.getElem?_eq_getElem (by omega)⟩;obtain⟨Iw,tR,jw,_⟩:=h7 (Tl.b1 E) jU;cases tR;obtain⟨ajJ,ajK,ajL⟩:=FL q (List.mem_of_getElem? jU);refine ah (c8 mS rfl rfl (by omega)) (ah (fb tm rfl rfl jw) (bj xN rfl fun g3 mo dF=>?_));have df:=dF.le E;have dv:=dF.ne R;have ca:=dF.ne ag;replace R:=R.I dF.mod;replace ag:=ag.I dF.mod;replace E:=E.then dF.mod;have bd:=dF.ar;refine ur tm bd rfl rfl fun mT nU=>?_;replace R:=R.ne nU.mod dv;replace ag:=ag.ne nU.mod ca;replace E:=E.own nU.mod df;replace bd:aF mT g3 _ [_,_,_]:=nU.ar;refine J ni (aa fun kc=>ah (aD gp rfl) (ah (bF b2 rfl (bd.cell rfl)) (ah (aD gp rfl) (ah (bF b2 rfl (ag.cell rfl)) (ah (yl rfl rfl) ?_)))));refine oM (fun dB:(!(fx q.eo x.eo||q.eo == x.eo))=true=>?_) (fun dB=>?_)
  ·refine aj 14 rfl (J kc (az rfl ?_));have qL:ij q x=true:=by rw [ij];simp only [dB,bZ']
   have jA:e.iL=false:=EV.qO (by rw [hinv,gM bS,rB jU (by omega),qL];simp);exact aa fun qp=>a7 rfl (J qp (bn (bw (aP (aP (bw (aP (aG rfl rfl ⟨by rw [EV.jn ky jA],E⟩))))))))
  refine aO rfl (ay (aD gp rfl) (ay (bF b2 rfl (bd.cell rfl)) (ay (aD gp rfl) (ay (bF b2 rfl (ag.cell rfl)) (ay (jr rfl rfl) ?_)))));refine c7 (fun fc:q.eo=x.eo=>?_) (fun fc=>?_)
  ·refine ay (fj rfl) (ay (aD oD rfl) (ay (bF b2 rfl (bd.cell rfl)) (ay (aD oD rfl) (ay (bF b2 rfl (ag.cell rfl)) (ay (Cr rfl rfl) ?_)))));refine oM (fun o6:(!fx q.key x.key)=true=>?_) (fun o6=>?_)
   ·refine aj 2 rfl (J kc (az rfl ?_));have qL:ij q x=true:=by rw [ij];simp only [ew dB,bD fc,o6,bZ']
    have jA:e.iL=false:=EV.qO (by rw [hinv,gM bS,rB jU (by omega),qL];simp);exact aa fun r8=>a7 rfl (J r8 (bn (bw (aP (aP (bw (aP (aG rfl rfl ⟨by rw [EV.jn ky jA],E⟩))))))))
   refine aj 2 rfl (J kc (aI rfl ?_));have qL:ij q x=false:=by rw [ij];simp only [ew dB,bD fc,ew o6,bZ']
   have rT:eT none e.sigs=eT (lV e.sigs (k+1)) (e.sigs.drop (k+1)):=by rw [hinv,gM bS,Db,rB jU (by omega),qL];rfl
   exact b' (bw (av fk (b5 (ah (bt rfl rfl (by omega)) (aO rfl (cx (aw (σ:=Nat) (s:=k) (k+1) ⟨by omega,rT,R,E⟩)))))))
  refine aj 8 rfl (J kc (aI rfl ?_));have qL:ij q x=false:=by rw [ij];simp only [ew dB,cr fc,bZ']
  have rT:eT none e.sigs=eT (lV e.sigs (k+1)) (e.sigs.drop (k+1)):=by rw [hinv,gM bS,Db,rB jU (by omega),qL];rfl
  exact b' (bw (av fk (b5 (ah (bt rfl rfl (by omega)) (aO rfl (cx (aw (σ:=Nat) (s:=k) (k+1) ⟨by omega,rT,R,E⟩)))))))
 have uJ:eT none e.sigs=true:=by rw [hinv,Dc (by omega)]
 refine bL (aP (aP (ch (av eP (aa fun qq=>ah (aD oA rfl) (ah (br au rfl (R.cs rfl)) (cG E (bB Zg rfl) (Ey _ e.b7 _ (XS.b1 E) (kp.mod E (by simp))) fun lK U E=>?_)))))));replace R:=R.I U;refine aj 5 rfl (J qq (mU fun avl r9=>?_));have SR:∀ (aJ:World),aF aJ g1 46 [S e.room,S e.snd,S e.ty,.bool e.st,S e.key,.int .i64 e.b7.kind,.bool e.b7.is,.int .i64 e.b7.num,S e.b7.str,.slice al e.b7.list.length cl,.slice am e.b7.map.length cm,.slice ap e.prev.length w1,.slice BK e.b8.length yw,.int .i64 e.dep,.int .i64 e.time,S e.hash,.slice BL e.sigs.length BM]∧Mod [] w aJ→∀ a,Has 177 [] [(1,.pointer (some ⟨g1,0,none⟩)),(11,.int .i64 (gz (e.b7.wr 0 []))),(12,.bool e.names)] a→avl a aJ:=by
  intro nj lI;obtain⟨R,E⟩:=lI;refine r9 _ _ _ _ (mU fun avm tO=>?_);have aar:∀ (aJ:World),aF aJ g1 46 [S e.room,S e.snd,S e.ty,.bool e.st,S e.key,.int .i64 e.b7.kind,.bool e.b7.is,.int .i64 e.b7.num,S e.b7.str,.slice al e.b7.list.length cl,.slice am e.b7.map.length cm,.slice ap e.prev.length w1,.slice BK e.b8.length yw,.int .i64 e.dep,.int .i64 e.time,S e.hash,.slice BL e.sigs.length BM]∧Mod [] w aJ→∀ a,Has 177 [] [(1,.pointer (some ⟨g1,0,none⟩)),(11,.int .i64 (gz (e.b7.wr 0 []))),(12,.bool e.names),(13,.bool e.pE)] a→avm a aJ:=by
   intro pJ lI;obtain⟨R,E⟩:=lI;refine tO _ _ _ _ (aB fun zt=>aa fun nQ=>aj 2 rfl ?_)
   by_cases bg:(e.names)=true
   rotate_left
   ·refine kq ((show(!e.names)=true by rw [ew bg];rfl)) (aj 30 rfl (J nQ (az rfl ?_)));have jA:e.iL=false:=by rw [EV.iM];simp only [ew bg,uJ,uH,uI,bZ']
    exact aa fun IA=>a7 rfl (J IA (bn (aP (aG rfl rfl ⟨by rw [EV.jn ky jA],E⟩))))
   refine kq ((show(!e.names)=false by rw [bg];rfl)) (aj 3 rfl ?_)
   by_cases bC:(e.pE)=true
   rotate_left
   ·refine kq ((show(!e.pE)=true by rw [ew bC];rfl)) (aj 27 rfl (J nQ (az rfl ?_)));have jA:e.iL=false:=by rw [EV.iM];simp only [bg,ew bC,uJ,uH,uI,bZ']
    exact aa fun Iz=>a7 rfl (J Iz (bn (aP (aG rfl rfl ⟨by rw [EV.jn ky jA],E⟩))))
   refine kq ((show(!e.pE)=false by rw [bC];rfl)) (aj 2 rfl (ay (aD rr rfl) (ay (bF kV rfl (R.cell rfl)) (ay (fC rfl) ?_))))
   by_cases dh:(e.st)=true
   ·refine kq ((show(!e.st)=false by rw [dh];rfl)) (aj 7 rfl (ay (aD oA rfl) (ay (vx hK rfl) (ay (bF eg rfl (R.cell rfl)) (ay (fO rfl rfl) ?_)))))
    by_cases dB:e.b7.kind=5
    ·refine kq ((show decide (e.b7.kind≠5)=false from cr (fun aH=>aH dB))) (aj 4 rfl ?_)
     by_cases fc:gz (e.b7.wr 0 [])=0
     ·refine kq ((show decide (gz (e.b7.wr 0 [])≠0)=false from cr (fun aH=>aH fc))) (aj 2 rfl (ay (aD nm rfl) (ay (bF b2 rfl (R.cell rfl)) (gN (bB NR rfl) (zj _ e.hash 32 (by omega) Lo) fun qT U=>?_))));replace R:=R.I U;replace E:=E.then U;refine ay (fC rfl) ?_
      by_cases o6:(fG e.hash 32)=true
      ·refine kq ((show(!fG e.hash 32)=false by rw [o6];rfl)) (ah (hG rfl rfl rfl) (J nQ (aI rfl ?_)));have jA:e.iL=true:=by rw [EV.iM];simp only [bg,bC,dh,bD dB,bD fc,o6,uJ,uH,uI,bZ']
       exact b' (av zt (aa fun BA=>a7 rfl (J BA (bn (aG rfl rfl ⟨by rw [EV.x0 ky jA],E⟩)))))
      refine kq ((show(!fG e.hash 32)=true by rw [ew o6];rfl)) (ah (hG rfl rfl rfl) (J nQ (az rfl ?_)));have jA:e.iL=false:=by rw [EV.iM];simp only [bg,bC,dh,bD dB,bD fc,ew o6,uJ,uH,uI,bZ']
      exact aa fun BB=>a7 rfl (J BB (bn (aP (aG rfl rfl ⟨by rw [EV.jn ky jA],E⟩))))
     refine kq ((show decide (gz (e.b7.wr 0 [])≠0)=true from bD fc)) (aj 7 rfl (J nQ (az rfl ?_)));have jA:e.iL=false:=by rw [EV.iM];simp only [bg,bC,dh,bD dB,cr fc,uJ,uH,uI,bZ']
     exact aa fun Ev=>a7 rfl (J Ev (bn (aP (aG rfl rfl ⟨by rw [EV.jn ky jA],E⟩))))
    refine kq ((show decide (e.b7.kind≠5)=true from bD dB)) (aj 11 rfl (J nQ (az rfl ?_)));have jA:e.iL=false:=by rw [EV.iM];simp only [bg,bC,dh,cr dB,uJ,uH,uI,bZ']
    exact aa fun sb=>a7 rfl (J sb (bn (aP (aG rfl rfl ⟨by rw [EV.jn ky jA],E⟩))))
   refine kq ((show(!e.st)=true by rw [ew dh];rfl)) (ay (fj rfl) (ay (aD oz rfl) (ay (bF b2 rfl (R.cell rfl)) (ay (ia rfl rfl) ?_))))
   by_cases cW:e.key = []
   rotate_left
   ·refine kq ((show decide (e.key≠[])=true from bD cW)) (aj 18 rfl (J nQ (az rfl ?_)));have jA:e.iL=false:=by rw [EV.iM];simp only [bg,bC,ew dh,cr cW,uJ,uH,uI,bZ']
    exact aa fun Iy=>a7 rfl (J Iy (bn (aP (aG rfl rfl ⟨by rw [EV.jn ky jA],E⟩))))
   refine kq ((show decide (e.key≠[])=false from cr (fun aH=>aH cW))) (aj 3 rfl (ay (aD oA rfl) (ay (vx hK rfl) (ay (bF eg rfl (R.cell rfl)) (ay (fO rfl rfl) ?_)))))
   by_cases dB:e.b7.kind=5
   ·refine kq ((show decide (e.b7.kind≠5)=false from cr (fun aH=>aH dB))) (aj 4 rfl ?_)
    by_cases fc:gz (e.b7.wr 0 [])=0
    ·refine kq ((show decide (gz (e.b7.wr 0 [])≠0)=false from cr (fun aH=>aH fc))) (aj 2 rfl (ay (aD nm rfl) (ay (bF b2 rfl (R.cell rfl)) (gN (bB NR rfl) (zj _ e.hash 32 (by omega) Lo) fun qU U=>?_))));replace R:=R.I U;replace E:=E.then U;refine ay (fC rfl) ?_
     by_cases o6:(fG e.hash 32)=true
     ·refine kq ((show(!fG e.hash 32)=false by rw [o6];rfl)) (ah (hG rfl rfl rfl) (J nQ (aI rfl ?_)));have jA:e.iL=true:=by rw [EV.iM];simp only [bg,bC,ew dh,bD cW,bD dB,bD fc,o6,uJ,uH,uI,bZ']
      exact b' (av zt (aa fun zu=>a7 rfl (J zu (bn (aG rfl rfl ⟨by rw [EV.x0 ky jA],E⟩)))))
     refine kq ((show(!fG e.hash 32)=true by rw [ew o6];rfl)) (ah (hG rfl rfl rfl) (J nQ (az rfl ?_)));have jA:e.iL=false:=by rw [EV.iM];simp only [bg,bC,ew dh,bD cW,bD dB,bD fc,ew o6,uJ,uH,uI,bZ']
     exact aa fun BC=>a7 rfl (J BC (bn (aP (aG rfl rfl ⟨by rw [EV.jn ky jA],E⟩))))
    refine kq ((show decide (gz (e.b7.wr 0 [])≠0)=true from bD fc)) (aj 7 rfl (J nQ (az rfl ?_)));have jA:e.iL=false:=by rw [EV.iM];simp only [bg,bC,ew dh,bD cW,bD dB,cr fc,uJ,uH,uI,bZ']
    exact aa fun Iv=>a7 rfl (J Iv (bn (aP (aG rfl rfl ⟨by rw [EV.jn ky jA],E⟩))))
   refine kq ((show decide (e.b7.kind≠5)=true from bD dB)) (aj 11 rfl (J nQ (az rfl ?_)));have jA:e.iL=false:=by rw [EV.iM];simp only [bg,bC,ew dh,bD cW,cr dB,uJ,uH,uI,bZ']
   exact aa fun BD=>a7 rfl (J BD (bn (aP (aG rfl rfl ⟨by rw [EV.jn ky jA],E⟩))))
  refine b5 (ah (aD p0 rfl) (ah (bF eg rfl (R.cell rfl)) (ah (dA rfl rfl) ?_)));refine c7 (fun bg:0≤e.dep=>?_) (fun bg=>?_)
  ·refine aO rfl (ay (aD p0 rfl) (ay (bF eg rfl (R.cell rfl)) (ay (cT rfl rfl) ?_)));refine c7 (fun bC:e.dep<9007199254740992=>?_) (fun bC=>?_)
   ·refine aj 2 rfl (ay (aD p1 rfl) (ay (bF eg rfl (R.cell rfl)) (ay (dA rfl rfl) ?_)));refine c7 (fun dh:0≤e.time=>?_) (fun dh=>?_)
    ·refine aj 2 rfl (ay (aD p1 rfl) (ay (bF eg rfl (R.cell rfl)) (ay (cT rfl rfl) ?_)));refine c7 (fun cW:e.time<9007199254740992=>?_) (fun cW=>?_)
     ·refine ah (oH rfl rfl rfl) (ah ((cS rfl).to (v':=.bool e.pE) (cf (by simp only [EV.pE,o5,aap,aaq,bD bg,bD bC,bD dh,bD cW,bZ']))) (cx ?_));refine fH.sub (l':=[(1,_),(11,_),(12,_),(13,_)]) ⟨rfl,rfl,rfl,rfl,trivial⟩ (dq (aar nj ⟨R,E⟩))
     refine ah (oH rfl rfl rfl) (ah ((cS rfl).to (v':=.bool e.pE) (cf (by simp only [EV.pE,o5,aap,aaq,bD bg,bD bC,bD dh,cr cW,bZ']))) (cx ?_));refine fH.sub (l':=[(1,_),(11,_),(12,_),(13,_)]) ⟨rfl,rfl,rfl,rfl,trivial⟩ (dq (aar nj ⟨R,E⟩))
    refine aj 6 rfl (ah ((cS rfl).to (v':=.bool e.pE) (cf (by simp only [EV.pE,o5,aap,aaq,bD bg,bD bC,cr dh,bZ']))) (cx ?_));refine fH.sub (l':=[(1,_),(11,_),(12,_),(13,_)]) ⟨rfl,rfl,rfl,rfl,trivial⟩ (dq (aar nj ⟨R,E⟩))
   refine aj 11 rfl (ah ((cS rfl).to (v':=.bool e.pE) (cf (by simp only [EV.pE,o5,aap,aaq,bD bg,cr bC,bZ']))) (cx ?_));refine fH.sub (l':=[(1,_),(11,_),(12,_),(13,_)]) ⟨rfl,rfl,rfl,rfl,trivial⟩ (dq (aar nj ⟨R,E⟩))
  refine aj 15 rfl (ah ((cS rfl).to (v':=.bool e.pE) (cf (by simp only [EV.pE,o5,aap,aaq,cr bg,bZ']))) (cx ?_));refine fH.sub (l':=[(1,_),(11,_),(12,_),(13,_)]) ⟨rfl,rfl,rfl,rfl,trivial⟩ (dq (aar nj ⟨R,E⟩))
 refine b5 (ah (aD sL rfl) (ah (bF b2 rfl (R.cell rfl)) (cG E (bB ajS rfl) (ZS _ e.room sn) fun qV U E=>?_)));replace R:=R.I U;refine oM (fun bg:(gH 33 jC e.room)=true=>?_) (fun bg=>?_);rotate_left
 ·refine aj 20 rfl (ah ((cS rfl).to (v':=.bool e.names) (cf (by rw [EV.names];simp only [ew bg,bZ']))) (cx ?_));refine fH.sub (l':=[(1,_),(11,_),(12,_)]) ⟨rfl,rfl,rfl,trivial⟩ (dq (SR qV ⟨R,E⟩))
 refine aO rfl (ay (aD sM rfl) (ay (bF b2 rfl (R.cell rfl)) (gN (bB ajT rfl) (ZR _ e.snd ajU) fun pK U=>?_)));replace R:=R.I U;replace E:=E.then U;refine oM (fun bC:(gH 64 ko e.snd)=true=>?_) (fun bC=>?_);rotate_left
 ·refine aj 16 rfl (ah ((cS rfl).to (v':=.bool e.names) (cf (by rw [EV.names];simp only [bg,ew bC,bZ']))) (cx ?_));refine fH.sub (l':=[(1,_),(11,_),(12,_)]) ⟨rfl,rfl,rfl,trivial⟩ (dq (SR pK ⟨R,E⟩))
 refine aj 2 rfl (ay (aD pO rfl) (ay (bF b2 rfl (R.cell rfl)) (ay (ia rfl rfl) ?_)));refine c7 (fun dh:e.ty≠[]=>?_) (fun dh=>?_)
 ·refine aj 2 rfl (ay (aD pO rfl) (ay (bF b2 rfl (R.cell rfl)) (gN (bB aak rfl) (aab _ _) fun ts U=>?_)));replace R:=R.I U;replace E:=E.then U;refine oM (fun cW:(gq e.ty)=true=>?_) (fun cW=>?_)
  ·refine aj 2 rfl (ay (aD oz rfl) (ay (bF b2 rfl (R.cell rfl)) (gN (bB aak rfl) (aab _ _) fun sJ U=>?_)));replace R:=R.I U;replace E:=E.then U;refine oM (fun dB:(gq e.key)=true=>?_) (fun dB=>?_)
   ·refine ah (oH rfl rfl rfl) (ah ((cS rfl).to (v':=.bool e.names) (cf (by rw [EV.names];simp only [bg,bC,bD dh,cW,dB,bZ']))) (cx ?_));refine fH.sub (l':=[(1,_),(11,_),(12,_)]) ⟨rfl,rfl,rfl,trivial⟩ (dq (SR sJ ⟨R,E⟩))
   refine ah (oH rfl rfl rfl) (ah ((cS rfl).to (v':=.bool e.names) (cf (by rw [EV.names];simp only [bg,bC,bD dh,cW,ew dB,bZ']))) (cx ?_));refine fH.sub (l':=[(1,_),(11,_),(12,_)]) ⟨rfl,rfl,rfl,trivial⟩ (dq (SR sJ ⟨R,E⟩))
  refine aj 6 rfl (ah ((cS rfl).to (v':=.bool e.names) (cf (by rw [EV.names];simp only [bg,bC,bD dh,ew cW,bZ']))) (cx ?_));refine fH.sub (l':=[(1,_),(11,_),(12,_)]) ⟨rfl,rfl,rfl,trivial⟩ (dq (SR ts ⟨R,E⟩))
 refine aj 11 rfl (ah ((cS rfl).to (v':=.bool e.names) (cf (by rw [EV.names];simp only [bg,bC,cr dh,bZ']))) (cx ?_));refine fH.sub (l':=[(1,_),(11,_),(12,_)]) ⟨rfl,rfl,rfl,trivial⟩ (dq (SR pK ⟨R,E⟩))
end Go.Proofs.YtkjgljnkocnnpaaGreatDoor.V
namespace Go.Proofs.YtkjgljnkocnnpaaGreatDoor.V
open Go
theorem EV.bX {A:List Nat} {w:World} {e:EV} {cs:List Value} {up HW LI:Value} (XS:ao A w e.b7.D cs) (Dw:bq A w (pz e.prev) up) (abg:bq A w (pz e.b8) HW) (Tl:bq A w (flat 3 ei.cells e.sigs) LI) :
  ao A w e.D ([S e.room,S e.snd,S e.ty,.bool e.st,S e.key]++(cs ++ [up,HW,.int .i64 e.dep,.int .i64 e.time,S e.hash,LI])):=by
 unfold EV.D
 refine ao.append (ao.ig (bq.cN rfl) (ao.ig (bq.cN rfl) (ao.ig (bq.cN rfl) (ao.ig (bq.cN rfl) (ao.ig (bq.cN rfl) ao.oJ))))) (ao.append XS ?_)
 exact ao.ig Dw (ao.ig abg (ao.ig (bq.cN rfl) (ao.ig (bq.cN rfl) (ao.ig (bq.cN rfl) (ao.ig Tl ao.oJ)))))
def JV.x4:JV:=.mk 5 false 0 [] [] []
theorem JV.NU {A:List Nat} {w:World}:ao A w JV.x4.D [.int .i64 5,.bool false,.int .i64 0,S [],.slice none 0 0,.slice none 0 0]:=
 JV.bX (A:=A) (w:=w) (v:=JV.x4) (al:=none) (am:=none) (cl:=0) (cm:=0) bq.eh bq.eh
theorem JV.aax:JV.x4.wr 0 [] = .ok [123,125]:=by
 rw [JV.en,ak (by decide),ak (by decide),ak (by decide),ak (by decide),ak (by decide),ak (by decide),ak (by decide)];have h1:cK ([] ++ [123]) = .ok [123]:=rfl;have aq:JV.gA JV.x4.map 0 none [123] = .ok [123]:=by
  show JV.gA [] 0 none [123] = .ok [123];rw [JV.gA]
 rw [h1];show(JV.gA JV.x4.map 0 none [123]).bind _=_;rw [aq];rfl
abbrev FM:ab:=List.replicate 43 65
def EV.plain:EV:={room:=[33,114,58,97],snd:=[64,117,58,97],ty:=[116],st:=false,key:=[],b7:=JV.x4,prev:=[36::FM],b8:=[],dep:=0,time:=0,hash:=FM,sigs:=[]}
def EV.fg:EV:={room:=[],snd:=[],ty:=[],st:=false,key:=[],b7:=JV.fg,prev:=[],b8:=[],dep:=0,time:=0,hash:=[],sigs:=[]}
theorem aay:cC [116]=true:=by
 have h:aM [116]=(116,1):=by rw [hs (by decide)];rfl
 rw [mq (by simp) (by rw [h];simp),h];exact oL
theorem EV.NZ:EV.plain.q5=0:=by
 refine EV.x0 (by decide) ?_;rw [EV.iM];have wG:gH 33 jC EV.plain.room=true:=by decide +kernel
 have se:gH 64 ko EV.plain.snd=true:=by decide +kernel
 have n3:gq EV.plain.ty=true:=by
  show gq [116]=true;unfold gq;rw [aay];rfl
 have n4:gq EV.plain.key=true:=by
  show gq []=true;unfold gq;rw [oL];rfl
 have QQ:fG EV.plain.hash 32=true:=by decide +kernel
 have n6:EV.plain.prev.all dQ=true:=by decide +kernel
 have n7:decide (Go.Proofs.YtkjgljnkocnnpaaGreatDoor.V.gz (EV.plain.b7.wr 0 [])=0)=true:=by
  show decide (Go.Proofs.YtkjgljnkocnnpaaGreatDoor.V.gz (JV.x4.wr 0 [])=0)=true;rw [JV.aax];rfl
 rw [QQ,n6,n7];unfold EV.names;rw [wG,se,n3,n4];rfl
theorem EV.Gw:EV.fg.ok:=by
 refine⟨by decide,by decide,by decide,by decide,?_,by simp [EV.fg],by decide,by simp [EV.fg],by decide,by decide,by simp [EV.fg],by decide⟩;show JV.fg.ok;rw [JV.ok_eq];simp [JV.fg,JV.list,JV.map,JV.str]
theorem EV.FA:EV.plain.ok:=by
 refine⟨by decide,by decide,by decide,by decide,?_,by decide,by decide,by simp [EV.plain],by decide,by decide,by simp [EV.plain],by decide⟩;show JV.x4.ok;rw [JV.ok_eq];simp [JV.x4,JV.list,JV.map,JV.str]
theorem EV.KG:EV.plain.lens:=⟨by decide,by decide,by simp [EV.plain]⟩
theorem EV.b3 {A:List Nat} {w:World}:ao A w EV.fg.D [S [],S [],S [],.bool false,S [],.int .i64 0,.bool false,.int .i64 0,S [],.slice none 0 0,.slice none 0 0,.slice none 0 0,.slice none 0 0,.int .i64 0,.int .i64 0,S [],.slice none 0 0]:=
 EV.bX (e:=EV.fg) JV.b3 bq.eh bq.eh bq.eh
end Go.Proofs.YtkjgljnkocnnpaaGreatDoor.V
set_option maxRecDepth 10000
namespace Go.Proofs.YtkjgljnkocnnpaaGreatDoor.V
open Go Go.Proofs
theorem kh:gX aR 46 ([S [],S [],S [],.bool false,S [],.int .i64 0,.bool false,.int .i64 0,S [],.slice none 0 0,.slice none 0 0,.slice none 0 0,.slice none 0 0,.int .i64 0,.int .i64 0,S [],.slice none 0 0]):=by unfold gX;kernel_rfl
def qF:=kT (tp aR 46 [(0,1),(1,1),(2,1),(3,1),(4,1),(5,6),(11,1),(12,1),(13,1),(14,1),(15,1),(16,1)])
def eK:=kT (lG aR 46 17)
theorem Fz (w:World):Calls aR 42 [].toArray w (bH fun u w'=>(∃ us,u = .agg us.toArray∧ao [] w' EV.plain.D us)∧Mod [] w w'):=by
 refine Fi Tryz.func42 rfl fun E=>aa fun a6=>bj kh rfl fun g1 aJ bZ=>?_;have aY:=bZ.le E;replace E:=E.then bZ.mod;have R:=bZ.ar;refine J a6 (aa fun aQ=>a7 rfl (J aQ (aa fun a'=>ah (bc dz bA rfl rfl) (aO rfl (ah (ac9 (u:=[36]) (v:=FM) rfl rfl (by decide)) (dm l4 Ji rfl rfl fun g2 cX cz=>?_))))));have bJ:=cz.le E;have bl:=cz.ne R;replace R:=R.I cz.mod;replace E:=E.then cz.mod;have ag:=cz.ar;refine aO rfl (ah (fq qF kh rfl rfl) (ed eK R rfl rfl fun gr rW=>?_));replace ag:=ag.ne rW.mod (Ne.symm bl);replace E:=E.own rW.mod aY;replace R:aF gr g1 _ [_,_,_,_,_,_,_,_,_,_,_,_,_,_,_,_,_]:=rW.ar;exact J a' (bn (Xu rfl eK rfl (R.cs rfl) ⟨⟨_,rfl,EV.bX (e:=EV.plain) JV.NU (Rv (xs:=EV.plain.prev) ag (by decide) (by simp)) bq.eh bq.eh⟩,E⟩))
set_option maxRecDepth 10000
theorem akU:akV aR 64 23 4:=fun args w=>run_callFunc_extern Tryz.func64 (by kernel_rfl) (by kernel_rfl) (by kernel_rfl) (by kernel_rfl) args w
theorem Ej (A:List Nat) (w0 w:World) (m:List (ab×JV)) (v:Value) (aBn:bq A w0 (.jH 7 (m.map JV.jq)) v) (Oa:Mod [] w0 w) (cu:m.length≤1353245080310):Calls aR 31 [v].toArray w (bH fun u w'=>∃ vs,Own w' 38 7 u m.length vs∧ao A w0 (m.map JV.jq).flatten vs∧(∀ x∈bk u,w.heap.size≤x)∧Mod [] w w'):=by
 refine bs Tryz.func31 rfl fun E=>?_;obtain⟨ad,c,rfl,eQ,h3⟩:∃ ad c,v = .slice ad m.length c∧m.length≤c∧c≤9223372036854775807:=by
  obtain⟨ad,c,h1,aq,bb⟩:=aBn.vL;rw [List.length_map] at h1 aq;exact⟨ad,c,h1,aq,bb⟩
 obtain⟨vs,nG,pb,Ia⟩:=Src.aeO (P:=aR) cO aBn;rw [List.length_map] at pb Ia;refine aa fun a6=>a7 rfl (J a6 (aB fun aQ=>aa fun a'=>aO rfl (ah (Ob cO rfl rfl) (J a' ?_))));refine a1 rfl (fun bP=>?_) (fun bP=>?_)
 ·have af3:m = []:=by
   cases ad with
   | none=>exact JV.FZ aBn
   | some a=>simp at bP
  subst af3;exact aa fun bp=>a7 rfl (J bp (bn (aP (aG rfl rfl ⟨[],by simpa using Own.nil _ 38 7,ao.oJ,by simp [bk],E⟩))))
 refine b' (av aQ (aa fun bx=>kA (cs:=[]) dk eU rfl rfl rfl (by decide) rfl fun g1 aJ bZ=>?_));have aY:=bZ.le E;replace E:=E.then bZ.mod;have R:=bZ.ar;refine aO rfl (bz dk rfl rfl (Own.all (c:=0) (cs:=[]) R rfl (by omega)) (Ia _ (Oa.then E)) (by decide) (by omega) (by omega) rfl fun v1 cX kB=>?_);replace E:=E.trans' kB.mod (fun x ae=>.inr (by simp [bk] at ae;subst ae;exact aY));have rZ:∀ x∈bk v1,w.heap.size≤x:=fun x ae=>(kB.lH x ae).elim (fun h=>by simp [bk] at h;subst h;exact aY) (fun h=>Nat.le_trans (Nat.le_trans aY (Nat.le_of_lt R.lt)) h);exact a7 rfl (J bx (bn (aG rfl rfl ⟨vs,kB.own.same (by simp) (by simp),nG,rZ,E⟩)))
theorem abv (w:World) (n:Nat) (vs Bn:List Value) (i:Nat) (v u:Value) (O:Own w 38 7 v n vs) (rV:Own w 38 7 u 1 Bn) (Bo:∀ x∈vs,x.oneCell'=true) (P1:∀ x∈Bn,x.oneCell'=true) (cH:∀ x∈bk v,∀ y∈bk u,x≠y) (hi:i≤n) (cu:n≤1353245080310):Calls aR 34 [v,.int .i64 (i:Int),u].toArray w (bH fun r w'=>Own w' 38 7 r (n+1) (vs.take (i*7)++Bn++vs.drop (i*7))∧(∀ x∈bk r,x∈bk v∨w.heap.size≤x)∧Mod (bk v) w w'):=by
 refine iZ Tryz.func34 rfl fun E=>?_;obtain⟨ad,c,rfl,eQ,h3⟩:=O.form;rcases rV.2 with⟨_,cg⟩ | ⟨g2,af4,c2,abw,rfl,eb,_⟩
 ·omega
 have pb:=O.1;have vb:Bn.length=7:=by simpa using rV.1
 refine aa fun a6=>a7 rfl (J a6 (aa fun aQ=>aj 2 rfl (ah (lk dk rfl rfl (by omega) (by omega)) (J aQ (aa fun a'=>aO rfl (ah (bY cO rfl) (a7 rfl (J a' (aB fun bp=>aa fun bx=>?_)))))))));refine aj 2 rfl (J bx (aI rfl (b' (av bp (aa fun bO=>aO rfl (ah (bY cO rfl) (a7 rfl (J bO (aB fun b4=>aa fun cw=>aj 3 rfl (J cw ?_))))))))));refine aX rfl (fun wM=>?_) (fun wM=>?_)
 ·have iQ:i=n:=by omega
  exact aa fun cy=>aj 2 rfl (bz dk rfl rfl O (Src.own cO rV P1) (by decide) (by omega) (by omega) rfl fun v1 aJ kB=>a7 rfl (J cy (bn (aP (aG rfl rfl ⟨kB.own.same rfl (by subst iQ;simp [List.take_of_length_le,List.drop_eq_nil_of_le,pb]),kB.lH,kB.mod⟩)))))
 refine b' (av b4 (aB fun b6=>aa fun bR=>aj 2 rfl (ah (bt rfl rfl (by omega)) (aO rfl (ah (af5 cO rfl) (ah (hV rfl rfl) (J bR ?_)))))));refine aX rfl (fun gu=>?_) (fun gu=>?_)
 ·refine aa fun cv=>aj 2 rfl (ah (FX dk rfl rfl (by omega) (by omega)) (aj 2 rfl (ah (bt rfl rfl (by omega)) (aO rfl (ah (eZ (r:=((n+1-i:Nat):Int)) rfl rfl) (LR dk eU rfl gj rfl rfl (O.take (by omega)) (by decide) (by simp [Value.oneCell']) (by omega) (by omega) rfl fun v1 aJ news kB tq P2 ard=>?_))))));obtain⟨akW,E1⟩:=ard (fun tK aa6 e=>by injection e with _ _ kH;subst kH;omega);replace E:=E1;have P3:=kB.own;rcases P3.2 with⟨_,cg⟩ | ⟨g3,aBb,c3,aze,Bp,e4,akX,_⟩
  ·omega
  subst Bp;have gy:i+(n+1-i)=n+1:=by omega
  rw [gy] at P3 akX ⊢;have akY:w.heap.size≤g3:=akW g3 (by simp [bk]);have azf:∀ x∈bk (.slice ad n c),x<w.heap.size:=O.lt;have z7:g2<w.heap.size:=eb.lt;have Bq:(9223372036854775807:Nat)≥c3:=by obtain⟨_,_,e8,LS,tr⟩:=P3.form;injection e8 with _ _ e8;subst e8;exact tr
  refine a7 rfl (J cv (aa fun bV=>aj 2 rfl (ah (lk (c:=n+1) dk rfl rfl (by omega) (by omega)) (aO rfl ?_))));have TF:Src aR 7 23 (.slice (some ⟨g2,af4,none⟩) 1 c2) 1 Bn aJ:=Src.own cO (rV.I E) P1;refine uN dk P3 rfl rfl (TF.len _) (k:=1) (Nat.min_eq_left (by omega)) TF.cells vb P1 (by omega) rfl fun cX af6 E2 tE=>?_;replace E:=E.own E2 akY;refine J bV (aB fun cE=>ks [] [0,1,2,3,4,5,6,7] 8 [] wide (by kernel_rfl) (fun _ _ _ h=>h.2) (jG (hF 3 rfl rfl (ax (fun U=>(aS (r:=((i+1:Nat):Int)) rfl rfl)) (ax (fun U=>(lk (c:=n+1) dk rfl rfl (by omega) (by omega))) (hF 2 rfl rfl (ax (fun U=>(lk dk rfl rfl (by omega) (by omega))) (oF rfl fun aJ U=>?_))))))));replace E:=E.then U;have Ib:=Src.own (P:=aR) cO ((O.I E).cut (lo:=i) (hi:=n) (by omega) (by omega)) (fun u hu=>Bo u (List.mem_of_mem_drop (List.mem_of_mem_take hu)));replace af6:=af6.I U;refine uN (lo:=i+1) dk af6 rfl rfl (Ib.len _) (k:=n-i) (Nat.min_eq_left (by omega)) Ib.cells Ib.newsLen Ib.one (by omega) rfl fun gr af7 E3 oI=>?_;replace E:=E.own E3 akY;exact J cE (aa fun cI=>aj 2 rfl (J cI (bn (aP (aG rfl rfl ⟨af7.same rfl (LU pb tq vb hi),fun x ae=>.inr (akW x (by simpa [bk] using ae)),E.mono (by simp)⟩)))))
 have pc:n+1≤c:=by omega
 rcases O.2 with⟨cg,_⟩ | ⟨go,arf,co,arh,ari,azg,av7,av8,akZ,av9⟩
 ·injection cg with _ _ cg;omega
 injection ari with bu ee kH
 subst bu;subst kH;have aeP:g2≠go:=fun e=>cH go (by simp [bk]) g2 (by simp [bk]) e.symm;have ak0:arh≠[]:=by rintro rfl;simp at akZ;omega
 obtain⟨aBc,arj⟩:=P4 go arf c (i+1) 7;have ak1:∀ x∈bk (.slice (some ⟨g2,af4,none⟩) 1 c2),x∉bk (.slice (some ⟨go,arf,none⟩) n c):=fun x ae=>by simp [bk] at ae ⊢;subst ae;exact aeP
 obtain⟨kW,zo,ak2⟩:=O.extend (m:=n+1) (by omega) pc;replace E:=Mod.refl (bk (.slice (some ⟨go,arf,none⟩) n c)) w;refine b' (av b6 (aa fun dr=>aj 3 rfl (ah (aS (r:=((n+1:Nat):Int)) rfl rfl) (ah (FX dk rfl rfl (by omega) (by omega)) (a7 rfl (J dr (aB fun ec=>aa fun dG=>aj 4 rfl (ah (aS (r:=((i+1:Nat):Int)) rfl rfl) (ah ((lk dk rfl rfl (by omega) (by omega)).to (by rw [arj])) ?_)))))))));refine ah (Ic akU dk rfl rfl rfl rfl eb azg aeP ak0) (ah (fC rfl) (J dG (az rfl (aB fun eV=>ks [] [0,1,2,3,4,5,6,7] 8 [] wide (by kernel_rfl) (fun _ _ _ h=>h.2) (jG (hF 3 rfl rfl (ax (fun U=>(aS (r:=((i+1:Nat):Int)) rfl rfl)) (ax (fun U=>(lk dk rfl rfl (by omega) (by omega))) (hF 2 rfl rfl (ax (fun U=>(lk dk rfl rfl (by omega) (by omega))) (oF rfl fun cX U=>?_)))))))))));replace E:=E.then U;replace zo:=zo.I U;have Ib:=Src.own (P:=aR) cO (zo.cut (lo:=i) (hi:=n) (by omega) (by omega)) (fun u hu=>Bo u (by
  rw [Nat.sub_mul,← List.drop_take,ak2] at hu;exact List.mem_of_mem_drop hu))
 refine uN (lo:=i+1) dk zo rfl rfl rfl (k:=n-i) (c':=n+1-i) ((Nat.min_eq_right (by omega)).trans (by omega)) (by rw [z8 _ _ _ _ _ (n-i) (c-i)];exact Ib.cells) Ib.newsLen Ib.one (by omega) rfl fun cX ark E4 azh=>?_;replace E:=(E.trans' E4 (fun x ae=>.inl (by simpa [bk] using ae)));refine J eV (aa fun eO=>aj 2 rfl (ah (lk dk rfl rfl (by omega) (by omega)) (aO rfl ?_)));have TF:Src aR 7 23 (.slice (some ⟨g2,af4,none⟩) 1 c2) 1 Bn cX:=Src.own cO (rV.mod E ak1) P1;refine uN dk ark rfl rfl (TF.len _) (k:=1) (Nat.min_eq_left (by omega)) TF.cells vb P1 (by omega) rfl fun gr F7 E5 azi=>?_;replace E:=(E.trans' E5 (fun x ae=>.inl (by simpa [bk] using ae)));exact J eO (aa fun eC=>aj 2 rfl (J eC (bn (aP (aG rfl rfl ⟨F7.same rfl (LV pb zo.1 ak2 vb hi),fun x ae=>.inl (by simpa [bk] using ae),E⟩)))))
end Go.Proofs.YtkjgljnkocnnpaaGreatDoor.V
