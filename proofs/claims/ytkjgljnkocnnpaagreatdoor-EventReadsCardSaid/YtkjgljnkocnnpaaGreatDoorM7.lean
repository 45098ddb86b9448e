/-
  A part of the proof: a map's size; its entries one by one, in whatever order; a method called through an interface; a type assertion that must hold; pointers held against nil; comparisons with nil of an interface, asserted types, results of functions that may panic. No condition of its own.
-/
import Derived.Test.YtkjgljnkocnnpaaGreatDoorM0
import Derived.Test.YtkjgljnkocnnpaaGreatDoorM3
import Derived.Test.YtkjgljnkocnnpaaGreatDoorM5
import Derived.Test.YtkjgljnkocnnpaaGreatDoorM6
import Derived.Test.YtkjgljnkocnnpaaGreatDoorM4
set_option linter.all false
set_option maxRecDepth 10000
namespace Go.Proofs.YtkjgljnkocnnpaaGreatDoor.V
open Go Go.Proofs
def OU:=eW Tryz.func193
def AP:=eW Tryz.func164
def acE:=eW Tryz.func165
theorem OV (w:World) (s:ab):Calls aR 193 [S s].toArray w (bH fun u w'=>u = .tuple #[.int .i32 (((e' 4 s 0).getD 0:Nat):Int),.bool (e' 4 s 0).isSome]∧Mod [] w w'):=by
 refine bs Tryz.func193 rfl fun E=>aa fun a6=>aj 2 rfl (J a6 (aB fun aQ=>aa fun a'=>aO rfl (ah (bQ aA rfl) (ah (cT rfl rfl) (J a' ?_)))));refine aX rfl (fun jP=>?_) (fun jP=>?_)
 ·have hI:=rb 4 s 0 (by omega);exact aa fun bp=>aj 2 rfl (J bp (bn (aP (cj rfl rfl rfl ⟨by rw [hI];rfl,E⟩))))
 refine b' (av aQ (aa fun bx=>a7 rfl (J bx (aB fun bO=>aa fun b4=>aO rfl (ah (AQ (n:=4) aA rfl rfl (by omega)) (sl aA rfl rfl fun xi aJ hX Wa Ti=>?_))))));have qY:w.heap.size≤xi:=by have:=E.size;omega
 replace E:=E.then Ti;refine J b4 (eN (bK (σ:=Nat×Nat) (fun⟨p,n⟩=>[(4,.int .i32 (n:Int)),(13,.pointer (some ⟨xi,0,none⟩))]) (fun⟨p,n⟩ aJ=>p≤4∧n<16 ^ p∧e' (4-p) ((s.take 4).drop p) n=e' 4 s 0∧DK aJ xi (s.take 4) p∧w.heap.size≤xi∧Mod [] w aJ) (fun⟨p,n⟩=>4-p) (⟨0,0⟩) (⟨by omega,by decide,BT 4 s 0,hX,qY,E⟩) ?_));rintro⟨p,n⟩ cX ⟨cc,ae0,hinv,hX,qY,E⟩;have ar6:(s.take 4).length=4:=by rw [List.length_take];omega
 refine aB fun cw=>?_
 by_cases hb:p<4
 rotate_left
 ·have ns:¬ p<(s.take 4).length:=by omega
  refine b5 (mK rfl hX ns rfl (ah (fo rfl rfl) (J cw (aB fun eP=>?_))));refine a1 rfl (fun kK=>?_) (fun kK=>?_)
  ·cases kK
  skip
  exact bL (aP (aP (ch (av bO (aa fun fw=>aj 3 rfl (J fw (bn (cj rfl rfl rfl ⟨by have ar8:e' 4 s 0=some n:=(by rw [← hinv,show 4-p=0 by omega];rfl);rw [ar8];rfl,E⟩))))))))
 obtain⟨b,aW⟩:∃ b,(s.take 4)[p]? = some b:=⟨_,List.getElem?_eq_getElem (by omega)⟩;have zZ:p<(s.take 4).length:=by omega
 by_cases pV:b.toNat<128
 rotate_left
 ·obtain⟨c,m,B0,eQ,h3,uc⟩:=acz aW pV;refine b5 (oB rfl hX zZ B0 rfl fun iS sS Dr GC=>?_);replace E:=E.trans' Dr (fun x ae=>.inr (by simp at ae;subst ae;exact qY));clear hX;have hX:=sS;refine ah (fo rfl rfl) (J cw (aB fun dr=>?_));refine a1 rfl (fun kK=>?_) (fun kK=>?_)
  ·skip
   refine b' (av dr (eN (aa fun ec=>aj 2 rfl (J ec (aa fun dG=>aO rfl (ah ((vt rfl rfl).to (v':=.int .i32 ((c ||| 32:Nat):Int)) (kZ (Value.int .i32) (Vi (by omega)))) (cG E (bB GD rfl) (zF _ kd (c ||| 32) (by decide) (by decide) (by decide) (Vk h3) (Vl uc) (Vj eQ)) fun i' U E=>?_)))))));replace hX:=hX.I U;refine a7 rfl (J dG (aB fun eV=>aa fun eO=>aj 2 rfl (kq (bD (by decide)) (aj 4 rfl (J eO (az rfl ?_))))));have hI:e' 4 s 0=none:=wc (d4:=0) hb aW (QA (by omega)) hinv;exact aa fun eC=>aj 2 rfl (J eC (bn (aP (bw (aP (bw (aP (cj rfl rfl rfl ⟨by rw [hI];rfl,E⟩))))))))
  cases kK
 skip
 refine b5 (oB rfl hX zZ (dec_lt aW pV) rfl fun gr sS Dr GC=>?_);replace E:=E.trans' Dr (fun x ae=>.inr (by simp at ae;subst ae;exact qY));clear hX;have hX:=sS;refine ah (fo rfl rfl) (J cw (aB fun cy=>?_));refine a1 rfl (fun kK=>?_) (fun kK=>?_);rotate_left
 ·cases kK
 skip
 refine b' (av cy (eN (aa fun b6=>aj 2 rfl (J b6 (aa fun bR=>aO rfl (ah ((vt rfl rfl).to (v':=.int .i32 ((b.toNat ||| 32:Nat):Int)) (kZ (Value.int .i32) (Vi (by omega)))) (cG E (bB GD rfl) (IH _ kd (b.toNat ||| 32) (Vm pV)) fun h8 U E=>?_)))))));replace hX:=hX.I U;refine a7 rfl (J bR (aB fun cv=>aa fun bV=>aj 2 rfl ?_));refine c7 (fun jy:Lib.indexByte kd (UInt8.ofNat (b.toNat ||| 32))<0=>?_) (fun jy=>?_)
 ·refine aj 4 rfl (J bV (az rfl ?_));have hI:e' 4 s 0=none:=wc (d4:=0) hb aW (OM pV (by omega)) hinv;exact aa fun cE=>aj 2 rfl (J cE (bn (aP (bw (aP (bw (aP (cj rfl rfl rfl ⟨by rw [hI];rfl,E⟩))))))))
 refine aj 3 rfl ?_;refine c7 (fun nJ:(b.toNat:Int)<48=>?_) (fun nJ=>?_)
 ·refine ah (hG rfl rfl rfl) (J bV (az rfl ?_));have hI:e' 4 s 0=none:=wc (d4:=0) hb aW (OM pV (by omega)) hinv;exact aa fun cI=>aj 2 rfl (J cI (bn (aP (bw (aP (bw (aP (cj rfl rfl rfl ⟨by rw [hI];rfl,E⟩))))))))
 refine ah (hG rfl rfl rfl) (J bV (aI rfl ?_));obtain⟨d,ar7,pB,hid⟩:=Vs pV jy (by omega);rw [hid];have eF:=Mr hb aW ar7 hinv;have azv:=EP ae0 (by omega);exact b' (av cv (b5 (aO rfl (ah ((GF rfl rfl (by omega)).to (v':=.int .i32 ((16*n:Nat):Int)) (kZ (Value.int .i32) (agK (by omega)))) (aO rfl (ah ((uT gj gE rfl).to (v':=.int .i32 (d:Int)) (kZ (Value.int .i32) (wrap32_in _ (by omega)))) (ah ((vt rfl rfl).to (v':=.int .i32 ((16*n+d:Nat):Int)) (kZ (Value.int .i32) (agH (by omega) pB))) (a7 rfl (cx (bw (aw (σ:=Nat×Nat) (s:=⟨p,n⟩) (⟨p+1,16*n+d⟩) ⟨by omega,Vt ae0 pB,eF,hX,qY,E⟩)))))))))))
theorem QL (w:World) (s:ab):Calls aR 165 [S s].toArray w (bH fun u w'=>u = .tuple #[.int .i32 ((ha s).1:Int),.int .i64 ((ha s).2:Int)]∧Mod [] w w'):=by
 refine bs Tryz.func165 rfl fun E=>aa fun a6=>aj 2 rfl (J a6 (aB fun aQ=>aa fun a'=>aO rfl (ah (jr rfl rfl) (J a' ?_))));refine aX rfl (fun l2=>?_) (fun l2=>?_)
 ·subst l2;exact aa fun bp=>aj 2 rfl (J bp (bn (aP (cj rfl rfl rfl ⟨rfl,E⟩))))
 obtain⟨c,r,rfl⟩:∃ c r,s=c::r:=by
  cases s with
  | nil=>exact absurd rfl l2
  | cons c r=>exact⟨c,r,rfl⟩
 refine b' (av aQ (aB fun bx=>aa fun bO=>aO rfl (ah (hM (c:=c) aA rfl rfl (by decide) rfl) (cG E (bB yI rfl) (Ez _ OJ c) fun aJ U E=>a7 rfl (J bO (aa fun b4=>aO rfl (ah (dA rfl rfl) (J b4 ?_))))))));refine aX rfl (fun r7=>?_) (fun r7=>?_)
 ·obtain⟨i,d,bT,hi,Mt,dY,ar9⟩:=(yC c).resolve_left (fun h=>absurd r7 (by have:=h.2;omega));rw [hi];exact aa fun cw=>aO rfl (ah (bN (u:=aeY) aA rfl rfl dY) (ah ((uT dH gE rfl).to (v':=.int .i32 (d:Int)) (kZ (Value.int .i32) (by rw [UInt8.toNat_ofNat',wrap32_in _ (by omega)];omega))) (aj 2 rfl (J cw (bn (aP (cj rfl rfl rfl ⟨by rw [EO bT];rfl,E⟩)))))))
 have cu:l5 c=none:=(yC c).elim (·.1) (fun⟨i,d,_,hi,_⟩=>absurd (show Lib.indexByte OJ c≥0 by rw [hi];omega) r7);refine b' (av bx (aa fun cy=>aO rfl (ah ((dV (n:=1) aA rfl rfl (by simp)).to (v':=S r) rfl) (cG E (bB OU rfl) (OV _ r) fun cX U E=>aj 5 rfl (J cy (aB fun b6=>eN ?_))))));apply share
 ·intro J9;refine aa fun bR=>aO rfl (ah (hM (c:=c) aA rfl rfl (by decide) rfl) (ah (fO rfl rfl) ?_));refine c7 (fun hu:(c.toNat:Int)≠117=>?_) (fun hu=>?_);rotate_left
  ·have acF:c=117:=dT (by rw [Classical.not_not.1 hu];rfl);refine aj 3 rfl ?_;refine tn (fun hi:((!(e' 4 r 0).isSome))=true=>?_) (fun hi=>?_);rotate_left
   ·obtain⟨n,vl⟩:∃ n,e' 4 r 0=some n:=Option.isSome_iff_exists.1 (by simpa using hi);have Wb:=xb vl;have acG:=yE vl;rw [vl,Option.getD_some];refine aj 3 rfl (ay (dA rfl rfl) ?_);refine c7 (fun xa:(n:Int)≥56320=>?_) (fun xa=>?_);rotate_left
    ·refine aj 6 rfl (J bR (aI rfl ?_));have e8:(n:Int)<56320∨(n:Int)≥57344:=by omega
     try clear z7
     try clear xa
     refine k2.sub (l':=[(0,_),(5,_)]) ⟨rfl,rfl,trivial⟩ ?_
     revert acF
     revert e8
     revert acG
     revert Wb
     revert vl
     revert n
     exact J9.o
    refine aj 3 rfl ?_;refine c7 (fun z7:(n:Int)<57344=>?_) (fun z7=>?_)
    ·refine aj 3 rfl (J bR (az rfl ?_));have hI:ha (_::r)=(0,0):=n2 cu (by first | (left;intro e;subst e;exact hu rfl) | (right;left;simpa using hi) | (right;right;exact⟨n,vl,by omega,by omega⟩));exact aa fun cv=>aj 2 rfl (J cv (bn (bw (aP (cj rfl rfl rfl ⟨by rw [hI];rfl,E⟩)))))
    refine aj 3 rfl (J bR (aI rfl ?_));have e8:(n:Int)<56320∨(n:Int)≥57344:=by omega
    try clear z7
    try clear xa
    exact k2.sub (l':=[(0,_),(5,_)]) ⟨rfl,rfl,trivial⟩ (J9.o n vl Wb acG e8 acF)
   refine aj 10 rfl (J bR (az rfl ?_));have hI:ha (_::r)=(0,0):=n2 cu (by first | (left;intro e;subst e;exact hu rfl) | (right;left;simpa using hi) | (right;right;exact⟨n,vl,by omega,by omega⟩));exact aa fun bV=>aj 2 rfl (J bV (bn (bw (aP (cj rfl rfl rfl ⟨by rw [hI];rfl,E⟩)))))
  refine aj 13 rfl (J bR (az rfl ?_));have hI:ha (_::r)=(0,0):=n2 cu (by first | (left;intro e;subst e;exact hu rfl) | (right;left;simpa using hi) | (right;right;exact⟨n,vl,by omega,by omega⟩));exact aa fun cE=>aj 2 rfl (J cE (bn (bw (aP (cj rfl rfl rfl ⟨by rw [hI];rfl,E⟩)))))
 intro n vl Wb acG e8 acF;subst acF;refine aa fun cI=>aj 2 rfl ?_;refine c7 (fun qZ:(n:Int)<55296=>?_) (fun qZ=>?_)
 ·exact aj 5 rfl (J cI (az rfl (aa fun dr=>aj 3 rfl (J dr (bn (bw (aP (cj rfl rfl rfl ⟨by rw [tZ vl (by omega)];rfl,E⟩))))))))
 refine aj 2 rfl (ay (dA rfl rfl) ?_);refine c7 (fun l6:(n:Int)≥57344=>?_) (fun l6=>?_)
 ·exact aj 2 rfl (J cI (az rfl (aa fun ec=>aj 3 rfl (J ec (bn (bw (aP (cj rfl rfl rfl ⟨by rw [tZ vl (by omega)];rfl,E⟩))))))))
 refine aj 2 rfl (J cI (aI rfl (aa fun dG=>aO rfl (ah ((dV (n:=5) aA rfl rfl (by simp only [List.length_cons];omega)).to (v':=S (r.drop 4)) rfl) (cG E (bB AR rfl) (AS _ (r.drop 4) [92,117]) fun gr U E=>ah (fC rfl) ?_)))));refine tn (fun Wc:((!decide (([92,117]:ab).length≤(r.drop 4).length∧(r.drop 4).take ([92,117]:ab).length = [92,117])))=true=>?_) (fun Wc=>?_)
 ·refine a7 rfl (J dG (az rfl ?_));have hI:=n5 vl (by omega) (.inl (QC (by rw [← xd];rw [Bool.not_eq_true'] at Wc;exact Wc)));exact aa fun eV=>aj 2 rfl (J eV (bn (bw (aP (cj rfl rfl rfl ⟨by rw [hI];rfl,E⟩)))))
 refine a7 rfl (J dG (aI rfl ?_));have agM:List.isPrefixOf [92,117] (r.drop 4)=true:=by
  rw [← xd];cases bT:decide (([92,117]:ab).length≤(r.drop 4).length∧(r.drop 4).take ([92,117]:ab).length = [92,117])with
  | true=>rfl
  | false=>rw [bT] at Wc;cases Wc
 have Wd:=Mq agM;rw [List.drop_drop] at Wd;have It:2≤(r.drop 4).length:=by
  rw [← xd,decide_eq_true_eq] at agM;exact agM.1
 rw [List.length_drop] at It;refine b' (bw (av b6 (aa fun eO=>aO rfl (ah ((dV (n:=7) aA rfl rfl (by simp only [List.length_cons];omega)).to (v':=S (r.drop 6)) rfl) (cG E (bB OU rfl) (OV _ (r.drop 6)) fun h8 U E=>aj 5 rfl (J eO (aB fun eC=>aa fun eP=>aj 2 rfl ?_)))))));refine tn (fun eD:((!(e' 4 (r.drop 6) 0).isSome))=true=>?_) (fun eD=>?_)
 ·refine aj 8 rfl (J eP (az rfl ?_));have hI:=n5 vl (by omega) (by rw [Wd];first | (left;simpa using eD) | (right;exact⟨m,vm,by omega⟩));exact aa fun fw=>aj 2 rfl (J fw (bn (aP (cj rfl rfl rfl ⟨by rw [hI];rfl,E⟩))))
 obtain⟨m,vm⟩:∃ m,e' 4 (r.drop 6) 0=some m:=Option.isSome_iff_exists.1 (by simpa using eD);have awn:=xb vm;rw [vm,Option.getD_some];refine aj 3 rfl ?_;refine c7 (fun qu:(m:Int)<56320=>?_) (fun qu=>?_)
 ·refine aj 5 rfl (J eP (az rfl ?_));have hI:=n5 vl (by omega) (by rw [Wd];first | (left;simpa using eD) | (right;exact⟨m,vm,by omega⟩));exact aa fun fT=>aj 2 rfl (J fT (bn (aP (cj rfl rfl rfl ⟨by rw [hI];rfl,E⟩))))
 refine aj 3 rfl (ay (dA rfl rfl) ?_);refine c7 (fun agN:(m:Int)≥57344=>?_) (fun agN=>?_)
 ·refine ah (hG rfl rfl rfl) (J eP (az rfl ?_));have hI:=n5 vl (by omega) (by rw [Wd];first | (left;simpa using eD) | (right;exact⟨m,vm,by omega⟩));exact aa fun gh=>aj 2 rfl (J gh (bn (aP (cj rfl rfl rfl ⟨by rw [hI];rfl,E⟩))))
 refine ah (hG rfl rfl rfl) (J eP (aI rfl (b' (av eC (aa fun fk=>aO rfl (ah ((hB rfl rfl).to (v':=.int .i32 ((n-55296:Nat):Int)) (kZ (Value.int .i32) (by rw [wrap32_in _ (by omega)];omega))) (ah ((GF rfl rfl (by omega)).to (v':=.int .i32 ((1024*(n-55296):Nat):Int)) (kZ (Value.int .i32) (acA (by omega)))) (ah ((sT rfl rfl).to (v':=.int .i32 ((65536+1024*(n-55296):Nat):Int)) (kZ (Value.int .i32) (by rw [wrap32_in _ (by omega)];omega))) (aO rfl (ah ((hB rfl rfl).to (v':=.int .i32 ((m-56320:Nat):Int)) (kZ (Value.int .i32) (by rw [wrap32_in _ (by omega)];omega))) (ah ((sT rfl rfl).to (v':=.int .i32 ((65536+1024*(n-55296)+(m-56320):Nat):Int)) (kZ (Value.int .i32) (by rw [wrap32_in _ (by omega)];omega))) (aj 2 rfl ?_))))))))))));exact J fk (bn (cj rfl rfl rfl ⟨by rw [BV vl (by omega) (Wd.trans vm) (by omega)];rfl,E⟩))
theorem We (w:World) (s:ab) (k:Nat) (bh:s.length≤200000) (j1:Ad w):Calls aR 140 [S s,.int .i64 (k:Int)].toArray w (bH fun u w'=>u = .tuple #[S ((dP s k).getD ([],0)).1,.int .i64 (((dP s k).getD ([],0)).2:Int),.bool (dP s k).isSome]∧Mod [] w w'):=by
 refine cY Tryz.func140 rfl fun E=>aa fun a6=>aj 3 rfl (J a6 (aB fun aQ=>aa fun a'=>aj 2 rfl (kq (cr (show ¬ ((k:Int)<0)by omega)) (aj 3 rfl (ay (bQ aA rfl) (ay (dA rfl rfl) ?_))))));refine c7 (fun e5:(k:Int)≥(s.length:Int)=>?_) (fun e5=>?_)
 ·refine aj 7 rfl (J a' (az rfl ?_));have hI:(dP s k)=none:=by
   unfold dP;rw [ak];intro h
   first | (have:=(List.getElem?_eq_some_iff.1 h).1;omega) | (rw [sU] at h;injection h with h;subst h;exact cH rfl)
  exact aa fun bp=>aj 3 rfl (J bp (bn (aP (nt rfl rfl rfl rfl ⟨by rw [hI];rfl,E⟩))))
 obtain⟨c0,sU⟩:∃ c0,s[k]? = some c0:=⟨_,List.getElem?_eq_getElem (by omega)⟩;refine aj 4 rfl (ay (bN aA rfl rfl sU) (ay (fO rfl rfl) ?_));refine c7 (fun cH:(c0.toNat:Int)≠34=>?_) (fun cH=>?_)
 ·refine ah (hG rfl rfl rfl) (J a' (az rfl ?_));have hI:(dP s k)=none:=by
   unfold dP;rw [ak];intro h
   first | (have:=(List.getElem?_eq_some_iff.1 h).1;omega) | (rw [sU] at h;injection h with h;subst h;exact cH rfl)
  exact aa fun bx=>aj 3 rfl (J bx (bn (aP (nt rfl rfl rfl rfl ⟨by rw [hI];rfl,E⟩))))
 refine ah (hG rfl rfl rfl) (J a' (aI rfl ?_));have e8:s[k]? = some 34:=by rw [sU,dT (show(c0.toNat:Int)=(34:UInt8).toNat by rw [Classical.not_not.1 cH];rfl)]
 refine b' (av aQ (aa fun bO=>a7 rfl (J bO (aB fun b4=>aa fun cw=>aO rfl (ah (aS (r:=((k+1:Nat):Int)) rfl rfl) (a7 rfl (J cw (eN (bK (σ:=Nat×Value×ab) (fun⟨i,v,out⟩=>[(0,S s),(7,v),(8,.int .i64 (i:Int))]) (fun⟨i,v,out⟩ aJ=>(k<i∧i≤s.length∧out.length≤4*i∧∃ f,s.length-i<f∧gx f (s.drop i) i out=(dP s k))∧iD aJ v out∧(∀ x∈bk v,w.heap.size≤x)∧Mod [] w aJ) (fun⟨i,v,out⟩=>s.length-i) (⟨k+1,.slice none 0 0,[]⟩) (⟨⟨by omega,by omega,by simp,s.length-k,by omega,by rw [dP,aL e8]⟩,Own.nil w 5 1,by simp [bk],E⟩) ?_)))))))));rintro⟨i,v,out⟩ aJ ⟨⟨hk,hi,Wf,f,dn,hinv⟩,O,nh,E⟩;refine aB fun cy=>aa fun b6=>aj 2 rfl (ah (bQ aA rfl) (ah (cT rfl rfl) (J b6 ?_)));refine aX rfl (fun DL=>?_) (fun DL=>?_);rotate_left
 ·have hI:(dP s k)=none:=by rw [← hinv,ER (by omega)]
  exact bL (aP (aP (ch (av b4 (aa fun qp=>aj 3 rfl (J qp (bn (nt rfl rfl rfl rfl ⟨by rw [hI];rfl,E⟩))))))))
 obtain⟨c,aZ⟩:∃ c,s[i]? = some c:=⟨_,List.getElem?_eq_getElem (by omega)⟩;obtain⟨g,rfl⟩:∃ g,f=g+1:=⟨f-1,by omega⟩;refine b' (av cy (eN (aB fun bR=>?_)))
 by_cases dy:c=34
 ·subst dy;have wh:Utf8.decode ⟨⟨s.drop i⟩⟩ 0=(34,1):=by rw [yF (by omega) (by rw [re aZ (by decide)];simp),re aZ (by decide)];rfl
  have hI:(dP s k)=some (out,i+1):=by rw [← hinv,zC aZ]
  refine b5 (aj 2 rfl (ah (dV aA rfl rfl hi) (cG E (bB AP rfl) (AG _ (s.drop i) (j1.I E)) fun cX U E=>?_)));replace O:=O.I U;rw [wZ (show i<s.length by omega),wh];refine aj 5 rfl (J bR (aB fun cv=>eN (aa fun bV=>aj 2 rfl (kq (bD (by decide)) (a7 rfl (J bV (az rfl (aa fun cE=>aO rfl (ah (js (u:=out) da dH aA rfl (O.same rfl (dt _))) (aO rfl ?_))))))))));exact ah (aS (r:=((i+1:Nat):Int)) rfl rfl) (aj 3 rfl (J cE (bn (bw (aP (bw (aP (bw (aP (nt rfl rfl rfl rfl ⟨by rw [hI];rfl,E⟩))))))))))
 by_cases ev:c=92
 ·subst ev;have wh:Utf8.decode ⟨⟨s.drop i⟩⟩ 0=(92,1):=by rw [yF (by omega) (by rw [re aZ (by decide)];simp),re aZ (by decide)];rfl
  obtain⟨bu,ee,kH⟩:=I5 (s.drop (i+1));rw [List.length_drop] at kH;have hf:=QD (f:=g) (out:=out) aZ;rw [hinv] at hf;refine b5 (aj 2 rfl (ah (dV aA rfl rfl hi) (cG E (bB AP rfl) (AG _ (s.drop i) (j1.I E)) fun gr U E=>?_)));replace O:=O.I U;rw [wZ (show i<s.length by omega),wh];refine aj 5 rfl (J bR (aB fun cI=>eN (aa fun dr=>aj 2 rfl (kq (cr (by decide)) (a7 rfl (J dr (aI rfl (aa fun ec=>aj 2 rfl (kq (cr (by decide)) (aj 3 rfl ?_))))))))));refine kq (cr (by decide)) (aj 6 rfl (J ec (aI rfl (aa fun dG=>aj 2 rfl (kq (bD (by decide)) (a7 rfl (J dG (az rfl (aa fun eV=>aj 2 rfl (ah (aS (r:=((i+1:Nat):Int)) rfl rfl) (ah (dV (n:=i+1) aA rfl rfl (by omega)) ?_)))))))))));refine cG E (bB acE rfl) (QL _ (s.drop (i+1))) fun h8 U E=>?_;replace O:=O.I U;refine aj 5 rfl (J eV (aB fun eO=>aa fun eC=>aj 2 rfl ?_));refine c7 (fun ar':((ha (s.drop (i+1))).2:Int)=0=>?_) (fun ar'=>?_)
  ·refine J eC (az rfl ?_);have Wg:(dP s k)=none:=by rw [hf,aL (by omega)]
   exact aa fun eP=>aj 3 rfl (J eP (bn (aP (bw (aP (bw (aP (bw (aP (nt rfl rfl rfl rfl ⟨by rw [Wg];rfl,E⟩))))))))))
  refine J eC (aI rfl (b' (av eO (b5 (aO rfl (ah (aS (r:=(((ha (s.drop (i+1))).2+1:Nat):Int)) rfl rfl) (a7 rfl (cx (bw (av cI (aB fun fw=>?_)))))))))));have eF:gx g (s.drop (i+((ha (s.drop (i+1))).2+1))) (i+((ha (s.drop (i+1))).2+1)) (out++fl (ha (s.drop (i+1))).1)=(dP s k):=by rw [hf,ak (by omega)]
  refine b5 (aj 2 rfl (cJ (bB AT rfl) (GG _ v out (ha (s.drop (i+1))).1 O bu ee (by omega)) fun cN iS aH=>?_));obtain⟨fs,sn,qu⟩:=aH;have rZ:∀ x∈bk cN,w.heap.size≤x:=fun x ae=>(sn x ae).elim (nh x) (Nat.le_trans E.size);replace E:=E.trans' qu (fun x ae=>.inr (nh x ae));exact a7 rfl (J fw (b5 (aj 2 rfl (ah (aS (r:=((i+((ha (s.drop (i+1))).2+1):Nat):Int)) rfl rfl) (a7 rfl (cx (bw (aw (σ:=Nat×Value×ab) (s:=⟨i,v,out⟩) (⟨i+((ha (s.drop (i+1))).2+1),cN,out++fl (ha (s.drop (i+1))).1⟩) ⟨⟨by omega,by omega,by rw [List.length_append];have:=nq (ha (s.drop (i+1))).1;omega,g,by omega,eF⟩,fs,rZ,E⟩))))))))
 by_cases cP:(aM (s.drop i)).2=0
 ·have wh:=QE (show i<s.length by omega) cP;have hI:(dP s k)=none:=by rw [← hinv,BW aZ dy ev,aL (.inl cP)]
  refine b5 (aj 2 rfl (ah (dV aA rfl rfl hi) (cG E (bB AP rfl) (AG _ (s.drop i) (j1.I E)) fun i' U E=>?_)));replace O:=O.I U;rw [wZ (show i<s.length by omega),wh];refine aj 5 rfl (J bR (aB fun fT=>eN (aa fun gh=>aj 2 rfl (kq (cr (by decide)) (a7 rfl (J gh (aI rfl (aa fun fk=>aj 2 rfl (kq (cr (by decide)) (aj 3 rfl ?_))))))))));refine kq (bD (by decide)) (aj 3 rfl (kq (bD (by decide)) (aj 3 rfl (J fk (az rfl ?_)))));have Wg:(dP s k)=none:=by first | exact hI | (rw [hf,aL (.inr (by omega))])
  exact aa fun hq=>aj 3 rfl (J hq (bn (bw (aP (bw (aP (bw (aP (nt rfl rfl rfl rfl ⟨by rw [Wg];rfl,E⟩)))))))))
 have wh:=yF (show i<s.length by omega) cP;obtain⟨_,_,bu,ee⟩:=yD (jI (show i<s.length by omega)) cP;have kH:=kC (s.drop i);rw [List.length_drop] at kH;have hf:=BW (f:=g) (out:=out) aZ dy ev;rw [hinv] at hf;have amk:¬ (((aM (s.drop i)).1:Int)=34):=fun h=>dy (dT (by rw [← ES aZ cP (by omega)];exact h));have ae1:¬ (((aM (s.drop i)).1:Int)=92):=fun h=>ev (dT (by rw [← ES aZ cP (by omega)];exact h));refine b5 (aj 2 rfl (ah (dV aA rfl rfl hi) (cG E (bB AP rfl) (AG _ (s.drop i) (j1.I E)) fun iw U E=>?_)));replace O:=O.I U;rw [wZ (show i<s.length by omega),wh];refine aj 5 rfl (J bR (aB fun gY=>eN (aa fun iB=>aj 2 rfl (kq (cr (amk)) (a7 rfl (J iB (aI rfl (aa fun jR=>aj 2 rfl ?_))))))));refine c7 (fun Ms:((aM (s.drop i)).1:Int)<32=>?_) (fun Ms=>?_)
 ·refine aj 9 rfl (J jR (az rfl ?_));have Wg:(dP s k)=none:=by first | exact hI | (rw [hf,aL (.inr (by omega))])
  exact aa fun l3=>aj 3 rfl (J l3 (bn (bw (aP (bw (aP (bw (aP (nt rfl rfl rfl rfl ⟨by rw [Wg];rfl,E⟩)))))))))
 refine aj 3 rfl ?_;refine c7 (fun asa:((aM (s.drop i)).1:Int)=65533=>?_) (fun asa=>?_)
 ·have pg:=QF (show i<s.length by omega) cP (by omega);refine aj 3 rfl (kq (cr (by omega)) (aj 3 rfl (J jR (aI rfl (aa fun kb=>aj 2 rfl (kq (cr (ae1)) (a7 rfl (J kb (aI rfl (b' (bw (av gY ?_))))))))))));refine aB fun k6=>?_;have eF:gx g (s.drop (i+(aM (s.drop i)).2)) (i+(aM (s.drop i)).2) (out++fl (aM (s.drop i)).1)=(dP s k):=by rw [hf,ak (by omega)]
  refine b5 (aj 2 rfl (cJ (bB AT rfl) (GG _ v out (aM (s.drop i)).1 O bu ee (by omega)) fun cN nd aH=>?_));obtain⟨fs,sn,qu⟩:=aH;have rZ:∀ x∈bk cN,w.heap.size≤x:=fun x ae=>(sn x ae).elim (nh x) (Nat.le_trans E.size);replace E:=E.trans' qu (fun x ae=>.inr (nh x ae));exact a7 rfl (J k6 (b5 (aj 2 rfl (ah (aS (r:=((i+(aM (s.drop i)).2:Nat):Int)) rfl rfl) (a7 rfl (cx (bw (aw (σ:=Nat×Value×ab) (s:=⟨i,v,out⟩) (⟨i+(aM (s.drop i)).2,cN,out++fl (aM (s.drop i)).1⟩) ⟨⟨by omega,by omega,by rw [List.length_append];have:=nq (aM (s.drop i)).1;omega,g,by omega,eF⟩,fs,rZ,E⟩))))))))
 refine aj 6 rfl (J jR (aI rfl (aa fun ni=>aj 2 rfl (kq (cr (ae1)) (a7 rfl (J ni (aI rfl (b' (bw (av gY (aB fun kc=>?_)))))))))));have eF:gx g (s.drop (i+(aM (s.drop i)).2)) (i+(aM (s.drop i)).2) (out++fl (aM (s.drop i)).1)=(dP s k):=by rw [hf,ak (by omega)]
 refine b5 (aj 2 rfl (cJ (bB AT rfl) (GG _ v out (aM (s.drop i)).1 O bu ee (by omega)) fun cN lF aH=>?_));obtain⟨fs,sn,qu⟩:=aH;have rZ:∀ x∈bk cN,w.heap.size≤x:=fun x ae=>(sn x ae).elim (nh x) (Nat.le_trans E.size);replace E:=E.trans' qu (fun x ae=>.inr (nh x ae));exact a7 rfl (J kc (b5 (aj 2 rfl (ah (aS (r:=((i+(aM (s.drop i)).2:Nat):Int)) rfl rfl) (a7 rfl (cx (bw (aw (σ:=Nat×Value×ab) (s:=⟨i,v,out⟩) (⟨i+(aM (s.drop i)).2,cN,out++fl (aM (s.drop i)).1⟩) ⟨⟨by omega,by omega,by rw [List.length_append];have:=nq (aM (s.drop i)).1;omega,g,by omega,eF⟩,fs,rZ,E⟩))))))))
set_option maxRecDepth 10000
def ajg:=eW Tryz.func97
def ao1:=kT (tp aR 95 [(0,1)])
theorem afJ:gX aR 95 ([.int .i64 0]):=by unfold gX;kernel_rfl
def A4:=kT (j4 aR 60 0 0 1)
def Px:=kT (pa aR 58)
def jz:=eW Tryz.func39
def ajh:=eW Tryz.func99
def qH:=eW Tryz.func57
theorem Zp (w:World) (v:JV) (us:List Value) (aBn:ao [] w v.D us):Calls aR 56 [.agg us.toArray].toArray w (bH fun u w'=>u = .bool v.plain∧Mod [] w w'):=by
 refine bs Tryz.func56 rfl fun E=>?_;obtain⟨al,cl,am,cm,rfl,k3,j3⟩:=JV.aU aBn;refine aa fun a6=>eY rfl rfl rfl fun g1 aJ bZ=>?_;have aY:=bZ.le E;replace E:=E.then bZ.mod;have R:=bZ.ar;refine a7 rfl (J a6 (aa fun aQ=>ah (aD hK rfl) (ah (bF eg rfl (R.cell rfl)) (a7 rfl (J aQ (aa fun a'=>aO rfl (ah (dA rfl rfl) ?_)))))));refine c7 (fun e5:v.kind≥0=>?_) (fun e5=>?_);rotate_left
 ·exact aj 52 rfl (J a' (bn (aG rfl rfl ⟨cf (by simp only [JV.plain];clear E aBn k3 j3 R;simp_all <;> omega),E⟩)))
 refine aj 3 rfl ?_;refine c7 (fun hle:v.kind≤5=>?_) (fun hle=>?_);rotate_left
 ·exact aj 49 rfl (J a' (bn (aG rfl rfl ⟨cf (by simp only [JV.plain];clear E aBn k3 j3 R;simp_all <;> omega),E⟩)))
 refine aj 4 rfl ?_;refine c7 (fun bC:v.kind=1=>?_) (fun bC=>?_)
 ·refine aj 9 rfl (kq (cr (by omega)) (ay (fj rfl) (ay (aD mj rfl) (ay (bF eg rfl (R.cell rfl)) (ay (k1 rfl rfl) ?_)))));refine c7 (fun Zq:v.num=0=>?_) (fun Zq=>?_)
  ·refine aj 5 rfl (kq (cr (by omega)) (ay (fj rfl) (ay (aD je rfl) (ay (bF b2 rfl (R.cell rfl)) (ay (jr rfl rfl) ?_)))));refine c7 (fun KS:v.str = []=>?_) (fun KS=>?_)
   ·refine aj 5 rfl (kq (cr (by omega)) (ay (fj rfl) (ay (aD gU rfl) (ay (bF j8 rfl (R.cell rfl)) (ay (bY hJ rfl) (ay (k1 rfl rfl) ?_))))));refine c7 (fun rS:(v.list.length:Int)=0=>?_) (fun rS=>?_)
    ·refine aj 5 rfl (kq (cr (by omega)) (ay (fj rfl) (ay (aD cd rfl) (ay (bF dM rfl (R.cell rfl)) (ay (bY cO rfl) (ay (k1 rfl rfl) ?_))))));refine c7 (fun xS:(v.map.length:Int)=0=>?_) (fun xS=>?_)
     ·exact aj 3 rfl (J a' (bn (aG rfl rfl ⟨cf (by simp only [JV.plain];clear E aBn k3 j3 R;simp_all <;> omega),E⟩)))
     exact aj 3 rfl (J a' (bn (aG rfl rfl ⟨cf (by simp only [JV.plain];clear E aBn k3 j3 R;simp_all <;> omega),E⟩)))
    exact aj 13 rfl (J a' (bn (aG rfl rfl ⟨cf (by simp only [JV.plain];clear E aBn k3 j3 R;simp_all <;> omega),E⟩)))
   exact aj 23 rfl (J a' (bn (aG rfl rfl ⟨cf (by simp only [JV.plain];clear E aBn k3 j3 R;simp_all <;> omega),E⟩)))
  exact aj 32 rfl (J a' (bn (aG rfl rfl ⟨cf (by simp only [JV.plain];clear E aBn k3 j3 R;simp_all <;> omega),E⟩)))
 refine ay (fj rfl) (ay (aD sH rfl) (ay (bF kV rfl (R.cell rfl)) (ay (fC rfl) ?_)));refine oM (fun au0:(!v.is)=true=>?_) (fun au0=>?_);rotate_left
 ·exact aj 41 rfl (J a' (bn (aG rfl rfl ⟨cf (by simp only [JV.plain];clear E aBn k3 j3 R;simp_all <;> omega),E⟩)))
 refine aj 5 rfl ?_;refine c7 (fun dh:v.kind=2=>?_) (fun dh=>?_)
 ·refine aj 9 rfl (kq (cr (by omega)) (ay (fj rfl) (ay (aD je rfl) (ay (bF b2 rfl (R.cell rfl)) (ay (jr rfl rfl) ?_)))));refine c7 (fun KS:v.str = []=>?_) (fun KS=>?_)
  ·refine aj 5 rfl (kq (cr (by omega)) (ay (fj rfl) (ay (aD gU rfl) (ay (bF j8 rfl (R.cell rfl)) (ay (bY hJ rfl) (ay (k1 rfl rfl) ?_))))));refine c7 (fun rS:(v.list.length:Int)=0=>?_) (fun rS=>?_)
   ·refine aj 5 rfl (kq (cr (by omega)) (ay (fj rfl) (ay (aD cd rfl) (ay (bF dM rfl (R.cell rfl)) (ay (bY cO rfl) (ay (k1 rfl rfl) ?_))))));refine c7 (fun xS:(v.map.length:Int)=0=>?_) (fun xS=>?_)
    ·exact aj 3 rfl (J a' (bn (aG rfl rfl ⟨cf (by simp only [JV.plain];clear E aBn k3 j3 R;simp_all <;> omega),E⟩)))
    exact aj 3 rfl (J a' (bn (aG rfl rfl ⟨cf (by simp only [JV.plain];clear E aBn k3 j3 R;simp_all <;> omega),E⟩)))
   exact aj 13 rfl (J a' (bn (aG rfl rfl ⟨cf (by simp only [JV.plain];clear E aBn k3 j3 R;simp_all <;> omega),E⟩)))
  exact aj 23 rfl (J a' (bn (aG rfl rfl ⟨cf (by simp only [JV.plain];clear E aBn k3 j3 R;simp_all <;> omega),E⟩)))
 refine ay (fj rfl) (ay (aD mj rfl) (ay (bF eg rfl (R.cell rfl)) (ay (k1 rfl rfl) ?_)));refine c7 (fun Zq:v.num=0=>?_) (fun Zq=>?_);rotate_left
 ·exact aj 32 rfl (J a' (bn (aG rfl rfl ⟨cf (by simp only [JV.plain];clear E aBn k3 j3 R;simp_all <;> omega),E⟩)))
 refine aj 5 rfl ?_;refine c7 (fun cW:v.kind=3=>?_) (fun cW=>?_)
 ·refine aj 9 rfl (kq (cr (by omega)) (ay (fj rfl) (ay (aD gU rfl) (ay (bF j8 rfl (R.cell rfl)) (ay (bY hJ rfl) (ay (k1 rfl rfl) ?_))))));refine c7 (fun rS:(v.list.length:Int)=0=>?_) (fun rS=>?_)
  ·refine aj 5 rfl (kq (cr (by omega)) (ay (fj rfl) (ay (aD cd rfl) (ay (bF dM rfl (R.cell rfl)) (ay (bY cO rfl) (ay (k1 rfl rfl) ?_))))));refine c7 (fun xS:(v.map.length:Int)=0=>?_) (fun xS=>?_)
   ·exact aj 3 rfl (J a' (bn (aG rfl rfl ⟨cf (by simp only [JV.plain];clear E aBn k3 j3 R;simp_all <;> omega),E⟩)))
   exact aj 3 rfl (J a' (bn (aG rfl rfl ⟨cf (by simp only [JV.plain];clear E aBn k3 j3 R;simp_all <;> omega),E⟩)))
  exact aj 13 rfl (J a' (bn (aG rfl rfl ⟨cf (by simp only [JV.plain];clear E aBn k3 j3 R;simp_all <;> omega),E⟩)))
 refine ay (fj rfl) (ay (aD je rfl) (ay (bF b2 rfl (R.cell rfl)) (ay (jr rfl rfl) ?_)));refine c7 (fun KS:v.str = []=>?_) (fun KS=>?_)
 ·refine aj 5 rfl ?_;refine c7 (fun dB:v.kind=4=>?_) (fun dB=>?_)
  ·refine aj 10 rfl (kq (cr (by omega)) (ay (fj rfl) (ay (aD cd rfl) (ay (bF dM rfl (R.cell rfl)) (ay (bY cO rfl) (ay (k1 rfl rfl) ?_))))));refine c7 (fun xS:(v.map.length:Int)=0=>?_) (fun xS=>?_)
   ·exact aj 3 rfl (J a' (bn (aG rfl rfl ⟨cf (by simp only [JV.plain];clear E aBn k3 j3 R;simp_all <;> omega),E⟩)))
   exact aj 3 rfl (J a' (bn (aG rfl rfl ⟨cf (by simp only [JV.plain];clear E aBn k3 j3 R;simp_all <;> omega),E⟩)))
  refine ay (fj rfl) (ay (aD gU rfl) (ay (bF j8 rfl (R.cell rfl)) (ay (bY hJ rfl) (ay (k1 rfl rfl) ?_))));refine c7 (fun rS:(v.list.length:Int)=0=>?_) (fun rS=>?_)
  ·refine aj 5 rfl ?_;refine c7 (fun fc:v.kind=5=>?_) (fun fc=>?_)
   ·exact aj 8 rfl (J a' (bn (aG rfl rfl ⟨cf (by simp only [JV.plain];clear E aBn k3 j3 R;simp_all <;> omega),E⟩)))
   refine ay (fj rfl) (ay (aD cd rfl) (ay (bF dM rfl (R.cell rfl)) (ay (bY cO rfl) (ay (k1 rfl rfl) ?_))));refine c7 (fun xS:(v.map.length:Int)=0=>?_) (fun xS=>?_)
   ·exact aj 3 rfl (J a' (bn (aG rfl rfl ⟨cf (by simp only [JV.plain];clear E aBn k3 j3 R;simp_all <;> omega),E⟩)))
   exact aj 3 rfl (J a' (bn (aG rfl rfl ⟨cf (by simp only [JV.plain];clear E aBn k3 j3 R;simp_all <;> omega),E⟩)))
  exact aj 13 rfl (J a' (bn (aG rfl rfl ⟨cf (by simp only [JV.plain];clear E aBn k3 j3 R;simp_all <;> omega),E⟩)))
 exact aj 23 rfl (J a' (bn (aG rfl rfl ⟨cf (by simp only [JV.plain];clear E aBn k3 j3 R;simp_all <;> omega),E⟩)))
theorem Zr (w:World) (x:Bool):Calls aR 97 [.bool x].toArray w (bH fun u w'=>u=S (if x then JV.jT else JV.hP)∧Mod [] w w'):=by
 refine bs Tryz.func97 rfl fun E=>aa fun a6=>a7 rfl (J a6 (aB fun aQ=>aa fun a'=>aO rfl (J a' ?_)));refine a1 rfl (fun bb=>?_) (fun bb=>?_)
 ·exact aa fun bp=>a7 rfl (J bp (bn (aP (aG rfl rfl ⟨by rw [bb];rfl,E⟩))))
 exact b' (av aQ (aa fun bx=>a7 rfl (J bx (bn (aG rfl rfl ⟨by rw [bb];rfl,E⟩)))))
theorem aec (w:World) (x:Bool):Calls aR 58 [.bool x].toArray w (bH fun u w'=>u=S (if x then JV.jT else JV.hP)∧Mod [] w w'):=by
 exact bs Tryz.func58 rfl fun E=>aa fun a6=>a7 rfl (J a6 (aa fun aQ=>aO rfl (cG E (bB ajg rfl) (Zr _ _) fun aJ U E=>a7 rfl (J aQ (bn (aG rfl rfl ⟨rfl,E⟩))))))
theorem hv (w:World) (e:Int):Calls aR 39 [.int .i64 e].toArray w (au1 95 e w):=by
 exact l9 Tryz.func39 rfl (b5 (aO rfl (ah (Ct ao1 afJ rfl rfl) (ah (MB Tryz.underlying95 rfl rfl) (XH rfl (ff ⟨rfl,rfl⟩))))))
theorem nE (w:World) (g:Nat) (u:Value) (b:ab) (Tk:xT w g 60 u b) (t:ab) (bW:t.length≤1000000):Calls aR 57 [.pointer (some ⟨g,0,none⟩),S t].toArray w (C1 w g 60 95 u (cK (b++t))):=by
 refine la Tryz.func57 rfl (aB fun a6=>?_);have H:=mh.init Tk;refine b5 (aj 3 rfl (ah (aD A4 rfl) (ah (bF Px rfl (H.vn.ar.cell rfl)) (aO rfl (bz di rfl rfl H.vn.own (Src.str aA t) (by decide) (by have:=H.vn.len;omega) (by have:=H.vn.len;omega) rfl fun hN aJ ek=>?_)))));have fs:iD aJ hN (b++t):=ek.own.same (by simp) (by simp [dt,ku]);obtain⟨qR,c1,rfl,eQ,h3⟩:=fs.form;have iu:=H.vn.ar.mod ek.mod (fun ae=>H.vn.ne _ ae rfl);refine ah (eS rfl) (ah (aD A4 rfl) (cL Px iu rfl rfl fun cX au2=>?_));have ayC:=au2.ar;have aAe:=H.app ek au2.mod;refine J a6 (aa fun aQ=>aj 2 rfl (ah (aD A4 rfl) (ah (bF Px rfl (ayC.cell rfl)) (ah (bY da rfl) (ah (hV rfl rfl) (J aQ ?_))))));refine aX rfl (fun Bw=>?_) (fun Bw=>?_)
 ·refine b5 ?_;refine h6 (bB jz rfl) (hv _ 3) rfl (fun db aH=>aH.elim) (fun oU gr aH=>?_) fun cN gr aH=>?_
  ·obtain⟨rfl,rfl⟩:=aH;exact ff ⟨3,aL (by omega),by decide,rfl,aAe⟩
  exact aH.elim
 exact b' (lP rfl ((H.ao2 ek fs au2.mod ayC (by omega)).fin (ak (by omega))))
theorem C2 (w:World) (g:Nat) (u:Value) (b:ab) (Tk:xT w g 60 u b) (s:ab):Calls aR 60 [.pointer (some ⟨g,0,none⟩),S s].toArray w (C1 w g 60 95 u (gm b s)):=by
 refine la Tryz.func60 rfl (aB fun a6=>aB fun aQ=>?_);have H:=mh.init Tk;refine b5 (aO rfl (ah (bQ aA rfl) (ah (hV rfl rfl) (J aQ ?_))));refine aX rfl (fun lZ=>?_) (fun lZ=>?_)
 ·refine b5 ?_;refine h6 (bB jz rfl) (hv _ 3) rfl (fun db aH=>aH.elim) (fun oU aJ aH=>?_) fun cN aJ aH=>?_
  ·obtain⟨rfl,rfl⟩:=aH;exact aP (ff (H.fail (aL (by omega))))
  exact aH.elim
 refine b' (av a6 (aa fun a'=>aO rfl (Xw (bB ajh rfl) (ad9 _ s (by omega)) fun cX U=>?_)));replace H:=H.I U;refine aj 5 rfl (J a' (aB fun bp=>aa fun bx=>aj 2 rfl (J bx ?_)));refine a1 rfl (fun oG=>?_) (fun oG=>?_)
 ·have bI:cC s=false:=by simpa using oG
  refine b5 ?_;refine h6 (bB jz rfl) (hv _ 1) rfl (fun db aH=>aH.elim) (fun oU gr aH=>?_) fun cN gr aH=>?_
  ·obtain⟨rfl,rfl⟩:=aH;exact aP (ff (H.fail (by rw [gm,ak (by omega),bI];rfl)))
  exact aH.elim
 have bI:cC s=true:=by simpa using oG
 refine b' (av bp (b5 (aj 2 rfl ?_)));have Qb:=nX s;have ab3:(cM s).length=(dI s).length+2:=by simp [cM]
 rw [bI,aL rfl];refine h6 (bB qH rfl) (nE _ _ _ _ H.vn (cM s) (by omega)) rfl (fun db aH=>aH.elim) (fun oU h8 aH=>?_) fun cN h8 aH=>?_
 ·have cc:=H.panic (r:=gm b s) aH (fun e he=>by rw [gm,ak (by omega),bI];exact he);exact ff cc
 obtain⟨hN,dN,fu,H1,qu,sn⟩:=H.ret aH;replace H:=H1;exact cx (lP rfl (H.fin (r:=gm b s) (by rw [gm,ak (by omega),bI];exact fu)))
theorem FD (w:World) (g:Nat) (u:Value) (b:ab) (Tk:xT w g 60 u b) (k:Nat):Calls aR 61 [.pointer (some ⟨g,0,none⟩),.int .i64 (k:Int)].toArray w (C1 w g 60 95 u (if k=0 then .ok b else cK (b ++ [44]))):=by
 refine la Tryz.func61 rfl (aB fun a6=>?_);have H:=mh.init Tk;refine b5 (aj 2 rfl (J a6 ?_));refine aX rfl (fun cZ=>?_) (fun cZ=>?_)
 ·skip
  refine b5 (aO rfl ?_);refine h6 (bB qH rfl) (nE _ _ _ _ H.vn [44] (by simp)) rfl (fun db aH=>aH.elim) (fun oU aJ aH=>?_) fun cN aJ aH=>?_
  ·have cc:=H.panic (r:=if k=0 then .ok b else cK (b ++ [44])) aH (fun e he=>by rw [ak (by omega)];exact he);exact ff cc
  obtain⟨hN,dN,fu,H1,qu,sn⟩:=H.ret aH;replace H:=H1;exact cx (lP rfl (H.fin (by rw [ak (by omega)];exact fu)))
 skip
 exact b' (lP rfl (H.fin (by rw [aL (by omega)])))
set_option maxRecDepth 10000
def aji:=eW Tryz.func58
def NC:=eW Tryz.func60
def Zs:=eW Tryz.func61
def Hy:=eW Tryz.func30
def ajj:=eW Tryz.func56
theorem Hz (N:Nat) (ea:∀ (w:World) (v:JV) (us:List Value) (deep:Nat) (b:ab) (u:Value) (g:Nat),v.sz≤N→xT w g 60 u b→ao (g::bk u) w v.D us→deep≤32→pd w→Om∉g::bk u→Calls aR 30 [.pointer (some ⟨g,0,none⟩),.agg us.toArray,.int .i64 (deep:Int)].toArray w (C1 w g 60 95 u (v.wr deep b))) (w:World) (v:JV) (us:List Value) (deep:Nat) (b:ab) (u:Value) (g:Nat) (gy:v.sz≤N+1) (Tk:xT w g 60 u b) (aBn:ao (g::bk u) w v.D us) (bT:deep≤32) (kp:pd w) (pe:Om∉g::bk u):Calls aR 30 [.pointer (some ⟨g,0,none⟩),.agg us.toArray,.int .i64 (deep:Int)].toArray w (C1 w g 60 95 u (v.wr deep b)):=by
 refine CA Tryz.func30 rfl ?_;obtain⟨al,cl,am,cm,rfl,k3,j3⟩:=JV.aU aBn;have Th:=(JV.bX k3 j3).eu (A':=[]) (by simp);refine mU fun K1 a6=>?_;have H:=mh.init Tk;refine b5 (eY rfl rfl rfl fun g1 aJ bZ=>?_);replace H:=H.I bZ.mod;have R:=bZ.ar;have K1:=xU.Uo Tk R (by have:=bZ.at_;omega);refine J a6 (mU fun K2 aQ=>?_);have J2:∀ (aJ:World),v.bare=true∧(v.kind≥4→deep<32)∧mh w aJ u g 60 u b∧xU aJ g u g1 25 [.int .i64 v.kind,.bool v.is,.int .i64 v.num,S v.str,.slice al v.list.length cl,.slice am v.map.length cm]→∀ a,Has 128 [] [(0,.pointer (some ⟨g,0,none⟩)),(2,.int .i64 (deep:Int)),(4,.pointer (some ⟨g1,0,none⟩))] a→K2 a aJ:=by
  intro cX lI;obtain⟨qs,Zt,H,K1⟩:=lI;refine aQ _ _ _ _ (aa fun a'=>ah (aD hK rfl) (ah (bF eg rfl (K1.ar.cell rfl)) (J a' (eN (aa fun bp=>aj 2 rfl (J bp ?_))))));refine aX rfl (fun qS=>?_) (fun qS=>?_)
  ·have cH:¬ v.bare=false:=by rw [qs];simp
   refine b5 (aO rfl ?_);refine h6 (bB qH rfl) (nE _ _ _ _ H.vn JV.kM (by simp)) rfl (fun db aH=>aH.elim) (fun oU gr aH=>?_) fun cN gr aH=>?_
   ·have cc:=H.panic (r:=v.wr deep b) aH (fun e he=>by rw [JV.en,ak cH,aL qS];exact he);exact bw (ff cc)
   obtain⟨hN,dN,fu,H1,qu,sn⟩:=H.ret aH;replace H:=H1;exact cx (bw (lP rfl (H.fin (r:=v.wr deep b) (by rw [JV.en,ak cH,aL qS];exact fu))))
  have cH:¬ v.bare=false:=by rw [qs];simp
  refine aa fun bx=>aj 2 rfl (J bx ?_);refine aX rfl (fun vO=>?_) (fun vO=>?_)
  ·refine b5 (aO rfl (ah (aD sH rfl) (ah (bF kV rfl (K1.ar.cell rfl)) (Xw (bB aji rfl) (aec _ _) fun h8 U=>?_))));replace H:=H.I U;replace K1:=K1.I U;refine h6 (bB qH rfl) (nE _ _ _ _ H.vn (if v.is then JV.jT else JV.hP) (by split <;> simp)) rfl (fun db aH=>aH.elim) (fun oU iS aH=>?_) fun cN iS aH=>?_
   ·have cc:=H.panic (r:=v.wr deep b) aH (fun e he=>by rw [JV.en,ak cH,ak qS,aL vO];exact he);exact bw (ff cc)
   obtain⟨hN,dN,fu,H1,qu,sn⟩:=H.ret aH;replace H:=H1;exact cx (bw (lP rfl (H.fin (r:=v.wr deep b) (by rw [JV.en,ak cH,ak qS,aL vO];exact fu))))
  refine aa fun bO=>aj 2 rfl (J bO ?_);refine aX rfl (fun KT=>?_) (fun KT=>?_)
  ·refine b5 (aO rfl (ah (aD mj rfl) (ah (bF eg rfl (K1.ar.cell rfl)) ?_)));obtain⟨agb,oN⟩:=yq qs KT;have ab5:=Lib.itoa_length_le v.num (by omega) (by omega);refine Xw (bB sK rfl) (pM _ v.num (by omega) (by omega) (kp.mod H.mod pe)) fun i' U=>?_;replace H:=H.I U;replace K1:=K1.I U;refine h6 (bB qH rfl) (nE _ _ _ _ H.vn (Lib.itoa v.num) (by omega)) rfl (fun db aH=>aH.elim) (fun oU iw aH=>?_) fun cN iw aH=>?_
   ·have cc:=H.panic (r:=v.wr deep b) aH (fun e he=>by rw [JV.en,ak cH,ak qS,ak vO,aL KT];exact he);exact bw (ff cc)
   obtain⟨hN,dN,fu,H1,qu,sn⟩:=H.ret aH;replace H:=H1;exact cx (bw (lP rfl (H.fin (r:=v.wr deep b) (by rw [JV.en,ak cH,ak qS,ak vO,aL KT];exact fu))))
  refine mU fun K7 b4=>b5 (aj 2 rfl (J b4 ?_));refine aX rfl (fun wT=>?_) (fun wT=>?_)
  ·refine b5 (aO rfl (ah (aD je rfl) (ah (bF b2 rfl (K1.ar.cell rfl)) ?_)));refine h6 (bB NC rfl) (C2 _ _ _ _ H.vn v.str) rfl (fun db aH=>aH.elim) (fun oU nd aH=>?_) fun cN nd aH=>?_
   ·have cc:=H.panic (r:=v.wr deep b) aH (fun e he=>by rw [JV.en,ak cH,ak qS,ak vO,ak KT,aL wT];exact he);exact bw (ff cc)
   obtain⟨hN,dN,fu,H1,qu,sn⟩:=H.ret aH;replace H:=H1;exact cx (bw (lP rfl (H.fin (r:=v.wr deep b) (by rw [JV.en,ak cH,ak qS,ak vO,ak KT,aL wT];exact fu))))
  refine aa fun cw=>aj 2 rfl (J cw ?_);refine aX rfl (fun Im=>?_) (fun Im=>?_)
  ·refine mU fun yO cy=>?_;have au3:=Zt (by omega);have sD:v.wr deep b=((cK (b ++ [91])).bind fun b=>JV.ji v.list deep true b).bind fun b=>cK (b ++ [93]):=by rw [JV.en,ak cH,ak qS,ak vO,ak KT,ak wT,ak (by omega),aL Im];cases cK (b ++ [91]) <;> rfl
   refine b5 (aO rfl ?_);refine h6 (bB qH rfl) (nE _ _ _ _ H.vn [91] (by simp)) rfl (fun db aH=>aH.elim) (fun oU lF aH=>?_) fun cN lF aH=>?_
   ·have cc:=H.panic (r:=v.wr deep b) aH (fun e he=>by rw [sD,he];rfl);exact aP (bw (ff cc))
   obtain⟨hN,dN,fu,H1,qu,sn⟩:=H.ret aH;replace H:=H1;replace K1:=K1.step qu sn;refine J cy (aB fun b6=>aa fun bR=>ah (aD gU rfl) (ah (bF j8 rfl (K1.ar.cell rfl)) (ah (bY hJ rfl) (aO rfl (J bR (eN (bK (σ:=Nat×Value×ab) (fun⟨k,kR,fz⟩=>[(0,.pointer (some ⟨g,0,none⟩)),(2,.int .i64 (deep:Int)),(4,.pointer (some ⟨g1,0,none⟩)),(65,.slice al v.list.length cl),(66,.int .i64 (v.list.length:Int)),(67,.int .i64 (k:Int))]) (fun⟨k,kR,fz⟩ aJ=>k≤v.list.length∧JV.ji (v.list.drop k) deep (decide (k=0)) fz=((cK (b ++ [91])).bind fun b=>JV.ji v.list deep true b)∧mh w aJ u g 60 kR fz∧xU aJ g kR g1 25 [.int .i64 v.kind,.bool v.is,.int .i64 v.num,S v.str,.slice al v.list.length cl,.slice am v.map.length cm]) (fun⟨k,kR,fz⟩=>v.list.length-k) (⟨0,hN,dN⟩) (⟨by omega,by rw [fu];rfl,H,K1⟩) ?_)))))));rintro⟨k,kR,fz⟩ h2 ⟨hk,hinv,H,K1⟩;refine aa fun cv=>ah (cT rfl rfl) (J cv (aB fun bV=>?_));refine aX rfl (fun H4=>?_) (fun H4=>?_);rotate_left
   ·have hI:((cK (b ++ [91])).bind fun b=>JV.ji v.list deep true b) = .ok fz:=by rw [← hinv,Iu (by omega)]
    refine bL (aP (aP (ch (av b6 (b5 (aO rfl ?_))))));refine h6 (bB qH rfl) (nE _ _ _ _ H.vn [93] (by simp)) rfl (fun db aH=>aH.elim) (fun oU nj aH=>?_) fun cN nj aH=>?_
    ·have cc:=H.panic (r:=v.wr deep b) aH (fun e he=>by rw [sD,hI];exact he);exact bw (ff cc)
    obtain⟨akr,aAf,ajk,au5,HA,Zu⟩:=H.ret aH;replace H:=au5;exact cx (bw (lP rfl (H.fin (r:=v.wr deep b) (by rw [sD,hI];exact ajk))))
   obtain⟨x,bS⟩:∃ x,v.list[k]? = some x:=⟨_,List.getElem?_eq_getElem (by omega)⟩;have agk:=JV.qk (H.rep k3);refine b' (av bV (aB fun cE=>eN (aa fun cI=>aO rfl ?_)));obtain⟨kJ,lz,dW,eJ,cA⟩:=JV.zp (H.rep k3) bS;obtain⟨j9,j',jf,ik,rfl,lA,mD⟩:=JV.aU eJ;have jg:=JV.qk (H.rep k3);cases dW;refine ah (c8 kt rfl rfl (by omega)) (ah (fb au rfl rfl cA) ?_);have KV:=Mod.refl [] h2;refine bj bA rfl fun g2 jJ cz=>?_;have Py:=cz.le KV;replace KV:=KV.then cz.mod;have ag:=cz.ar;refine a7 rfl (aK au ag rfl rfl fun mo l0=>?_);replace KV:=KV.own l0.mod Py;replace ag:aF mo g2 _ [_,_,_,_,_,_]:=l0.ar;have K7:=xU.Uo H.vn ag (Py);replace H:=H.I KV;replace K1:=K1.I KV;replace eJ:=eJ.I KV;refine J cI (aa fun dr=>aj 2 rfl ?_);refine h6 (bB Zs rfl) (FD _ _ _ _ H.vn k) rfl (fun db aH=>aH.elim) (fun oU mT aH=>?_) fun cN mT aH=>?_
   ·have cc:=H.panic (r:=v.wr deep b) aH (fun e he=>by rw [sD,← afK bS hinv,he];rfl);exact aP (bw (aP (aP (bw (aP (bw (ff cc)))))))
   obtain⟨Q8,mW,wU,au4,Bq,Ed⟩:=H.ret aH;replace H:=au4;replace K1:=K1.step Bq Ed;replace K7:=K7.step Bq Ed;replace eJ:=eJ.zc Bq Ed;have nk:=afK bS hinv;rw [wU] at nk;replace nk:=vU nk;refine J dr (b5 (aO rfl (ah (br au rfl (K7.ar.cs rfl)) (aO rfl (ah (aS (r:=((deep+1:Nat):Int)) rfl rfl) ?_)))));refine h6 (bB Hy rfl) (ea _ x _ (deep+1) _ _ _ (by have:=JV.il (List.mem_of_getElem? bS);omega) H.vn eJ (by omega) (kp.mod H.mod pe) (fun h=>(H.CH _ h).elim pe (fun h=>by have:=kp.lt;omega))) rfl (fun db aH=>aH.elim) (fun oU lK aH=>?_) fun cN lK aH=>?_
   ·have cc:=H.panic (r:=v.wr deep b) aH (fun e he=>by rw [sD,← nk,he];rfl);exact bw (aP (aP (bw (aP (bw (ff cc))))))
   obtain⟨MH,HP,Gk,ao3,vm,Az⟩:=H.ret aH;replace H:=ao3;replace K1:=K1.step vm Az;have lU:=nk;rw [Gk] at lU;replace lU:=vU lU;exact cx (bw (av cE (b5 (ah (bt rfl rfl (by omega)) (aO rfl (cx (aw (σ:=Nat×Value×ab) (s:=⟨k,kR,fz⟩) (⟨k+1,MH,HP⟩) ⟨by omega,lU,H,K1⟩)))))))
  refine aa fun ec=>aj 2 rfl (J ec ?_);refine aX rfl (fun ao4=>?_) (fun ao4=>?_);rotate_left
  ·exact absurd (show v.kind=5 by have:=JV.sR qs;omega) ao4
  refine aB fun dG=>?_;have au3:=Zt (by omega);have sD:v.wr deep b=((cK (b ++ [123])).bind fun b=>JV.gA v.map deep none b).bind fun b=>cK (b ++ [125]):=by rw [JV.en,ak cH,ak qS,ak vO,ak KT,ak wT,ak (by omega),ak Im];cases cK (b ++ [123]) <;> rfl
  refine b5 (aO rfl ?_);refine h6 (bB qH rfl) (nE _ _ _ _ H.vn [123] (by simp)) rfl (fun db aH=>aH.elim) (fun oU pJ aH=>?_) fun cN pJ aH=>?_
  ·have cc:=H.panic (r:=v.wr deep b) aH (fun e he=>by rw [sD,he];rfl);exact aP (bw (ff cc))
  obtain⟨hN,dN,fu,H1,qu,sn⟩:=H.ret aH;replace H:=H1;replace K1:=K1.step qu sn;refine J dG (aB fun eV=>aa fun eO=>ah (aD cd rfl) (ah (bF dM rfl (K1.ar.cell rfl)) (ah (bY cO rfl) (aO rfl (J eO (eN (bK (σ:=Nat×Value×ab) (fun⟨k,kR,fz⟩=>[(0,.pointer (some ⟨g,0,none⟩)),(2,.int .i64 (deep:Int)),(4,.pointer (some ⟨g1,0,none⟩)),(88,.slice am v.map.length cm),(89,.int .i64 (v.map.length:Int)),(90,.int .i64 (k:Int))]) (fun⟨k,kR,fz⟩ aJ=>k≤v.map.length∧JV.gA (v.map.drop k) deep (jv v.map k) fz=((cK (b ++ [123])).bind fun b=>JV.gA v.map deep none b)∧mh w aJ u g 60 kR fz∧xU aJ g kR g1 25 [.int .i64 v.kind,.bool v.is,.int .i64 v.num,S v.str,.slice al v.list.length cl,.slice am v.map.length cm]) (fun⟨k,kR,fz⟩=>v.map.length-k) (⟨0,hN,dN⟩) (⟨by omega,by rw [fu];rfl,H,K1⟩) ?_)))))));rintro⟨k,kR,fz⟩ qT ⟨hk,hinv,H,K1⟩;refine aa fun eC=>ah (cT rfl rfl) (J eC (aB fun eP=>?_));refine aX rfl (fun au6=>?_) (fun au6=>?_);rotate_left
  ·have hI:((cK (b ++ [123])).bind fun b=>JV.gA v.map deep none b) = .ok fz:=by rw [← hinv,IC (by omega)]
   refine bL (aP (aP (ch (av eV (b5 (aO rfl ?_))))));refine h6 (bB qH rfl) (nE _ _ _ _ H.vn [125] (by simp)) rfl (fun db aH=>aH.elim) (fun oU Gj aH=>?_) fun cN Gj aH=>?_
   ·have cc:=H.panic (r:=v.wr deep b) aH (fun e he=>by rw [sD,hI];exact he);exact bw (ff cc)
   obtain⟨akr,aAf,ajk,au5,HA,Zu⟩:=H.ret aH;replace H:=au5;exact cx (bw (lP rfl (H.fin (r:=v.wr deep b) (by rw [sD,hI];exact ajk))))
  obtain⟨x,bS⟩:∃ x,v.map[k]? = some x:=⟨_,List.getElem?_eq_getElem (by omega)⟩;have agk:=JV.iA (H.rep j3);refine b' (av eP (aB fun fw=>eN (aa fun fT=>aO rfl ?_)));obtain⟨kJ,lz,dW,eJ,cA⟩:=JV.kQ (H.rep j3) bS;obtain⟨j9,j',jf,ik,rfl,lA,mD⟩:=JV.aU eJ;have jg:=JV.iA (H.rep j3);cases dW;refine ah (c8 dk rfl rfl (by omega)) (ah (fb jL rfl rfl cA) ?_);have KV:=Mod.refl [] qT;refine bj eU rfl fun g3 qU dF=>?_;have Pz:=dF.le KV;replace KV:=KV.then dF.mod;have bd:=dF.ar;refine a7 rfl (nf jL bd rfl rfl fun qV mY=>?_);replace KV:=KV.own mY.mod Pz;replace bd:aF qV g3 _ [_,_,_,_,_,_,_]:=mY.ar;have yO:=xU.Uo H.vn bd (Pz);replace H:=H.I KV;replace K1:=K1.I KV;replace eJ:=eJ.I KV;refine J fT (aa fun gh=>aj 2 rfl ?_);refine h6 (bB Zs rfl) (FD _ _ _ _ H.vn k) rfl (fun db aH=>aH.elim) (fun oU pK aH=>?_) fun cN pK aH=>?_
  ·have cc:=H.panic (r:=v.wr deep b) aH (fun e he=>by rw [sD,← afL bS hinv,he];rfl);exact aP (bw (aP (aP (bw (aP (bw (ff cc)))))))
  obtain⟨Q8,mW,wU,au4,Bq,Ed⟩:=H.ret aH;replace H:=au4;replace K1:=K1.step Bq Ed;replace yO:=yO.step Bq Ed;replace eJ:=eJ.zc Bq Ed;have nk:=afL bS hinv;rw [wU] at nk;replace nk:=vU nk;refine J gh (aB fun fk=>aB fun hq=>?_)
  by_cases eB:(k:Int) > 0
  rotate_left
  ·have C3:=KY (m:=v.map) (k:=k) (x:=x) (by omega);refine cn wide (by kernel_rfl) (hF 3 rfl rfl (fP rfl (cr eB) (fP rfl (cr eB) (fP rfl (cr eB) (fP rfl (cr eB) (fP rfl (cr eB) (fP rfl (cr eB) (fP rfl (cr eB) (fP rfl (cr eB) (fP rfl (cr eB) (fP rfl (cr eB) (ax (fun U=>(hG (cr eB) rfl rfl)) (cq rfl fun DD U=>?_)))))))))))));replace H:=H.I U;replace K1:=K1.I U;replace eJ:=eJ.I U;replace yO:=yO.I U;refine av hq (aI rfl (b' (av fk (aB fun jR=>?_))));have lU:=nk;rw [C3] at lU;replace lU:=vU lU;refine b5 (aO rfl (ah (aD e3 rfl) (ah (bF b2 rfl (yO.ar.cell rfl)) ?_)));refine h6 (bB NC rfl) (C2 _ _ _ _ H.vn x.1) rfl (fun db aH=>aH.elim) (fun oU ys aH=>?_) fun cN ys aH=>?_
   ·have cc:=H.panic (r:=v.wr deep b) aH (fun e he=>by rw [sD,← lU,he];rfl);exact aP (bw (aP (aP (bw (aP (bw (ff cc)))))))
   obtain⟨MH,HP,Gk,ao3,vm,Az⟩:=H.ret aH;replace H:=ao3;replace K1:=K1.step vm Az;replace yO:=yO.step vm Az;replace eJ:=eJ.zc vm Az;have qI:=lU;rw [Gk] at qI;replace qI:=vU qI;refine J jR (aa fun l3=>aO rfl ?_);refine h6 (bB qH rfl) (nE _ _ _ _ H.vn [58] (by simp)) rfl (fun db aH=>aH.elim) (fun oU Bz aH=>?_) fun cN Bz aH=>?_
   ·have cc:=H.panic (r:=v.wr deep b) aH (fun e he=>by rw [sD,← qI,he];rfl);exact aP (bw (aP (aP (bw (aP (bw (ff cc)))))))
   obtain⟨DB,atq,MC,au7,vS,Ee⟩:=H.ret aH;replace H:=au7;replace K1:=K1.step vS Ee;replace yO:=yO.step vS Ee;replace eJ:=eJ.zc vS Ee;have qJ:=qI;rw [MC] at qJ;replace qJ:=vU qJ;refine J l3 (b5 (aO rfl (ah (aD iO rfl) (ah (br au rfl (yO.ar.cs rfl)) (aO rfl (ah (aS (r:=((deep+1:Nat):Int)) rfl rfl) ?_))))));refine h6 (bB Hy rfl) (ea _ x.2 _ (deep+1) _ _ _ (by have:=JV.hU (List.mem_of_getElem? bS);omega) H.vn eJ (by omega) (kp.mod H.mod pe) (fun h=>(H.CH _ h).elim pe (fun h=>by have:=kp.lt;omega))) rfl (fun db aH=>aH.elim) (fun oU L7 aH=>?_) fun cN L7 aH=>?_
   ·have cc:=H.panic (r:=v.wr deep b) aH (fun e he=>by rw [sD,← qJ,he];rfl);exact bw (aP (aP (bw (aP (bw (ff cc))))))
   obtain⟨Dq,au8,ajl,au9,vg,KX⟩:=H.ret aH;replace H:=au9;replace K1:=K1.step vg KX;have tc:=qJ;rw [ajl] at tc;replace tc:=vU tc;exact cx (bw (av fw (b5 (ah (bt rfl rfl (by omega)) (aO rfl (cx (aw (σ:=Nat×Value×ab) (s:=⟨k,kR,fz⟩) (⟨k+1,Dq,au8⟩) ⟨by omega,tc,H,K1⟩)))))))
  obtain⟨q,jU⟩:∃ q,v.map[k-1]? = some q:=⟨_,List.getElem?_eq_getElem (by omega)⟩;obtain⟨Iw,T6,tR,L9,jw⟩:=JV.kQ (H.rep j3) jU;obtain⟨Oo,Oq,Ot,Ou,rfl,T7,alr⟩:=JV.aU L9;have ab8:=JV.iA (H.rep j3);cases tR
  by_cases A5:(!fx q.1 x.1)=true
  ·have C3:zd v.map k x=false:=by rw [ze jU (by omega)];simpa using A5
   refine cn wide (by kernel_rfl) (hF 3 rfl rfl (a8 (bD eB) (fun U=>(aD cd rfl)) (a8 (bD eB) (fun U=>(bF dM rfl ((K1.ar.I U).cell rfl))) (a8 (bD eB) (fun U=>(fj rfl)) (a8 (bD eB) (fun U=>(eZ (r:=((k-1:Nat):Int)) rfl rfl)) (a8 (bD eB) (fun U=>(c8 dk rfl rfl (by omega))) (a8 (bD eB) (fun U=>(fY e3 rfl)) (a8 (bD eB) (fun U=>(bF b2 rfl ((jw.I U) 0 _ rfl))) (a8 (bD eB) (fun U=>(aD e3 rfl)) (a8 (bD eB) (fun U=>(bF b2 rfl ((yO.ar.I U).cell rfl))) (a8 (bD eB) (fun U=>(Cr rfl rfl)) (ax (fun U=>(oH (bD eB) rfl rfl)) (cq rfl fun ts U=>?_)))))))))))));replace H:=H.I U;replace K1:=K1.I U;replace eJ:=eJ.I U;replace yO:=yO.I U;refine av hq ?_;refine a1 rfl (fun KW=>?_) (fun KW=>absurd (A5.symm.trans KW) (by decide));refine b5 ?_;refine h6 (bB jz rfl) (hv _ 1) rfl (fun db aH=>aH.elim) (fun oU sJ aH=>?_) fun cN sJ aH=>?_
   ·obtain⟨rfl,rfl⟩:=aH;exact aP (bw (aP (aP (bw (aP (bw (ff (H.fail (by rw [sD,← nk,C3];rfl)))))))))
   exact aH.elim
  have C3:zd v.map k x=true:=by rw [ze jU (by omega)];simpa using A5
  refine cn wide (by kernel_rfl) (hF 3 rfl rfl (a8 (bD eB) (fun U=>(aD cd rfl)) (a8 (bD eB) (fun U=>(bF dM rfl ((K1.ar.I U).cell rfl))) (a8 (bD eB) (fun U=>(fj rfl)) (a8 (bD eB) (fun U=>(eZ (r:=((k-1:Nat):Int)) rfl rfl)) (a8 (bD eB) (fun U=>(c8 dk rfl rfl (by omega))) (a8 (bD eB) (fun U=>(fY e3 rfl)) (a8 (bD eB) (fun U=>(bF b2 rfl ((jw.I U) 0 _ rfl))) (a8 (bD eB) (fun U=>(aD e3 rfl)) (a8 (bD eB) (fun U=>(bF b2 rfl ((yO.ar.I U).cell rfl))) (a8 (bD eB) (fun U=>(Cr rfl rfl)) (ax (fun U=>(oH (bD eB) rfl rfl)) (cq rfl fun tP U=>?_)))))))))))));replace H:=H.I U;replace K1:=K1.I U;replace eJ:=eJ.I U;replace yO:=yO.I U;refine av hq (a1 rfl (fun KW=>absurd ((ew A5).symm.trans KW) (by decide)) (fun KW=>b' (av fk (aB fun gY=>?_))));have lU:=nk;rw [C3] at lU;replace lU:=vU lU;refine b5 (aO rfl (ah (aD e3 rfl) (ah (bF b2 rfl (yO.ar.cell rfl)) ?_)));refine h6 (bB NC rfl) (C2 _ _ _ _ H.vn x.1) rfl (fun db aH=>aH.elim) (fun oU ve aH=>?_) fun cN ve aH=>?_
  ·have cc:=H.panic (r:=v.wr deep b) aH (fun e he=>by rw [sD,← lU,he];rfl);exact aP (bw (aP (aP (bw (aP (bw (ff cc)))))))
  obtain⟨MH,HP,Gk,ao3,vm,Az⟩:=H.ret aH;replace H:=ao3;replace K1:=K1.step vm Az;replace yO:=yO.step vm Az;replace eJ:=eJ.zc vm Az;have qI:=lU;rw [Gk] at qI;replace qI:=vU qI;refine J gY (aa fun iB=>aO rfl ?_);refine h6 (bB qH rfl) (nE _ _ _ _ H.vn [58] (by simp)) rfl (fun db aH=>aH.elim) (fun oU DC aH=>?_) fun cN DC aH=>?_
  ·have cc:=H.panic (r:=v.wr deep b) aH (fun e he=>by rw [sD,← qI,he];rfl);exact aP (bw (aP (aP (bw (aP (bw (ff cc)))))))
  obtain⟨DB,atq,MC,au7,vS,Ee⟩:=H.ret aH;replace H:=au7;replace K1:=K1.step vS Ee;replace yO:=yO.step vS Ee;replace eJ:=eJ.zc vS Ee;have qJ:=qI;rw [MC] at qJ;replace qJ:=vU qJ;refine J iB (b5 (aO rfl (ah (aD iO rfl) (ah (br au rfl (yO.ar.cs rfl)) (aO rfl (ah (aS (r:=((deep+1:Nat):Int)) rfl rfl) ?_))))));refine h6 (bB Hy rfl) (ea _ x.2 _ (deep+1) _ _ _ (by have:=JV.hU (List.mem_of_getElem? bS);omega) H.vn eJ (by omega) (kp.mod H.mod pe) (fun h=>(H.CH _ h).elim pe (fun h=>by have:=kp.lt;omega))) rfl (fun db aH=>aH.elim) (fun oU vT aH=>?_) fun cN vT aH=>?_
  ·have cc:=H.panic (r:=v.wr deep b) aH (fun e he=>by rw [sD,← qJ,he];rfl);exact bw (aP (aP (bw (aP (bw (ff cc))))))
  obtain⟨Dq,au8,ajl,au9,vg,KX⟩:=H.ret aH;replace H:=au9;replace K1:=K1.step vg KX;have tc:=qJ;rw [ajl] at tc;replace tc:=vU tc;exact cx (bw (av fw (b5 (ah (bt rfl rfl (by omega)) (aO rfl (cx (aw (σ:=Nat×Value×ab) (s:=⟨k,kR,fz⟩) (⟨k+1,Dq,au8⟩) ⟨by omega,tc,H,K1⟩)))))))
 refine eN (aa fun kb=>ah (br au rfl (K1.ar.cs rfl)) (Xw (bB ajj rfl) (Zp _ v _ (Th.b1 bZ.mod)) fun T5 U=>?_));replace H:=H.I U;replace K1:=K1.I U;refine ah (fC rfl) ?_;refine tn (fun k5:((!v.plain))=true=>?_) (fun k5=>?_)
 ·refine aj 11 rfl (J kb (az rfl ?_));have Gc:v.bare=false:=by
   rw [JV.rz,Bool.and_eq_false_iff]
   first | (left;simpa using k5;done) | (right;exact cr (by omega))
  have bo:v.wr deep b = .error 1:=by rw [JV.en,aL Gc]
  refine b5 ?_;refine h6 (bB jz rfl) (hv _ 1) rfl (fun db aH=>aH.elim) (fun oU L8 aH=>?_) fun cN L8 aH=>?_
  ·obtain⟨rfl,rfl⟩:=aH;exact bw (aP (ff (H.fail (bo))))
  exact aH.elim
 refine aO rfl (ay (aD mj rfl) (ay (bF eg rfl (K1.ar.cell rfl)) (ay (hV rfl rfl) ?_)));refine c7 (fun qm:v.num > 9007199254740991=>?_) (fun qm=>?_)
 ·refine aj 7 rfl (J kb (az rfl ?_));have Gc:v.bare=false:=by
   rw [JV.rz,Bool.and_eq_false_iff]
   first | (left;simpa using k5;done) | (right;exact cr (by omega))
  have bo:v.wr deep b = .error 1:=by rw [JV.en,aL Gc]
  refine b5 ?_;refine h6 (bB jz rfl) (hv _ 1) rfl (fun db aH=>aH.elim) (fun oU Qd aH=>?_) fun cN Qd aH=>?_
  ·obtain⟨rfl,rfl⟩:=aH;exact bw (aP (ff (H.fail (bo))))
  exact aH.elim
 refine aj 2 rfl (ay (aD mj rfl) (ay (bF eg rfl (K1.ar.cell rfl)) (ay (cT rfl rfl) ?_)));refine c7 (fun Bg:v.num < -9007199254740991=>?_) (fun Bg=>?_)
 ·refine aj 2 rfl (J kb (az rfl ?_));have Gc:v.bare=false:=by
   rw [JV.rz,Bool.and_eq_false_iff]
   first | (left;simpa using k5;done) | (right;exact cr (by omega))
  have bo:v.wr deep b = .error 1:=by rw [JV.en,aL Gc]
  refine b5 ?_;refine h6 (bB jz rfl) (hv _ 1) rfl (fun db aH=>aH.elim) (fun oU L' aH=>?_) fun cN L' aH=>?_
  ·obtain⟨rfl,rfl⟩:=aH;exact bw (aP (ff (H.fail (bo))))
  exact aH.elim
 refine aj 2 rfl (J kb (aI rfl ?_));have qs:v.bare=true:=by
  rw [JV.rz,bD (show -9007199254740991≤v.num∧v.num≤9007199254740991 by omega),Bool.and_true];simpa using k5
 refine aa fun k6=>ah (aD hK rfl) (ah (bF eg rfl (K1.ar.cell rfl)) (ah (dA rfl rfl) ?_));refine c7 (fun NB:v.kind≥4=>?_) (fun NB=>?_)
 ·refine aj 2 rfl (ay (dA rfl rfl) ?_);refine c7 (fun ajm:(deep:Int)≥32=>?_) (fun ajm=>?_)
  ·refine aj 2 rfl (J k6 (az rfl ?_));have bo:v.wr deep b = .error 5:=by
    have cH:¬ v.bare=false:=by rw [qs];simp
    rw [JV.en,ak cH,ak (by omega),ak (by omega),ak (by omega),ak (by omega),aL (by omega)]
   refine b5 ?_;refine h6 (bB jz rfl) (hv _ 5) rfl (fun db aH=>aH.elim) (fun oU IB aH=>?_) fun cN IB aH=>?_
   ·obtain⟨rfl,rfl⟩:=aH;exact bw (aP (ff (H.fail (bo))))
   exact aH.elim
  refine aj 2 rfl (J k6 (aI rfl (b' (bw ?_))));refine fH.sub (l':=[(0,_),(2,_),(4,_)]) ⟨rfl,rfl,rfl,trivial⟩ (dq (J2 T5 ⟨qs,by omega,H,K1⟩))
 refine aj 5 rfl (J k6 (aI rfl (b' (bw ?_))));refine fH.sub (l':=[(0,_),(2,_),(4,_)]) ⟨rfl,rfl,rfl,trivial⟩ (dq (J2 T5 ⟨qs,by omega,H,K1⟩))
theorem aed (N:Nat):∀ (w:World) (v:JV) (us:List Value) (deep:Nat) (b:ab) (u:Value) (g:Nat),v.sz≤N→xT w g 60 u b→ao (g::bk u) w v.D us→deep≤32→pd w→Om∉g::bk u→Calls aR 30 [.pointer (some ⟨g,0,none⟩),.agg us.toArray,.int .i64 (deep:Int)].toArray w (C1 w g 60 95 u (v.wr deep b)):=by
 induction N with
 | zero=>intro w v us deep b u g gy;exact absurd (JV.ql v) (by omega)
 | succ N ea=>intro w v us deep b u g gy Tk aBn bT kp pe;exact Hz N ea w v us deep b u g gy Tk aBn bT kp pe
set_option maxRecDepth 10000
theorem Zv:aR.underlying 20=some (.interface (aR.methodsAt 20)):=by kernel_rfl
def ao5:=kT (lG aR 95 1)
def aee:=kT (j4 aR 95 0 0 1)
def qy:=kT (pa aR 29)
def GP:=eW Tryz.func29
theorem Ji:gX aR 9 ([S []]):=by unfold gX;kernel_rfl
theorem ae8:gX aR 29 ([.int .i64 0]):=by unfold gX;kernel_rfl
def ao6:=kT (tp aR 60 [(0,1)])
theorem ao7:gX aR 60 ([.slice none 0 0]):=by unfold gX;kernel_rfl
def Zw:=eW Tryz.func28
theorem Cd (w:World) (p:Value):Calls aR 29 [.nilIface,p].toArray w (bH fun u w'=>True∧Mod [] w w'):=by
 exact cY Tryz.func29 rfl fun E=>aB fun a6=>aa fun aQ=>aO rfl (ah (ajn Zv rfl) (J aQ (az rfl (bn (aP (ank rfl ⟨trivial,E⟩))))))
theorem Ce (w:World) (ge:Nat) (z:Value) (e:Int) (B:aF w ge 29 [z]):Calls aR 29 [.iface 95 (.agg #[.int .i64 e]),.pointer (some ⟨ge,0,none⟩)].toArray w (bH fun u w'=>aF w' ge 29 [.int .i64 e]∧Mod [ge] w w'):=by
 refine la Tryz.func29 rfl (aB fun a6=>aB fun aQ=>?_);have E:=Mod.refl [ge] w;refine b5 (aO rfl (ah (ajo Zv rfl) (J aQ (aI rfl (b' (av a6 (aa fun a'=>aO rfl (ah (O1 Tryz.underlying95 rfl rfl) (aj 3 rfl (bj afJ rfl fun g1 aJ bZ=>?_))))))))));have aY:=bZ.le E;have PA:=bZ.ne B;replace B:=B.I bZ.mod;replace E:=E.then bZ.mod;have R:=bZ.ar;refine Xi ao5 R rfl rfl fun cX Ds=>?_;replace B:=B.ne Ds.mod PA;replace E:=E.own Ds.mod aY;replace R:aF cX g1 _ [_]:=Ds.ar;refine a7 rfl (J a' (aB fun bp=>aa fun bx=>aj 2 rfl (J bx ?_)));refine a1 rfl (fun r7=>?_) (fun r7=>?_)
 ·cases r7
 refine b' (av bp (b5 (aO rfl (ah (aD aee rfl) (ah (bF qy rfl (R.cell rfl)) (ah (eS rfl) (cL qy B rfl rfl fun gr rW=>?_)))))));replace R:=R.ne rW.mod (Ne.symm PA);replace E:=E.trans rW.mod;replace B:aF gr ge _ [_]:=rW.ar;exact cx (Wi rfl ⟨B,E⟩)
theorem Zx (w:World) (ge gs:Nat) (B:aF w ge 29 [.int .i64 0]):CallsD aR 28 [.pointer (some ⟨ge,0,none⟩),.pointer (some ⟨gs,0,none⟩)].toArray .returning w (fun e oO w'=>(∃ v,e = .returned v)∧oO = .returning∧Mod [] w w'):=by
 refine s0 Tryz.func28 rfl rfl rfl (l:=[(0,_),(1,_)]) ⟨rfl,rfl,trivial⟩ rfl rfl (.inl ⟨rfl,rfl,rfl⟩) (by rintro u w ⟨⟨v,bI⟩,_⟩;cases bI) fun K1 a6=>?_;have E:=Mod.refl [] w;refine cJ (bB GP rfl) (Cd _ _) fun cN aJ aH=>?_;obtain⟨_,U⟩:=aH;replace B:=B.I U;replace E:=E.then U;refine J a6 (aa fun aQ=>ah (bF qy rfl (B.cell rfl)) (ah (fO rfl rfl) (J aQ ?_)));refine aX rfl (fun cZ=>?_) (fun cZ=>?_)
 ·exact absurd rfl cZ
 exact b' (lP rfl ⟨⟨_,rfl⟩,rfl,E⟩)
theorem Zy (w:World) (ge gs:Nat) (z z2:Value) (e:Int) (B:aF w ge 29 [z]) (eb:aF w gs 9 [z2]) (cH:ge≠gs) (he:e≠0):CallsD aR 28 [.pointer (some ⟨ge,0,none⟩),.pointer (some ⟨gs,0,none⟩)].toArray (.panicking (EL 95 e)) w (fun eW oO w'=>(∃ v,eW = .returned v)∧oO = .panicking [{v:=.iface 95 (.agg #[.int .i64 e]),recovered:=true}]∧aF w' ge 29 [.int .i64 e]∧aF w' gs 9 [S []]∧Mod [ge,gs] w w'):=by
 refine s0 Tryz.func28 rfl rfl rfl (l:=[(0,_),(1,_)]) ⟨rfl,rfl,trivial⟩ rfl rfl (.inr ⟨rfl,rfl⟩) (by rintro u w ⟨⟨v,bI⟩,_⟩;cases bI) fun K1 a6=>?_;have E:=Mod.refl [ge,gs] w;refine cJ (bB GP rfl) (Ce _ ge z e B) fun cN aJ aH=>?_;obtain⟨uU,U⟩:=aH;replace E:=E.trans' U (fun x ae=>.inl (by simp at ae;simp [ae]));replace eb:=eb.mod U (by simp;exact fun h=>cH h.symm);clear B;have B:=uU;refine J a6 (aa fun aQ=>ah (bF qy rfl (B.cell rfl)) (ah (fO rfl rfl) (J aQ ?_)));refine aX rfl (fun cZ=>?_) (fun cZ=>?_)
 ·refine b5 (cL b2 eb rfl rfl fun lF lW=>?_);replace E:=E.trans' lW.mod (fun x ae=>.inl (by simp at ae;simp [ae]));replace B:=B.mod lW.mod (by simp;exact cH);replace eb:=lW.ar;exact cx (lP rfl ⟨⟨_,rfl⟩,rfl,B,eb,E⟩)
 exact absurd he cZ
theorem CR (w:World) (v:JV) (us:List Value) (aBn:ao [] w v.D us) (kp:pd w):Calls aR 10 [.agg us.toArray].toArray w (bH fun u w'=>u = .tuple #[S (j5 (v.wr 0 [])),.int .i64 (gz (v.wr 0 []))]∧Mod [] w w'):=by
 refine O5 Tryz.func10 rfl rfl rfl (l:=[(0,_)]) ⟨rfl,trivial⟩ ?_;have E:=Mod.refl [] w;obtain⟨al,cl,am,cm,rfl,k3,j3⟩:=JV.aU aBn;refine aa fun a6=>eY rfl rfl rfl fun g1 aJ bZ=>?_;have aY:=bZ.le E;replace E:=E.then bZ.mod;have R:=bZ.ar;refine bj Ji rfl fun g2 cX cz=>?_;have bJ:=cz.le E;have bl:=cz.ne R;replace R:=R.I cz.mod;replace E:=E.then cz.mod;have ag:=cz.ar;refine bj ae8 rfl fun g3 gr dF=>?_;have df:=dF.le E;have dv:=dF.ne R;have ca:=dF.ne ag;replace R:=R.I dF.mod;replace ag:=ag.I dF.mod;replace E:=E.then dF.mod;have bd:=dF.ar;refine J a6 (aa fun aQ=>ah (WL rfl rfl) (Jy rfl (J aQ (aa fun a'=>ah (Ct ao6 ao7 rfl rfl) (eY rfl rfl rfl fun g4 h8 N4=>?_)))));have fQ:=N4.le E;have gb:=N4.ne R;have eR:=N4.ne ag;have dC:=N4.ne bd;replace R:=R.I N4.mod;replace ag:=ag.I N4.mod;replace bd:=bd.I N4.mod;replace E:=E.then N4.mod;have bm:=N4.ar;refine a7 rfl (J a' (aB fun bp=>?_));have Tk:xT h8 g4 60 (.slice none 0 0) []:=⟨bm,Own.nil _ 5 1,by simp [bk],by simp⟩;refine b5 (aO rfl (ah (br au rfl (R.cs rfl)) ?_));refine h6 (bB Hy rfl) (aed v.sz _ v _ 0 [] _ g4 (Nat.le_refl _) Tk (ao.to E (by simp) (fun x ae=>.inr (by simp [bk] at ae;subst ae;exact fQ)) _ _ aBn) (by omega) (kp.mod E (by simp)) (by simp [bk];intro h;have:=kp.lt;omega)) rfl (fun db aH=>aH.elim) (fun oU iS aH=>?_) fun cN iS aH=>?_
 ·obtain⟨e,au',ao8,rfl,hm⟩:=aH;have HA:Mod [g4] h8 _:=hm;replace ag:=ag.mod HA (by simp;exact fun h=>eR h);replace bd:=bd.mod HA (by simp;exact fun h=>dC h);replace E:=E.own HA fQ;refine aP (yP fun a aE=>uh (by simp) Zw (Zy _ g3 g2 _ _ e bd ag (fun h=>ca h.symm) ao8) fun eW akr lF l2=>?_);obtain⟨⟨v9,rfl⟩,rfl,e4,eb,Dv⟩:=l2;exact⟨v9,rfl,rfl,_,zV aE rfl b2 qy rfl rfl (eb.cell rfl) (e4.cell rfl),⟨by rw [au'];simp [j5,gz,ao8],E.trans' Dv (fun x ae=>.inr (by simp at ae;rcases ae with rfl | rfl <;> first | exact df | exact bJ))⟩⟩
 obtain⟨hN,dN,fu,H1,qu,sn⟩:=aH;have HA:Mod [g4] h8 _:=qu;replace ag:=ag.mod HA (by simp;exact fun h=>eR h);replace bd:=bd.mod HA (by simp;exact fun h=>dC h);replace E:=E.own HA fQ;refine J bp (aa fun bx=>aj 2 rfl (ah (aD A4 rfl) (ah (bF Px rfl (H1.ar.cell rfl)) (ah (js (u:=dN) da dH aA rfl (H1.own.same rfl (dt _))) (cL b2 ag rfl rfl fun i' kI=>?_)))));replace bd:=bd.ne kI.mod (Ne.symm ca);replace E:=E.own kI.mod bJ;replace ag:aF i' g2 _ [_]:=kI.ar;refine cL qy bd rfl rfl fun iw ml=>?_;replace ag:=ag.ne ml.mod ca;replace E:=E.own ml.mod df;replace bd:aF iw g3 _ [_]:=ml.ar;refine J bx (bn (GQ fun a aE=>uh (by simp) Zw (Zx _ g3 g2 bd) fun eW akr lF l2=>?_));obtain⟨⟨v9,rfl⟩,rfl,Dv⟩:=l2;exact⟨v9,rfl,rfl,_,zV aE rfl b2 qy rfl rfl ((ag.I Dv).cell rfl) ((bd.I Dv).cell rfl),⟨by rw [fu];rfl,E.then Dv⟩⟩
end Go.Proofs.YtkjgljnkocnnpaaGreatDoor.V
namespace Go.Proofs.YtkjgljnkocnnpaaGreatDoor.V
open Go
open Go.ChangeMaps (setBlock)
structure Kf (w:World) (g b:Nat) (m:List (ab×Value)) (L:List ab) (last:Option (ab×Value)):Prop where
 at_:∃ es clock since seen c0,w.heap[g]? = some (.mapIter (some b) since seen c0)∧w.heap[b]? = some (.map es clock)∧xH es=rows m∧(∀ e∈es.toList,e.born<since)∧since≤c0∧c0=clock∧(es.toList.map (·.born)).Nodup∧
  L.map S=(leftOf es seen).toList.map (·.key)∧(∀ p,last=some p→∃ (e:MapEntry) (ac8:Array Nat),e∈es.toList∧seen=ac8.push e.born∧e.key=S p.1∧e.val=p.2)
 keys:(m.map (·.1)).Nodup
section
variable {P:Program} {w w':World} {g b:Nat} {m:List (ab×Value)} {k:ab} {M:List Nat} {L:List ab} {last:Option (ab×Value)}
variable {ops:Array Oper} {Q:Exit→Act→World→Prop} {n:Nat} {ds:List Deferred} {l:List (Nat×Value)} {rest:List Oper} {d:Nat} {ty:TypeId} {pos:String} {af:Array Edge} {dd:Option Nat} {gg:Option (Nat×Bool)} {x y z:Operand} {t XJ afo:TypeId} {v:Value}
theorem Kf.lt (h:Kf w g b m L last):g<w.heap.size:=by
 obtain⟨_,_,_,_,_,h1,_⟩:=h.at_;exact(Array.getElem?_eq_some_iff.1 h1).1
theorem Kf.mod (h:Kf w g b m L last) (k:Mod M w w') (dY:g∉M) (aW:b∉M):Kf w' g b m L last:=by
 obtain⟨es,clock,since,seen,c0,h1,aq,bb⟩:=h.at_;have akv:=(Array.getElem?_eq_some_iff.1 h1).1;have Tj:=(Array.getElem?_eq_some_iff.1 aq).1;exact⟨⟨es,clock,since,seen,c0,(k.block g akv dY).trans h1,(k.block b Tj aW).trans aq,bb⟩,h.keys⟩
theorem Kf.I (h:Kf w g b m L last) (k:Mod [] w w'):Kf w' g b m L last:=h.mod k (by simp) (by simp)
end
end Go.Proofs.YtkjgljnkocnnpaaGreatDoor.V
namespace Go.Proofs.YtkjgljnkocnnpaaGreatDoor.V
open Go
section
variable {P:Program} {ops:Array Oper} {Q:Exit→Act→World→Prop} {n:Nat} {ds:List Deferred} {l:List (Nat×Value)} {w w':World} {rest:List Oper} {d:Nat} {ty:TypeId} {pos:String} {af:Array Edge} {dd:Option Nat} {gg:Option (Nat×Bool)} {x y z:Operand} {t t' XJ afo T e:TypeId} {v:Value} {f:FuncId} {name:String}
theorem Ws {t0:TypeId} {d0:TypeDesc} (kp:P.underlying T=some d0) (cu:(match d0 with | .interface _=>false | _=>true)=true) (ae:bf l x=some (.iface T v)):bE P l ⟨dd,.typeAssert x t0 T false,ty,pos,af,gg⟩ w v w:=fun ρ h=>by
 cases d0 <;> first | (simp at cu;done) | simp [execOp,Instr.typeAssert,h _ _ ae,run_underlying kp]
end
section
variable {P:Program} {ops:Array Oper} {Q:Exit→Act→World→Prop} {n:Nat} {ds:List Deferred} {l:List (Nat×Value)} {w w':World} {fn:Func} {aBn:Ending→World→Prop} {v v':Value}
variable {rest:List Oper} {d:Nat} {op:Op} {ty:TypeId} {pos:String} {af:Array Edge} {x y:Operand} {t t':TypeId} {dd:Option Nat} {gg:Option (Nat×Bool)}
theorem GJ (hi:P.underlying t=some (.interface (P.methodsAt t))) (ae:bf l x=some .nilIface):bE P l ⟨dd,.binOp .neq t x (.const .nilIface) t',ty,pos,af,gg⟩ w (.bool false) w:=fun ρ h=>by
 have h1:ρ (.const .nilIface) = .nilIface:=h _ _ rfl;have dY:eqGuard .neq t x (.const .nilIface) .nilIface .nilIface=pure ():=by cases x <;> rfl
 simp [execOp,h _ _ ae,h1,binOp,dY,run_equal_nil_nil w t hi]
theorem agR {T:TypeId} {v:Value} (hi:P.underlying t=some (.interface (P.methodsAt t))) (ae:bf l x=some (.iface T v)):bE P l ⟨dd,.binOp .neq t x (.const .nilIface) t',ty,pos,af,gg⟩ w (.bool true) w:=fun ρ h=>by
 have h1:ρ (.const .nilIface) = .nilIface:=h _ _ rfl;have dY:eqGuard .neq t x (.const .nilIface) (.iface T v) .nilIface=pure ():=by rfl
 simp [execOp,h _ _ ae,h1,binOp,dY,run_equal_held_nil w t _ _ hi]
theorem MA {T Rg t0:TypeId} {v z:Value} {e:TypeId} (kp:P.underlying T=some (.pointer e)) (cH:¬ Rg=T) (cP:(P.info? T).bind (·.zero)=some z) (ae:bf l x=some (.iface Rg v)):bE P l ⟨dd,.typeAssert x t0 T true,ty,pos,af,gg⟩ w (.tuple #[z,.bool false]) w:=fun ρ h=>by
 simp [execOp,Instr.typeAssert,h _ _ ae,run_underlying kp,cH,Fp cP]
theorem agQ (bo:fn.results = #[.tmp t]) (bI:iF t l=some v) (h:aBn (.returned v) w):fH (bodyPost P fn aBn) .ret n [] l w:=fun a aE=>⟨aE.defers,_,results_tmp bo _ _ _,by rw [xE aE bI];exact h⟩
theorem ah3 {ad:Addr} {vs:List Value} {T c:Nat} (bo:fn.results = #[.cell t T]) (bW:lG P T c=true) (bI:iF t l=some (.pointer (some ad))) (aZ:vs.length=c) (mr:pF w ad vs) (h:aBn (.returned (.agg vs.toArray)) w):fH (bodyPost P fn aBn) .ret n [] l w:=fun a aE=>
 ⟨aE.defers,.agg vs.toArray,by simp [results,bo,aE.get _ _ bI,asAddr,hY bW aZ mr],h⟩
theorem Jg {a0 e6 a2 a3 a4 a5:Value} {ad:Addr} {T:Nat} (bo:fn.results = #[.cell t T]) (bW:lG P T 6=true) (bI:iF t l=some (.pointer (some ad))) (mr:pF w ad [a0,e6,a2,a3,a4,a5]) (h:aBn (.returned (.agg ([a0,e6,a2,a3,a4,a5]:List Value).toArray)) w):fH (bodyPost P fn aBn) .ret n [] l w:=ah3 bo bW bI rfl mr h
theorem adq {ad:Addr} {vs:List Value} {T c:Nat} (bo:fn.results = #[.cell t T,.tmp t']) (bW:lG P T c=true) (bI:iF t l=some (.pointer (some ad))) (aZ:vs.length=c) (mr:pF w ad vs) (mX:iF t' l=some v') (h:aBn (.returned (.tuple #[.agg vs.toArray,v'])) w):fH (bodyPost P fn aBn) .ret n [] l w:=fun a aE=>
 ⟨aE.defers,.tuple #[.agg vs.toArray,v'],by simp [results,bo,aE.get _ _ bI,aE.get _ _ mX,asAddr,hY bW aZ mr],h⟩
theorem n' {a0 e6 a2 a3 a4 a5:Value} {ad:Addr} {T:Nat} (bo:fn.results = #[.cell t T,.tmp t']) (bW:lG P T 6=true) (bI:iF t l=some (.pointer (some ad))) (mr:pF w ad [a0,e6,a2,a3,a4,a5]) (mX:iF t' l=some v') (h:aBn (.returned (.tuple #[.agg ([a0,e6,a2,a3,a4,a5]:List Value).toArray,v'])) w):fH (bodyPost P fn aBn) .ret n [] l w:=adq bo bW bI rfl mr mX h
end
end Go.Proofs.YtkjgljnkocnnpaaGreatDoor.V
set_option maxRecDepth 10000
namespace Go.Proofs.YtkjgljnkocnnpaaGreatDoor.V
open Go Go.Proofs
def aej:=eW Tryz.func150
def PD:=eW Tryz.func149
def xY:=eW Tryz.func115
def aek:=eW Tryz.func120
def PE:=eW Tryz.func113
def HB:=eW Tryz.func114
def ael:=eW Tryz.func116
def aem:=eW Tryz.func154
def OW:=eW Tryz.func153
theorem PF (w:World) (s:ab) (bh:s.length<4294967281) (eX:kv w):Calls aR 149 [S s,S [58]].toArray w (bH fun u w'=>u = .tuple #[S (s.take (aV s)),S (s.drop (aV s+1)),.bool (decide (aV s<s.length))]∧Mod [] w w'):=by
 have:=agn w s bh eX;rw [Lb] at this;exact this
theorem zh (w:World) (s:ab) (bh:s.length<4294967281) (eX:kv w):Calls aR 114 [S s].toArray w (bH fun u w'=>u = .bool (d' s)∧Mod [] w w'):=by
 refine bs Tryz.func114 rfl fun E=>aa fun a6=>a7 rfl (J a6 (aa fun aQ=>aO rfl (cG E (bB PD rfl) (PF _ s bh (eX.I E)) fun aJ U E=>aj 7 rfl (J aQ (aa fun a'=>aO rfl (cG E (bB xY rfl) (C6 _ (s.take (aV s)) 150 iK aej (fun w c h1 aq=>NF w c h1 aq) Lc) fun cX U E=>a7 rfl (J a' ?_)))))));refine aa fun bp=>aO rfl ?_;refine oM (fun bg:(hS iK (s.take (aV s)))=true=>?_) (fun bg=>?_)
 ·refine aj 2 rfl (ay (bQ aA rfl) (ay (pr rfl rfl) ?_));refine c7 (fun bC:(s.length:Int)≤255=>?_) (fun bC=>?_)
  ·refine aj 4 rfl ?_;refine oM (fun dh:(!decide (aV s<s.length))=true=>?_) (fun dh=>?_)
   ·exact aj 11 rfl (J bp (bn (aG rfl rfl ⟨cf (by rw [d',oq,ot,lx];simp only [bg,bD bC,dh,bZ']),E⟩)))
   refine aj 2 rfl (ay (bQ aA rfl) (ay (pr rfl rfl) ?_));refine c7 (fun cW:((s.drop (aV s+1)).length:Int)≤5=>?_) (fun cW=>?_)
   ·refine aj 2 rfl (gN (bB xY rfl) (C6 _ (s.drop (aV s+1)) 119 tD xV (fun w c h1 aq=>uE w c) ajx) fun gr U=>?_);replace E:=E.then U;refine oM (fun dB:(hS tD (s.drop (aV s+1)))=true=>?_) (fun dB=>?_)
    ·exact aj 4 rfl (J bp (bn (aG rfl rfl ⟨cf (by rw [d',oq,ot,lx];simp only [bg,bD bC,ew dh,bD cW,dB,bZ']),E⟩)))
    exact aj 4 rfl (J bp (bn (aG rfl rfl ⟨cf (by rw [d',oq,ot,lx];simp only [bg,bD bC,ew dh,bD cW,ew dB,bZ']),E⟩)))
   exact aj 7 rfl (J bp (bn (aG rfl rfl ⟨cf (by rw [d',oq,ot,lx];simp only [bg,bD bC,ew dh,cr cW,bZ']),E⟩)))
  exact aj 15 rfl (J bp (bn (aG rfl rfl ⟨cf (by rw [d',oq,ot,lx];simp only [bg,cr bC,bZ']),E⟩)))
 exact aj 19 rfl (J bp (bn (aG rfl rfl ⟨cf (by rw [d',oq,ot,lx];simp only [ew bg,bZ']),E⟩)))
theorem Ld (w:World) (s:ab) (sign:UInt8) (bh:s.length<4294967281) (eX:kv w):Calls aR 113 [S s,.int .u8 (sign.toNat:Int)].toArray w (bH fun u w'=>(∃ a b o,u = .tuple #[S a,S b,.bool o]∧o=(pw sign s&&decide (aV (s.drop 1)<(s.drop 1).length))∧(o=true→a=(s.drop 1).take (aV (s.drop 1))∧b=(s.drop 1).drop (aV (s.drop 1)+1)))∧Mod [] w w'):=by
 refine cY Tryz.func113 rfl fun E=>aa fun a6=>aj 3 rfl (J a6 (aB fun aQ=>aa fun a'=>aO rfl (ah (jr rfl rfl) ?_)));refine c7 (fun bg:s = []=>?_) (fun bg=>?_)
 ·refine aj 11 rfl (J a' (az rfl ?_));have dY:pw sign s=false:=by subst bg;rfl
  exact aa fun bp=>aj 3 rfl (J bp (bn (aP (nt rfl rfl rfl rfl ⟨⟨[],[],false,rfl,by rw [dY];rfl,fun h=>by cases h⟩,E⟩))))
 obtain⟨b0,r,rfl⟩:∃ b r,s=b::r:=List.exists_cons_of_ne_nil bg;refine aj 2 rfl (ay (hM aA rfl rfl (by omega) rfl) (aj 2 rfl ?_));refine c7 (fun bC:(b0.toNat:Int)≠(sign.toNat:Int)=>?_) (fun bC=>?_)
 ·refine aj 6 rfl (J a' (az rfl ?_));have pV:b0≠sign:=fun h=>bC (by rw [h]);have dY:pw sign (b0::r)=false:=by simp [pw,pV]
  exact aa fun bx=>aj 3 rfl (J bx (bn (aP (nt rfl rfl rfl rfl ⟨⟨[],[],false,rfl,by rw [dY];rfl,fun h=>by cases h⟩,E⟩))))
 refine aj 3 rfl (ay (bQ aA rfl) (ay (hV rfl rfl) ?_));refine c7 (fun dh:((b0::r).length:Int) > 255=>?_) (fun dh=>?_)
 ·refine ah (hG rfl rfl rfl) (J a' (az rfl ?_));have dY:pw sign (b0::r)=false:=by
   simp only [List.length_cons] at dh;simp [pw];omega
  exact aa fun bO=>aj 3 rfl (J bO (bn (aP (nt rfl rfl rfl rfl ⟨⟨[],[],false,rfl,by rw [dY];rfl,fun h=>by cases h⟩,E⟩))))
 refine ah (hG rfl rfl rfl) (J a' (aI rfl ?_));have pV:b0=sign:=dT (Classical.not_not.1 bC);have dY:pw sign (b0::r)=true:=by
  simp only [List.length_cons] at dh;simp [pw,pV];omega
 exact b' (av aQ (aa fun b4=>aO rfl (ah (dV (n:=1) aA rfl rfl (by simp)) (cG E (bB PD rfl) (PF _ ((b0::r).drop 1) (by simp at bh ⊢;omega) (eX.I E)) fun aJ U E=>aj 6 rfl (J b4 (bn (nt rfl rfl rfl rfl ⟨⟨_,_,_,rfl,by rw [dY,Bool.true_and],fun _=>⟨rfl,rfl⟩⟩,E⟩)))))))
theorem aen (w:World) (s:ab) (bh:s.length<4294967281) (eX:kv w):Calls aR 78 [S s].toArray w (bH fun u w'=>u = .bool (gH 64 ko s)∧Mod [] w w'):=by
 refine bs Tryz.func78 rfl fun E=>aa fun a6=>a7 rfl (J a6 (aa fun aQ=>aO rfl (cJ (bB PE rfl) (Ld _ s 64 bh (eX.I E)) fun cN aJ aH=>?_)));obtain⟨⟨a,b,o,rfl,fv,ajy⟩,U⟩:=aH;replace E:=E.then U;refine aj 7 rfl (J aQ (aa fun a'=>aO rfl ?_));refine oM (fun bg:(o)=true=>?_) (fun bg=>?_)
 ·obtain⟨NG,qL⟩:=ajy bg;subst NG;subst qL;refine aj 2 rfl (gN (bB HB rfl) (zh _ ((s.drop 1).drop (aV (s.drop 1)+1)) (by simp only [List.length_drop];omega) (eX.I E)) fun cX U=>?_);replace E:=E.then U;refine oM (fun bC:(d' ((s.drop 1).drop (aV (s.drop 1)+1)))=true=>?_) (fun bC=>?_)
  ·refine aj 3 rfl (gN (bB xY rfl) (C6 _ ((s.drop 1).take (aV (s.drop 1))) 120 ko aek (fun w c h1 aq=>ZJ w c h1 aq) Sv) fun gr U=>?_);replace E:=E.then U;refine oM (fun dh:(hS ko ((s.drop 1).take (aV (s.drop 1))))=true=>?_) (fun dh=>?_)
   ·exact aj 2 rfl (J a' (bn (aG rfl rfl ⟨cf (by rw [lg (by decide),← fv];simp only [bg,bC,dh,bZ']),E⟩)))
   exact aj 2 rfl (J a' (bn (aG rfl rfl ⟨cf (by rw [lg (by decide),← fv];simp only [bg,bC,ew dh,bZ']),E⟩)))
  exact aj 6 rfl (J a' (bn (aG rfl rfl ⟨cf (by rw [lg (by decide),← fv];simp only [bg,ew bC,bZ']),E⟩)))
 exact aj 9 rfl (J a' (bn (aG rfl rfl ⟨cf (by rw [lg (by decide),← fv];simp only [ew bg,bZ']),E⟩)))
theorem aeo (w:World) (s:ab) (bh:s.length<4294967281) (eX:kv w):Calls aR 77 [S s].toArray w (bH fun u w'=>u = .bool (gH 33 jC s)∧Mod [] w w'):=by
 refine bs Tryz.func77 rfl fun E=>aa fun a6=>a7 rfl (J a6 (aa fun aQ=>aO rfl (cJ (bB PE rfl) (Ld _ s 33 bh (eX.I E)) fun cN aJ aH=>?_)));obtain⟨⟨a,b,o,rfl,fv,ajy⟩,U⟩:=aH;replace E:=E.then U;refine aj 7 rfl (J aQ (aa fun a'=>aO rfl ?_));refine oM (fun bg:(o)=true=>?_) (fun bg=>?_)
 ·obtain⟨NG,qL⟩:=ajy bg;subst NG;subst qL;refine aj 2 rfl (gN (bB HB rfl) (zh _ ((s.drop 1).drop (aV (s.drop 1)+1)) (by simp only [List.length_drop];omega) (eX.I E)) fun cX U=>?_);replace E:=E.then U;refine oM (fun bC:(d' ((s.drop 1).drop (aV (s.drop 1)+1)))=true=>?_) (fun bC=>?_)
  ·refine aj 3 rfl (gN (bB xY rfl) (C6 _ ((s.drop 1).take (aV (s.drop 1))) 116 jC ael (fun w c h1 aq=>ZK w c h1 aq) Sw) fun gr U=>?_);replace E:=E.then U;refine oM (fun dh:(hS jC ((s.drop 1).take (aV (s.drop 1))))=true=>?_) (fun dh=>?_)
   ·exact aj 2 rfl (J a' (bn (aG rfl rfl ⟨cf (by rw [lg (by decide),← fv];simp only [bg,bC,dh,bZ']),E⟩)))
   exact aj 2 rfl (J a' (bn (aG rfl rfl ⟨cf (by rw [lg (by decide),← fv];simp only [bg,bC,ew dh,bZ']),E⟩)))
  exact aj 6 rfl (J a' (bn (aG rfl rfl ⟨cf (by rw [lg (by decide),← fv];simp only [bg,ew bC,bZ']),E⟩)))
 exact aj 9 rfl (J a' (bn (aG rfl rfl ⟨cf (by rw [lg (by decide),← fv];simp only [ew bg,bZ']),E⟩)))
theorem ajz (w:World) (s:ab):Calls aR 124 [S s].toArray w (bH fun u w'=>u = .bool (pD s)∧Mod [] w w'):=by
 refine bs Tryz.func124 rfl fun E=>aa fun a6=>a7 rfl (J a6 (aa fun aQ=>aO rfl (cG E (bB OW rfl) (Ow _ s Ef) fun aJ U E=>aj 5 rfl (J aQ (aa fun a'=>aO rfl ?_)))));refine oM (fun bg:(Lib.hasPrefix s Ef)=true=>?_) (fun bg=>?_)
 ·refine aj 2 rfl (ay (bQ aA rfl) (ay (pr rfl rfl) ?_));refine c7 (fun bC:(s.length:Int)≤255=>?_) (fun bC=>?_)
  ·refine aj 3 rfl (gN (bB xY rfl) (C6 _ (Lib.trimPrefix s Ef) 154 pC aem (fun w c h1 aq=>aei w c h1 aq) ZM) fun cX U=>?_);replace E:=E.then U;refine oM (fun dh:(hS pC (Lib.trimPrefix s Ef))=true=>?_) (fun dh=>?_)
   ·exact aj 2 rfl (J a' (bn (aG rfl rfl ⟨cf (by rw [xZ];simp only [bg,bD bC,dh,bZ']),E⟩)))
   exact aj 2 rfl (J a' (bn (aG rfl rfl ⟨cf (by rw [xZ];simp only [bg,bD bC,ew dh,bZ']),E⟩)))
  exact aj 6 rfl (J a' (bn (aG rfl rfl ⟨cf (by rw [xZ];simp only [bg,cr bC,bZ']),E⟩)))
 exact aj 10 rfl (J a' (bn (aG rfl rfl ⟨cf (by rw [xZ];simp only [ew bg,bZ']),E⟩)))
set_option maxRecDepth 10000
def PG:=eW Tryz.func129
def A7:=eW Tryz.func130
def ZN:=eW Tryz.func91
def PH:=eW Tryz.func131
theorem Le (w:World) (s:ab) (bh:s.length≤140737488351232):Calls aR 129 [S s].toArray w (bH fun u w'=>u = .int .i64 (aV s:Int)∧Mod [] w w'):=by
 refine bs Tryz.func129 rfl fun E=>aa fun a6=>a7 rfl (J a6 (aB fun aQ=>aa fun a'=>a7 rfl (J a' (eN (bK (σ:=Nat) (fun i=>[(0,S s),(3,.int .i64 (i:Int))]) (fun i aJ=>i≤s.length∧(∀ j b,j<i→s[j]? = some b→b≠58)∧Mod [] w aJ) (fun i=>s.length-i) (0) (⟨by omega,fun j b h=>absurd h (by omega),E⟩) ?_)))));rintro i aJ ⟨hi,aE,E⟩;refine aB fun bp=>aa fun bx=>aj 2 rfl (ah (bQ aA rfl) (ah (cT rfl rfl) (J bx ?_)));refine aX rfl (fun lL=>?_) (fun lL=>?_)
 ·obtain⟨b,aW⟩:∃ b,s[i]? = some b:=⟨_,List.getElem?_eq_getElem (by omega)⟩;refine b' (av bp (aB fun bO=>eN (aa fun b4=>aj 2 rfl (ah (bN aA rfl rfl aW) (ah (k1 rfl rfl) (J b4 ?_))))));refine aX rfl (fun vM=>?_) (fun vM=>?_)
  ·have h4:aV s=i:=Sx aW aE (dT vM);exact aa fun cw=>aj 2 rfl (J cw (bn (bw (aP (aP (bw (aP (aG rfl rfl ⟨by rw [h4],E⟩))))))))
  have cH:b≠58:=fun h=>vM (by rw [h];rfl);exact b' (bw (av bO (b5 (aO rfl (ah (bt rfl rfl (by omega)) (a7 rfl (cx (aw (σ:=Nat) (s:=i) (i+1) ⟨by omega,fun j L2 eD aH=>(Nat.lt_succ_iff_lt_or_eq.1 eD).elim (fun h=>aE j L2 h aH) (fun h=>by subst h;rw [aW] at aH;injection aH with aH;rw [← aH];exact cH),E⟩))))))))
 have h4:=Lf (s:=s) (fun j b eD h=>aE j b (by omega) h);exact bL (aP (aP (ch (av aQ (aa fun cy=>aO rfl (ah (bQ aA rfl) (a7 rfl (J cy (bn (aG rfl rfl ⟨by rw [h4],E⟩))))))))))
theorem apc (w:World) (s kinds hn:ab) (bh:s.length≤140737488351232) (hk:kinds.length≤100) (dY:hn.length≤100):Calls aR 130 [S s,S kinds,S hn].toArray w (bH fun u w'=>u = .bool (hS (zi kinds hn) s)∧Mod [] w w'):=by
 refine iZ Tryz.func130 rfl fun E=>aa fun a6=>a7 rfl (J a6 (aB fun aQ=>aa fun a'=>a7 rfl (J a' (eN (bK (σ:=Nat) (fun i=>[(0,S s),(1,S kinds),(2,S hn),(7,.int .i64 (i:Int))]) (fun i aJ=>i≤s.length∧(s.take i).all (fun b=>zi kinds hn b.toNat)=true∧Mod [] w aJ) (fun i=>s.length-i) (0) (⟨by omega,by simp,E⟩) ?_)))));rintro i aJ ⟨hi,aE,E⟩;refine aB fun bp=>aa fun bx=>aj 2 rfl (ah (bQ aA rfl) (ah (cT rfl rfl) (J bx ?_)));refine aX rfl (fun kK=>?_) (fun kK=>?_);rotate_left
 ·have dR:=FG (q:=zi kinds hn) (by omega) aE;exact bL (aP (aP (ch (av aQ (aa fun eC=>aO rfl (ah (ia rfl rfl) (a7 rfl (J eC (bn (aG rfl rfl ⟨by rw [dR],E⟩))))))))))
 obtain⟨c,aZ⟩:∃ c,s[i]? = some c:=⟨_,List.getElem?_eq_getElem (by omega)⟩;refine b' (av bp (aB fun bO=>eN (aa fun b4=>aj 2 rfl (ah (bN aA rfl rfl aZ) (a7 rfl (J b4 (aa fun cw=>a7 rfl (J cw (aB fun cy=>aa fun b6=>?_)))))))));refine a7 rfl (J b6 (eN (bK (σ:=Nat×Bool) (fun⟨j,x⟩=>[(0,S s),(1,S kinds),(2,S hn),(7,.int .i64 (i:Int)),(8,.int .u8 (c.toNat:Int)),(9,.bool x),(10,.int .i64 (j:Int))]) (fun⟨j,x⟩ aJ=>j≤kinds.length∧x=(kinds.take j).any (hc c.toNat)∧Mod [] w aJ) (fun⟨j,x⟩=>kinds.length-j) (⟨0,false⟩) (⟨by omega,by simp,E⟩) ?_)));rintro⟨j,x⟩ cX ⟨eD,ae,E⟩;refine aB fun bR=>aa fun cv=>aj 2 rfl (ah (bQ aA rfl) (ah (cT rfl rfl) (J cv ?_)));refine aX rfl (fun Mu=>?_) (fun Mu=>?_);rotate_left
 ·have q0:x=kinds.any (hc c.toNat):=by rw [ae,List.take_of_length_le (by omega)]
  refine bL (aP (aP (ch (av cy (aB fun cE=>aa fun cI=>a7 rfl (J cI (eN (bK (σ:=Nat×Bool) (fun⟨j,x⟩=>[(0,S s),(1,S kinds),(2,S hn),(7,.int .i64 (i:Int)),(8,.int .u8 (c.toNat:Int)),(9,.bool x),(11,.int .i64 (j:Int))]) (fun⟨j,x⟩ aJ=>j≤hn.length∧x=(kinds.any (hc c.toNat)||(hn.take j).any (fun g=>decide ((g.toNat:Int)=(c.toNat:Int))))∧Mod [] w aJ) (fun⟨j,x⟩=>hn.length-j) (⟨0,x⟩) (⟨by omega,by rw [q0];simp,E⟩) ?_))))))));rintro⟨j,x⟩ gr ⟨eD,ae,E⟩;refine aB fun dr=>aa fun ec=>aj 2 rfl (ah (bQ aA rfl) (ah (cT rfl rfl) (J ec ?_)));refine aX rfl (fun Zl=>?_) (fun Zl=>?_)
  ·obtain⟨g,px⟩:∃ g,hn[j]? = some g:=⟨_,List.getElem?_eq_getElem (by omega)⟩;refine b' (av dr (aB fun dG=>eN (b5 (aO rfl ?_))));refine oM (fun bg:(x)=true=>?_) (fun bg=>?_)
   ·exact aj 7 rfl (ah ((cS rfl).to (v':=.bool (x||decide ((g.toNat:Int)=(c.toNat:Int)))) (cf (by simp only [bg,bZ']))) (cx (bw (av dG (b5 (aO rfl (ah (bt rfl rfl (by omega)) (a7 rfl (cx (aw (σ:=Nat×Bool) (s:=⟨j,x⟩) (⟨j+1,(x||decide ((g.toNat:Int)=(c.toNat:Int)))⟩) ⟨by omega,by rw [gI _ px,← Bool.or_assoc,← ae],E⟩))))))))))
   refine aj 3 rfl (ay (bN aA rfl rfl px) (aj 2 rfl ?_));refine c7 (fun bC:(g.toNat:Int)=(c.toNat:Int)=>?_) (fun bC=>?_)
   ·exact ah (hG rfl rfl rfl) (ah ((cS rfl).to (v':=.bool (x||decide ((g.toNat:Int)=(c.toNat:Int)))) (cf (by simp only [ew bg,bD bC,bZ']))) (cx (bw (av dG (b5 (aO rfl (ah (bt rfl rfl (by omega)) (a7 rfl (cx (aw (σ:=Nat×Bool) (s:=⟨j,x⟩) (⟨j+1,(x||decide ((g.toNat:Int)=(c.toNat:Int)))⟩) ⟨by omega,by rw [gI _ px,← Bool.or_assoc,← ae],E⟩))))))))))
   exact ah (hG rfl rfl rfl) (ah ((cS rfl).to (v':=.bool (x||decide ((g.toNat:Int)=(c.toNat:Int)))) (cf (by simp only [ew bg,cr bC,bZ']))) (cx (bw (av dG (b5 (aO rfl (ah (bt rfl rfl (by omega)) (a7 rfl (cx (aw (σ:=Nat×Bool) (s:=⟨j,x⟩) (⟨j+1,(x||decide ((g.toNat:Int)=(c.toNat:Int)))⟩) ⟨by omega,by rw [gI _ px,← Bool.or_assoc,← ae],E⟩))))))))))
  have yJ:x=zi kinds hn c.toNat:=by rw [ae,List.take_of_length_le (by omega)];rfl
  refine bL (aP (aP (ch (av cE (aa fun eV=>aj 2 rfl (J eV ?_))))));refine a1 rfl (fun ajA=>?_) (fun ajA=>?_)
  ·have dR:hS (zi kinds hn) s=false:=C7 aZ (by rw [← yJ];simpa using ajA);exact aa fun eO=>a7 rfl (J eO (bn (bw (aP (aP (bw (aP (aG rfl rfl ⟨by rw [dR],E⟩))))))))
  have rT:=all_succ aZ aE (show zi kinds hn c.toNat=true by rw [← yJ];simpa using ajA);exact b' (bw (av bO (b5 (aO rfl (ah (bt rfl rfl (by omega)) (a7 rfl (cx (aw (σ:=Nat) (s:=i) (i+1) ⟨by omega,rT,E⟩))))))))
 obtain⟨g,px⟩:∃ g,kinds[j]? = some g:=⟨_,List.getElem?_eq_getElem (by omega)⟩;refine b' (av bR (aB fun bV=>eN (b5 (aO rfl ?_))));refine oM (fun bg:(x)=true=>?_) (fun bg=>?_)
 ·exact aj 42 rfl (ah ((cS rfl).to (v':=.bool (x||hc c.toNat g)) (cf (by simp only [hc,bg,bZ']))) (cx (bw (av bV (b5 (aO rfl (ah (bt rfl rfl (by omega)) (a7 rfl (cx (aw (σ:=Nat×Bool) (s:=⟨j,x⟩) (⟨j+1,(x||hc c.toNat g)⟩) ⟨by omega,by rw [gI _ px,← ae],E⟩))))))))))
 refine aj 3 rfl (ay (bN aA rfl rfl px) (ay (k1 rfl rfl) ?_));refine c7 (fun uF:(g.toNat:Int)=97=>?_) (fun uF=>?_)
 ·refine aj 2 rfl (ay (dA rfl rfl) ?_);refine c7 (fun HC:(c.toNat:Int)≥97=>?_) (fun HC=>?_)
  ·refine aj 4 rfl ?_;refine c7 (fun NH:(c.toNat:Int)≤122=>?_) (fun NH=>?_)
   ·exact aj 30 rfl (ah ((cS rfl).to (v':=.bool (x||hc c.toNat g)) (cf (by simp only [hc,ew bg,bD uF,bD HC,bD NH,bZ']))) (cx (bw (av bV (b5 (aO rfl (ah (bt rfl rfl (by omega)) (a7 rfl (cx (aw (σ:=Nat×Bool) (s:=⟨j,x⟩) (⟨j+1,(x||hc c.toNat g)⟩) ⟨by omega,by rw [gI _ px,← ae],E⟩))))))))))
   refine aj 5 rfl (ay (bN aA rfl rfl px) (ay (k1 rfl rfl) (kq (cr (show ¬ ((g.toNat:Int)=65)by omega)) (aj 12 rfl (ay (bN aA rfl rfl px) (ay (k1 rfl rfl) (kq (cr (show ¬ ((g.toNat:Int)=48)by omega)) (aj 9 rfl (ah ((cS rfl).to (v':=.bool (x||hc c.toNat g)) (cf (by simp only [hc,ew bg,bD uF,bD HC,cr NH,cr (show ¬ ((g.toNat:Int)=65)by omega),cr (show ¬ ((g.toNat:Int)=48)by omega),bZ']))) (cx (bw (av bV (b5 ?_)))))))))))));exact aO rfl (ah (bt rfl rfl (by omega)) (a7 rfl (cx (aw (σ:=Nat×Bool) (s:=⟨j,x⟩) (⟨j+1,(x||hc c.toNat g)⟩) ⟨by omega,by rw [gI _ px,← ae],E⟩))))
  refine aj 9 rfl (ay (bN aA rfl rfl px) (ay (k1 rfl rfl) (kq (cr (show ¬ ((g.toNat:Int)=65)by omega)) (aj 12 rfl (ay (bN aA rfl rfl px) (ay (k1 rfl rfl) (kq (cr (show ¬ ((g.toNat:Int)=48)by omega)) (aj 9 rfl (ah ((cS rfl).to (v':=.bool (x||hc c.toNat g)) (cf (by simp only [hc,ew bg,bD uF,cr HC,cr (show ¬ ((g.toNat:Int)=65)by omega),cr (show ¬ ((g.toNat:Int)=48)by omega),bZ']))) (cx (bw (av bV (b5 ?_)))))))))))));exact aO rfl (ah (bt rfl rfl (by omega)) (a7 rfl (cx (aw (σ:=Nat×Bool) (s:=⟨j,x⟩) (⟨j+1,(x||hc c.toNat g)⟩) ⟨by omega,by rw [gI _ px,← ae],E⟩))))
 refine aj 12 rfl (ay (bN aA rfl rfl px) (ay (k1 rfl rfl) ?_));refine c7 (fun zW:(g.toNat:Int)=65=>?_) (fun zW=>?_)
 ·refine aj 2 rfl (ay (dA rfl rfl) ?_);refine c7 (fun HD:(c.toNat:Int)≥65=>?_) (fun HD=>?_)
  ·refine aj 4 rfl ?_;refine c7 (fun NI:(c.toNat:Int)≤90=>?_) (fun NI=>?_)
   ·exact aj 16 rfl (ah ((cS rfl).to (v':=.bool (x||hc c.toNat g)) (cf (by simp only [hc,ew bg,cr uF,bD zW,bD HD,bD NI,bZ']))) (cx (bw (av bV (b5 (aO rfl (ah (bt rfl rfl (by omega)) (a7 rfl (cx (aw (σ:=Nat×Bool) (s:=⟨j,x⟩) (⟨j+1,(x||hc c.toNat g)⟩) ⟨by omega,by rw [gI _ px,← ae],E⟩))))))))))
   exact aj 5 rfl (ay (bN aA rfl rfl px) (ay (k1 rfl rfl) (kq (cr (show ¬ ((g.toNat:Int)=48)by omega)) (aj 9 rfl (ah ((cS rfl).to (v':=.bool (x||hc c.toNat g)) (cf (by simp only [hc,ew bg,cr uF,bD zW,bD HD,cr NI,cr (show ¬ ((g.toNat:Int)=48)by omega),bZ']))) (cx (bw (av bV (b5 (aO rfl (ah (bt rfl rfl (by omega)) (a7 rfl (cx (aw (σ:=Nat×Bool) (s:=⟨j,x⟩) (⟨j+1,(x||hc c.toNat g)⟩) ⟨by omega,by rw [gI _ px,← ae],E⟩))))))))))))))
  exact aj 9 rfl (ay (bN aA rfl rfl px) (ay (k1 rfl rfl) (kq (cr (show ¬ ((g.toNat:Int)=48)by omega)) (aj 9 rfl (ah ((cS rfl).to (v':=.bool (x||hc c.toNat g)) (cf (by simp only [hc,ew bg,cr uF,bD zW,cr HD,cr (show ¬ ((g.toNat:Int)=48)by omega),bZ']))) (cx (bw (av bV (b5 (aO rfl (ah (bt rfl rfl (by omega)) (a7 rfl (cx (aw (σ:=Nat×Bool) (s:=⟨j,x⟩) (⟨j+1,(x||hc c.toNat g)⟩) ⟨by omega,by rw [gI _ px,← ae],E⟩))))))))))))))
 refine aj 12 rfl (ay (bN aA rfl rfl px) (ay (k1 rfl rfl) ?_));refine c7 (fun Lg:(g.toNat:Int)=48=>?_) (fun Lg=>?_)
 ·refine aj 2 rfl (ay (dA rfl rfl) ?_);refine c7 (fun HE:(c.toNat:Int)≥48=>?_) (fun HE=>?_)
  ·refine aj 4 rfl ?_;refine c7 (fun NJ:(c.toNat:Int)≤57=>?_) (fun NJ=>?_)
   ·exact aj 2 rfl (ah ((cS rfl).to (v':=.bool (x||hc c.toNat g)) (cf (by simp only [hc,ew bg,cr uF,cr zW,bD Lg,bD HE,bD NJ,bZ']))) (cx (bw (av bV (b5 (aO rfl (ah (bt rfl rfl (by omega)) (a7 rfl (cx (aw (σ:=Nat×Bool) (s:=⟨j,x⟩) (⟨j+1,(x||hc c.toNat g)⟩) ⟨by omega,by rw [gI _ px,← ae],E⟩))))))))))
   exact aj 2 rfl (ah ((cS rfl).to (v':=.bool (x||hc c.toNat g)) (cf (by simp only [hc,ew bg,cr uF,cr zW,bD Lg,bD HE,cr NJ,bZ']))) (cx (bw (av bV (b5 (aO rfl (ah (bt rfl rfl (by omega)) (a7 rfl (cx (aw (σ:=Nat×Bool) (s:=⟨j,x⟩) (⟨j+1,(x||hc c.toNat g)⟩) ⟨by omega,by rw [gI _ px,← ae],E⟩))))))))))
  exact aj 6 rfl (ah ((cS rfl).to (v':=.bool (x||hc c.toNat g)) (cf (by simp only [hc,ew bg,cr uF,cr zW,bD Lg,cr HE,bZ']))) (cx (bw (av bV (b5 (aO rfl (ah (bt rfl rfl (by omega)) (a7 rfl (cx (aw (σ:=Nat×Bool) (s:=⟨j,x⟩) (⟨j+1,(x||hc c.toNat g)⟩) ⟨by omega,by rw [gI _ px,← ae],E⟩))))))))))
 exact aj 9 rfl (ah ((cS rfl).to (v':=.bool (x||hc c.toNat g)) (cf (by simp only [hc,ew bg,cr uF,cr zW,cr Lg,bZ']))) (cx (bw (av bV (b5 (aO rfl (ah (bt rfl rfl (by omega)) (a7 rfl (cx (aw (σ:=Nat×Bool) (s:=⟨j,x⟩) (⟨j+1,(x||hc c.toNat g)⟩) ⟨by omega,by rw [gI _ px,← ae],E⟩))))))))))
theorem HF (w:World) (s kinds hn:ab) (q:Nat→Bool) (e8:∀ b:UInt8,q b.toNat=zi kinds hn b.toNat) (bh:s.length≤140737488351232) (hk:kinds.length≤100) (dY:hn.length≤100):Calls aR 130 [S s,S kinds,S hn].toArray w (bH fun u w'=>u = .bool (hS q s)∧Mod [] w w'):=by
 rw [Lh e8 s];exact apc w s kinds hn bh hk dY
theorem C8 (w:World) (s:ab) (bh:s.length≤140737488351232):Calls aR 91 [S s].toArray w (bH fun u w'=>u = .bool (d' s)∧Mod [] w w'):=by
 refine bs Tryz.func91 rfl fun E=>?_;have lJ:=kG s;refine aa fun a6=>a7 rfl (J a6 (aa fun aQ=>aO rfl (cG E (bB PG rfl) (Le _ _ (by omega)) fun aJ U E=>a7 rfl (J aQ (aB fun a'=>aa fun bp=>aO rfl (ah (bQ aA rfl) (ah (hV rfl rfl) ?_)))))));refine c7 (fun bg:(s.length:Int) > 255=>?_) (fun bg=>?_)
 ·refine aj 7 rfl (J bp (az rfl ?_));have jA:d' s=false:=by rw [d',show decide (s.length≤255)=false from cr (by omega)];simp
  exact aa fun bx=>a7 rfl (J bx (bn (aP (aG rfl rfl ⟨by rw [jA],E⟩))))
 refine aj 3 rfl (ay (AQ aA rfl rfl lJ) (gN (bB A7 rfl) (HF _ (s.take (aV s)) [97,48] [46,45] _ Sy (by have:=kG s;simp only [List.length_take,List.length_drop];omega) (by simp) (by simp)) fun cX U=>?_));replace E:=E.then U;refine ay (fC rfl) ?_;refine oM (fun bC:(!hS iK (s.take (aV s)))=true=>?_) (fun bC=>?_)
 ·refine ah (hG rfl rfl rfl) (J bp (az rfl ?_));have jA:d' s=false:=by rw [d',show hS iK (s.take (aV s))=false by simpa using bC];simp
  exact aa fun bO=>a7 rfl (J bO (bn (aP (aG rfl rfl ⟨by rw [jA],E⟩))))
 refine ah (hG rfl rfl rfl) (J bp (aI rfl ?_));have dy:hS iK (s.take (aV s))=true:=by simpa using bC
 have pS:decide (s.length≤255)=true:=bD (by omega);refine b' (av a' (aa fun b4=>aj 2 rfl (ah (bQ aA rfl) (ah (k1 rfl rfl) ?_))));refine c7 (fun dh:(aV s:Int)=(s.length:Int)=>?_) (fun dh=>?_)
 ·exact aj 15 rfl (J b4 (bn (aG rfl rfl ⟨cf (by rw [d',dy,pS,te,tf];simp only [bD dh,bZ']),E⟩)))
 refine aj 2 rfl (ay (bQ aA rfl) (ay (fj rfl) (ay (eZ (r:=((s.length-aV s:Nat):Int)) rfl rfl) (ay (pr rfl rfl) ?_))));refine c7 (fun cW:((s.length-aV s:Nat):Int)≤6=>?_) (fun cW=>?_)
 ·refine aj 3 rfl (ay (aS (r:=((aV s+1:Nat):Int)) rfl rfl) (ay (dV aA rfl rfl (by omega)) (gN (bB A7 rfl) (HF _ (s.drop (aV s+1)) [48] [] _ ZO (by have:=kG s;simp only [List.length_take,List.length_drop];omega) (by simp) (by simp)) fun gr U=>?_)));replace E:=E.then U;refine oM (fun dB:(hS tD (s.drop (aV s+1)))=true=>?_) (fun dB=>?_)
  ·exact aj 3 rfl (J b4 (bn (aG rfl rfl ⟨cf (by rw [d',dy,pS,te,tf];simp only [cr dh,bD cW,dB,bZ']),E⟩)))
  exact aj 3 rfl (J b4 (bn (aG rfl rfl ⟨cf (by rw [d',dy,pS,te,tf];simp only [cr dh,bD cW,ew dB,bZ']),E⟩)))
 exact aj 9 rfl (J b4 (bn (aG rfl rfl ⟨cf (by rw [d',dy,pS,te,tf];simp only [cr dh,cr cW,bZ']),E⟩)))
theorem Li (w:World) (s:ab) (sign:UInt8) (kinds hn:ab) (q:Nat→Bool) (e8:∀ b:UInt8,q b.toNat=zi kinds hn b.toNat) (lM:sign≠58) (bh:s.length≤140737488351232) (hk:kinds.length≤100) (dY:hn.length≤100):Calls aR 131 [S s,.int .u8 (sign.toNat:Int),S kinds,S hn].toArray w (bH fun u w'=>u = .bool (gH sign q s)∧Mod [] w w'):=by
 refine RR Tryz.func131 rfl fun E=>?_;have lJ:=kG s;refine aa fun a6=>a7 rfl (J a6 (aa fun aQ=>aO rfl (cG E (bB PG rfl) (Le _ _ (by omega)) fun aJ U E=>a7 rfl (J aQ (aa fun a'=>aO rfl (ah (bQ aA rfl) (ah (pr rfl rfl) ?_)))))));refine c7 (fun bg:(s.length:Int)≤255=>?_) (fun bg=>?_);rotate_left
 ·exact aj 32 rfl (J a' (bn (aG rfl rfl ⟨cf (by rw [lh];simp only [cr bg,bZ']),E⟩)))
 refine aj 3 rfl (ay (bQ aA rfl) (ay (cT rfl rfl) ?_));refine c7 (fun bC:(aV s:Int)<(s.length:Int)=>?_) (fun bC=>?_);rotate_left
 ·exact aj 27 rfl (J a' (bn (aG rfl rfl ⟨cf (by rw [lh];simp only [bD bg,cr bC,bZ']),E⟩)))
 refine aj 4 rfl ?_;refine c7 (fun dh:(aV s:Int) > 0=>?_) (fun dh=>?_)
 ·obtain⟨b0,Gc⟩:∃ b,s[0]? = some b:=⟨_,List.getElem?_eq_getElem (by omega)⟩;have Kb:=Sz (sign:=sign) Gc;refine aj 3 rfl (ay (hM aA rfl rfl (by omega) Gc) (aj 2 rfl ?_));refine c7 (fun cW:(b0.toNat:Int)=(sign.toNat:Int)=>?_) (fun cW=>?_)
  ·refine aj 4 rfl (ay (ZP (m:=1) aA rfl rfl rfl (by omega)) (aj 2 rfl (gN (bB A7 rfl) (HF _ ((s.take (aV s)).drop 1) kinds hn q e8 (by have:=kG s;simp only [List.length_take,List.length_drop];omega) hk dY) fun cX U=>?_)));replace E:=E.then U;refine oM (fun dB:(hS q ((s.take (aV s)).drop 1))=true=>?_) (fun dB=>?_)
   ·refine aj 4 rfl (ay (aS (r:=((aV s+1:Nat):Int)) rfl rfl) (ay (dV aA rfl rfl (by omega)) (gN (bB ZN rfl) (C8 _ (s.drop (aV s+1)) (by have:=kG s;simp only [List.length_take,List.length_drop];omega)) fun gr U=>?_)));replace E:=E.then U;refine oM (fun fc:(d' (s.drop (aV s+1)))=true=>?_) (fun fc=>?_)
    ·exact aj 2 rfl (J a' (bn (aG rfl rfl ⟨cf (by rw [lh];simp only [Kb,bD bg,bD bC,bD dh,bD cW,dB,fc,bZ']),E⟩)))
    exact aj 2 rfl (J a' (bn (aG rfl rfl ⟨cf (by rw [lh];simp only [Kb,bD bg,bD bC,bD dh,bD cW,dB,ew fc,bZ']),E⟩)))
   exact aj 9 rfl (J a' (bn (aG rfl rfl ⟨cf (by rw [lh];simp only [Kb,bD bg,bD bC,bD dh,bD cW,ew dB,bZ']),E⟩)))
  exact aj 17 rfl (J a' (bn (aG rfl rfl ⟨cf (by rw [lh];simp only [Kb,bD bg,bD bC,bD dh,cr cW,bZ']),E⟩)))
 have avd:=ZQ lM dh;exact aj 23 rfl (J a' (bn (aG rfl rfl ⟨cf (by rw [lh];simp only [avd,bD bg,bD bC,cr dh,bZ']),E⟩)))
theorem ZR (w:World) (s:ab) (bh:s.length≤140737488351232):Calls aR 95 [S s].toArray w (bH fun u w'=>u = .bool (gH 64 ko s)∧Mod [] w w'):=by
 exact bs Tryz.func95 rfl fun E=>aa fun a6=>a7 rfl (J a6 (aa fun aQ=>aO rfl (cG E (bB PH rfl) (Li _ s 64 [97,48] td ko aep (by decide) bh (by simp) (by simp)) fun aJ U E=>a7 rfl (J aQ (bn (aG rfl rfl ⟨rfl,E⟩))))))
theorem ZS (w:World) (s:ab) (bh:s.length≤140737488351232):Calls aR 94 [S s].toArray w (bH fun u w'=>u = .bool (gH 33 jC s)∧Mod [] w w'):=by
 exact bs Tryz.func94 rfl fun E=>aa fun a6=>a7 rfl (J a6 (aa fun aQ=>aO rfl (cG E (bB PH rfl) (Li _ s 33 [97,65,48] [95,45] jC aeq (by decide) bh (by simp) (by simp)) fun aJ U E=>a7 rfl (J aQ (bn (aG rfl rfl ⟨rfl,E⟩))))))
theorem aer (w:World) (s:ab) (bh:s.length≤140737488351232):Calls aR 92 [S s].toArray w (bH fun u w'=>u = .bool (pD s)∧Mod [] w w'):=by
 refine bs Tryz.func92 rfl fun E=>aa fun a6=>a7 rfl (J a6 (aa fun aQ=>aO rfl (ah (bQ aA rfl) (ah (pr rfl rfl) ?_))));refine c7 (fun bg:(s.length:Int)≤255=>?_) (fun bg=>?_)
 ·refine aj 2 rfl (ay (bQ aA rfl) (ay (hV rfl rfl) ?_));refine c7 (fun bC:(s.length:Int) > 8=>?_) (fun bC=>?_)
  ·refine aj 3 rfl (ay (AQ (n:=8) aA rfl rfl (by omega)) (ay (jr rfl rfl) ?_));refine c7 (fun dh:s.take 8=Ef=>?_) (fun dh=>?_)
   ·refine aj 3 rfl (ay (dV (n:=8) aA rfl rfl (by omega)) (gN (bB A7 rfl) (HF _ (s.drop 8) [97,65,48] [95] _ ajB (by simp only [List.length_drop];omega) (by simp) (by simp)) fun aJ U=>?_));replace E:=E.then U;refine oM (fun cW:(hS pC (s.drop 8))=true=>?_) (fun cW=>?_)
    ·exact aj 2 rfl (J aQ (bn (aG rfl rfl ⟨cf (by rw [pD,lx];simp only [bD bg,bD bC,bD dh,cW,bZ']),E⟩)))
    exact aj 2 rfl (J aQ (bn (aG rfl rfl ⟨cf (by rw [pD,lx];simp only [bD bg,bD bC,bD dh,ew cW,bZ']),E⟩)))
   exact aj 7 rfl (J aQ (bn (aG rfl rfl ⟨cf (by rw [pD,lx];simp only [bD bg,bD bC,cr dh,bZ']),E⟩)))
  have cg:hS pC (s.drop 8)=false:=by rw [List.drop_eq_nil_of_le (by omega)];rfl
  exact aj 12 rfl (J aQ (bn (aG rfl rfl ⟨cf (by rw [pD,lx];simp only [cg,bD bg,cr bC,bZ']),E⟩)))
 exact aj 16 rfl (J aQ (bn (aG rfl rfl ⟨cf (by rw [pD,lx];simp only [cr bg,bZ']),E⟩)))
end Go.Proofs.YtkjgljnkocnnpaaGreatDoor.V
