/-
  A part of the proof: an event is read from its value as it is (plain Lean); a value that an event can be read of whole is the event's value (plain Lean); a value that an event is read of whole is the event's value (plain Lean); the document's event of a value (plain Lean); an event that can be is read from its value as it is (plain Lean); the law's own event, and a text that is none's (plain Lean). No condition of its own.
-/
import Derived.Test.YtnihidkbkhcfoaaGreatDoorM11
import Derived.Test.YtnihidkbkhcfoaaGreatDoorM7
import Derived.Test.YtnihidkbkhcfoaaGreatDoorM6
import Derived.Test.YtnihidkbkhcfoaaGreatDoorM3
import Derived.Test.YtnihidkbkhcfoaaGreatDoorM10
import Derived.Test.YtnihidkbkhcfoaaGreatDoorM4
import Derived.Test.YtnihidkbkhcfoaaGreatDoorM8
set_option linter.unusedVariables false
set_option linter.unusedSimpArgs false
set_option maxRecDepth 10000
namespace Go.Proofs.YtnihidkbkhcfoaaGreatDoor.V
open Go Go.Proofs
theorem Nz:tC Tryz.prog 103 [(0,6),(6,1)]=true:=by kernel_rfl
theorem NA:hq Tryz.prog 103 ([.int .i64 0,.bool false,.int .i64 0,S [],.slice none 0 0,.slice none 0 0,.bool false]):=by unfold hq;kernel_rfl
theorem qc:Jp Tryz.prog 25 3 3=true:=by kernel_rfl
theorem C9:Jp Tryz.prog 25 2 2=true:=by kernel_rfl
theorem NB:Jp Tryz.prog 25 5 5=true:=by kernel_rfl
theorem NC:aP Tryz.prog 91:=aP.of Tryz.func91 (by kernel_rfl) (by kernel_rfl)
theorem adn:tC Tryz.prog 92 [(0,1),(1,1),(2,1)]=true:=by kernel_rfl
theorem JF (a b:List (U×JV)):bp (a++b)=bp a++bp b:=by simp [bp]
theorem ND {m:List (U×JV)} {i:Nat} {x:U×JV} (h:m[i]? = some x):bp (m.take (i+1))=bp (m.take i)++en x∧(bp (m.take i)).length+x.2.map.length≤(bp m).length:=by
 have h1:m.take (i+1)=m.take i ++ [x]:=by
  have hi:=(List.getElem?_eq_some_iff.1 h);rw [List.take_succ_eq_append_getElem hi.1,hi.2]
 have aj:bp (m.take (i+1))=bp (m.take i)++en x:=by rw [h1];simp [bp]
 refine⟨aj,?_⟩;have aF:m=m.take (i+1)++m.drop (i+1):=(List.take_append_drop _ _).symm;have bn:bp m=bp (m.take (i+1))++bp (m.drop (i+1)):=by rw [← JF,List.take_append_drop]
 rw [bn,aj,List.length_append,List.length_append];have:(en x).length=x.2.map.length:=by simp [en]
 omega
theorem JG {x:U×JV} {j:Nat} {q:U×JV} (h:x.2.map[j]? = some q):(en x).take (j+1)=(en x).take j ++ [⟨x.1,q.1,q.2.str⟩]:=by
 have dG:=(List.getElem?_eq_some_iff.1 h);have bM:j<(en x).length:=by simpa [en] using dG.1
 rw [List.take_succ_eq_append_getElem bM];simp [en,dG.2]
theorem Rl (v:JV):cG ⟨(bz v).2.rest,qd v⟩ eP 5=ng v:=rfl
theorem Rm (v:JV):cG ⟨(ng v).1,false⟩ hB 3=pB v:=rfl
theorem Rn (v:JV):A8 v=((ng v).2.bad||((pB v).2.bad||decide ((ng v).2.rest.map.length+(pB v).2.rest.map.length > 0))):=rfl
theorem NF {v:JV} (h:(⟨v,false⟩:kO).fit):(ng v).2.rest.map.length≤1000000:=(kO.gu (kO.C' (TJ h) (qd v)) eP 5).2.1
theorem NG {v:JV} (h:v.fZ) (aN:v.nh≤65536):(pB v).2.rest.map.length≤1000000:=(kO.gu (zA (x:=(ng v).1) false (ado h).1 (Xx aN).1) hB 3).2.1
theorem j5.NH {w w':World} {g b T:Nat} {cs:List Value} (N:j5 w w' g T cs) (h:b<w.heap.size):b≠g:=fun e=>by have:=N.le (Mod.refl [] w);omega
theorem mM.grow {A:List Nat} {w w':World} {g ER T:Nat} {t:kO} {cs:List Value} (h:mM A w g t) (N:j5 w w' ER T cs):mM (ER::A) w' g t:=by
 obtain⟨al,cl,am,cm,h1,aj,aF⟩:=h;have hm:∀ x∈ER::A,x∈A∨w.heap.size≤x:=fun x ab=>(List.mem_cons.1 ab).elim (fun e=>.inr (e▸N.le (Mod.refl [] w))) .inl;exact⟨al,cl,am,cm,h1.I N.mod,(aj.more hm).bE N.mod,(aF.more hm).bE N.mod⟩
theorem aS.grow {A:List Nat} {w w':World} {ER T:Nat} {d:D} {u:Value} {cs:List Value} (h:aS A w d u) (N:j5 w w' ER T cs):aS (ER::A) w' d u:=
 (h.more (fun x ab=>(List.mem_cons.1 ab).elim (fun e=>.inr (e▸N.le (Mod.refl [] w))) .inl)).bE N.mod
theorem mM.fN {A A':List Nat} {w:World} {g:Nat} {t:kO} (h:mM A w g t) (aN:∀ x∈A',x∈A):mM A' w g t:=by
 obtain⟨al,cl,am,cm,h1,aj,aF⟩:=h;exact⟨al,cl,am,cm,h1,aj.fN aN,aF.fN aN⟩
theorem JH {w:World} {v:Value} {l:List cX} (h:Own w 92 3 v l.length ((l.map cX.cells).flatten)):aS [] w (flat 3 cX.cells l) v:=Own.flat h (fun _ _=>rfl) (fun x _ c a6=>by simp [cX.cells] at a6;rcases a6 with rfl | rfl | rfl <;> rfl) rfl (by simp)
/-- what the reading of an event hands back -/
def lG (A:List Nat) (w0 w:World) (v:JV) (us:List Value):Prop:=
 (ja v=0∧∃ al cl am cm up Da Ei,us = [S (ey v).room,S (ey v).snd,S (ey v).ty,.bool (ey v).st,S (ey v).key,.int .i64 (ey v).bu.kind,.bool (ey v).bu.is,.int .i64 (ey v).bu.num,S (ey v).bu.str,.slice al (ey v).bu.list.length cl,.slice am (ey v).bu.map.length cm,up,Da,.int .i64 (ey v).dep,.int .i64 (ey v).time,S (ey v).hash,Ei]∧
  ak A w (ey v).bu.D [.int .i64 (ey v).bu.kind,.bool (ey v).bu.is,.int .i64 (ey v).bu.num,S (ey v).bu.str,.slice al (ey v).bu.list.length cl,.slice am (ey v).bu.map.length cm]∧Own w 9 1 up (ey v).prev.length (((ey v).prev.map fun s=>[S s]).flatten)∧Own w 9 1 Da (ey v).b2.length (((ey v).b2.map fun s=>[S s]).flatten)∧Own w 92 3 Ei (ey v).sigs.length (((ey v).sigs.map cX.cells).flatten)∧(∀ x∈aL up,w0.heap.size≤x)∧(∀ x∈aL Da,w0.heap.size≤x)∧∀ x∈aL Ei,w0.heap.size≤x)∨
 (ja v≠0∧us = [S [],S [],S [],.bool false,S [],.int .i64 0,.bool false,.int .i64 0,S [],.slice none 0 0,.slice none 0 0,.slice none 0 0,.slice none 0 0,.int .i64 0,.int .i64 0,S [],.slice none 0 0])
theorem lG.mk {A:List Nat} {w0 w:World} {v:JV} {al am Xy Xz XA:Option Addr} {cl cm ry r' cs:Nat} (h:ja v=0) (x':ak A w (dO v).1.D [.int .i64 (dO v).1.kind,.bool (dO v).1.is,.int .i64 (dO v).1.num,S (dO v).1.str,.slice al (dO v).1.list.length cl,.slice am (dO v).1.map.length cm]) (gG:Own w 9 1 (.slice Xy (fS v).1.length ry) (fS v).1.length (((fS v).1.map fun s=>[S s]).flatten)) (qp:Own w 9 1 (.slice Xz (gN v).1.length r') (gN v).1.length (((gN v).1.map fun s=>[S s]).flatten)) (vq:Own w 92 3 (.slice XA (bp (bz v).1.map).length cs) (bp (bz v).1.map).length (((bp (bz v).1.map).map cX.cells).flatten)) (pI:∀ x∈aL (.slice Xy (fS v).1.length ry),w0.heap.size≤x) (FF:∀ x∈aL (.slice Xz (gN v).1.length r'),w0.heap.size≤x) (Je:∀ x∈aL (.slice XA (bp (bz v).1.map).length cs),w0.heap.size≤x) :
  lG A w0 w v [S (nO v).1.str,S (nP v).1.str,S (nQ v).1.str,.bool (ll v),S (iS v).1.str,.int .i64 (dO v).1.kind,.bool (dO v).1.is,.int .i64 (dO v).1.num,S (dO v).1.str,.slice al (dO v).1.list.length cl,.slice am (dO v).1.map.length cm,.slice Xy (fS v).1.length ry,.slice Xz (gN v).1.length r',.int .i64 (nR v).1.num,.int .i64 (jS v).1.num,S (pB v).1.str,.slice XA (bp (bz v).1.map).length cs]:=
 .inl ⟨h,al,cl,am,cm,_,_,_,rfl,x',gG,qp,vq,pI,FF,Je⟩
set_option maxHeartbeats 4000000 in
theorem Hn (A:List Nat) (w:World) (v:JV) (us:List Value) (apv:ak A w v.D us) (du:∀ a∈A,a<w.heap.size) (jY:oN w) (eb:g' w):Calls Tryz.prog 43 [.agg us.toArray].toArray w (bI fun u w'=>∃ gH,u = .tuple #[.agg gH.toArray,.int .i64 (ja v)]∧lG A w w' v gH∧Mod [] w w'):=by
 refine enter Tryz.func43 rfl rfl rfl (l:=[(0,_)]) ⟨rfl,trivial⟩ ?_;have E:=Mod.refl [] w;obtain⟨al,cl,am,cm,rfl,kq,jh⟩:=JV.bc apv;have apv:=JV.b6 kq jh;refine ae fun aX=>ef rfl rfl rfl fun g1 aE bO=>?_;have bR:=bO.le E;replace E:=E.then bO.mod;have aa:=bO.aA;refine bl jb rfl fun g2 cY cU=>?_;have cp:=cU.le E;have cb:=cU.ne aa;replace aa:=aa.I cU.mod;replace E:=E.then cU.mod;have ai:=cU.aA;refine bb rfl (R aX (ay fun aM=>ae fun a7=>ao (a8 (vs:=[_,_,_,_,_,_]) aK rfl rfl (aa.cs rfl)) (cD (bt F9 rfl) (xH _ v _ ((apv.fN (by simp)).bE E) (jY.mod E (by simp))) fun gv J=>?_)));replace aa:=aa.I J;replace ai:=ai.I J;replace E:=E.then J;refine aq 5 rfl (R a7 (ae fun bC=>aq 2 rfl ?_));refine dR (fun bW:fW (v.wr 0 [])≠0=>?_) (fun bW=>?_)
 ·refine aq 5 rfl (R bC (aO rfl ?_));have qO:ja v=21:=by unfold ja;rw [if_pos (by first | exact .inl bW | exact .inr fj)]
  refine ae fun bU=>ao (bj (cs:=[_,_,_,_,_,_,_,_,_,_,_,_,_,_,_,_,_]) s9 jb rfl rfl) (bd (vs:=[_,_,_,_,_,_,_,_,_,_,_,_,_,_,_,_,_]) dC ai rfl rfl rfl (by simp [Value.oneCell']) (by simp) fun iH lX=>?_);replace aa:=aa.ne lX.mod cb;replace E:=E.own lX.mod cp;replace ai:aD iH g2 _ [_,_,_,_,_,_,_,_,_,_,_,_,_,_,_,_,_]:=lX.aA;exact bb rfl (R bU (bg (a1 (by simp) (iO (vs:=[_,_,_,_,_,_,_,_,_,_,_,_,_,_,_,_,_]) rfl dC rfl rfl (ai.cs rfl) rfl ⟨_,by rw [qO],.inr ⟨by rw [qO];decide,rfl⟩,E⟩))))
 refine aQ rfl (aw (au jj rfl) (aw (bh dY rfl (aa.cell rfl)) (aw (fE rfl rfl) ?_)));refine dR (fun fj:v.kind≠5=>?_) (fun fj=>?_)
 ·refine ao (ky rfl rfl rfl) (R bC (aO rfl ?_));have qO:ja v=21:=by unfold ja;rw [if_pos (by first | exact .inl bW | exact .inr fj)]
  refine ae fun ca=>ao (bj (cs:=[_,_,_,_,_,_,_,_,_,_,_,_,_,_,_,_,_]) s9 jb rfl rfl) (bd (vs:=[_,_,_,_,_,_,_,_,_,_,_,_,_,_,_,_,_]) dC ai rfl rfl rfl (by simp [Value.oneCell']) (by simp) fun jO hl=>?_);replace aa:=aa.ne hl.mod cb;replace E:=E.own hl.mod cp;replace ai:aD jO g2 _ [_,_,_,_,_,_,_,_,_,_,_,_,_,_,_,_,_]:=hl.aA;exact bb rfl (R ca (bg (a1 (by simp) (iO (vs:=[_,_,_,_,_,_,_,_,_,_,_,_,_,_,_,_,_]) rfl dC rfl rfl (ai.cs rfl) rfl ⟨_,by rw [qO],.inr ⟨by rw [qO];decide,rfl⟩,E⟩))))
 refine ao (ky rfl rfl rfl) (R bC (aJ rfl ?_));obtain⟨t,JI⟩:=As (Classical.not_not.1 bW);have jL:=Ro JI;have NI:=JV.F' JI;have Rp:¬ (fW (v.wr 0 [])≠0∨v.kind≠5):=fun h=>h.elim bW fj;refine cJ (az aM (ae fun cA=>ao (a8 (vs:=[_,_,_,_,_,_]) aK rfl rfl (aa.cs rfl)) (ao ((bj (cs:=[_,_,_,_,_,_,_]) Nz NA rfl rfl)) (ef rfl rfl rfl fun g3 jV eT=>?_))));have dA:=eT.le E;have eJ:=eT.ne aa;have cc:=eT.ne ai;replace aa:=aa.I eT.mod;replace ai:=ai.I eT.mod;replace E:=E.then eT.mod;have bq:=eT.aA;have adp:∀ a∈g3::g2::A,a∈A∨w.heap.size≤a:=fun a ax=>by simp at ax;rcases ax with rfl | rfl | ax;exact .inr dA;exact .inr cp;exact .inl ax
 have hn:mM (g3::g2::A) _ g3 ⟨v,false⟩:=⟨_,_,_,_,bq,(kq.more adp).bE E,(jh.more adp).bE E⟩;refine bb rfl (R cA (ae fun cM=>aQ rfl (fP (bt mN rfl) (im (g3::g2::A) _ g3 ⟨v,false⟩ hn (by simp) (fun a ax=>by simp at ax;rcases ax with rfl | rfl | ax;exact hn.lt;exact ai.lt;exact Nat.lt_of_lt_of_le (du a ax) E.size) jL gm 5) rfl fun cC ix aB=>?_)));obtain⟨anV,rfl,Rxc,hn,J⟩:=aB;replace aa:=aa.ne J eJ;replace ai:=ai.ne J cc;replace E:=E.own J dA;obtain⟨JJ,JK,JL,JM,rfl,XH,aiN⟩:=JV.bc Rxc;replace XH:=XH;replace hn:=hn.fN (A':=[g3]) (by simp);obtain⟨NJ,Rq⟩:∃ x,x=ix:=⟨_,rfl⟩;subst Rq;have F:=Mod.refl [g3] NJ;have alK:=hn.lt;have alL:=ai.lt;have Rq:=E.size;refine aQ rfl ?_;have XI:=E.size;have afW:=ai.lt;have afX:=hn.lt;refine fP (bt NC rfl) (xG [g3] _ g3 (dO v).2 hn (by simp) (fun a ax=>by simp at ax;subst ax;exact hn.lt) (TK jL) eu) rfl fun cC pD aB=>?_;obtain⟨b1,XJ,hn,J⟩:=aB;replace aa:=aa.ne J eJ;replace ai:=ai.ne J cc;replace E:=E.own J dA;replace F:=F.trans J;obtain⟨ke,o6,rfl,alM,alN⟩:=b1.form;have aiO:∀ y∈aL (.slice ke _ o6),w.heap.size≤y:=fun y aR=>Nat.le_trans XI (XJ y aR);have Db:∀ y∈aL (.slice ke _ o6),y≠g2:=fun y aR e=>by have:=XJ y aR;omega
 have mP:∀ y∈aL (.slice ke _ o6),y≠g3:=fun y aR e=>by have:=XJ y aR;omega
 refine aQ rfl ?_;have XK:=E.size;have afY:=ai.lt;have afZ:=hn.lt;refine fP (bt NC rfl) (xG [g3] _ g3 (fS v).2 hn (by simp) (fun a ax=>by simp at ax;subst ax;exact hn.lt) (TL jL) eC) rfl fun cC lL aB=>?_;obtain⟨b3,XJ,hn,J⟩:=aB;replace aa:=aa.ne J eJ;replace ai:=ai.ne J cc;replace E:=E.own J dA;replace F:=F.trans J;replace b1:=b1.put J mP;obtain⟨kf,o7,rfl,alO,alP⟩:=b3.form;have aiP:∀ y∈aL (.slice kf _ o7),w.heap.size≤y:=fun y aR=>Nat.le_trans XK (XJ y aR);have Dc:∀ y∈aL (.slice kf _ o7),y≠g2:=fun y aR e=>by have:=XJ y aR;omega
 have nB:∀ y∈aL (.slice kf _ o7),y≠g3:=fun y aR e=>by have:=XJ y aR;omega
 refine ao (bj (cs:=[_,_,_,_,_,_,_,_,_,_,_,_,_,_,_,_,_]) s9 jb rfl rfl) ?_;have XL:=hn;refine bl jb rfl fun g4 iy N4=>?_;have fu:=N4.le E;have mO:=N4.le F;have gd:=N4.ne aa;have ep:=N4.ne ai;have cE:=N4.NH hn.lt;have jc:=N4.cd b1;have jd:=N4.cd b3;replace hn:=hn.I N4.mod;replace aa:=aa.I N4.mod;replace ai:=ai.I N4.mod;replace E:=E.then N4.mod;replace F:=F.then N4.mod;replace b1:=b1.I N4.mod;replace b3:=b3.I N4.mod;have aW:=N4.aA;replace hn:=XL.grow N4;refine bd (vs:=[_,_,_,_,_,_,_,_,_,_,_,_,_,_,_,_,_]) dC aW rfl rfl rfl (by simp [Value.oneCell']) (by simp) fun j1 eh=>?_;replace aa:=aa.ne eh.mod gd;replace ai:=ai.ne eh.mod ep;replace E:=E.own eh.mod fu;replace F:=F.own eh.mod mO;replace b1:=b1.put eh.mod jc;replace b3:=b3.put eh.mod jd;replace aW:aD j1 g4 _ [_,_,_,_,_,_,_,_,_,_,_,_,_,_,_,_,_]:=eh.aA;replace hn:=hn.mod eh.mod (fun x ab=>by simp [List.mem_singleton.1 ab]) (fun h=>by have:=cE;simp at h;exact this h);refine R cM (ae fun db=>aQ rfl (fP (bt mN rfl) (im [g4,g3] _ g3 (gN v).2 hn (by simp) (fun a ax=>by simp at ax;rcases ax with rfl | rfl;exact aW.lt;exact hn.lt) (TM jL) hf 3) rfl fun cC rv aB=>?_));obtain⟨aiQ,rfl,XM,hn,J⟩:=aB;replace aa:=aa.ne J eJ;replace ai:=ai.ne J cc;replace aW:=aW.ne J (Ne.symm cE);replace E:=E.own J dA;replace F:=F.trans J;replace b1:=b1.put J mP;replace b3:=b3.put J nB;obtain⟨aiR,aiS,aiT,aiU,rfl,aiV,aiW⟩:=JV.bc XM;refine ao ((o3 qc rfl rfl)) (aQ rfl (fP (bt mN rfl) (im [g4,g3] _ g3 (nO v).2 hn (by simp) (fun a ax=>by simp at ax;rcases ax with rfl | rfl;exact aW.lt;exact hn.lt) (TN jL) eQ 3) rfl fun cC pP aB=>?_));obtain⟨aiX,rfl,XN,hn,J⟩:=aB;replace aa:=aa.ne J eJ;replace ai:=ai.ne J cc;replace aW:=aW.ne J (Ne.symm cE);replace E:=E.own J dA;replace F:=F.trans J;replace b1:=b1.put J mP;replace b3:=b3.put J nB;obtain⟨aiY,aiZ,ai0,ai1,rfl,ai2,ai3⟩:=JV.bc XN;refine ao ((o3 qc rfl rfl)) (aQ rfl (fP (bt mN rfl) (im [g4,g3] _ g3 (nP v).2 hn (by simp) (fun a ax=>by simp at ax;rcases ax with rfl | rfl;exact aW.lt;exact hn.lt) (TO jL) h2 3) rfl fun cC si aB=>?_));obtain⟨ai4,rfl,XO,hn,J⟩:=aB;replace aa:=aa.ne J eJ;replace ai:=ai.ne J cc;replace aW:=aW.ne J (Ne.symm cE);replace E:=E.own J dA;replace F:=F.trans J;replace b1:=b1.put J mP;replace b3:=b3.put J nB;obtain⟨ai5,ai6,ai7,ai8,rfl,ai9,ai'⟩:=JV.bc XO;refine ao ((o3 qc rfl rfl)) (ao (au qw rfl) (ea bH aW rfl rfl rfl (by simp) fun tE tU=>?_));replace aa:=aa.ne tU.mod gd;replace ai:=ai.ne tU.mod ep;replace E:=E.own tU.mod fu;replace F:=F.own tU.mod mO;replace b1:=b1.put tU.mod jc;replace b3:=b3.put tU.mod jd;replace aW:aD tE g4 _ [_,_,_,_,_,_,_,_,_,_,_,_,_,_,_,_,_]:=tU.aA;replace hn:=hn.mod tU.mod (fun x ab=>by simp [List.mem_singleton.1 ab]) (fun h=>by have:=cE;simp at h;exact this h);refine ao (au qx rfl) (ea bH aW rfl rfl rfl (by simp) fun rz vi=>?_);replace aa:=aa.ne vi.mod gd;replace ai:=ai.ne vi.mod ep;replace E:=E.own vi.mod fu;replace F:=F.own vi.mod mO;replace b1:=b1.put vi.mod jc;replace b3:=b3.put vi.mod jd;replace aW:aD rz g4 _ [_,_,_,_,_,_,_,_,_,_,_,_,_,_,_,_,_]:=vi.aA;replace hn:=hn.mod vi.mod (fun x ab=>by simp [List.mem_singleton.1 ab]) (fun h=>by have:=cE;simp at h;exact this h);refine ao (au oJ rfl) (ea bH aW rfl rfl rfl (by simp) fun vc pC=>?_);replace aa:=aa.ne pC.mod gd;replace ai:=ai.ne pC.mod ep;replace E:=E.own pC.mod fu;replace F:=F.own pC.mod mO;replace b1:=b1.put pC.mod jc;replace b3:=b3.put pC.mod jd;replace aW:aD vc g4 _ [_,_,_,_,_,_,_,_,_,_,_,_,_,_,_,_,_]:=pC.aA;replace hn:=hn.mod pC.mod (fun x ab=>by simp [List.mem_singleton.1 ab]) (fun h=>by have:=cE;simp at h;exact this h);refine R db (ae fun cq=>aQ rfl (fP (bt mN rfl) (im [g4,g3] _ g3 (nQ v).2 hn (by simp) (fun a ax=>by simp at ax;rcases ax with rfl | rfl;exact aW.lt;exact hn.lt) (TP jL) gE 2) rfl fun cC EM aB=>?_));obtain⟨aja,rfl,XP,hn,J⟩:=aB;replace aa:=aa.ne J eJ;replace ai:=ai.ne J cc;replace aW:=aW.ne J (Ne.symm cE);replace E:=E.own J dA;replace F:=F.trans J;replace b1:=b1.put J mP;replace b3:=b3.put J nB;obtain⟨ajb,ajc,ajd,aje,rfl,ajf,ajg⟩:=JV.bc XP;refine ao ((o3 C9 rfl rfl)) (aQ rfl (fP (bt mN rfl) (im [g4,g3] _ g3 (nR v).2 hn (by simp) (fun a ax=>by simp at ax;rcases ax with rfl | rfl;exact aW.lt;exact hn.lt) (TQ jL) lS 2) rfl fun cC vd aB=>?_));obtain⟨ajh,rfl,XQ,hn,J⟩:=aB;replace aa:=aa.ne J eJ;replace ai:=ai.ne J cc;replace aW:=aW.ne J (Ne.symm cE);replace E:=E.own J dA;replace F:=F.trans J;replace b1:=b1.put J mP;replace b3:=b3.put J nB;obtain⟨aji,ajj,ajk,ajl,rfl,ajm,ajn⟩:=JV.bc XQ;refine ao ((o3 C9 rfl rfl)) (ao (au s' rfl) (ea dY aW rfl rfl rfl (by simp) fun yj tV=>?_));replace aa:=aa.ne tV.mod gd;replace ai:=ai.ne tV.mod ep;replace E:=E.own tV.mod fu;replace F:=F.own tV.mod mO;replace b1:=b1.put tV.mod jc;replace b3:=b3.put tV.mod jd;replace aW:aD yj g4 _ [_,_,_,_,_,_,_,_,_,_,_,_,_,_,_,_,_]:=tV.aA;replace hn:=hn.mod tV.mod (fun x ab=>by simp [List.mem_singleton.1 ab]) (fun h=>by have:=cE;simp at h;exact this h);refine ao (au ta rfl) (ea dY aW rfl rfl rfl (by simp) fun AF ln=>?_);replace aa:=aa.ne ln.mod gd;replace ai:=ai.ne ln.mod ep;replace E:=E.own ln.mod fu;replace F:=F.own ln.mod mO;replace b1:=b1.put ln.mod jc;replace b3:=b3.put ln.mod jd;replace aW:aD AF g4 _ [_,_,_,_,_,_,_,_,_,_,_,_,_,_,_,_,_]:=ln.aA;replace hn:=hn.mod ln.mod (fun x ab=>by simp [List.mem_singleton.1 ab]) (fun h=>by have:=cE;simp at h;exact this h);refine R cq (l7 fun MV cj=>?_);have JN:∀ (aE:World),mM [g4,g3] aE g3 (iS v).2∧aD aE g4 29 [S (nO v).1.str,S (nP v).1.str,S (nQ v).1.str,.bool (ll v),S (iS v).1.str,.int .i64 (dO v).1.kind,.bool (dO v).1.is,.int .i64 (dO v).1.num,S (dO v).1.str,.slice JJ (dO v).1.list.length JK,.slice JL (dO v).1.map.length JM,.slice ke (fS v).1.length o6,.slice kf (gN v).1.length o7,.int .i64 (nR v).1.num,.int .i64 (jS v).1.num,S [],.slice none 0 0]∧Own aE 9 1 (.slice ke (fS v).1.length o6) (fS v).1.length (((fS v).1.map fun s=>[S s]).flatten)∧Own aE 9 1 (.slice kf (gN v).1.length o7) (gN v).1.length (((gN v).1.map fun s=>[S s]).flatten)∧aD aE g2 29 [S [],S [],S [],.bool false,S [],.int .i64 0,.bool false,.int .i64 0,S [],.slice none 0 0,.slice none 0 0,.slice none 0 0,.slice none 0 0,.int .i64 0,.int .i64 0,S [],.slice none 0 0]∧Mod [g3] NJ aE∧Mod [] w aE→∀ a,Has 173 [] [(2,.pointer (some ⟨g2,0,none⟩)),(3,.int .i64 0),(6,.pointer (some ⟨g3,0,none⟩)),(7,.pointer (some ⟨g4,0,none⟩))] a→MV a aE:=by
  intro Mt pF;obtain⟨hn,aW,b1,b3,ai,F,E⟩:=pF;refine cj _ _ _ _ (ay fun dH=>ae fun cL=>aQ rfl (fP (bt mN rfl) (im [g4,g3] _ g3 (iS v).2 hn (by simp) (fun a ax=>by simp at ax;rcases ax with rfl | rfl;exact aW.lt;exact hn.lt) (NK jL) iq 5) rfl fun cC Mv aB=>?_));obtain⟨ajo,rfl,XR,hn,J⟩:=aB;replace ai:=ai.ne J cc;replace aW:=aW.ne J (Ne.symm cE);replace F:=F.trans J;replace E:=E.own J dA;replace b1:=b1.put J mP;replace b3:=b3.put J nB;obtain⟨ajp,ajq,XS,XT,rfl,ajr,XV⟩:=JV.bc XR;obtain⟨adq,Dd,ajs⟩:∃ a c,a=XS∧c=XT:=⟨_,_,rfl,rfl⟩;obtain⟨rfl,rfl⟩:=ajs;obtain⟨apq,adr⟩:∃ x,x=Mv:=⟨_,rfl⟩;subst adr;obtain⟨De,Df,Dg,Dh,dD,ajt,aju⟩:=hn;have anW:=dD.lt;have acM:=aW.lt;have yf:=ai.lt;have alQ:=F.size;have adr:=E.size;have Ew:=ui NI;have anX:(bz v).1.map.length≤1000000:=(kO.C8 (NK jL) iq 5).2.2;refine ao ((o3 NB rfl rfl)) (ao (bx Tryz.underlying23 rfl) (aQ rfl (R cL (fU (cz (σ:=Nat×Value) (fun⟨i,vs⟩=>[(2,.pointer (some ⟨g2,0,none⟩)),(3,.int .i64 0),(6,.pointer (some ⟨g3,0,none⟩)),(7,.pointer (some ⟨g4,0,none⟩)),(75,.slice adq (bz v).1.map.length Dd),(76,.int .i64 (bz v).1.map.length),(77,.int .i64 (i:Int))]) (fun⟨i,vs⟩ aE=>i≤(bz v).1.map.length∧Own aE 92 3 vs (bp ((bz v).1.map.take i)).length (((bp ((bz v).1.map.take i)).map cX.cells).flatten)∧(∀ y∈aL vs,NJ.heap.size≤y∧y≠g4∧y∉aL (.slice ke (fS v).1.length o6)∧y∉aL (.slice kf (gN v).1.length o7))∧aS ([g4,g3]++aL vs) aE (.iW 7 ((bz v).1.map.map JV.hG)) (.slice adq (bz v).1.map.length Dd)∧aS ([g4,g3]++aL vs) aE (.iW 6 ((bz v).2.rest.list.map JV.D)) (.slice De (bz v).2.rest.list.length Df)∧aS ([g4,g3]++aL vs) aE (.iW 7 ((bz v).2.rest.map.map JV.hG)) (.slice Dg (bz v).2.rest.map.length Dh)∧aD aE g3 103 [.int .i64 (bz v).2.rest.kind,.bool (bz v).2.rest.is,.int .i64 (bz v).2.rest.num,S (bz v).2.rest.str,.slice De (bz v).2.rest.list.length Df,.slice Dg (bz v).2.rest.map.length Dh,.bool ((bz v).2.bad||((bz v).1.map.take i).any l5)]∧aD aE g4 29 [S (nO v).1.str,S (nP v).1.str,S (nQ v).1.str,.bool (ll v),S (iS v).1.str,.int .i64 (dO v).1.kind,.bool (dO v).1.is,.int .i64 (dO v).1.num,S (dO v).1.str,.slice JJ (dO v).1.list.length JK,.slice JL (dO v).1.map.length JM,.slice ke (fS v).1.length o6,.slice kf (gN v).1.length o7,.int .i64 (nR v).1.num,.int .i64 (jS v).1.num,S [],vs]∧Own aE 9 1 (.slice ke (fS v).1.length o6) (fS v).1.length (((fS v).1.map fun s=>[S s]).flatten)∧Own aE 9 1 (.slice kf (gN v).1.length o7) (gN v).1.length (((gN v).1.map fun s=>[S s]).flatten)∧aD aE g2 29 [S [],S [],S [],.bool false,S [],.int .i64 0,.bool false,.int .i64 0,S [],.slice none 0 0,.slice none 0 0,.slice none 0 0,.slice none 0 0,.int .i64 0,.int .i64 0,S [],.slice none 0 0]∧Mod [g3] NJ aE∧Mod [] w aE) (fun⟨i,vs⟩=>(bz v).1.map.length-i) (⟨0,.slice none 0 0⟩) ⟨rfl,rfl,rfl,rfl,rfl,rfl,rfl,trivial⟩ (⟨by omega,Own.nil _ _ _,by simp [aL],XV,ajt,aju,by rw [List.take_zero,List.any_nil,Bool.or_false];exact dD,aW,b1,b3,ai,F,E⟩) ?_)))));rintro⟨i,vs⟩ Fm ⟨hi,fR,tb,RG,jy,jz,dD,aW,b1,b3,ai,F,E⟩;have A9:∀ y∈aL vs,y≠g2:=fun y aR e=>by have:=(tb y aR).1;omega
  have xI:∀ y∈aL vs,y≠g3:=fun y aR e=>by have:=(tb y aR).1;omega
  have NL:∀ y∈aL vs,y≠g4:=fun y aR=>(tb y aR).2.1;have gB:=Mod.refl [] Fm;refine ae fun dz=>ao (dK rfl rfl) (R dz (ay fun dS=>?_));refine bm rfl (fun NM=>?_) (fun NM=>?_);rotate_left
  ·have ajB:i=(bz v).1.map.length:=by omega
   subst ajB;rw [List.take_length] at fR dD;obtain⟨Ya,ajz,rfl,adz,adA⟩:=fR.form;obtain⟨Rv,NV⟩:∃ l,l = [g4,g3]++aL (.slice Ya (bp (bz v).1.map).length ajz):=⟨_,rfl⟩;have hn:mM Rv _ g3 ⟨(bz v).2.rest,qd v⟩:=⟨_,_,_,_,dD,by rw [NV];exact jy,by rw [NV];exact jz⟩;have M1:g3∈Rv:=by rw [NV];simp
   have adB:g4∈Rv:=by rw [NV];simp
   have adC:∀ a∈Rv,a<Fm.heap.size:=fun a ax=>by
    rw [NV] at ax;rcases List.mem_append.1 ax with ax | ax
    ·simp at ax;rcases ax with rfl | rfl;exact aW.lt;exact dD.lt
    exact fR.lt a ax
   have adD:=JV.Dk JI;refine bV (a1 (by simp) (a1 (by simp) (cr (az dH (ae fun iJ=>aQ rfl (fP (bt mN rfl) (im Rv _ g3 ⟨(bz v).2.rest,qd v⟩ hn M1 adC (kO.C' (TJ jL) _) eP 5) rfl fun cC ajC aB=>?_))))));obtain⟨anZ,rfl,ajD,hn,J⟩:=aB;replace ai:=ai.ne J cc;replace aW:=aW.ne J (Ne.symm cE);replace F:=F.trans J;replace E:=E.own J dA;replace b1:=b1.put J mP;replace b3:=b3.put J nB;replace fR:=fR.put J xI;obtain⟨an0,an1,an2,an3,rfl,ajE,ajF⟩:=JV.bc ajD;have adE:∀ a∈Rv,a<ajC.heap.size:=fun a ax=>Nat.lt_of_lt_of_le (adC a ax) J.size;refine ao ((bj (cs:=[_,_,_,_,_,_,_]) Nz NA rfl rfl)) ?_;have XL:=hn;refine ef rfl rfl rfl fun g8 ajG yD=>?_;have Yf:=yD.le F;have Yg:=yD.le E;have qQ:=yD.ne ai;have Rw:=yD.NH hn.lt;have Hs:=yD.ne aW;have NW:=yD.cd b1;have NX:=yD.cd b3;have Rx:=yD.cd fR;replace hn:=hn.I yD.mod;replace ai:=ai.I yD.mod;replace aW:=aW.I yD.mod;replace F:=F.then yD.mod;replace E:=E.then yD.mod;replace b1:=b1.I yD.mod;replace b3:=b3.I yD.mod;replace fR:=fR.I yD.mod;have adF:=yD.aA;replace hn:=XL.grow yD;have PR:mM (g8::Rv) _ g8 ⟨(ng v).1,false⟩:=⟨_,_,_,_,adF,ajE.grow yD,ajF.grow yD⟩;have adG:∀ a∈g8::Rv,a<ajG.heap.size:=fun a ax=>by
    rcases List.mem_cons.1 ax with rfl | ax
    ·exact adF.lt
    exact Nat.lt_of_lt_of_le (adE a ax) yD.mod.size
   refine bb rfl (R iJ (ae fun j3=>aQ rfl (fP (bt mN rfl) (im (g8::Rv) _ g8 ⟨(ng v).1,false⟩ PR (by simp) adG (zA _ (ado adD).1 (Xx NI).1) hB 3) rfl fun cC an4 aB=>?_)));obtain⟨an5,rfl,ajH,PR,J⟩:=aB;replace ai:=ai.ne J qQ;replace aW:=aW.ne J Hs;replace F:=F.own J Yf;replace E:=E.own J Yg;replace b1:=b1.put J NW;replace b3:=b3.put J NX;replace fR:=fR.put J Rx;obtain⟨an6,an7,an8,an9,rfl,an',aoa⟩:=JV.bc ajH;replace hn:=hn.mod J (fun x ab=>by simp [List.mem_singleton.1 ab]) (fun h=>Rw (List.mem_singleton.1 h));refine ao ((o3 qc rfl rfl)) (ao (au n5 rfl) (ea bH aW rfl rfl rfl (by simp) fun ajI Bc=>?_));replace ai:=ai.ne Bc.mod ep;replace F:=F.own Bc.mod mO;replace E:=E.own Bc.mod fu;replace b1:=b1.put Bc.mod jc;replace b3:=b3.put Bc.mod jd;replace fR:=fR.put Bc.mod NL;replace aW:aD ajI g4 _ [_,_,_,_,_,_,_,_,_,_,_,_,_,_,_,_,_]:=Bc.aA;replace hn:=hn.mod Bc.mod (fun x ab=>by rw [List.mem_singleton.1 ab];exact List.mem_cons_of_mem _ adB) (fun h=>cE (List.mem_singleton.1 h));replace PR:=PR.mod Bc.mod (fun x ab=>by rw [List.mem_singleton.1 ab];exact List.mem_cons_of_mem _ adB) (fun h=>(Ne.symm Hs) (List.mem_singleton.1 h));have rO:=NF jL;have nb:=NG adD NI;have JO:=Rn v;rw [Rl] at hn;rw [Rm] at PR;generalize (ng v).2=aaE at hn rO JO;generalize (pB v).2=TX at PR nb JO;refine R j3 (ay fun iK=>ay fun k7=>?_)
   by_cases gk:aaE.bad=true
   ·obtain⟨Yh,Yi,Yj,Yk,dD,Yl,Ym⟩:=hn;obtain⟨Yn,Yo,Yp,Yq,qE,Yr,Ys⟩:=PR;refine bK wide (by kernel_rfl) (fM 2 rfl rfl (ah (fun J=>(au ek rfl)) (ah (fun J=>(bh jQ rfl ((dD.I J).cell rfl))) (ah (fun J=>(dQ rfl)) (eX rfl (gk) (eX rfl (gk) (eX rfl (gk) (eX rfl (gk) (ah (fun J=>(lU (gk) rfl rfl)) (fM 16 rfl rfl (bN rfl fun aob J=>?_)))))))))));replace ai:=ai.I J;replace dD:=dD.I J;replace aW:=aW.I J;replace qE:=qE.I J;replace F:=F.then J;replace E:=E.then J;replace b1:=b1.I J;replace b3:=b3.I J;replace fR:=fR.I J;refine az k7 (aO rfl ?_);have qO:ja v=21:=by unfold ja;rw [if_neg Rp,if_pos (by rw [JO];first | (rw [gk];rfl) | (rw [eo gk,ej];rfl) | (rw [eo gk,eo ej,bB (show aaE.rest.map.length+TX.rest.map.length > 0 by omega)];rfl))]
    refine ae fun pR=>ao (bj (cs:=[_,_,_,_,_,_,_,_,_,_,_,_,_,_,_,_,_]) s9 jb rfl rfl) (bd (vs:=[_,_,_,_,_,_,_,_,_,_,_,_,_,_,_,_,_]) dC ai rfl rfl rfl (by simp [Value.oneCell']) (by simp) fun ajJ Dl=>?_);replace dD:=dD.ne Dl.mod (Ne.symm cc);replace aW:=aW.ne Dl.mod (Ne.symm ep);replace qE:=qE.ne Dl.mod (Ne.symm qQ);replace E:=E.own Dl.mod cp;replace b1:=b1.put Dl.mod Db;replace b3:=b3.put Dl.mod Dc;replace fR:=fR.put Dl.mod A9;replace ai:aD ajJ g2 _ [_,_,_,_,_,_,_,_,_,_,_,_,_,_,_,_,_]:=Dl.aA;exact bb rfl (R pR (bg (a1 (by simp) (iO (vs:=[_,_,_,_,_,_,_,_,_,_,_,_,_,_,_,_,_]) rfl dC rfl rfl (ai.cs rfl) rfl ⟨_,by rw [qO],.inr ⟨by rw [qO];decide,rfl⟩,E⟩))))
   by_cases ej:TX.bad=true
   ·obtain⟨Yh,Yi,Yj,Yk,dD,Yl,Ym⟩:=hn;obtain⟨Yn,Yo,Yp,Yq,qE,Yr,Ys⟩:=PR;refine bK wide (by kernel_rfl) (fM 2 rfl rfl (ah (fun J=>(au ek rfl)) (ah (fun J=>(bh jQ rfl ((dD.I J).cell rfl))) (ah (fun J=>(dQ rfl)) (aI ((eo gk)) (fun J=>(dQ rfl)) (aI ((eo gk)) (fun J=>(dx rfl)) (aI ((eo gk)) (fun J=>(au ek rfl)) (aI ((eo gk)) (fun J=>(bh jQ rfl ((qE.I J).cell rfl))) (ah (fun J=>(ky ((eo gk)) rfl rfl)) (ah (fun J=>(dQ rfl)) (eX rfl (ej) (eX rfl (ej) (eX rfl (ej) ?_)))))))))))));refine eX rfl (ej) (eX rfl (ej) (eX rfl (ej) (eX rfl (ej) (eX rfl (ej) (eX rfl (ej) (eX rfl (ej) (eX rfl (ej) (eX rfl (ej) (eX rfl (ej) (eX rfl (ej) (ah (fun J=>(lU (ej) rfl rfl)) (bN rfl fun aoc J=>?_))))))))))));replace ai:=ai.I J;replace dD:=dD.I J;replace aW:=aW.I J;replace qE:=qE.I J;replace F:=F.then J;replace E:=E.then J;replace b1:=b1.I J;replace b3:=b3.I J;replace fR:=fR.I J;refine az k7 (aO rfl ?_);have qO:ja v=21:=by unfold ja;rw [if_neg Rp,if_pos (by rw [JO];first | (rw [gk];rfl) | (rw [eo gk,ej];rfl) | (rw [eo gk,eo ej,bB (show aaE.rest.map.length+TX.rest.map.length > 0 by omega)];rfl))]
    refine ae fun mz=>ao (bj (cs:=[_,_,_,_,_,_,_,_,_,_,_,_,_,_,_,_,_]) s9 jb rfl rfl) (bd (vs:=[_,_,_,_,_,_,_,_,_,_,_,_,_,_,_,_,_]) dC ai rfl rfl rfl (by simp [Value.oneCell']) (by simp) fun ajK Dm=>?_);replace dD:=dD.ne Dm.mod (Ne.symm cc);replace aW:=aW.ne Dm.mod (Ne.symm ep);replace qE:=qE.ne Dm.mod (Ne.symm qQ);replace E:=E.own Dm.mod cp;replace b1:=b1.put Dm.mod Db;replace b3:=b3.put Dm.mod Dc;replace fR:=fR.put Dm.mod A9;replace ai:aD ajK g2 _ [_,_,_,_,_,_,_,_,_,_,_,_,_,_,_,_,_]:=Dm.aA;exact bb rfl (R mz (bg (a1 (by simp) (iO (vs:=[_,_,_,_,_,_,_,_,_,_,_,_,_,_,_,_,_]) rfl dC rfl rfl (ai.cs rfl) rfl ⟨_,by rw [qO],.inr ⟨by rw [qO];decide,rfl⟩,E⟩))))
   by_cases adH:((aaE.rest.map.length:Int)+(TX.rest.map.length:Int)) > 0
   ·obtain⟨Yh,Yi,Yj,Yk,dD,Yl,Ym⟩:=hn;obtain⟨Yn,Yo,Yp,Yq,qE,Yr,Ys⟩:=PR;refine bK wide (by kernel_rfl) (fM 2 rfl rfl (ah (fun J=>(au ek rfl)) (ah (fun J=>(bh jQ rfl ((dD.I J).cell rfl))) (ah (fun J=>(dQ rfl)) (aI ((eo gk)) (fun J=>(dQ rfl)) (aI ((eo gk)) (fun J=>(dx rfl)) (aI ((eo gk)) (fun J=>(au ek rfl)) (aI ((eo gk)) (fun J=>(bh jQ rfl ((qE.I J).cell rfl))) (ah (fun J=>(ky ((eo gk)) rfl rfl)) (ah (fun J=>(dQ rfl)) (aI ((eo ej)) (fun J=>(dQ rfl)) (aI ((eo ej)) (fun J=>(dx rfl)) (aI ((eo ej)) (fun J=>(au lk rfl)) ?_)))))))))))));refine aI ((eo ej)) (fun J=>(au cw rfl)) (aI ((eo ej)) (fun J=>(bh eg rfl ((dD.I J).cell rfl))) (aI ((eo ej)) (fun J=>(bx Tryz.underlying23 rfl)) (aI ((eo ej)) (fun J=>(dQ rfl)) (aI ((eo ej)) (fun J=>(dx rfl)) (aI ((eo ej)) (fun J=>(au lk rfl)) (aI ((eo ej)) (fun J=>(au cw rfl)) (aI ((eo ej)) (fun J=>(bh eg rfl ((qE.I J).cell rfl))) (aI ((eo ej)) (fun J=>(bx Tryz.underlying23 rfl)) (aI ((eo ej)) (fun J=>(bT rfl rfl (by omega))) (aI ((eo ej)) (fun J=>(hY rfl rfl)) (ah (fun J=>(ky ((eo ej)) rfl rfl)) (bN rfl fun aod J=>?_))))))))))));replace ai:=ai.I J;replace dD:=dD.I J;replace aW:=aW.I J;replace qE:=qE.I J;replace F:=F.then J;replace E:=E.then J;replace b1:=b1.I J;replace b3:=b3.I J;replace fR:=fR.I J;refine az k7 ?_;refine bm rfl (fun Dn=>?_) (fun Dn=>absurd adH Dn);have qO:ja v=21:=by unfold ja;rw [if_neg Rp,if_pos (by rw [JO];first | (rw [gk];rfl) | (rw [eo gk,ej];rfl) | (rw [eo gk,eo ej,bB (show aaE.rest.map.length+TX.rest.map.length > 0 by omega)];rfl))]
    refine ae fun pS=>ao (bj (cs:=[_,_,_,_,_,_,_,_,_,_,_,_,_,_,_,_,_]) s9 jb rfl rfl) (bd (vs:=[_,_,_,_,_,_,_,_,_,_,_,_,_,_,_,_,_]) dC ai rfl rfl rfl (by simp [Value.oneCell']) (by simp) fun ajL Dp=>?_);replace dD:=dD.ne Dp.mod (Ne.symm cc);replace aW:=aW.ne Dp.mod (Ne.symm ep);replace qE:=qE.ne Dp.mod (Ne.symm qQ);replace E:=E.own Dp.mod cp;replace b1:=b1.put Dp.mod Db;replace b3:=b3.put Dp.mod Dc;replace fR:=fR.put Dp.mod A9;replace ai:aD ajL g2 _ [_,_,_,_,_,_,_,_,_,_,_,_,_,_,_,_,_]:=Dp.aA;exact bb rfl (R pS (bg (a1 (by simp) (iO (vs:=[_,_,_,_,_,_,_,_,_,_,_,_,_,_,_,_,_]) rfl dC rfl rfl (ai.cs rfl) rfl ⟨_,by rw [qO],.inr ⟨by rw [qO];decide,rfl⟩,E⟩))))
   obtain⟨Yh,Yi,Yj,Yk,dD,Yl,Ym⟩:=hn;obtain⟨Yn,Yo,Yp,Yq,qE,Yr,Ys⟩:=PR;refine bK wide (by kernel_rfl) (fM 2 rfl rfl (ah (fun J=>(au ek rfl)) (ah (fun J=>(bh jQ rfl ((dD.I J).cell rfl))) (ah (fun J=>(dQ rfl)) (aI ((eo gk)) (fun J=>(dQ rfl)) (aI ((eo gk)) (fun J=>(dx rfl)) (aI ((eo gk)) (fun J=>(au ek rfl)) (aI ((eo gk)) (fun J=>(bh jQ rfl ((qE.I J).cell rfl))) (ah (fun J=>(ky ((eo gk)) rfl rfl)) (ah (fun J=>(dQ rfl)) (aI ((eo ej)) (fun J=>(dQ rfl)) (aI ((eo ej)) (fun J=>(dx rfl)) (aI ((eo ej)) (fun J=>(au lk rfl)) ?_)))))))))))));refine aI ((eo ej)) (fun J=>(au cw rfl)) (aI ((eo ej)) (fun J=>(bh eg rfl ((dD.I J).cell rfl))) (aI ((eo ej)) (fun J=>(bx Tryz.underlying23 rfl)) (aI ((eo ej)) (fun J=>(dQ rfl)) (aI ((eo ej)) (fun J=>(dx rfl)) (aI ((eo ej)) (fun J=>(au lk rfl)) (aI ((eo ej)) (fun J=>(au cw rfl)) (aI ((eo ej)) (fun J=>(bh eg rfl ((qE.I J).cell rfl))) (aI ((eo ej)) (fun J=>(bx Tryz.underlying23 rfl)) (aI ((eo ej)) (fun J=>(bT rfl rfl (by omega))) (aI ((eo ej)) (fun J=>(hY rfl rfl)) (ah (fun J=>(ky ((eo ej)) rfl rfl)) (bN rfl fun ajM J=>?_))))))))))));replace ai:=ai.I J;replace dD:=dD.I J;replace aW:=aW.I J;replace qE:=qE.I J;replace F:=F.then J;replace E:=E.then J;replace b1:=b1.I J;replace b3:=b3.I J;replace fR:=fR.I J;refine az k7 (bm rfl (fun Dn=>absurd Dn adH) (fun Dn=>?_));have Yt:ja v=(ey v).o8:=by unfold ja;rw [if_neg Rp,if_neg (by rw [JO,eo gk,eo ej,bX (show ¬ aaE.rest.map.length+TX.rest.map.length > 0 by omega)];simp)]
   refine cJ (az iK (ay fun mA=>ay fun n'=>?_));have Ry:=Mod.refl [] ajM;have JP:=XH.toM F (by simp);have JQ:=aiN.toM F (by simp);have RE:ak [] _ (ey v).D [S (nO v).1.str,S (nP v).1.str,S (nQ v).1.str,.bool (ll v),S (iS v).1.str,.int .i64 (dO v).1.kind,.bool (dO v).1.is,.int .i64 (dO v).1.num,S (dO v).1.str,.slice JJ (dO v).1.list.length JK,.slice JL (dO v).1.map.length JM,.slice ke (fS v).1.length o6,.slice kf (gN v).1.length o7,.int .i64 (nR v).1.num,.int .i64 (jS v).1.num,S (pB v).1.str,.slice Ya (bp (bz v).1.map).length ajz]:=EV.b6 (e:=ey v) (JV.b6 (v:=(dO v).1) (JP.fN (by simp)) (JQ.fN (by simp))) (Own.strs [] b1 (by simp)) (Own.strs [] b3 (by simp)) (JH fR);refine b8 (ao (a8 (vs:=[_,_,_,_,_,_,_,_,_,_,_,_,_,_,_,_,_]) dC rfl rfl (aW.cs rfl)) (cD (bt NY rfl) (Dq _ (ey v) _ RE (Ht NI) (zB NI) (jY.mod E (by simp)) (eb.I E)) fun aoe J=>?_));replace ai:=ai.I J;replace dD:=dD.I J;replace aW:=aW.I J;replace qE:=qE.I J;replace F:=F.then J;replace E:=E.then J;replace Ry:=Ry.then J;replace b1:=b1.I J;replace b3:=b3.I J;replace fR:=fR.I J;refine bb rfl (R n' (ae fun pg=>aq 2 rfl (R pg ?_)));refine bm rfl (fun NZ=>?_) (fun NZ=>?_)
   ·refine ae fun q2=>ao (bj (cs:=[_,_,_,_,_,_,_,_,_,_,_,_,_,_,_,_,_]) s9 jb rfl rfl) (aQ rfl (bd (vs:=[_,_,_,_,_,_,_,_,_,_,_,_,_,_,_,_,_]) dC ai rfl rfl rfl (by simp [Value.oneCell']) (by simp) fun ajN Dr=>?_));replace dD:=dD.ne Dr.mod (Ne.symm cc);replace aW:=aW.ne Dr.mod (Ne.symm ep);replace qE:=qE.ne Dr.mod (Ne.symm qQ);replace E:=E.own Dr.mod cp;replace b1:=b1.put Dr.mod Db;replace b3:=b3.put Dr.mod Dc;replace fR:=fR.put Dr.mod A9;replace ai:aD ajN g2 _ [_,_,_,_,_,_,_,_,_,_,_,_,_,_,_,_,_]:=Dr.aA;exact bb rfl (R q2 (bg (a1 (by simp) (iO (vs:=[_,_,_,_,_,_,_,_,_,_,_,_,_,_,_,_,_]) rfl dC rfl rfl (ai.cs rfl) rfl ⟨_,by rw [Yt],.inr ⟨by rw [Yt];exact NZ,rfl⟩,E⟩))))
   refine cJ (az mA (ae fun sh=>ao (a8 (vs:=[_,_,_,_,_,_,_,_,_,_,_,_,_,_,_,_,_]) dC rfl rfl (aW.cs rfl)) ?_));replace JP:=JP.bE Ry;replace JQ:=JQ.bE Ry;refine bd (vs:=[_,_,_,_,_,_,_,_,_,_,_,_,_,_,_,_,_]) dC ai rfl rfl rfl (by simp [Value.oneCell']) (by simp) fun ajO yE=>?_;replace dD:=dD.ne yE.mod (Ne.symm cc);replace aW:=aW.ne yE.mod (Ne.symm ep);replace qE:=qE.ne yE.mod (Ne.symm qQ);replace E:=E.own yE.mod cp;replace b1:=b1.put yE.mod Db;replace b3:=b3.put yE.mod Dc;replace fR:=fR.put yE.mod A9;replace ai:aD ajO g2 _ [_,_,_,_,_,_,_,_,_,_,_,_,_,_,_,_,_]:=yE.aA;have adI:ja v=0:=Yt.trans (Classical.not_not.1 NZ);replace JP:=JP.toM yE.mod (fun a ax=>by simp [List.mem_singleton.1 ax]);replace JQ:=JQ.toM yE.mod (fun a ax=>by simp [List.mem_singleton.1 ax]);exact bb rfl (R sh (bg (iO (vs:=[_,_,_,_,_,_,_,_,_,_,_,_,_,_,_,_,_]) rfl dC rfl rfl (ai.cs rfl) rfl ⟨_,by rw [adI];rfl,lG.mk adI (JV.b6 (v:=(dO v).1) (JP.fN (fun x ab=>by simp [ab])) (JQ.fN (fun x ab=>by simp [ab]))) b1 b3 fR aiO aiP (fun x ab=>Nat.le_trans Rq (tb x ab).1),E⟩)))
  obtain⟨x,b'⟩:∃ y,(bz v).1.map[i]? = some y:=⟨_,List.getElem?_eq_getElem (by omega)⟩;obtain⟨mn,pe,fc,eV,dv⟩:=JV.nZ RG b';obtain⟨mo,mq,k4,jC,rfl,pf,jT⟩:=JV.bc eV;obtain rfl:=fc;obtain⟨ads,alR⟩:=ND b';have BQ:x.2.map.length≤65536:=by
   have eE:(bp (bz v).1.map).length≤65536:=Ew;omega
  refine cJ (az dS (ay fun eD=>fU (ae fun fl=>ao (cf dn rfl rfl (by omega)) (ao (a8 nj rfl rfl dv) (bl gV rfl fun g5 Mw fh=>?_)))));have XW:=fh.le F;have ru:=fh.le E;have Ba:=fh.le gB;have oG:=fh.ne ai;have iB:=fh.ne dD;have oH:=fh.ne aW;have NN:=fh.cd b1;have NO:=fh.cd b3;have vK:=fh.cd fR;replace ai:=ai.I fh.mod;replace dD:=dD.I fh.mod;replace aW:=aW.I fh.mod;replace F:=F.then fh.mod;replace E:=E.then fh.mod;replace gB:=gB.then fh.mod;replace b1:=b1.I fh.mod;replace b3:=b3.I fh.mod;replace fR:=fR.I fh.mod;have ez:=fh.aA;refine bd (vs:=[_,_,_,_,_,_,_]) nj ez rfl rfl rfl (by simp [Value.oneCell']) (by simp) fun IL yB=>?_;replace ai:=ai.ne yB.mod oG;replace dD:=dD.ne yB.mod iB;replace aW:=aW.ne yB.mod oH;replace F:=F.own yB.mod XW;replace E:=E.own yB.mod ru;replace gB:=gB.own yB.mod Ba;replace b1:=b1.put yB.mod NN;replace b3:=b3.put yB.mod NO;replace fR:=fR.put yB.mod vK;replace ez:aD IL g5 _ [_,_,_,_,_,_,_]:=yB.aA;refine R fl (l7 fun ajv e0=>?_);have XX:∀ (aE:World),(∀ y∈aL vs,y≠g5)∧Own aE 92 3 vs (bp ((bz v).1.map.take i)).length (((bp ((bz v).1.map.take i)).map cX.cells).flatten)∧(∀ y∈aL vs,NJ.heap.size≤y∧y≠g4∧y∉aL (.slice ke (fS v).1.length o6)∧y∉aL (.slice kf (gN v).1.length o7))∧aS ([g4,g3]++aL vs) aE (.iW 7 ((bz v).1.map.map JV.hG)) (.slice (some mn) (bz v).1.map.length Dd)∧aS ([g4,g3]++aL vs) aE (.iW 6 ((bz v).2.rest.list.map JV.D)) (.slice De (bz v).2.rest.list.length Df)∧aS ([g4,g3]++aL vs) aE (.iW 7 ((bz v).2.rest.map.map JV.hG)) (.slice Dg (bz v).2.rest.map.length Dh)∧aS ([g4,g3]++aL vs) aE (.iW 7 (x.2.map.map JV.hG)) (.slice k4 x.2.map.length jC)∧aD aE g3 103 [.int .i64 (bz v).2.rest.kind,.bool (bz v).2.rest.is,.int .i64 (bz v).2.rest.num,S (bz v).2.rest.str,.slice De (bz v).2.rest.list.length Df,.slice Dg (bz v).2.rest.map.length Dh,.bool (((bz v).2.bad||((bz v).1.map.take i).any l5)||(decide (x.2.map.length=0)||(x.2.map.take 0).any fun q=>decide (q.2.kind≠3)))]∧aD aE g5 51 [S x.1,.int .i64 x.2.kind,.bool x.2.is,.int .i64 x.2.num,S x.2.str,.slice mo x.2.list.length mq,.slice k4 x.2.map.length jC]∧aD aE g4 29 [S (nO v).1.str,S (nP v).1.str,S (nQ v).1.str,.bool (ll v),S (iS v).1.str,.int .i64 (dO v).1.kind,.bool (dO v).1.is,.int .i64 (dO v).1.num,S (dO v).1.str,.slice JJ (dO v).1.list.length JK,.slice JL (dO v).1.map.length JM,.slice ke (fS v).1.length o6,.slice kf (gN v).1.length o7,.int .i64 (nR v).1.num,.int .i64 (jS v).1.num,S [],vs]∧Own aE 9 1 (.slice ke (fS v).1.length o6) (fS v).1.length (((fS v).1.map fun s=>[S s]).flatten)∧Own aE 9 1 (.slice kf (gN v).1.length o7) (gN v).1.length (((gN v).1.map fun s=>[S s]).flatten)∧aD aE g2 29 [S [],S [],S [],.bool false,S [],.int .i64 0,.bool false,.int .i64 0,S [],.slice none 0 0,.slice none 0 0,.slice none 0 0,.slice none 0 0,.int .i64 0,.int .i64 0,S [],.slice none 0 0]∧Mod [g3] NJ aE∧Mod [] w aE→∀ a,Has 173 [] [(2,.pointer (some ⟨g2,0,none⟩)),(3,.int .i64 0),(6,.pointer (some ⟨g3,0,none⟩)),(7,.pointer (some ⟨g4,0,none⟩)),(75,.slice (some mn) (bz v).1.map.length Dd),(76,.int .i64 (bz v).1.map.length),(77,.int .i64 (i:Int)),(11,.pointer (some ⟨g5,0,none⟩))] a→ajv a aE:=by
   intro Mx pF;obtain⟨Di,fR,tb,RG,jy,jz,jT,dD,ez,aW,b1,b3,ai,F,E⟩:=pF;have A9:∀ y∈aL vs,y≠g2:=fun y aR e=>by have:=(tb y aR).1;omega
   have xI:∀ y∈aL vs,y≠g3:=fun y aR e=>by have:=(tb y aR).1;omega
   have NL:∀ y∈aL vs,y≠g4:=fun y aR=>(tb y aR).2.1;have gB:=Mod.refl [] Mx;refine e0 _ _ _ _ (ae fun gW=>ao (au iz rfl) (ao (zq cw rfl) (ao (bh eg rfl (ez.cell rfl)) (ao (bx Tryz.underlying23 rfl) (aQ rfl (R gW (fU (cz (σ:=Nat×Value) (fun⟨j,vs⟩=>[(2,.pointer (some ⟨g2,0,none⟩)),(3,.int .i64 0),(6,.pointer (some ⟨g3,0,none⟩)),(7,.pointer (some ⟨g4,0,none⟩)),(75,.slice (some mn) (bz v).1.map.length Dd),(76,.int .i64 (bz v).1.map.length),(77,.int .i64 (i:Int)),(11,.pointer (some ⟨g5,0,none⟩)),(97,.slice k4 x.2.map.length jC),(98,.int .i64 x.2.map.length),(99,.int .i64 (j:Int))]) (fun⟨j,vs⟩ aE=>j≤x.2.map.length∧(∀ y∈aL vs,y≠g5)∧Own aE 92 3 vs ((bp ((bz v).1.map.take i)++(en x).take j)).length ((((bp ((bz v).1.map.take i)++(en x).take j)).map cX.cells).flatten)∧(∀ y∈aL vs,NJ.heap.size≤y∧y≠g4∧y∉aL (.slice ke (fS v).1.length o6)∧y∉aL (.slice kf (gN v).1.length o7))∧aS ([g4,g3]++aL vs) aE (.iW 7 ((bz v).1.map.map JV.hG)) (.slice (some mn) (bz v).1.map.length Dd)∧aS ([g4,g3]++aL vs) aE (.iW 6 ((bz v).2.rest.list.map JV.D)) (.slice De (bz v).2.rest.list.length Df)∧aS ([g4,g3]++aL vs) aE (.iW 7 ((bz v).2.rest.map.map JV.hG)) (.slice Dg (bz v).2.rest.map.length Dh)∧aS ([g4,g3]++aL vs) aE (.iW 7 (x.2.map.map JV.hG)) (.slice k4 x.2.map.length jC)∧aD aE g3 103 [.int .i64 (bz v).2.rest.kind,.bool (bz v).2.rest.is,.int .i64 (bz v).2.rest.num,S (bz v).2.rest.str,.slice De (bz v).2.rest.list.length Df,.slice Dg (bz v).2.rest.map.length Dh,.bool (((bz v).2.bad||((bz v).1.map.take i).any l5)||(decide (x.2.map.length=0)||(x.2.map.take j).any fun q=>decide (q.2.kind≠3)))]∧aD aE g5 51 [S x.1,.int .i64 x.2.kind,.bool x.2.is,.int .i64 x.2.num,S x.2.str,.slice mo x.2.list.length mq,.slice k4 x.2.map.length jC]∧aD aE g4 29 [S (nO v).1.str,S (nP v).1.str,S (nQ v).1.str,.bool (ll v),S (iS v).1.str,.int .i64 (dO v).1.kind,.bool (dO v).1.is,.int .i64 (dO v).1.num,S (dO v).1.str,.slice JJ (dO v).1.list.length JK,.slice JL (dO v).1.map.length JM,.slice ke (fS v).1.length o6,.slice kf (gN v).1.length o7,.int .i64 (nR v).1.num,.int .i64 (jS v).1.num,S [],vs]∧Own aE 9 1 (.slice ke (fS v).1.length o6) (fS v).1.length (((fS v).1.map fun s=>[S s]).flatten)∧Own aE 9 1 (.slice kf (gN v).1.length o7) (gN v).1.length (((gN v).1.map fun s=>[S s]).flatten)∧aD aE g2 29 [S [],S [],S [],.bool false,S [],.int .i64 0,.bool false,.int .i64 0,S [],.slice none 0 0,.slice none 0 0,.slice none 0 0,.slice none 0 0,.int .i64 0,.int .i64 0,S [],.slice none 0 0]∧Mod [g3] NJ aE∧Mod [] w aE) (fun⟨j,vs⟩=>x.2.map.length-j) (⟨0,vs⟩) ⟨rfl,rfl,rfl,rfl,rfl,rfl,rfl,rfl,rfl,rfl,rfl,trivial⟩ (⟨by omega,Di,by simpa using fR,tb,RG.bE gB,jy.bE gB,jz.bE gB,jT.bE gB,dD,ez,aW,b1,b3,ai,F,E⟩) ?_))))))));rintro⟨j,vs⟩ IM ⟨dG,Di,fR,tb,RG,jy,jz,jT,dD,ez,aW,b1,b3,ai,F,E⟩;have A9:∀ y∈aL vs,y≠g2:=fun y aR e=>by have:=(tb y aR).1;omega
   have xI:∀ y∈aL vs,y≠g3:=fun y aR e=>by have:=(tb y aR).1;omega
   have NL:∀ y∈aL vs,y≠g4:=fun y aR=>(tb y aR).2.1;have gB:=Mod.refl [] IM;refine ae fun hx=>ao (dK rfl rfl) (R hx (ay fun gy=>?_));refine bm rfl (fun adt=>?_) (fun adt=>?_);rotate_left
   ·have Xw:j=x.2.map.length:=by omega
    subst Xw;have ajA:((bz v).2.bad||((bz v).1.map.take (i+1)).any l5)=(((bz v).2.bad||((bz v).1.map.take i).any l5)||(decide (x.2.map.length=0)||(x.2.map.take x.2.map.length).any fun q=>decide (q.2.kind≠3))):=by
     have h1:(bz v).1.map.take (i+1)=(bz v).1.map.take i ++ [x]:=by rw [List.take_succ_eq_append_getElem (by omega),(List.getElem?_eq_some_iff.1 b').2]
     rw [h1,List.any_append,List.take_length,Bool.or_assoc,List.any_cons,List.any_nil,Bool.or_false];rfl
    rw [show(en x).take x.2.map.length=en x from List.take_of_length_le (by simp [en])] at fR;exact bV (a1 (by simp) (a1 (by simp) (cr (b5 (by simp) (az eD (b8 (ao (bT rfl rfl (by omega)) (aQ rfl (eG (jW (σ:=Nat×Value) (s:=⟨i,vs⟩) (⟨i+1,vs⟩) ⟨rfl,rfl,rfl,rfl,rfl,rfl,rfl,trivial⟩ ⟨by omega,by rw [ads];exact fR,tb,RG.bE gB,jy.bE gB,jz.bE gB,by rw [ajA];exact dD,aW,b1,b3,ai,F,E⟩ (by dsimp only;omega)))))))))))
   obtain⟨q,nC⟩:∃ y,x.2.map[j]? = some y:=⟨_,List.getElem?_eq_getElem (by omega)⟩;obtain⟨NP,adu,Dj,XY,kg⟩:=JV.nZ jT nC;obtain⟨TR,TT,T1,T2,rfl,adv,anY⟩:=JV.bc XY;obtain rfl:=Dj;have adw:=JG nC;have X0:x.2.map.take (j+1)=x.2.map.take j ++ [q]:=by rw [List.take_succ_eq_append_getElem (by omega),(List.getElem?_eq_some_iff.1 nC).2]
   have alS:(en x).length=x.2.map.length:=by simp [en]
   have alT:((bp ((bz v).1.map.take i)++(en x).take j)).length≤65535:=by
    have eE:(bp (bz v).1.map).length≤65536:=Ew;rw [List.length_append,List.length_take];omega
   refine cJ (az gy (ay fun gz=>fU (ae fun hJ=>ao (cf dn rfl rfl (by omega)) (ao (a8 nj rfl rfl kg) (bl gV rfl fun g6 My nS=>?_)))));have X8:=nS.le F;have Bb:=nS.le E;have Ho:=nS.le gB;have Hp:=nS.ne ai;have tc:=nS.ne dD;have Rr:=nS.ne aW;have Rs:=nS.ne ez;have NQ:=nS.cd b1;have NR:=nS.cd b3;have Rt:=nS.cd fR;replace ai:=ai.I nS.mod;replace dD:=dD.I nS.mod;replace aW:=aW.I nS.mod;replace ez:=ez.I nS.mod;replace F:=F.then nS.mod;replace E:=E.then nS.mod;replace gB:=gB.then nS.mod;replace b1:=b1.I nS.mod;replace b3:=b3.I nS.mod;replace fR:=fR.I nS.mod;have h':=nS.aA;refine bd (vs:=[_,_,_,_,_,_,_]) nj h' rfl rfl rfl (by simp [Value.oneCell']) (by simp) fun IN xJ=>?_;replace ai:=ai.ne xJ.mod Hp;replace dD:=dD.ne xJ.mod tc;replace aW:=aW.ne xJ.mod Rr;replace ez:=ez.ne xJ.mod Rs;replace F:=F.own xJ.mod X8;replace E:=E.own xJ.mod Bb;replace gB:=gB.own xJ.mod Ho;replace b1:=b1.put xJ.mod NQ;replace b3:=b3.put xJ.mod NR;replace fR:=fR.put xJ.mod Rt;replace h':aD IN g6 _ [_,_,_,_,_,_,_]:=xJ.aA;refine R hJ (l7 fun ajw ib=>?_);have X9:∀ (aE:World),(∀ y∈aL vs,y≠g5)∧Own aE 92 3 vs ((bp ((bz v).1.map.take i)++(en x).take j)).length ((((bp ((bz v).1.map.take i)++(en x).take j)).map cX.cells).flatten)∧(∀ y∈aL vs,NJ.heap.size≤y∧y≠g4∧y∉aL (.slice ke (fS v).1.length o6)∧y∉aL (.slice kf (gN v).1.length o7))∧aS ([g4,g3]++aL vs) aE (.iW 7 ((bz v).1.map.map JV.hG)) (.slice (some mn) (bz v).1.map.length Dd)∧aS ([g4,g3]++aL vs) aE (.iW 6 ((bz v).2.rest.list.map JV.D)) (.slice De (bz v).2.rest.list.length Df)∧aS ([g4,g3]++aL vs) aE (.iW 7 ((bz v).2.rest.map.map JV.hG)) (.slice Dg (bz v).2.rest.map.length Dh)∧aS ([g4,g3]++aL vs) aE (.iW 7 (x.2.map.map JV.hG)) (.slice (some NP) x.2.map.length jC)∧aD aE g3 103 [.int .i64 (bz v).2.rest.kind,.bool (bz v).2.rest.is,.int .i64 (bz v).2.rest.num,S (bz v).2.rest.str,.slice De (bz v).2.rest.list.length Df,.slice Dg (bz v).2.rest.map.length Dh,.bool (((bz v).2.bad||((bz v).1.map.take i).any l5)||(decide (x.2.map.length=0)||(x.2.map.take (j+1)).any fun q=>decide (q.2.kind≠3)))]∧aD aE g5 51 [S x.1,.int .i64 x.2.kind,.bool x.2.is,.int .i64 x.2.num,S x.2.str,.slice mo x.2.list.length mq,.slice (some NP) x.2.map.length jC]∧aD aE g6 51 [S q.1,.int .i64 q.2.kind,.bool q.2.is,.int .i64 q.2.num,S q.2.str,.slice TR q.2.list.length TT,.slice T1 q.2.map.length T2]∧aD aE g4 29 [S (nO v).1.str,S (nP v).1.str,S (nQ v).1.str,.bool (ll v),S (iS v).1.str,.int .i64 (dO v).1.kind,.bool (dO v).1.is,.int .i64 (dO v).1.num,S (dO v).1.str,.slice JJ (dO v).1.list.length JK,.slice JL (dO v).1.map.length JM,.slice ke (fS v).1.length o6,.slice kf (gN v).1.length o7,.int .i64 (nR v).1.num,.int .i64 (jS v).1.num,S [],vs]∧Own aE 9 1 (.slice ke (fS v).1.length o6) (fS v).1.length (((fS v).1.map fun s=>[S s]).flatten)∧Own aE 9 1 (.slice kf (gN v).1.length o7) (gN v).1.length (((gN v).1.map fun s=>[S s]).flatten)∧aD aE g2 29 [S [],S [],S [],.bool false,S [],.int .i64 0,.bool false,.int .i64 0,S [],.slice none 0 0,.slice none 0 0,.slice none 0 0,.slice none 0 0,.int .i64 0,.int .i64 0,S [],.slice none 0 0]∧Mod [g3] NJ aE∧Mod [] w aE→∀ a,Has 173 [] [(2,.pointer (some ⟨g2,0,none⟩)),(3,.int .i64 0),(6,.pointer (some ⟨g3,0,none⟩)),(7,.pointer (some ⟨g4,0,none⟩)),(75,.slice (some mn) (bz v).1.map.length Dd),(76,.int .i64 (bz v).1.map.length),(77,.int .i64 (i:Int)),(11,.pointer (some ⟨g5,0,none⟩)),(13,.pointer (some ⟨g6,0,none⟩)),(97,.slice (some NP) x.2.map.length jC),(98,.int .i64 x.2.map.length),(99,.int .i64 (j:Int))] a→ajw a aE:=by
    intro QC pF;obtain⟨Di,fR,tb,RG,jy,jz,jT,dD,ez,h',aW,b1,b3,ai,F,E⟩:=pF;have A9:∀ y∈aL vs,y≠g2:=fun y aR e=>by have:=(tb y aR).1;omega
    have xI:∀ y∈aL vs,y≠g3:=fun y aR e=>by have:=(tb y aR).1;omega
    have NL:∀ y∈aL vs,y≠g4:=fun y aR=>(tb y aR).2.1;have gB:=Mod.refl [] QC;refine ib _ _ _ _ (b8 (ao (au dq rfl) (ao (bh hz rfl (aW.cell rfl)) (ao (au gw rfl) (ao (bh bH rfl (ez.cell rfl)) (ao (au gw rfl) (ao (bh bH rfl (h'.cell rfl)) (ao (au iz rfl) (ao (zq j2 rfl) (ao (bh bH rfl (h'.cell rfl)) (ao (bj (cs:=[_,_,_]) adn Hq rfl rfl) (cF (cs:=[_,_,_]) gZ Hq rfl rfl rfl (by decide) rfl fun g7 QD qe=>?_))))))))))));have ajx:=qe.le F;have NS:=qe.le E;have af0:=qe.le gB;have af1:=qe.ne ai;have af2:=qe.ne dD;have af3:=qe.ne aW;have af4:=qe.ne ez;have Hr:=qe.ne h';have adx:=qe.cd b1;have ady:=qe.cd b3;have af5:=qe.cd fR;replace ai:=ai.I qe.mod;replace dD:=dD.I qe.mod;replace aW:=aW.I qe.mod;replace ez:=ez.I qe.mod;replace h':=h'.I qe.mod;replace F:=F.then qe.mod;replace E:=E.then qe.mod;replace gB:=gB.then qe.mod;replace b1:=b1.I qe.mod;replace b3:=b3.I qe.mod;replace fR:=fR.I qe.mod;have Ga:=qe.aA;refine cV gZ rfl rfl fR (Src.own Tryz.underlying27 (Own.all (cs:=[_,_,_]) Ga rfl (by omega)) (by simp [Value.oneCell'])) (by decide) (by omega) (by omega) rfl fun X' IP gi=>?_;have qp:Own IP 92 3 X' ((bp ((bz v).1.map.take i)++(en x).take (j+1))).length ((((bp ((bz v).1.map.take i)++(en x).take (j+1))).map cX.cells).flatten):=gi.own.same (by rw [adw];simp [Nat.add_assoc]) (by rw [adw];simp [cX.cells]);have FF:∀ y∈aL X',NJ.heap.size≤y∧y≠g4∧y∉aL (.slice ke (fS v).1.length o6)∧y∉aL (.slice kf (gN v).1.length o7):=fun y aR=>(gi.kn y aR).elim (tb y) (fun h=>⟨Nat.le_trans F.size h,fun e=>by have:=aW.lt;omega,fun hu=>by have:=b1.lt y hu;omega,fun hu=>by have:=b3.lt y hu;omega⟩);have ajy:∀ y∈aL X',y≠g5:=fun y aR=>(gi.kn y aR).elim (Di y) (fun h e=>by have:=ez.lt;omega);replace RG:=pG.q6 gi (RG.bE gB);replace jy:=pG.q6 gi (jy.bE gB);replace jz:=pG.q6 gi (jz.bE gB);replace jT:=pG.q6 gi (jT.bE gB);replace dD:=dD.mod gi.mod (fun h=>xI _ h rfl);replace ez:=ez.mod gi.mod (fun h=>Di _ h rfl);replace aW:=aW.mod gi.mod (fun h=>NL _ h rfl);replace ai:=ai.mod gi.mod (fun h=>A9 _ h rfl);replace F:=F.trans' gi.mod (fun y aR=>.inr (tb y aR).1);replace E:=E.trans' gi.mod (fun y aR=>.inr (Nat.le_trans Rq (tb y aR).1));replace b1:=b1.mod gi.mod (fun y aR h=>(tb y h).2.2.1 aR);replace b3:=b3.mod gi.mod (fun y aR h=>(tb y h).2.2.2 aR);obtain⟨Ya,ajz,rfl,adz,adA⟩:=qp.form;have gB:=Mod.refl [] IP;refine ao (au dq rfl) (ea hz aW rfl rfl rfl (by simp) fun Mz yC=>?_);replace ai:=ai.ne yC.mod ep;replace dD:=dD.ne yC.mod cE;replace ez:=ez.ne yC.mod (Ne.symm oH);replace F:=F.own yC.mod mO;replace E:=E.own yC.mod fu;replace b1:=b1.put yC.mod jc;replace b3:=b3.put yC.mod jd;replace aW:aD Mz g4 _ [_,_,_,_,_,_,_,_,_,_,_,_,_,_,_,_,_]:=yC.aA;replace qp:=qp.put yC.mod (fun y aR=>(FF y aR).2.1);have Ru:=yC.mod;have af6:∀ (l:List Nat) (y:Nat),y∈[g4]→y∈[g4,g3]++l:=fun l y aR=>by simp [List.mem_singleton.1 aR]
    exact eG (b5 (by simp) (az gz (b8 (ao (bT rfl rfl (by omega)) (aQ rfl (eG (jW (σ:=Nat×Value) (s:=⟨j,vs⟩) (⟨j+1,_⟩) ⟨rfl,rfl,rfl,rfl,rfl,rfl,rfl,rfl,rfl,rfl,rfl,trivial⟩ ⟨by omega,ajy,qp,FF,RG.toM Ru (af6 _),jy.toM Ru (af6 _),jz.toM Ru (af6 _),jT.toM Ru (af6 _),dD,ez,aW,b1,b3,ai,F,E⟩ (by dsimp only;omega))))))))
   replace RG:=RG.bE gB;replace jy:=jy.bE gB;replace jz:=jz.bE gB;replace jT:=jT.bE gB;refine b8 (aq 3 rfl (ao (au ek rfl) (ao (bh jQ rfl (dD.cell rfl)) ?_)));refine vX (fun aH:((((bz v).2.bad||((bz v).1.map.take i).any l5)||(decide (x.2.map.length=0)||(x.2.map.take j).any fun q=>decide (q.2.kind≠3))))=true=>?_) (fun aH=>?_)
   ·have tM:(((bz v).2.bad||((bz v).1.map.take i).any l5)||(decide (x.2.map.length=0)||(x.2.map.take (j+1)).any fun q=>decide (q.2.kind≠3)))=true:=by rw [X0,List.any_append,← Bool.or_assoc,← Bool.or_assoc,Bool.or_assoc ((bz v).2.bad||((bz v).1.map.take i).any l5),aH];simp
    refine aq 7 rfl (ao (au ek rfl) (ea jQ dD rfl rfl rfl (by simp) fun NT td=>?_));replace ai:=ai.ne td.mod cc;replace aW:=aW.ne td.mod (Ne.symm cE);replace ez:=ez.ne td.mod (Ne.symm iB);replace h':=h'.ne td.mod (Ne.symm tc);replace F:=F.trans td.mod;replace E:=E.own td.mod dA;replace b1:=b1.put td.mod mP;replace b3:=b3.put td.mod nB;replace fR:=fR.put td.mod xI;replace dD:aD NT g3 _ [_,_,_,_,_,_,_]:=td.aA;replace RG:=RG.toM td.mod (fun a ax=>by simp [List.mem_singleton.1 ax]);replace jy:=jy.toM td.mod (fun a ax=>by simp [List.mem_singleton.1 ax]);replace jz:=jz.toM td.mod (fun a ax=>by simp [List.mem_singleton.1 ax]);replace jT:=jT.toM td.mod (fun a ax=>by simp [List.mem_singleton.1 ax]);have gB:=Mod.refl [] NT;refine eG ?_;refine hd.sub (l':=[(2,_),(3,_),(6,_),(7,_),(75,_),(76,_),(77,_),(11,_),(13,_),(97,_),(98,_),(99,_)]) ⟨rfl,rfl,rfl,rfl,rfl,rfl,rfl,rfl,rfl,rfl,rfl,rfl,trivial⟩ (fv (X9 NT ⟨Di,fR,tb,RG,jy,jz,jT,by rw [tM];exact dD,ez,h',aW,b1,b3,ai,F,E⟩))
   refine aQ rfl (aw (au iz rfl) (aw (zq jj rfl) (aw (bh dY rfl (h'.cell rfl)) (aw (fE rfl rfl) ?_))));refine dR (fun hk:q.2.kind≠3=>?_) (fun hk=>?_);rotate_left
   ·have tM:(((bz v).2.bad||((bz v).1.map.take i).any l5)||(decide (x.2.map.length=0)||(x.2.map.take (j+1)).any fun q=>decide (q.2.kind≠3)))=false:=by rw [X0,List.any_append,← Bool.or_assoc,← Bool.or_assoc,Bool.or_assoc ((bz v).2.bad||((bz v).1.map.take i).any l5),aH];simp [Classical.not_not.1 hk]
    refine aq 2 rfl (ao (au ek rfl) (ea jQ dD rfl rfl rfl (by simp) fun Yb tf=>?_));replace ai:=ai.ne tf.mod cc;replace aW:=aW.ne tf.mod (Ne.symm cE);replace ez:=ez.ne tf.mod (Ne.symm iB);replace h':=h'.ne tf.mod (Ne.symm tc);replace F:=F.trans tf.mod;replace E:=E.own tf.mod dA;replace b1:=b1.put tf.mod mP;replace b3:=b3.put tf.mod nB;replace fR:=fR.put tf.mod xI;replace dD:aD Yb g3 _ [_,_,_,_,_,_,_]:=tf.aA;replace RG:=RG.toM tf.mod (fun a ax=>by simp [List.mem_singleton.1 ax]);replace jy:=jy.toM tf.mod (fun a ax=>by simp [List.mem_singleton.1 ax]);replace jz:=jz.toM tf.mod (fun a ax=>by simp [List.mem_singleton.1 ax]);replace jT:=jT.toM tf.mod (fun a ax=>by simp [List.mem_singleton.1 ax]);have gB:=Mod.refl [] Yb;refine eG ?_;refine hd.sub (l':=[(2,_),(3,_),(6,_),(7,_),(75,_),(76,_),(77,_),(11,_),(13,_),(97,_),(98,_),(99,_)]) ⟨rfl,rfl,rfl,rfl,rfl,rfl,rfl,rfl,rfl,rfl,rfl,rfl,trivial⟩ (fv (X9 Yb ⟨Di,fR,tb,RG,jy,jz,jT,by rw [tM];exact dD,ez,h',aW,b1,b3,ai,F,E⟩))
   have tM:(((bz v).2.bad||((bz v).1.map.take i).any l5)||(decide (x.2.map.length=0)||(x.2.map.take (j+1)).any fun q=>decide (q.2.kind≠3)))=true:=by rw [X0,List.any_append,← Bool.or_assoc,← Bool.or_assoc,Bool.or_assoc ((bz v).2.bad||((bz v).1.map.take i).any l5),aH];simp [hk]
   refine aq 2 rfl (ao (au ek rfl) (ea jQ dD rfl rfl rfl (by simp) fun NU te=>?_));replace ai:=ai.ne te.mod cc;replace aW:=aW.ne te.mod (Ne.symm cE);replace ez:=ez.ne te.mod (Ne.symm iB);replace h':=h'.ne te.mod (Ne.symm tc);replace F:=F.trans te.mod;replace E:=E.own te.mod dA;replace b1:=b1.put te.mod mP;replace b3:=b3.put te.mod nB;replace fR:=fR.put te.mod xI;replace dD:aD NU g3 _ [_,_,_,_,_,_,_]:=te.aA;replace RG:=RG.toM te.mod (fun a ax=>by simp [List.mem_singleton.1 ax]);replace jy:=jy.toM te.mod (fun a ax=>by simp [List.mem_singleton.1 ax]);replace jz:=jz.toM te.mod (fun a ax=>by simp [List.mem_singleton.1 ax]);replace jT:=jT.toM te.mod (fun a ax=>by simp [List.mem_singleton.1 ax]);have gB:=Mod.refl [] NU;refine eG ?_;refine hd.sub (l':=[(2,_),(3,_),(6,_),(7,_),(75,_),(76,_),(77,_),(11,_),(13,_),(97,_),(98,_),(99,_)]) ⟨rfl,rfl,rfl,rfl,rfl,rfl,rfl,rfl,rfl,rfl,rfl,rfl,trivial⟩ (fv (X9 NU ⟨Di,fR,tb,RG,jy,jz,jT,by rw [tM];exact dD,ez,h',aW,b1,b3,ai,F,E⟩))
  replace RG:=RG.bE gB;replace jy:=jy.bE gB;replace jz:=jz.bE gB;replace jT:=jT.bE gB;refine b8 (aq 3 rfl (ao (au ek rfl) (ao (bh jQ rfl (dD.cell rfl)) ?_)));refine vX (fun aH:(((bz v).2.bad||((bz v).1.map.take i).any l5))=true=>?_) (fun aH=>?_)
  ·have iD:(((bz v).2.bad||((bz v).1.map.take i).any l5)||(decide (x.2.map.length=0)||(x.2.map.take 0).any fun q=>decide (q.2.kind≠3)))=true:=by rw [aH];rfl
   refine aq 8 rfl (ao (au ek rfl) (ea jQ dD rfl rfl rfl (by simp) fun Yc uj=>?_));replace ai:=ai.ne uj.mod cc;replace aW:=aW.ne uj.mod (Ne.symm cE);replace ez:=ez.ne uj.mod (Ne.symm iB);replace F:=F.trans uj.mod;replace E:=E.own uj.mod dA;replace b1:=b1.put uj.mod mP;replace b3:=b3.put uj.mod nB;replace fR:=fR.put uj.mod xI;replace dD:aD Yc g3 _ [_,_,_,_,_,_,_]:=uj.aA;replace RG:=RG.toM uj.mod (fun a ax=>by simp [List.mem_singleton.1 ax]);replace jy:=jy.toM uj.mod (fun a ax=>by simp [List.mem_singleton.1 ax]);replace jz:=jz.toM uj.mod (fun a ax=>by simp [List.mem_singleton.1 ax]);replace jT:=jT.toM uj.mod (fun a ax=>by simp [List.mem_singleton.1 ax]);have gB:=Mod.refl [] Yc;refine eG ?_;refine hd.sub (l':=[(2,_),(3,_),(6,_),(7,_),(75,_),(76,_),(77,_),(11,_)]) ⟨rfl,rfl,rfl,rfl,rfl,rfl,rfl,rfl,trivial⟩ (fv (XX Yc ⟨vK,fR,tb,RG,jy,jz,jT,by rw [iD];exact dD,ez,aW,b1,b3,ai,F,E⟩))
  refine aQ rfl (aw (au iz rfl) (aw (zq cw rfl) (aw (bh eg rfl (ez.cell rfl)) (aw (bx Tryz.underlying23 rfl) (aw (oC rfl rfl) ?_)))));refine dR (fun hk:(x.2.map.length:Int)=0=>?_) (fun hk=>?_);rotate_left
  ·have iD:(((bz v).2.bad||((bz v).1.map.take i).any l5)||(decide (x.2.map.length=0)||(x.2.map.take 0).any fun q=>decide (q.2.kind≠3)))=false:=by rw [aH,bX (show ¬ x.2.map.length=0 by omega)];rfl
   refine aq 2 rfl (ao (au ek rfl) (ea jQ dD rfl rfl rfl (by simp) fun Ye um=>?_));replace ai:=ai.ne um.mod cc;replace aW:=aW.ne um.mod (Ne.symm cE);replace ez:=ez.ne um.mod (Ne.symm iB);replace F:=F.trans um.mod;replace E:=E.own um.mod dA;replace b1:=b1.put um.mod mP;replace b3:=b3.put um.mod nB;replace fR:=fR.put um.mod xI;replace dD:aD Ye g3 _ [_,_,_,_,_,_,_]:=um.aA;replace RG:=RG.toM um.mod (fun a ax=>by simp [List.mem_singleton.1 ax]);replace jy:=jy.toM um.mod (fun a ax=>by simp [List.mem_singleton.1 ax]);replace jz:=jz.toM um.mod (fun a ax=>by simp [List.mem_singleton.1 ax]);replace jT:=jT.toM um.mod (fun a ax=>by simp [List.mem_singleton.1 ax]);have gB:=Mod.refl [] Ye;refine eG ?_;refine hd.sub (l':=[(2,_),(3,_),(6,_),(7,_),(75,_),(76,_),(77,_),(11,_)]) ⟨rfl,rfl,rfl,rfl,rfl,rfl,rfl,rfl,trivial⟩ (fv (XX Ye ⟨vK,fR,tb,RG,jy,jz,jT,by rw [iD];exact dD,ez,aW,b1,b3,ai,F,E⟩))
  have iD:(((bz v).2.bad||((bz v).1.map.take i).any l5)||(decide (x.2.map.length=0)||(x.2.map.take 0).any fun q=>decide (q.2.kind≠3)))=true:=by rw [aH,bB (show x.2.map.length=0 by omega)];rfl
  refine aq 2 rfl (ao (au ek rfl) (ea jQ dD rfl rfl rfl (by simp) fun Yd uk=>?_));replace ai:=ai.ne uk.mod cc;replace aW:=aW.ne uk.mod (Ne.symm cE);replace ez:=ez.ne uk.mod (Ne.symm iB);replace F:=F.trans uk.mod;replace E:=E.own uk.mod dA;replace b1:=b1.put uk.mod mP;replace b3:=b3.put uk.mod nB;replace fR:=fR.put uk.mod xI;replace dD:aD Yd g3 _ [_,_,_,_,_,_,_]:=uk.aA;replace RG:=RG.toM uk.mod (fun a ax=>by simp [List.mem_singleton.1 ax]);replace jy:=jy.toM uk.mod (fun a ax=>by simp [List.mem_singleton.1 ax]);replace jz:=jz.toM uk.mod (fun a ax=>by simp [List.mem_singleton.1 ax]);replace jT:=jT.toM uk.mod (fun a ax=>by simp [List.mem_singleton.1 ax]);have gB:=Mod.refl [] Yd;refine eG ?_;refine hd.sub (l':=[(2,_),(3,_),(6,_),(7,_),(75,_),(76,_),(77,_),(11,_)]) ⟨rfl,rfl,rfl,rfl,rfl,rfl,rfl,rfl,trivial⟩ (fv (XX Yd ⟨vK,fR,tb,RG,jy,jz,jT,by rw [iD];exact dD,ez,aW,b1,b3,ai,F,E⟩))
 refine ay fun oa=>?_;obtain⟨adJ,adK,adL,adM,dD,Rz,RO⟩:=hn;have yF:=Mod.refl [] AF;refine b8 (aq 2 rfl (ao (au lk rfl) (ao (a8 (vs:=[_,_,_,_,_,_]) aK rfl rfl (dD.cs rfl)) (fP (bt EH rfl) (Ac [g4,g3] _ _ yF (jS v).2.rest _ (JV.b6 (v:=(jS v).2.rest) Rz RO) dk (Ds jL).1 (by have:=(Ds jL).2.1;omega)) rfl fun cC aof aB=>?_))));obtain⟨adN,rfl,ajP,J⟩:=aB;replace aa:=aa.I J;replace ai:=ai.I J;replace dD:=dD.I J;replace aW:=aW.I J;replace E:=E.then J;replace F:=F.then J;replace yF:=yF.then J;replace b1:=b1.I J;replace b3:=b3.I J;obtain⟨Yu,Yv,Yw,Yx,rfl,JR,JS⟩:=JV.bc ajP;refine aq 3 rfl (bl cK rfl fun g9 aog Bd=>?_);have Yy:=Bd.le E;have Yz:=Bd.le F;have N1:=Bd.le yF;have RP:=Bd.ne aa;have RQ:=Bd.ne ai;have Hu:=Bd.ne dD;have Be:=Bd.ne aW;have N2:=Bd.cd b1;have N3:=Bd.cd b3;replace aa:=aa.I Bd.mod;replace ai:=ai.I Bd.mod;replace dD:=dD.I Bd.mod;replace aW:=aW.I Bd.mod;replace E:=E.then Bd.mod;replace F:=F.then Bd.mod;replace yF:=yF.then Bd.mod;replace b1:=b1.I Bd.mod;replace b3:=b3.I Bd.mod;have Dt:=Bd.aA;refine bd (vs:=[_,_,_,_,_,_]) aK Dt rfl rfl rfl (by simp [Value.oneCell']) (by simp) fun adO yG=>?_;replace aa:=aa.ne yG.mod RP;replace ai:=ai.ne yG.mod RQ;replace dD:=dD.ne yG.mod Hu;replace aW:=aW.ne yG.mod Be;replace E:=E.own yG.mod Yy;replace F:=F.own yG.mod Yz;replace yF:=yF.own yG.mod N1;replace b1:=b1.put yG.mod N2;replace b3:=b3.put yG.mod N3;replace Dt:aD adO g9 _ [_,_,_,_,_,_]:=yG.aA;refine bb rfl (R oa (ay fun q3=>?_));have hn:mM [g4,g3] _ g3 (jS v).2:=⟨_,_,_,_,dD,Rz.bE yF,RO.bE yF⟩;refine b8 (aQ rfl (R q3 ?_));refine aU rfl (fun YY=>?_) (fun YY=>?_);rotate_left
 ·have xK:ll v=false:=YY;refine cJ ?_;refine hd.sub (l':=[(2,_),(3,_),(6,_),(7,_)]) ⟨rfl,rfl,rfl,rfl,trivial⟩ (fv (JN adO ⟨by rw [show(iS v).2=(jS v).2 by unfold iS;rw [if_neg (by rw [xK];simp)]];exact hn,by rw [xK,show(iS v).1=JV.fQ by unfold iS;rw [if_neg (by rw [xK];simp)]];exact aW,b1,b3,ai,F,E⟩))
 have xK:ll v=true:=YY;refine b8 (aQ rfl (fP (bt mN rfl) (im [g4,g3] _ g3 (jS v).2 hn (by simp) (fun a ax=>by simp at ax;rcases ax with rfl | rfl;exact aW.lt;exact hn.lt) (Ds jL) dk 3) rfl fun cC aoh aB=>?_));obtain⟨ajQ,rfl,YZ,hn,J⟩:=aB;replace aa:=aa.ne J eJ;replace ai:=ai.ne J cc;replace aW:=aW.ne J (Ne.symm cE);replace Dt:=Dt.ne J (Ne.symm Hu);replace E:=E.own J dA;replace F:=F.trans J;replace b1:=b1.put J mP;replace b3:=b3.put J nB;obtain⟨ajR,ajS,ajT,ajU,rfl,ajV,ajW⟩:=JV.bc YZ;refine ao ((o3 qc rfl rfl)) (ao (au tg rfl) (ea jQ aW rfl rfl rfl (by simp) fun ajX Bf=>?_));replace aa:=aa.ne Bf.mod gd;replace ai:=ai.ne Bf.mod ep;replace Dt:=Dt.ne Bf.mod (Ne.symm Be);replace E:=E.own Bf.mod fu;replace F:=F.own Bf.mod mO;replace b1:=b1.put Bf.mod jc;replace b3:=b3.put Bf.mod jd;replace aW:aD ajX g4 _ [_,_,_,_,_,_,_,_,_,_,_,_,_,_,_,_,_]:=Bf.aA;replace hn:=hn.mod Bf.mod (fun x ab=>by simp [List.mem_singleton.1 ab]) (fun h=>by have:=cE;simp at h;exact this h);refine ao (au oK rfl) (ea bH aW rfl rfl rfl (by simp) fun adP Bg=>?_);replace aa:=aa.ne Bg.mod gd;replace ai:=ai.ne Bg.mod ep;replace Dt:=Dt.ne Bg.mod (Ne.symm Be);replace E:=E.own Bg.mod fu;replace F:=F.own Bg.mod mO;replace b1:=b1.put Bg.mod jc;replace b3:=b3.put Bg.mod jd;replace aW:aD adP g4 _ [_,_,_,_,_,_,_,_,_,_,_,_,_,_,_,_,_]:=Bg.aA;replace hn:=hn.mod Bg.mod (fun x ab=>by simp [List.mem_singleton.1 ab]) (fun h=>by have:=cE;simp at h;exact this h);refine eG ?_;refine hd.sub (l':=[(2,_),(3,_),(6,_),(7,_)]) ⟨rfl,rfl,rfl,rfl,trivial⟩ (fv (JN adP ⟨by rw [show(iS v).2=(cG (jS v).2 dk 3).2 by unfold iS;rw [if_pos xK]];exact hn,by rw [xK,show(iS v).1=(cG (jS v).2 dk 3).1 by unfold iS;rw [if_pos xK]];exact aW,b1,b3,ai,F,E⟩))
set_option maxRecDepth 10000
theorem N5:aP Tryz.prog 43:=aP.of Tryz.func43 (by kernel_rfl) (by kernel_rfl)
theorem lG.low {A:List Nat} {w0 aE w:World} {v:JV} {us:List Value} (E:Mod [] w0 aE) (h:lG A aE w v us):lG A w0 w v us:=by
 rcases h with⟨h,al,cl,am,cm,up,Da,Ei,hu,apv,gG,qp,vq,pI,FF,Je⟩ | h
 ·exact .inl ⟨h,al,cl,am,cm,up,Da,Ei,hu,apv,gG,qp,vq,fun x ab=>Nat.le_trans E.size (pI x ab),fun x ab=>Nat.le_trans E.size (FF x ab),fun x ab=>Nat.le_trans E.size (Je x ab)⟩
 exact .inr h
theorem lG.len {A:List Nat} {w0 w:World} {v:JV} {us:List Value} (h:lG A w0 w v us):∃ (sa a2 a3:U) (a4:Bool) (a5:U) (adQ:Int) (adR:Bool) (adS:Int) (a9:U) (ev:Option Addr) (eW tz:Nat) (c1:Option Addr) (c2 c3:Nat) (d1:Option Addr) (d2 d3:Nat) (aV:Option Addr) (bs kk:Nat) (Y0 adT:Int) (adU:U) (f1:Option Addr) (f2 f3:Nat),us = [S sa,S a2,S a3,.bool a4,S a5,.int .i64 adQ,.bool adR,.int .i64 adS,S a9,.slice ev eW tz,.slice c1 c2 c3,.slice d1 d2 d3,.slice aV bs kk,.int .i64 Y0,.int .i64 adT,S adU,.slice f1 f2 f3]:=by
 rcases h with⟨h,al,cl,am,cm,up,Da,Ei,hu,_,gG,qp,vq,_⟩ | h
 ·obtain⟨_,_,rfl,_⟩:=gG.form;obtain⟨_,_,rfl,_⟩:=qp.form;obtain⟨_,_,rfl,_⟩:=vq.form;exact⟨_,_,_,_,_,_,_,_,_,_,_,_,_,_,_,_,_,_,_,_,_,_,_,_,_,_,_,hu⟩
 exact⟨_,_,_,_,_,_,_,_,_,_,_,_,_,_,_,_,_,_,_,_,_,_,_,_,_,_,_,h.2⟩
theorem lG.q6 {A:List Nat} {w0 w w':World} {g:Nat} {v:JV} {us:List Value} (h:lG A w0 w v us) (cN:g∈A) (bk:g<w0.heap.size) (P:Mod [g] w w'):lG A w0 w' v us:=by
 rcases h with⟨h,al,cl,am,cm,up,Da,Ei,hu,apv,gG,qp,vq,pI,FF,Je⟩ | h
 ·exact .inl ⟨h,al,cl,am,cm,up,Da,Ei,hu,apv.toM P (fun x ab=>by rw [List.mem_singleton.1 ab];exact cN),gG.put P (fun x ab e=>by have:=pI x ab;omega),qp.put P (fun x ab e=>by have:=FF x ab;omega),vq.put P (fun x ab e=>by have:=Je x ab;omega),pI,FF,Je⟩
 exact .inr h
theorem lG.fN {A A':List Nat} {w0 w:World} {v:JV} {us:List Value} (h:lG A w0 w v us) (aN:∀ x∈A',x∈A):lG A' w0 w v us:=by
 rcases h with⟨h,al,cl,am,cm,up,Da,Ei,hu,apv,r⟩ | h
 ·exact .inl ⟨h,al,cl,am,cm,up,Da,Ei,hu,apv.fN aN,r⟩
 exact .inr h
theorem lG.mod {A:List Nat} {w0 w w':World} {v:JV} {us:List Value} (h:lG A w0 w v us) (P:Mod [] w w'):lG A w0 w' v us:=by
 rcases h with⟨h,al,cl,am,cm,up,Da,Ei,hu,apv,gG,qp,vq,r⟩ | h
 ·exact .inl ⟨h,al,cl,am,cm,up,Da,Ei,hu,apv.bE P,gG.I P,qp.I P,vq.I P,r⟩
 exact .inr h
/-- what is wrong with a text of an event -/
noncomputable def nD (s:U):Int:=if pq s≠0 then pq s else ja (lR s)
def Y9 (A:List Nat) (w0 w:World) (s:U) (us:List Value):Prop:=(pq s=0∧lG A w0 w (lR s) us)∨(pq s≠0∧us = [S [],S [],S [],.bool false,S [],.int .i64 0,.bool false,.int .i64 0,S [],.slice none 0 0,.slice none 0 0,.slice none 0 0,.slice none 0 0,.int .i64 0,.int .i64 0,S [],.slice none 0 0])
theorem N6 (A:List Nat) (w:World) (du:∀ a∈A,a<w.heap.size) (s:U) (ed:Env w) (eb:g' w):Calls Tryz.prog 46 [S s].toArray w (bI fun u w'=>∃ gH,u = .tuple #[.agg gH.toArray,.int .i64 (nD s)]∧Y9 A w w' s gH∧Mod [] w w'):=by
 refine enter Tryz.func46 rfl rfl rfl (l:=[(0,_)]) ⟨rfl,trivial⟩ ?_;have E:=Mod.refl [] w;have jY:=ed.vh;refine ae fun aX=>bl jb rfl fun g1 aE bO=>?_;have bR:=bO.le E;replace E:=E.then bO.mod;have aa:=bO.aA;refine bb rfl (R aX (ae fun aM=>aQ rfl (fP (bt WN rfl) (MZ _ s (ed.I E)) rfl fun cC cY aB=>?_)));obtain⟨WX,rfl,AI,J⟩:=aB;replace aa:=aa.I J;replace E:=E.then J;have T3:=Mod.refl [] cY;replace AI:=AI.fN (A':=g1::A) (fun x ab=>by rcases List.mem_cons.1 ab with rfl | ab;exact List.mem_range.2 bO.aA.lt;exact List.mem_range.2 (Nat.lt_of_lt_of_le (du x ab) bO.mod.size));obtain⟨aoi,aoj,aok,aol,rfl,ajY,ajZ⟩:=JV.bc AI;replace AI:=JV.b6 ajY ajZ;refine aq 3 rfl (bl cK rfl fun g2 gv cU=>?_);have cp:=cU.le E;have RR:=cU.le T3;have cb:=cU.ne aa;replace aa:=aa.I cU.mod;replace E:=E.then cU.mod;replace T3:=T3.then cU.mod;have ai:=cU.aA;refine bd (vs:=[_,_,_,_,_,_]) aK ai rfl rfl rfl (by simp [Value.oneCell']) (by simp) fun iH lX=>?_;replace aa:=aa.ne lX.mod cb;replace E:=E.own lX.mod cp;replace T3:=T3.own lX.mod RR;replace ai:aD iH g2 _ [_,_,_,_,_,_]:=lX.aA;refine bb rfl (R aM (ay fun a7=>ae fun bC=>aq 2 rfl (R bC ?_)));refine bm rfl (fun Bh=>?_) (fun Bh=>?_)
 ·refine ae fun bU=>ao (bj (cs:=[_,_,_,_,_,_,_,_,_,_,_,_,_,_,_,_,_]) s9 jb rfl rfl) (aQ rfl (bd (vs:=[_,_,_,_,_,_,_,_,_,_,_,_,_,_,_,_,_]) dC aa rfl rfl rfl (by simp [Value.oneCell']) (by simp) fun jO hl=>?_));replace ai:=ai.ne hl.mod (Ne.symm cb);replace E:=E.own hl.mod bR;replace aa:aD jO g1 _ [_,_,_,_,_,_,_,_,_,_,_,_,_,_,_,_,_]:=hl.aA;exact bb rfl (R bU (bg (a1 (by simp) (iO (vs:=[_,_,_,_,_,_,_,_,_,_,_,_,_,_,_,_,_]) rfl dC rfl rfl (aa.cs rfl) rfl ⟨_,by rw [show nD s=pq s from if_pos Bh];rfl,.inr ⟨Bh,rfl⟩,E⟩))))
 refine cJ (az a7 (ae fun ca=>ao (a8 (vs:=[_,_,_,_,_,_]) aK rfl rfl (ai.cs rfl)) ?_));have aat:=E;have BD:=aa.lt;refine fP (bt N5 rfl) (Hn (g1::A) _ (lR s) _ (AI.bE T3) (fun a ax=>by rcases List.mem_cons.1 ax with rfl | ax;exact aa.lt;exact Nat.lt_of_lt_of_le (du a ax) E.size) (jY.mod E (by simp)) (eb.I E)) rfl fun cC jV aB=>?_;obtain⟨aa9,rfl,qp,J⟩:=aB;replace aa:=aa.I J;replace ai:=ai.I J;replace E:=E.then J;replace T3:=T3.then J;obtain⟨sa,a2,a3,a4,a5,adQ,adR,adS,a9,ev,eW,tz,c1,c2,c3,d1,d2,d3,aV,bs,kk,Y0,adT,adU,f1,f2,f3,rfl⟩:=qp.len;refine aq 2 rfl (bd (vs:=[_,_,_,_,_,_,_,_,_,_,_,_,_,_,_,_,_]) dC aa rfl rfl rfl (by simp [Value.oneCell']) (by simp) fun ix qu=>?_);replace ai:=ai.ne qu.mod (Ne.symm cb);replace E:=E.own qu.mod bR;replace aa:aD ix g1 _ [_,_,_,_,_,_,_,_,_,_,_,_,_,_,_,_,_]:=qu.aA;have vq:=(qp.q6 (List.mem_cons_self ..) BD qu.mod).fN (A':=A) (fun x ab=>List.mem_cons_of_mem _ ab);replace vq:=vq.low aat;exact bb rfl (R ca (bg (iO (vs:=[_,_,_,_,_,_,_,_,_,_,_,_,_,_,_,_,_]) rfl dC rfl rfl (aa.cs rfl) rfl ⟨_,by rw [show nD s=ja (lR s) from if_neg Bh];rfl,.inl ⟨Classical.not_not.1 Bh,vq⟩,E⟩)))
end Go.Proofs.YtnihidkbkhcfoaaGreatDoor.V
namespace Go.Proofs.YtnihidkbkhcfoaaGreatDoor.V
open Go
open JV
namespace EV
def left (e:EV):List (U×JV):=(eP,obj [(hB,aY e.hash)])::(iq,obj (mK e.sigs e.sigs.length))::(if e.st then [(dk,aY e.key)] else [])
theorem SM {e:EV} (h:e.bu.kind=5):(dO e.val).1=e.bu∧(cG (dO e.val).2 eu 4).1=fw (e.prev.map aY)∧(cG (fS e.val).2 eC 4).1=fw (e.b2.map aY)∧(nO e.val).1=aY e.room∧(nP e.val).1=aY e.snd∧(nQ e.val).1=aY e.ty∧(nR e.val).1=fs e.dep∧(jS e.val).1=fs e.time∧(cG (cG (cG (cG (cG (cG (cG (cG ⟨e.val,false⟩ gm 5).2 eu 4).2 eC 4).2 hf 3).2 eQ 3).2 h2 3).2 gE 2).2 lS 2).2=⟨obj e.left,false⟩:=by
 obtain⟨room,snd,ty,st,key,bu,prev,b2,dep,time,hash,sigs⟩:=e;obtain⟨k,b,n,s,l,m⟩:=bu;have h:k=5:=h;subst h;cases st <;> exact⟨by kernel_rfl,by kernel_rfl,by kernel_rfl,by kernel_rfl,by kernel_rfl,by kernel_rfl,by kernel_rfl,by kernel_rfl,by kernel_rfl⟩
theorem DZ (l:List U):(fw (l.map aY)).list.any (fun x=>decide (x.kind≠3))=false:=by
 show(l.map aY).any _=false;rw [List.any_eq_false];intro x ab;obtain⟨s,_,rfl⟩:=List.mem_map.1 ab;simp [aY,JV.kind]
theorem D0 (l:List U):(fw (l.map aY)).list.map JV.str=l:=by
 show(l.map aY).map JV.str=l;rw [List.map_map]
 conv=>rhs;rw [← List.map_id l]
 rfl
theorem zU {e:EV} (h:e.bu.kind=5):(dO e.val).1=e.bu∧(fS e.val).1=e.prev∧(gN e.val).1=e.b2∧(nO e.val).1=aY e.room∧(nP e.val).1=aY e.snd∧(nQ e.val).1=aY e.ty∧(nR e.val).1=fs e.dep∧(jS e.val).1=fs e.time∧(jS e.val).2=⟨obj e.left,false⟩:=by
 obtain⟨h1,aj,aF,bn,ch,eB,kv,j0,lQ⟩:=SM h;have aaG:(fS e.val).2=(cG (dO e.val).2 eu 4).2:=by
  show(⟨_,_⟩:kO)=_;rw [aj,DZ,Bool.or_false]
 have du:(gN e.val).2=(cG (fS e.val).2 eC 4).2:=by
  show(⟨_,_⟩:kO)=_;rw [aF,DZ,Bool.or_false]
 refine⟨h1,?_,?_,bn,ch,eB,kv,j0,?_⟩
 ·show(cG (dO e.val).2 eu 4).1.list.map JV.str=_;rw [aj,D0]
 ·show(cG (fS e.val).2 eC 4).1.list.map JV.str=_;rw [aF,D0]
 show(cG (cG (cG (cG (cG (gN e.val).2 hf 3).2 eQ 3).2 h2 3).2 gE 2).2 lS 2).2=_;rw [du,aaG];exact lQ
theorem Pu {e:EV} (h:e.bu.kind=5):ll e.val=e.st∧(iS e.val).1=(if e.st then aY e.key else JV.fQ)∧(bz e.val).1=obj (mK e.sigs e.sigs.length)∧(bz e.val).2=⟨obj [(eP,obj [(hB,aY e.hash)])],false⟩:=by
 obtain⟨_,_,_,_,_,_,_,_,lQ⟩:=zU h;unfold bz iS ll;rw [lQ];obtain⟨room,snd,ty,st,key,bu,prev,b2,dep,time,hash,sigs⟩:=e;cases st <;> exact⟨by kernel_rfl,by kernel_rfl,by kernel_rfl,by kernel_rfl⟩
theorem D9 (l:List cX):∀ k,∀ p∈mK l k,p.2.map≠[]∧∀ q∈p.2.map,q.2.kind=3
 | 0=>by simp [DV]
 | k+1=>by
  have dh:=D9 l k
  rcases Nat.lt_or_ge k l.length with h | h
  ·rw [x2 (List.getElem?_eq_getElem h)]
   intro p bJ
   rcases ts bJ with bJ | rfl
   ·exact dh p bJ
   refine⟨?_,fun q eE=>?_⟩
   ·show dJ _ _ _≠[]
    unfold dJ
    simp
   rcases ts (show q∈dJ _ _ _ from eE)with eE | rfl
   ·unfold one at eE
    cases bM:look (mK l k) (l[k]).cP with
    | none=>rw [bM] at eE;simp [JV.fQ,JV.map] at eE
    | some y=>rw [bM] at eE;exact(dh _ (dF bM)).2 q eE
   rfl
  have e:mK l (k+1)=mK l k:=by unfold mK;rw [List.take_of_length_le (by omega),List.take_of_length_le h]
  rw [e]
  exact dh
theorem SN (l:List cX) (k:Nat):(mK l k).any l5=false:=by
 rw [List.any_eq_false];intro p bJ;obtain⟨h1,aj⟩:=D9 l k p bJ;unfold l5;simp only [Bool.or_eq_true,decide_eq_true_eq,List.any_eq_true,not_or,not_exists,not_and];exact⟨fun h=>h1 (List.eq_nil_of_length_eq_zero h),fun q eE hk=>absurd (aj q eE) hk⟩
def again (e:EV):EV:={e with key:=if e.st then e.key else [],sigs:=bp (mK e.sigs e.sigs.length)}
theorem SO {e:EV} (h:e.bu.kind=5):ey e.val=e.again∧A8 e.val=false:=by
 obtain⟨h1,aj,aF,bn,ch,eB,kv,j0,lQ⟩:=zU h;obtain⟨dr,iP,pV,rG⟩:=Pu h;have Ku:qd e.val=false:=by
  unfold qd;rw [rG,pV];show(false||(mK e.sigs e.sigs.length).any l5)=false;rw [SN];rfl
 have hH:ng e.val=(obj [(hB,aY e.hash)],⟨obj [],false⟩):=by
  unfold ng;rw [Ku,rG]
  kernel_rfl
 have Z':pB e.val=(aY e.hash,⟨obj [],false⟩):=by
  unfold pB;rw [hH]
  kernel_rfl
 constructor
 ·unfold ey again;rw [h1,aj,aF,bn,ch,eB,kv,j0,dr,iP,pV,Z']
  congr 1
  ·cases e.st <;> rfl
 unfold A8;rw [hH,Z'];rfl
end EV
end Go.Proofs.YtnihidkbkhcfoaaGreatDoor.V
namespace Go.Proofs.YtnihidkbkhcfoaaGreatDoor.V
open Go
namespace JV
def qn (v:JV):Prop:=∃ d b eA,wr v d b = .ok eA
theorem qn.bare {v:JV} (h:v.qn):v.bare=true:=by
 obtain⟨d,b,eA,h⟩:=h;rw [dZ] at h
 split at h
 ·cases h
 rename_i aH;simpa using aH
theorem qn.iP {v:JV} (h:v.qn) (k:v.kind=2):v=fs v.num:=by
 obtain⟨h1,aj,aF,bn,ch⟩:=jI h.bare;exact mk_eq k (h1.resolve_left (by omega)) rfl (aF.resolve_left (by omega)) (bn.resolve_left (by omega)) (ch.resolve_left (by omega))
theorem qn.pV {v:JV} (h:v.qn) (k:v.kind=3):v=aY v.str:=by
 obtain⟨h1,aj,aF,bn,ch⟩:=jI h.bare;exact mk_eq k (h1.resolve_left (by omega)) (aj.resolve_left (by omega)) rfl (bn.resolve_left (by omega)) (ch.resolve_left (by omega))
theorem qn.rG {v:JV} (h:v.qn) (k:v.kind=4):v=fw v.list∧∀ x∈v.list,x.qn:=by
 obtain⟨h1,aj,aF,bn,ch⟩:=jI h.bare;refine⟨mk_eq k (h1.resolve_left (by omega)) (aj.resolve_left (by omega)) (aF.resolve_left (by omega)) rfl (ch.resolve_left (by omega)),fun x ab=>?_⟩;have aH:=h.bare;obtain⟨d,b,eA,h⟩:=h;rw [dZ,if_neg (by simp [aH]),if_neg (by omega),if_neg (by omega),if_neg (by omega),if_neg (by omega)] at h
 split at h
 ·cases h
 obtain⟨ev,h1,aF⟩:=cB h;obtain⟨eW,aj,bn⟩:=cB aF;obtain⟨c,c',a6⟩:=x4 _ _ _ _ aj x ab;exact⟨_,_,_,a6⟩
theorem qn.q4 {v:JV} (h:v.qn) (k:v.kind=5):v=obj v.map∧cZ v.map∧∀ p∈v.map,p.2.qn:=by
 obtain⟨d,b,eA,h⟩:=h;obtain⟨_,eW,aj,_,_⟩:=HS k h;refine⟨JV.ze k h,(sw _ _ _ _ _ aj).1,fun p bJ=>?_⟩;obtain⟨c,c',a6⟩:=x5 _ _ _ _ aj p bJ;exact⟨_,_,_,a6⟩
theorem qn.akL {v:JV} (h:v.qn) (k:v.map.length≠0):v.kind=5:=by
 obtain⟨h1,aj,aF,bn,ch⟩:=jI h.bare;exact ch.resolve_right (fun e=>k (by rw [e];rfl))
theorem D' {v:JV} (h:v.qn) (k:v.kind=4) (ax:v.list.any (fun x=>decide (x.kind≠3))=false):fw ((v.list.map JV.str).map aY)=v:=by
 obtain⟨e,ab⟩:=h.rG k;have:(v.list.map JV.str).map aY=v.list:=by
  rw [List.map_map];refine(List.map_congr_left fun x Jw=>?_).trans (List.map_id _);have:x.kind=3:=by
   rw [List.any_eq_false] at ax;have:=ax x Jw;simpa using this
  exact((ab x Jw).pV this).symm
 rw [this];exact e.symm
end JV
open JV
theorem iG {m:List (U×JV)} {k:U} {x:JV} (h:∀ y∈m,fA y.1 k=true):dJ m k x=m ++ [(k,x)]:=by
 unfold dJ;rw [List.filter_eq_self.2 h,List.filter_eq_nil_iff.2 (fun y aR=>by
  rw [mb (h y aR)];simp)]
 simp
theorem zV {m:List (U×JV)} {k:U} {x y:JV} (h:∀ y∈m,fA y.1 k=true):dJ (m ++ [(k,y)]) k x=m ++ [(k,x)]:=by
 have:=iG (x:=x) h;unfold dJ at this ⊢;have e:fA k k=false:=cS k;rw [List.filter_append,List.filter_append];simpa [e] using this
theorem x7 {m:List (U×JV)} {k:U} {y:JV} (h:∀ y∈m,fA y.1 k=true):look (m ++ [(k,y)]) k=some y:=by
 have bW:look m k=none:=hT fun j z cO hk=>by
  have:=h z (List.mem_of_getElem? cO);rw [hk,cS] at this;cases this
 rw [l4,bW];simp [look]
theorem u7 {m:List (U×JV)} {k:U} (h:∀ y∈m,fA y.1 k=true):look m k=none:=hT fun j z cO hk=>by
 have:=h z (List.mem_of_getElem? cO);rw [hk,cS] at this;cases this
namespace EV
theorem zW {acc:List (U×JV)} {cP:U} (ax:∀ y∈acc,fA y.1 cP=true):∀ (r pre:List (U×JV)),pre≠[]→cZ (pre++r)→(∀ q∈r,q.2=aY q.2.str)→(r.map fun q=>(⟨cP,q.1,q.2.str⟩:cX)).foldl gF (acc ++ [(cP,obj pre)])=acc ++ [(cP,obj (pre++r))]
 | [],pre,_,_,_=>by simp
 | q::r,pre,bW,aN,bQ=>by
  rw [List.map_cons,List.foldl_cons]
  have bk:∀ y∈pre,fA y.1 q.1=true:=fun y aR=>(List.pairwise_append.1 aN).2.2 y aR q (by simp)
  have e:gF (acc ++ [(cP,obj pre)]) ⟨cP,q.1,q.2.str⟩=acc ++ [(cP,obj (pre ++ [q]))]:=by
   unfold gF one
   simp only
   rw [x7 ax,zV ax]
   show acc ++ [(cP,obj (dJ pre q.1 (aY q.2.str)))]=_
   rw [iG bk,← bQ q (by simp)]
  rw [e,zW ax r (pre ++ [q]) (by simp) (by rw [List.append_assoc];exact aN) (fun x ab=>bQ x (by simp [ab])),List.append_assoc]
  rfl
theorem Kv {acc:List (U×JV)} {p:U×JV} (ax:∀ y∈acc,fA y.1 p.1=true) (bW:p.2.map≠[]) (ch:p.2=obj p.2.map) (aN:cZ p.2.map) (bQ:∀ q∈p.2.map,q.2=aY q.2.str):(en p).foldl gF acc=acc ++ [p]:=by
 obtain⟨k,v⟩:=p;simp only at ax bW ch aN bQ;unfold en;simp only;cases hm:v.map with
 | nil=>exact absurd hm bW
 | cons q r=>
  rw [hm] at aN bQ ch;rw [List.map_cons,List.foldl_cons];have e:gF acc ⟨k,q.1,q.2.str⟩=acc ++ [(k,obj [q])]:=by
   unfold gF one;simp only;rw [u7 ax,iG ax];show acc ++ [(k,obj (dJ [] q.1 (aY q.2.str)))]=_;rw [iG (by simp),← bQ q (by simp)];rfl
  rw [e,zW ax r [q] (by simp) aN (fun x ab=>bQ x (by simp [ab])),ch];rfl
theorem zX:∀ (m acc:List (U×JV)),cZ (acc++m)→(∀ p∈m,p.2.map≠[]∧p.2=obj p.2.map∧cZ p.2.map∧∀ q∈p.2.map,q.2=aY q.2.str)→(bp m).foldl gF acc=acc++m
 | [],acc,_,_=>by simp [bp]
 | p::r,acc,aN,h=>by
  have e:bp (p::r)=en p++bp r:=by simp [bp]
  obtain⟨h1,aj,aF,bn⟩:=h p (by simp)
  rw [e,List.foldl_append,Kv (fun y aR=>(List.pairwise_append.1 aN).2.2 y aR p (by simp)) h1 aj aF bn,zX r (acc ++ [p]) (by rw [List.append_assoc];exact aN) (fun x ab=>h x (by simp [ab])),List.append_assoc]
  rfl
theorem Pv {x:JV} (bQ:x.qn) (k:x.kind=5) (aH:x.map.any l5=false):obj (mK (bp x.map) (bp x.map).length)=x:=by
 obtain⟨e,aN,bJ⟩:=bQ.q4 k;rw [List.any_eq_false] at aH;have:=zX x.map [] aN (fun p Pw=>by
  have h1:=aH p Pw;unfold l5 at h1;simp only [Bool.or_eq_true,decide_eq_true_eq,List.any_eq_true,not_or,not_exists,not_and] at h1;have q4:=(bJ p Pw).akL h1.1;obtain⟨bs,L1,eE⟩:=(bJ p Pw).q4 q4;exact⟨fun e=>h1.1 (by rw [e];rfl),bs,L1,fun q ae2=>(eE q ae2).pV (Classical.not_not.1 (h1.2 q ae2))⟩)
 unfold mK;rw [List.take_length,this];exact e.symm
end EV
end Go.Proofs.YtnihidkbkhcfoaaGreatDoor.V
namespace Go.Proofs.YtnihidkbkhcfoaaGreatDoor.V
open Go
open JV
theorem e5 {m:List (U×JV)} {k jH:U}:look (b4 m jH) k=if k=jH then none else look m k:=by
 unfold b4
 by_cases h:k=jH
 ·rw [if_pos h,hF (b:=false) (fun p _ bJ=>by rw [bJ,h];simp)];rfl
 rw [if_neg h,hF (b:=true) (fun p _ bJ=>by rw [bJ];simpa using h)];rfl
theorem lK {r:List (U×JV)} {b:Bool} {k:U} {kind:Int} (h:(cG ⟨obj r,b⟩ k kind).2.bad=false):b=false∧∃ x,look r k=some x∧x.kind=kind∧cG ⟨obj r,b⟩ k kind=(x,⟨obj (b4 r k),false⟩):=by
 have cN:(obj r).get k=look r k:=rfl;cases bM:look r k with
 | none=>rw [mh (t:=⟨obj r,b⟩) (cN.trans bM)] at h;cases h
 | some x=>
  by_cases hk:x.kind=kind
  ·rw [kP (t:=⟨obj r,b⟩) (cN.trans bM) hk] at h;have aH:b=false:=h;refine⟨aH,x,rfl,hk,?_⟩;rw [kP (t:=⟨obj r,b⟩) (cN.trans bM) hk,aH];rfl
  rw [mg (t:=⟨obj r,b⟩) (cN.trans bM) hk] at h;cases h
theorem k0 {t:kO} {k:U} {kind:Int} (h:(cG t k kind).2.bad=false):t.bad=false:=by
 unfold cG at h
 split at h
 ·split at h
  ·exact h
  cases h
 cases h
namespace EV
theorem Gu (e:EV):look e.kx eC=some (fw (e.b2.map aY))∧look e.kx gm=some e.bu∧look e.kx gE=some (fs e.dep)∧look e.kx eP=some (obj [(hB,aY e.hash)])∧look e.kx lS=some (fs e.time)∧look e.kx eu=some (fw (e.prev.map aY))∧look e.kx hf=some (aY e.room)∧look e.kx eQ=some (aY e.snd)∧look e.kx iq=some (obj (mK e.sigs e.sigs.length))∧look e.kx h2=some (aY e.ty)∧look e.kx dk=if e.st then some (aY e.key)else none:=by
 obtain⟨room,snd,ty,st,key,bu,prev,b2,dep,time,hash,sigs⟩:=e;cases st <;> exact⟨by kernel_rfl,by kernel_rfl,by kernel_rfl,by kernel_rfl,by kernel_rfl,by kernel_rfl,by kernel_rfl,by kernel_rfl,by kernel_rfl,by kernel_rfl,by kernel_rfl⟩
def keys:List U:=[eC,gm,gE,eP,lS,eu,hf,eQ,iq,h2,dk]
theorem Gv {e:EV} {p:U×JV} (h:p∈e.kx):p.1∈keys:=by
 have mw:p∈e.hg→p.1∈keys:=fun h=>by
  unfold hg at h;simp only [List.mem_cons,List.not_mem_nil,or_false] at h;unfold keys;rcases h with rfl | rfl | rfl | rfl | rfl | rfl | rfl | rfl | rfl | rfl <;> simp
 unfold kx at h
 split at h
 ·rcases ts h with h | rfl
  ·exact mw h
  unfold keys;simp
 exact mw h
theorem PJ {v:JV} (bQ:v.qn) (q4:v.kind=5) (h:A8 v=false):(ey v).val=v∧(ey v).bu.kind=5:=by
 obtain⟨nU,aN,bJ⟩:=bQ.q4 q4;unfold A8 at h;simp only [Bool.or_eq_false_iff,decide_eq_false_iff_not] at h;obtain⟨hH,Z',nn⟩:=h;have Ku:qd v=false:=k0 hH;have Xh:(bz v).2.bad=false∧(bz v).1.map.any l5=false:=by
  unfold qd at Ku;exact Bool.or_eq_false_iff.1 Ku
 have lT:(iS v).2.bad=false:=k0 Xh.1;have hO:(jS v).2.bad=false:=by
  unfold iS at lT
  split at lT
  ·exact k0 lT
  exact lT
 have HL:(nR v).2.bad=false:=k0 hO;have jY:(nQ v).2.bad=false:=k0 HL;have kl:(nP v).2.bad=false:=k0 jY;have kX:(nO v).2.bad=false:=k0 kl;have du:=Bool.or_eq_false_iff.1 (show((cG (fS v).2 eC 4).2.bad||(cG (fS v).2 eC 4).1.list.any fun x=>decide (x.kind≠3))=false from k0 kX);have aaG:=Bool.or_eq_false_iff.1 (show((cG (dO v).2 eu 4).2.bad||(cG (dO v).2 eu 4).1.list.any fun x=>decide (x.kind≠3))=false from k0 du.1);have h0:(dO v).2.bad=false:=k0 aaG.1;obtain⟨m,hm⟩:∃ m,m=v.map:=⟨_,rfl⟩;rw [← hm] at nU aN bJ;unfold dO at h0;rw [nU] at h0;obtain⟨_,age,aoG,aoH,afq⟩:=lK h0;have afq:dO v=(age,⟨obj (b4 m gm),false⟩):=by unfold dO;rw [nU];exact afq
 rw [afq] at aaG;obtain⟨_,agf,aoI,aoJ,aaH⟩:=lK aaG.1;have aap:=aaG.2;rw [aaH] at aap;have aaH:fS v=(agf.list.map JV.str,⟨obj (b4 (b4 m gm) eu),false⟩):=by
  unfold fS A7;rw [afq,aaH,aap];rfl
 rw [aaH] at du;obtain⟨_,agh,aoK,aoL,aaI⟩:=lK du.1;have KS:=du.2;rw [aaI] at KS;have aaI:gN v=(agh.list.map JV.str,⟨obj (b4 (b4 (b4 m gm) eu) eC),false⟩):=by
  unfold gN A7;rw [aaH,aaI,KS];rfl
 unfold nO at kX;rw [aaI] at kX;obtain⟨_,agi,aoM,aoN,jW⟩:=lK kX;have jW:nO v=(agi,⟨obj (b4 (b4 (b4 (b4 m gm) eu) eC) hf),false⟩):=by unfold nO;rw [aaI];exact jW
 unfold nP at kl;rw [jW] at kl;obtain⟨_,agj,aoO,tm,afr⟩:=lK kl;have afr:nP v=(agj,⟨obj (b4 (b4 (b4 (b4 (b4 m gm) eu) eC) hf) eQ),false⟩):=by unfold nP;rw [jW];exact afr
 unfold nQ at jY;rw [afr] at jY;obtain⟨_,agk,aoP,aoQ,a1⟩:=lK jY;have a1:nQ v=(agk,⟨obj (b4 (b4 (b4 (b4 (b4 (b4 m gm) eu) eC) hf) eQ) h2),false⟩):=by unfold nQ;rw [afr];exact a1
 unfold nR at HL;rw [a1] at HL;obtain⟨_,agl,aoR,qU,afs⟩:=lK HL;have afs:nR v=(agl,⟨obj (b4 (b4 (b4 (b4 (b4 (b4 (b4 m gm) eu) eC) hf) eQ) h2) gE),false⟩):=by unfold nR;rw [a1];exact afs
 unfold jS at hO;rw [afs] at hO;obtain⟨_,agm,aoS,aoT,SX⟩:=lK hO;have SX:jS v=(agm,⟨obj (b4 (b4 (b4 (b4 (b4 (b4 (b4 (b4 m gm) eu) eC) hf) eQ) h2) gE) lS),false⟩):=by unfold jS;rw [afs];exact SX
 obtain⟨m8,j0⟩:∃ m8,m8=b4 (b4 (b4 (b4 (b4 (b4 (b4 (b4 m gm) eu) eC) hf) eQ) h2) gE) lS:=⟨_,rfl⟩;rw [← j0] at SX;have agn:∀ k,look m8 k=if k=lS then none else if k=gE then none else if k=h2 then none else if k=eQ then none else if k=hf then none else if k=eC then none else if k=eu then none else if k=gm then none else look m k:=fun k=>by
  rw [j0];simp only [e5]
 have aft:ll v=(look m8 dk).isSome:=by unfold ll;rw [SX];rfl
 have aaq:look m8 dk=look m dk:=by rw [agn];simp
 -- the state key
 obtain⟨ago,alg,afu⟩:∃ ago:JV,(look m dk=if ll v then some (aY (iS v).1.str)else none)∧iS v=(ago,⟨obj (b4 m8 dk),false⟩):=by
  unfold iS at lT ⊢;cases aH:ll v with
  | true=>
   rw [aH,if_pos rfl,SX] at lT;obtain⟨_,ago,alh,aoU,afu⟩:=lK lT;refine⟨ago,?_,by rw [if_pos rfl,SX];exact afu⟩;rw [if_pos rfl,if_pos rfl,SX,afu,← aaq,alh];rw [aaq] at alh;exact congrArg some ((bJ _ (dF alh)).pV aoU)
  | false=>
   refine⟨JV.fQ,?_,?_⟩
   ·rw [if_neg (by simp),← aaq];rw [aft] at aH;cases bM:look m8 dk with
    | none=>rfl
    | some x=>rw [bM] at aH;cases aH
   rw [if_neg (by simp),SX];have:b4 m8 dk=m8:=List.filter_eq_self.2 fun p Pw=>by
    rw [aft] at aH;have:=oY (m:=m8) (k:=dk) (by cases bM:look m8 dk with | none=>rfl | some x=>rw [bM] at aH;cases aH) p Pw;simpa using this
   rw [this]
 have aar:=Xh.1;unfold bz at aar;rw [afu] at aar;obtain⟨_,agp,am4,xT,afv⟩:=lK aar;have afv:bz v=(agp,⟨obj (b4 (b4 m8 dk) iq),false⟩):=by unfold bz;rw [afu];exact afv
 unfold ng at hH;rw [afv,Ku] at hH;obtain⟨_,Ug,am5,aoV,afw⟩:=lK hH;have afw:ng v=(Ug,⟨obj (b4 (b4 (b4 m8 dk) iq) eP),false⟩):=by unfold ng;rw [afv,Ku];exact afw
 have afx:look m iq=some agp:=by rw [e5,if_neg (by decide),agn] at am4;simpa using am4
 have afy:look m eP=some Ug:=by rw [e5,if_neg (by decide),e5,if_neg (by decide),agn] at am5;simpa using am5
 obtain⟨agq,afz,afA⟩:=(bJ _ (dF afy)).q4 aoV;simp only at agq afz afA;unfold pB at Z';rw [afw] at Z';rw [agq] at Z';obtain⟨_,agr,aoW,aoX,ags⟩:=lK Z';have ags:pB v=(agr,⟨obj (b4 Ug.map hB),false⟩):=by unfold pB;rw [afw];rw [agq];exact ags
 rw [afw,ags] at nn;have rO:b4 (b4 (b4 m8 dk) iq) eP = []:=List.eq_nil_of_length_eq_zero (by simp only [obj,JV.map] at nn;omega);have nb:b4 Ug.map hB = []:=List.eq_nil_of_length_eq_zero (by simp only [obj,JV.map] at nn ⊢;omega);have ali:look m gm=some age:=aoG;have afB:look m eu=some agf:=by simpa [e5] using aoI
 have afC:look m eC=some agh:=by simpa [e5] using aoK
 have afD:look m hf=some agi:=by simpa [e5] using aoM
 have afE:look m eQ=some agj:=by simpa [e5] using aoO
 have afF:look m h2=some agk:=by simpa [e5] using aoP
 have afG:look m gE=some agl:=by simpa [e5] using aoR
 have afH:look m lS=some agm:=by simpa [e5] using aoS
 have afI:look Ug.map hB=some agr:=aoW;have aoY:fw ((ey v).b2.map aY)=agh:=by
  show fw ((gN v).1.map aY)=agh;rw [aaI];exact D' (bJ _ (dF afC)) aoL KS
 have aoZ:fw ((ey v).prev.map aY)=agf:=by
  show fw ((fS v).1.map aY)=agf;rw [aaH];exact D' (bJ _ (dF afB)) aoJ aap
 have am6:(ey v).bu=age:=by
  show(dO v).1=age;rw [afq]
 have ao0:aY (ey v).room=agi:=by
  show aY (nO v).1.str=agi;rw [jW];exact((bJ _ (dF afD)).pV aoN).symm
 have ao1:aY (ey v).snd=agj:=by
  show aY (nP v).1.str=agj;rw [afr];exact((bJ _ (dF afE)).pV tm).symm
 have ao2:aY (ey v).ty=agk:=by
  show aY (nQ v).1.str=agk;rw [a1];exact((bJ _ (dF afF)).pV aoQ).symm
 have ao3:fs (ey v).dep=agl:=by
  show fs (nR v).1.num=agl;rw [afs];exact((bJ _ (dF afG)).iP qU).symm
 have ao4:fs (ey v).time=agm:=by
  show fs (jS v).1.num=agm;rw [SX];exact((bJ _ (dF afH)).iP aoT).symm
 have ao5:obj (mK (ey v).sigs (ey v).sigs.length)=agp:=by
  show obj (mK (bp (bz v).1.map) (bp (bz v).1.map).length)=agp;have:=Xh.2;rw [afv] at this ⊢;exact Pv (bJ _ (dF afx)) xT this
 have ao6:obj [(hB,aY (ey v).hash)]=Ug:=by
  show obj [(hB,aY (pB v).1.str)]=Ug;rw [ags,agq];refine congrArg obj (qI (by simp [cZ]) afz fun k=>?_);have bs:aY agr.str=agr:=((afA _ (dF afI)).pV aoX).symm;rw [bs]
  by_cases hk:k=hB
  ·rw [hk,afI];rfl
  have:look (b4 Ug.map hB) k=none:=by rw [nb];rfl
  rw [e5,if_neg hk] at this;rw [this,look,if_neg (fun e=>hk e.symm)];rfl
 obtain⟨sa,a2,a3,a4,a5,adQ,adR,adS,a9,aeU,aeV⟩:=Gu (ey v);refine⟨Eq.trans (congrArg obj (qI (Kt _) aN fun k=>?_)) nU.symm,by rw [am6];exact aoH⟩
 by_cases Af:k=eC
 ·rw [Af,sa,aoY,afC]
 by_cases qy:k=gm
 ·rw [qy,a2,am6,ali]
 by_cases kB:k=gE
 ·rw [kB,a3,ao3,afG]
 by_cases n3:k=eP
 ·rw [n3,a4,ao6,afy]
 by_cases n4:k=lS
 ·rw [n4,a5,ao4,afH]
 by_cases IT:k=eu
 ·rw [IT,adQ,aoZ,afB]
 by_cases n6:k=hf
 ·rw [n6,adR,ao0,afD]
 by_cases n7:k=eQ
 ·rw [n7,adS,ao1,afE]
 by_cases n8:k=iq
 ·rw [n8,a9,ao5,afx]
 by_cases BA:k=h2
 ·rw [BA,aeU,ao2,afF]
 by_cases n10:k=dk
 ·rw [n10,aeV,alg];rfl
 have aaV:look (ey v).kx k=none:=hT fun j y aR hk=>by
  have:=Gv (List.mem_of_getElem? aR);rw [hk] at this;simp only [keys,List.mem_cons,List.not_mem_nil,or_false] at this;rcases this with h | h | h | h | h | h | h | h | h | h | h <;> contradiction
 have z2:look (b4 (b4 (b4 m8 dk) iq) eP) k=none:=by rw [rO];rfl
 rw [e5,if_neg n3,e5,if_neg n8,e5,if_neg n10,agn,if_neg n4,if_neg kB,if_neg BA,if_neg n7,if_neg n6,if_neg Af,if_neg IT,if_neg qy] at z2;rw [aaV,z2]
end EV
end Go.Proofs.YtnihidkbkhcfoaaGreatDoor.V
namespace Go.Proofs.YtnihidkbkhcfoaaGreatDoor.V
open Go
open JV
namespace EV
end EV
end Go.Proofs.YtnihidkbkhcfoaaGreatDoor.V
namespace Go.Proofs.YtnihidkbkhcfoaaGreatDoor.V
open Go
open JV
namespace EV
theorem qo (a b:List (U×JV)):bp (a++b)=bp a++bp b:=by simp [bp]
theorem r9:∀ (r:List cX) (acc pre:List (U×JV)) (p:cX),(∀ y∈acc,fA y.1 p.cP=true)→(∀ y∈pre,y.1=p.key∨fA y.1 p.key=true)→eR (some p) r=true→bp (r.foldl gF (acc ++ [(p.cP,obj pre)]))=bp (acc ++ [(p.cP,obj pre)])++r
 | [],acc,pre,p,_,_,_=>by simp
 | s::r,acc,pre,p,ax,bJ,h=>by
  rw [eR] at h
  simp only [Bool.and_eq_true] at h
  obtain⟨⟨_,h1⟩,aj⟩:=h
  unfold Pl at h1
  simp only at h1
  unfold kj at h1
  simp only [Bool.not_eq_true',Bool.or_eq_false_iff,Bool.not_eq_false',Bool.or_eq_true,beq_iff_eq,Bool.and_eq_false_iff,decide_eq_false_iff_not] at h1
  rw [List.foldl_cons]
  by_cases aN:p.cP=s.cP
  rotate_left
  ·have aH:fA p.cP s.cP=true:=by
    rcases h1.1 with h | h
    ·exact h
    exact absurd h aN
   have ue:∀ y∈acc ++ [(p.cP,obj pre)],fA y.1 s.cP=true:=fun y aR=>by
    rcases List.mem_append.1 aR with aR | aR
    ·exact fo (ax y aR) aH
    rw [List.mem_singleton.1 aR];exact aH
   have e:gF (acc ++ [(p.cP,obj pre)]) s=(acc ++ [(p.cP,obj pre)]) ++ [(s.cP,obj [(s.key,aY s.sig)])]:=by
    unfold gF one
    rw [u7 ue,iG ue]
    show _ ++ [(s.cP,obj (dJ [] s.key (aY s.sig)))]=_
    rw [iG (by simp)]
    rfl
   rw [e,r9 r _ _ s ue (fun y aR=>by rw [List.mem_singleton.1 aR];exact .inl rfl) aj,qo _ [(s.cP,_)]]
   simp [bp,en,obj,JV.map,aY,JV.str]
  have hk:fA p.key s.key=true:=by
   rcases h1.2 with h | h
   ·exact absurd aN h
   simpa using h
  have bk:∀ y∈pre,fA y.1 s.key=true:=fun y aR=>by
   rcases bJ y aR with e | e
   ·rw [e];exact hk
   exact fo e hk
  have ue:∀ y∈acc,fA y.1 s.cP=true:=fun y aR=>by rw [← aN];exact ax y aR
  have e:gF (acc ++ [(p.cP,obj pre)]) s=acc ++ [(s.cP,obj (pre ++ [(s.key,aY s.sig)]))]:=by
   unfold gF one
   rw [aN,x7 ue,zV ue]
   show acc ++ [(s.cP,obj (dJ pre s.key (aY s.sig)))]=_
   rw [iG bk]
  rw [e,r9 r acc _ s ue (fun y aR=>by
   rcases List.mem_append.1 aR with aR | aR
   ·exact .inr (bk y aR)
   rw [List.mem_singleton.1 aR];exact .inl rfl) aj,qo,qo,aN]
  simp [bp,en,obj,JV.map,aY,JV.str]
theorem Bx {l:List cX} (h:eR none l=true):bp (mK l l.length)=l:=by
 unfold mK;rw [List.take_length];cases l with
 | nil=>rfl
 | cons s r=>
  rw [eR] at h;simp only [Bool.and_eq_true] at h;have e:gF [] s = [] ++ [(s.cP,obj [(s.key,aY s.sig)])]:=by
   unfold gF one;rw [iG (by simp)];show [] ++ [(s.cP,obj (dJ [] s.key (aY s.sig)))]=_;rw [iG (by simp)];rfl
  rw [List.foldl_cons,e,r9 r [] _ s (by simp) (fun y aR=>by rw [List.mem_singleton.1 aR];exact .inl rfl) h.2];simp [bp,en,obj,JV.map,aY,JV.str]
theorem x8 {e:EV} (h:e.o8=0):eR none e.sigs=true∧e.bu.kind=5∧(e.st=false→e.key = []):=by
 have dm:e.rj=true:=by
  unfold EV.o8 at h
  split at h
  ·cases h
  split at h
  ·assumption
  cases h
 unfold rj gn gO at dm;simp only [Bool.and_eq_true,decide_eq_true_eq,Bool.or_eq_true] at dm;obtain⟨⟨⟨⟨⟨⟨⟨⟨_,h1⟩,aj⟩,_⟩,_⟩,_⟩,_⟩,aF⟩,_⟩:=dm;exact⟨aF,aj,fun aN=>h1.resolve_left (by rw [aN];simp)⟩
theorem Kx {e:EV} (h:e.o8=0):e.again=e:=by
 obtain⟨h1,_,aF⟩:=x8 h;unfold again;rw [Bx h1];cases aN:e.st with
 | true=>rw [if_pos rfl,← aN]
 | false=>rw [if_neg (by simp),← aF aN,← aN]
theorem Dv {e:EV} (h:e.fW=0):ey e.val=e∧ja e.val=0:=by
 obtain⟨a6,h1,_⟩:=zS h;obtain⟨aj,aF⟩:=SO (x8 a6).2.1;rw [Kx a6] at aj;refine⟨aj,?_⟩;unfold ja;rw [if_neg (by rintro(h | h);exact h h1;exact h rfl),if_neg (by rw [aF];simp),aj];exact a6
end EV
end Go.Proofs.YtnihidkbkhcfoaaGreatDoor.V
namespace Go.Proofs.YtnihidkbkhcfoaaGreatDoor.V
open Go
open JV
theorem JV.Ky {s:U} {deep:Nat} (bL:deep≠32) (bw:ck s=true) (bM:s.length≤65536):Fit (fw [aY s]) deep ([91]++b7 s ++ [93]):=fun c a6=>by
 have aH:¬ bare (fw [aY s])=false:=by simp [bare,fw,kind,is,num,str,list,map]
 have rG:(fw [aY s]).kind=4:=rfl;have e:c++([91]++b7 s ++ [93])=c ++ [91]++b7 s ++ [93]:=by simp
 rw [e] at a6 ⊢;have h1:(c ++ [91]++b7 s).length≤65536:=by rw [List.length_append] at a6;omega
 have bD:(c ++ [91]).length≤65536:=by rw [List.length_append] at h1;omega
 rw [dZ,if_neg aH,if_neg (by rw [rG];decide),if_neg (by rw [rG];decide),if_neg (by rw [rG];decide),if_neg (by rw [rG];decide),if_neg bL,if_pos rG,eS bD];show(h9 [aY s] deep true (c ++ [91])).bind _=_;rw [jr];show((wr (aY s) (deep+1) (c ++ [91])).bind fun b=>h9 [] deep false b).bind _=_;rw [x3 bw bM (c ++ [91]) h1];show(h9 [] deep false (c ++ [91]++b7 s)).bind _=_;rw [h9];show dw _=_;rw [eS a6]
namespace EV
theorem Gd:plain.Bi:=⟨by decide,by decide,by decide⟩
theorem xM:plain.fW=0:=by
 have d:∀ {m k v r deep t1 t2} {q:U},(∀ c∈k,c.toNat<128)→k.length≤1000→fA q k=true→Fit v (deep+1) t1→rk r deep (some k) t2→m=(k,v)::r→rk m deep (some q) ([44]++b7 k ++ [58]++t1++t2):=fun {m k v r deep t1 t2 q} bw bM eE h1 aj e=>by
  subst e;exact tu bw bM (fun ahO e=>by injection e with e;subst e;exact eE) h1 aj
 have Af:Fit (fs 0) 1 (Lib.itoa 0):=DX (by decide) (by decide);have f5:∀ deep,deep≠32→Fit (obj []) deep ([123] ++ [] ++ [125]):=fun deep bL=>tr tt bL;have T:∀ s:U,(∀ c∈s,c.toNat<128)→s.length≤1000→Fit (aY s) 1 (b7 s):=fun s h1 aj=>x3 (mU s h1) (by omega);have m0:rk [] 0 (some h2) []:=tt;have m1:=d (k:=h2) (v:=aY plain.ty) (q:=iq) (by decide) (by decide) (by decide) (T _ (by decide) (by decide)) m0 rfl;have m2:=d (k:=iq) (v:=obj []) (q:=eQ) (by decide) (by decide) (by decide) (f5 1 (by decide)) m1 rfl;have m3:=d (k:=eQ) (v:=aY plain.snd) (q:=hf) (by decide) (by decide) (by decide) (T _ (by decide) (by decide)) m2 rfl;have m4:=d (k:=hf) (v:=aY plain.room) (q:=eu) (by decide) (by decide) (by decide) (T _ (by decide) (by decide)) m3 rfl;have aaC:Fit (fw [aY (36::zQ)]) 1 _:=Ky (by decide) (mU _ (by decide)) (by decide);have m5:=d (k:=eu) (v:=fw [aY (36::zQ)]) (q:=lS) (by decide) (by decide) (by decide) aaC m4 rfl;have m6:=d (k:=lS) (v:=fs 0) (q:=eP) (by decide) (by decide) (by decide) Af m5 rfl;have aN:Fit (obj [(hB,aY plain.hash)]) 1 _:=tr (tu (k:=hB) (v:=aY plain.hash) (by decide) (by decide) (fun q e=>by cases e) (x3 (mU _ (by decide)) (by decide)) tt) (by decide);have m7:=d (k:=eP) (q:=gE) (by decide) (by decide) (by decide) aN m6 rfl;have m8:=d (k:=gE) (v:=fs 0) (q:=gm) (by decide) (by decide) (by decide) Af m7 rfl;have m9:=d (k:=gm) (v:=obj []) (q:=eC) (by decide) (by decide) (by decide) (f5 1 (by decide)) m8 rfl;have m10:=tu (k:=eC) (v:=fw []) (prev:=none) (by decide) (by decide) (fun q e=>by cases e) (Ks (by decide)) m9;have bM:(Lib.itoa 0).length≤21:=Lib.itoa_length_le 0 (by decide) (by decide);have:=tr m10 (by decide) [] (by
  have ET:(b7 h2).length=6:=by decide
  have Ef:(b7 iq).length=12:=by decide
  have GS:(b7 eQ).length=8:=by decide
  have Eg:(b7 hf).length=9:=by decide
  have Ck:(b7 eu).length=13:=by decide
  have ao7:(b7 lS).length=18:=by decide
  have ao8:(b7 eP).length=8:=by decide
  have ao9:(b7 gE).length=7:=by decide
  have ao':(b7 gm).length=9:=by decide
  have apa:(b7 eC).length=13:=by decide
  have apb:(b7 plain.ty).length=3:=by decide
  have apc:(b7 plain.snd).length=6:=by decide
  have apd:(b7 plain.room).length=6:=by decide
  have ape:(b7 plain.hash).length=45:=by decide
  have apf:(b7 hB).length=8:=by decide
  have apg:(b7 (36::zQ)).length=46:=by decide
  simp only [List.length_append,List.length_cons,List.length_nil,comma,ET,Ef,GS,Eg,Ck,ao7,ao8,ao9,ao',apa,apb,apc,apd,ape,apf,apg];generalize (Lib.itoa 0).length=z at bM ⊢;omega)
 exact HT Gr (show plain.val.wr 0 [] = .ok _ from this)
theorem Hv {e:EV} (h:e.fW=0):e.val.wr 0 [] = .ok e.pU:=by
 obtain⟨_,h1,aj⟩:=zS h;obtain⟨T,jY⟩:=As h1;rw [aj,jY];rfl
theorem xL {e:EV} (h:e.fW=0):parse e.pU = .ok e.val:=y8 (Hv h)
theorem JT {v:JV} (h:ja v=0):(ey v).val=v∧(ey v).fW=0∧A8 v=false∧(ey v).o8=0:=by
 unfold ja at h
 split at h
 ·cases h
 rename_i h1
 have bD:Go.Proofs.YtnihidkbkhcfoaaGreatDoor.V.fW (v.wr 0 [])=0:=Classical.not_not.1 fun e=>h1 (.inl e);have q4:v.kind=5:=Classical.not_not.1 fun e=>h1 (.inr e)
 split at h
 ·cases h
 rename_i aj
 have hw:A8 v=false:=by simpa using aj
 obtain⟨t,JI⟩:=As bD;obtain⟨aF,bn⟩:=PJ ⟨_,_,_,JI⟩ q4 hw;exact⟨aF,HT h (T:=t) (by rw [aF];exact JI),hw,h⟩
end EV
def aas:U:=[117,110,115,105,103,110,101,100]
def Gb:U:=[123,34,117,110,115,105,103,110,101,100,34,58,49,125]
def SY:JV:=obj [(aas,fs 1)]
theorem PK:SY.wr 0 [] = .ok Gb:=by
 have h1:Lib.itoa 1 = [49]:=by
  rw [Lib.itoa,if_neg (by decide)];show Lib.decDigits 1 = [49];unfold Lib.decDigits;rfl
 have qy:Fit (fs 1) 1 [49]:=by
  have:=DX (n:=1) (deep:=1) (by decide) (by decide)
  rwa [h1] at this
 have:=tr (tu (k:=aas) (v:=fs 1) (deep:=0) (prev:=none) (by decide) (by decide) (fun q e=>by cases e) qy tt) (by decide) [] (by decide);have e:([]:U)++([123]++(comma none++b7 aas ++ [58] ++ [49] ++ []) ++ [125])=Gb:=by decide
 rw [e] at this;exact this
theorem JU:parse Gb = .ok SY:=y8 PK
theorem SZ:A8 SY=true:=by kernel_rfl
theorem RS:ja SY=21:=by
 unfold ja;rw [if_neg (by rw [PK];rintro(h | h);exact h rfl;exact h rfl),if_pos SZ]
end Go.Proofs.YtnihidkbkhcfoaaGreatDoor.V
set_option maxRecDepth 10000
namespace Go.Proofs.YtnihidkbkhcfoaaGreatDoor.V
open Go Go.Proofs
/-- the digest's table as the program has it -/
def Ul (w:World):Prop:=pd w ⟨alj,0,none⟩ (KN.map W4)∧alj<w.heap.size
theorem Ul.I {w w':World} (h:Ul w) (k:Mod [] w w'):Ul w':=⟨h.1.I k,Nat.lt_of_lt_of_le h.2 k.size⟩
set_option maxRecDepth 10000
set_option maxRecDepth 10000
theorem Um:aP Tryz.prog 36:=aP.of Tryz.func36 (by kernel_rfl) (by kernel_rfl)
end Go.Proofs.YtnihidkbkhcfoaaGreatDoor.V
