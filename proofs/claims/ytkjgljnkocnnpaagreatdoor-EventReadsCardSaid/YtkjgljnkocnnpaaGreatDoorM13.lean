/-
  A part of the proof: an event is read from its value as it is (plain Lean); a value that an event can be read of whole is the event's value (plain Lean); a value that an event is read of whole is the event's value (plain Lean); the document's event of a value (plain Lean); an event that can be is read from its value as it is (plain Lean); the law's own event, and a text that is none's (plain Lean). No condition of its own.
-/
import Derived.Test.YtkjgljnkocnnpaaGreatDoorM0
import Derived.Test.YtkjgljnkocnnpaaGreatDoorM12
import Derived.Test.YtkjgljnkocnnpaaGreatDoorM8
import Derived.Test.YtkjgljnkocnnpaaGreatDoorM7
import Derived.Test.YtkjgljnkocnnpaaGreatDoorM3
import Derived.Test.YtkjgljnkocnnpaaGreatDoorM11
import Derived.Test.YtkjgljnkocnnpaaGreatDoorM5
import Derived.Test.YtkjgljnkocnnpaaGreatDoorM9
set_option linter.all false
set_option maxRecDepth 10000
namespace Go.Proofs.YtkjgljnkocnnpaaGreatDoor.V
open Go Go.Proofs
def afq:=kT (tp aR 80 [(0,6),(6,1)])
theorem afr:gX aR 80 ([.int .i64 0,.bool false,.int .i64 0,S [],.slice none 0 0,.slice none 0 0,.bool false]):=by unfold gX;kernel_rfl
def nz:=kT (Ry aR 25 3 3)
def xL:=kT (Ry aR 25 2 2)
def Kk:=kT (Ry aR 25 5 5)
def XO:=eW Tryz.func44
def afs:=kT (tp aR 86 [(0,1),(1,1),(2,1)])
theorem R4 (a b:List (ab×JV)):bG (a++b)=bG a++bG b:=by simp [bG]
theorem Kl {m:List (ab×JV)} {i:Nat} {x:ab×JV} (h:m[i]? = some x):bG (m.take (i+1))=bG (m.take i)++ey x∧(bG (m.take i)).length+x.2.map.length≤(bG m).length:=by
 have h1:m.take (i+1)=m.take i ++ [x]:=by
  have hi:=(List.getElem?_eq_some_iff.1 h);rw [List.take_succ_eq_append_getElem hi.1,hi.2]
 have aq:bG (m.take (i+1))=bG (m.take i)++ey x:=by rw [h1];simp [bG]
 refine⟨aq,?_⟩;have bb:m=m.take (i+1)++m.drop (i+1):=(List.take_append_drop _ _).symm;have bP:bG m=bG (m.take (i+1))++bG (m.drop (i+1)):=by rw [← R4,List.take_append_drop]
 rw [bP,aq,List.length_append,List.length_append];have:(ey x).length=x.2.map.length:=by simp [ey]
 omega
theorem Fs {x:ab×JV} {j:Nat} {q:ab×JV} (h:x.2.map[j]? = some q):(ey x).take (j+1)=(ey x).take j ++ [⟨x.1,q.1,q.2.str⟩]:=by
 have eD:=(List.getElem?_eq_some_iff.1 h);have cb:j<(ey x).length:=by simpa [ey] using eD.1
 rw [List.take_succ_eq_append_getElem cb];simp [ey,eD.2]
theorem adu (v:JV):dZ ⟨(ck v).2.rest,uA v⟩ e1 5=q3 v:=rfl
theorem adv (v:JV):dZ ⟨(q3 v).1,false⟩ hR 3=tz v:=rfl
theorem adw (v:JV):Aw v=((q3 v).2.bad||((tz v).2.bad||decide ((q3 v).2.rest.map.length+(tz v).2.rest.map.length > 0))):=rfl
theorem XP {v:JV} (h:(⟨v,false⟩:oe).fit):(q3 v).2.rest.map.length≤1000000:=(oe.jd (oe.Km (aft h) (uA v)) e1 5).2.1
theorem XQ {v:JV} (h:v.iH) (bh:v.o'≤65536):(tz v).2.rest.map.length≤1000000:=(oe.jd (Ft (x:=(q3 v).1) false (anE h).1 (ah7 bh).1) hR 3).2.1
theorem j6.XR {w w':World} {g b T:Nat} {cs:List Value} (N:j6 w w' g T cs) (h:b<w.heap.size):b≠g:=fun e=>by have:=N.le (Mod.refl [] w);omega
theorem qD.grow {A:List Nat} {w w':World} {g HR T:Nat} {t:oe} {cs:List Value} (h:qD A w g t) (N:j6 w w' HR T cs):qD (HR::A) w' g t:=by
 obtain⟨al,cl,am,cm,h1,aq,bb⟩:=h;have hm:∀ x∈HR::A,x∈A∨w.heap.size≤x:=fun x ae=>(cB ae).elim (fun e=>.inr (e▸N.le (Mod.refl [] w))) .inl;exact⟨al,cl,am,cm,h1.I N.mod,(aq.more hm).b1 N.mod,(bb.more hm).b1 N.mod⟩
theorem bq.grow {A:List Nat} {w w':World} {HR T:Nat} {d:D} {u:Value} {cs:List Value} (h:bq A w d u) (N:j6 w w' HR T cs):bq (HR::A) w' d u:=
 (h.more (fun x ae=>(cB ae).elim (fun e=>.inr (e▸N.le (Mod.refl [] w))) .inl)).b1 N.mod
theorem qD.eu {A A':List Nat} {w:World} {g:Nat} {t:oe} (h:qD A w g t) (bh:∀ x∈A',x∈A):qD A' w g t:=by
 obtain⟨al,cl,am,cm,h1,aq,bb⟩:=h;exact⟨al,cl,am,cm,h1,aq.eu bh,bb.eu bh⟩
theorem R5 {w:World} {v:Value} {l:List ei} (h:Own w 86 3 v l.length ((l.map ei.cells).flatten)):bq [] w (flat 3 ei.cells l) v:=Own.flat h (fun _ _=>rfl) (fun x _ c aZ=>by simp [ei.cells] at aZ;rcases aZ with rfl | rfl | rfl <;> rfl) rfl (by simp)
/-- what the reading of an event hands back -/
def pt (A:List Nat) (w0 w:World) (v:JV) (us:List Value):Prop:=
 (jF v=0∧∃ al cl am cm up HW LI,us = [S (fV v).room,S (fV v).snd,S (fV v).ty,.bool (fV v).st,S (fV v).key,.int .i64 (fV v).b7.kind,.bool (fV v).b7.is,.int .i64 (fV v).b7.num,S (fV v).b7.str,.slice al (fV v).b7.list.length cl,.slice am (fV v).b7.map.length cm,up,HW,.int .i64 (fV v).dep,.int .i64 (fV v).time,S (fV v).hash,LI]∧
  ao A w (fV v).b7.D [.int .i64 (fV v).b7.kind,.bool (fV v).b7.is,.int .i64 (fV v).b7.num,S (fV v).b7.str,.slice al (fV v).b7.list.length cl,.slice am (fV v).b7.map.length cm]∧Own w 9 1 up (fV v).prev.length (((fV v).prev.map fun s=>[S s]).flatten)∧Own w 9 1 HW (fV v).b8.length (((fV v).b8.map fun s=>[S s]).flatten)∧Own w 86 3 LI (fV v).sigs.length (((fV v).sigs.map ei.cells).flatten)∧(∀ x∈bk up,w0.heap.size≤x)∧(∀ x∈bk HW,w0.heap.size≤x)∧∀ x∈bk LI,w0.heap.size≤x)∨
 (jF v≠0∧us = [S [],S [],S [],.bool false,S [],.int .i64 0,.bool false,.int .i64 0,S [],.slice none 0 0,.slice none 0 0,.slice none 0 0,.slice none 0 0,.int .i64 0,.int .i64 0,S [],.slice none 0 0])
theorem pt.mk {A:List Nat} {w0 w:World} {v:JV} {al am adx ah8 ah9:Option Addr} {cl cm w1 yw cs:Nat} (h:jF v=0) (XS:ao A w (fh v).1.D [.int .i64 (fh v).1.kind,.bool (fh v).1.is,.int .i64 (fh v).1.num,S (fh v).1.str,.slice al (fh v).1.list.length cl,.slice am (fh v).1.map.length cm]) (fs:Own w 9 1 (.slice adx (ix v).1.length w1) (ix v).1.length (((ix v).1.map fun s=>[S s]).flatten)) (rV:Own w 9 1 (.slice ah8 (jB v).1.length yw) (jB v).1.length (((jB v).1.map fun s=>[S s]).flatten)) (zo:Own w 86 3 (.slice ah9 (bG (ck v).1.map).length cs) (bG (ck v).1.map).length (((bG (ck v).1.map).map ei.cells).flatten)) (rZ:∀ x∈bk (.slice adx (ix v).1.length w1),w0.heap.size≤x) (HU:∀ x∈bk (.slice ah8 (jB v).1.length yw),w0.heap.size≤x) (Rh:∀ x∈bk (.slice ah9 (bG (ck v).1.map).length cs),w0.heap.size≤x) :
  pt A w0 w v [S (rI v).1.str,S (rJ v).1.str,S (rK v).1.str,.bool (o1 v),S (lS v).1.str,.int .i64 (fh v).1.kind,.bool (fh v).1.is,.int .i64 (fh v).1.num,S (fh v).1.str,.slice al (fh v).1.list.length cl,.slice am (fh v).1.map.length cm,.slice adx (ix v).1.length w1,.slice ah8 (jB v).1.length yw,.int .i64 (rL v).1.num,.int .i64 (m' v).1.num,S (tz v).1.str,.slice ah9 (bG (ck v).1.map).length cs]:=
 .inl ⟨h,al,cl,am,cm,_,_,_,rfl,XS,fs,rV,zo,rZ,HU,Rh⟩
set_option maxHeartbeats 4000000 in
theorem Pf (A:List Nat) (w:World) (v:JV) (us:List Value) (aBn:ao A w v.D us) (dy:∀ a∈A,a<w.heap.size) (kp:pd w) (eX:kv w):Calls aR 20 [.agg us.toArray].toArray w (bH fun u w'=>∃ ga,u = .tuple #[.agg ga.toArray,.int .i64 (jF v)]∧pt A w w' v ga∧Mod [] w w'):=by
 refine bs Tryz.func20 rfl fun E=>?_;obtain⟨al,cl,am,cm,rfl,k3,j3⟩:=JV.aU aBn;have aBn:=JV.bX k3 j3;refine aa fun a6=>eY rfl rfl rfl fun g1 aJ bZ=>?_;have aY:=bZ.le E;replace E:=E.then bZ.mod;have R:=bZ.ar;refine bj kh rfl fun g2 cX cz=>?_;have bJ:=cz.le E;have bl:=cz.ne R;replace R:=R.I cz.mod;replace E:=E.then cz.mod;have ag:=cz.ar;refine a7 rfl (J a6 (aB fun aQ=>aa fun a'=>ah (br au rfl (R.cs rfl)) (cG E (bB Nn rfl) (CR _ v _ ((aBn.eu (by simp)).b1 E) (kp.mod E (by simp))) fun gr U E=>?_)));replace R:=R.I U;replace ag:=ag.I U;refine aj 5 rfl (J a' (aa fun bp=>aj 2 rfl ?_));refine c7 (fun cu:gz (v.wr 0 [])≠0=>?_) (fun cu=>?_)
 ·refine aj 5 rfl (J bp (az rfl ?_));have jA:jF v=21:=by unfold jF;rw [aL (by first | exact .inl cu | exact .inr fc)]
  refine aa fun bx=>ah (fq qF kh rfl rfl) (ed eK ag rfl rfl fun h8 j0=>?_);replace R:=R.ne j0.mod bl;replace E:=E.own j0.mod bJ;replace ag:aF h8 g2 _ [_,_,_,_,_,_,_,_,_,_,_,_,_,_,_,_,_]:=j0.ar;exact a7 rfl (J bx (bn (aP (gL rfl eK rfl (ag.cs rfl) rfl ⟨_,by rw [jA],.inr ⟨by rw [jA];decide,rfl⟩,E⟩))))
 refine aO rfl (ay (aD hK rfl) (ay (bF eg rfl (R.cell rfl)) (ay (fO rfl rfl) ?_)));refine c7 (fun fc:v.kind≠5=>?_) (fun fc=>?_)
 ·refine ah (hG rfl rfl rfl) (J bp (az rfl ?_));have jA:jF v=21:=by unfold jF;rw [aL (by first | exact .inl cu | exact .inr fc)]
  refine aa fun bO=>ah (fq qF kh rfl rfl) (ed eK ag rfl rfl fun iS hd=>?_);replace R:=R.ne hd.mod bl;replace E:=E.own hd.mod bJ;replace ag:aF iS g2 _ [_,_,_,_,_,_,_,_,_,_,_,_,_,_,_,_,_]:=hd.ar;exact a7 rfl (J bO (bn (aP (gL rfl eK rfl (ag.cs rfl) rfl ⟨_,by rw [jA],.inr ⟨by rw [jA];decide,rfl⟩,E⟩))))
 refine ah (hG rfl rfl rfl) (J bp (aI rfl ?_));obtain⟨t,DZ⟩:=iP (Classical.not_not.1 cu);have mQ:=ady DZ;have Ax:=JV.CS DZ;have Np:¬ (gz (v.wr 0 [])≠0∨v.kind≠5):=fun h=>h.elim cu fc;refine b' (av aQ (aa fun b4=>ah (br au rfl (R.cs rfl)) (ah ((cD afq afr rfl rfl)) (eY rfl rfl rfl fun g3 i' dF=>?_))));have df:=dF.le E;have dv:=dF.ne R;have ca:=dF.ne ag;replace R:=R.I dF.mod;replace ag:=ag.I dF.mod;replace E:=E.then dF.mod;have bd:=dF.ar;have anF:∀ a∈g3::g2::A,a∈A∨w.heap.size≤a:=fun a aE=>by simp at aE;rcases aE with rfl | rfl | aE;exact .inr df;exact .inr bJ;exact .inl aE
 have j2:qD (g3::g2::A) _ g3 ⟨v,false⟩:=⟨_,_,_,_,bd,(k3.more anF).b1 E,(j3.more anF).b1 E⟩;refine a7 rfl (J b4 (aa fun cw=>aO rfl (cJ (bB qE rfl) (lf (g3::g2::A) _ g3 ⟨v,false⟩ j2 (by simp) (fun a aE=>by simp at aE;rcases aE with rfl | rfl | aE;exact j2.lt;exact ag.lt;exact Nat.lt_of_lt_of_le (dy a aE) E.size) mQ fZ 5) fun cN iw aH=>?_)));obtain⟨azW,rfl,Rxc,j2,U⟩:=aH;replace R:=R.ne U dv;replace ag:=ag.ne U ca;replace E:=E.own U df;obtain⟨R6,R7,R8,R9,rfl,ah',atw⟩:=JV.aU Rxc;replace ah':=ah';replace j2:=j2.eu (A':=[g3]) (by simp);obtain⟨HX,Nq⟩:∃ x,x=iw:=⟨_,rfl⟩;subst Nq;have F:=Mod.refl [g3] HX;have awD:=j2.lt;have awE:=ag.lt;have Nq:=E.size;refine aO rfl ?_;have aia:=E.size;have aqB:=ag.lt;have aqC:=j2.lt;refine cJ (bB XO rfl) (CQ [g3] _ g3 (fh v).2 j2 (by simp) (fun a aE=>by simp at aE;subst aE;exact j2.lt) (afu mQ) eH) fun cN nd aH=>?_;obtain⟨cR,aib,j2,U⟩:=aH;replace R:=R.ne U dv;replace ag:=ag.ne U ca;replace E:=E.own U df;replace F:=F.trans U;obtain⟨nA,s',rfl,awF,awG⟩:=cR.form;have atx:∀ y∈bk (.slice nA _ s'),w.heap.size≤y:=fun y ba=>Nat.le_trans aia (aib y ba);have Kn:∀ y∈bk (.slice nA _ s'),y≠g2:=fun y ba e=>by have:=aib y ba;omega
 have qG:∀ y∈bk (.slice nA _ s'),y≠g3:=fun y ba e=>by have:=aib y ba;omega
 refine aO rfl ?_;have aic:=E.size;have aqD:=ag.lt;have aqE:=j2.lt;refine cJ (bB XO rfl) (CQ [g3] _ g3 (ix v).2 j2 (by simp) (fun a aE=>by simp at aE;subst aE;exact j2.lt) (afv mQ) eL) fun cN lF aH=>?_;obtain⟨cV,aib,j2,U⟩:=aH;replace R:=R.ne U dv;replace ag:=ag.ne U ca;replace E:=E.own U df;replace F:=F.trans U;replace cR:=cR.put U qG;obtain⟨nB,ta,rfl,awH,awI⟩:=cV.form;have aty:∀ y∈bk (.slice nB _ ta),w.heap.size≤y:=fun y ba=>Nat.le_trans aic (aib y ba);have Ko:∀ y∈bk (.slice nB _ ta),y≠g2:=fun y ba e=>by have:=aib y ba;omega
 have rq:∀ y∈bk (.slice nB _ ta),y≠g3:=fun y ba e=>by have:=aib y ba;omega
 refine ah (fq qF kh rfl rfl) ?_;have aid:=j2;refine bj kh rfl fun g4 h2 N4=>?_;have fQ:=N4.le E;have oh:=N4.le F;have gb:=N4.ne R;have eR:=N4.ne ag;have dC:=N4.XR j2.lt;have mf:=N4.bU cR;have mg:=N4.bU cV;replace j2:=j2.I N4.mod;replace R:=R.I N4.mod;replace ag:=ag.I N4.mod;replace E:=E.then N4.mod;replace F:=F.then N4.mod;replace cR:=cR.I N4.mod;replace cV:=cV.I N4.mod;have bm:=N4.ar;replace j2:=aid.grow N4;refine ed eK bm rfl rfl fun jJ fa=>?_;replace R:=R.ne fa.mod gb;replace ag:=ag.ne fa.mod eR;replace E:=E.own fa.mod fQ;replace F:=F.own fa.mod oh;replace cR:=cR.put fa.mod mf;replace cV:=cV.put fa.mod mg;replace bm:aF jJ g4 _ [_,_,_,_,_,_,_,_,_,_,_,_,_,_,_,_,_]:=fa.ar;replace j2:=j2.mod fa.mod (fun x ae=>by simp [dx ae]) (fun h=>by have:=dC;simp at h;exact this h);refine J cw (aa fun cy=>aO rfl (cJ (bB qE rfl) (lf [g4,g3] _ g3 (jB v).2 j2 (by simp) (fun a aE=>by simp at aE;rcases aE with rfl | rfl;exact bm.lt;exact j2.lt) (afw mQ) hD 3) fun cN mo aH=>?_));obtain⟨atz,rfl,aie,j2,U⟩:=aH;replace R:=R.ne U dv;replace ag:=ag.ne U ca;replace bm:=bm.ne U (Ne.symm dC);replace E:=E.own U df;replace F:=F.trans U;replace cR:=cR.put U qG;replace cV:=cV.put U rq;obtain⟨atA,atB,atC,atD,rfl,atE,atF⟩:=JV.aU aie;refine ah ((lR nz rfl rfl)) (aO rfl (cJ (bB qE rfl) (lf [g4,g3] _ g3 (rI v).2 j2 (by simp) (fun a aE=>by simp at aE;rcases aE with rfl | rfl;exact bm.lt;exact j2.lt) (afx mQ) e2 3) fun cN mT aH=>?_));obtain⟨atG,rfl,aif,j2,U⟩:=aH;replace R:=R.ne U dv;replace ag:=ag.ne U ca;replace bm:=bm.ne U (Ne.symm dC);replace E:=E.own U df;replace F:=F.trans U;replace cR:=cR.put U qG;replace cV:=cV.put U rq;obtain⟨atH,atI,atJ,atK,rfl,atL,atM⟩:=JV.aU aif;refine ah ((lR nz rfl rfl)) (aO rfl (cJ (bB qE rfl) (lf [g4,g3] _ g3 (rJ v).2 j2 (by simp) (fun a aE=>by simp at aE;rcases aE with rfl | rfl;exact bm.lt;exact j2.lt) (afy mQ) ih 3) fun cN lK aH=>?_));obtain⟨atN,rfl,aih,j2,U⟩:=aH;replace R:=R.ne U dv;replace ag:=ag.ne U ca;replace bm:=bm.ne U (Ne.symm dC);replace E:=E.own U df;replace F:=F.trans U;replace cR:=cR.put U qG;replace cV:=cV.put U rq;obtain⟨atO,atP,atQ,atS,rfl,atT,atU⟩:=JV.aU aih;refine ah ((lR nz rfl rfl)) (ah (aD sL rfl) (cL b2 bm rfl rfl fun nj qx=>?_));replace R:=R.ne qx.mod gb;replace ag:=ag.ne qx.mod eR;replace E:=E.own qx.mod fQ;replace F:=F.own qx.mod oh;replace cR:=cR.put qx.mod mf;replace cV:=cV.put qx.mod mg;replace bm:aF nj g4 _ [_,_,_,_,_,_,_,_,_,_,_,_,_,_,_,_,_]:=qx.ar;replace j2:=j2.mod qx.mod (fun x ae=>by simp [dx ae]) (fun h=>by have:=dC;simp at h;exact this h);refine ah (aD sM rfl) (cL b2 bm rfl rfl fun pJ Aq=>?_);replace R:=R.ne Aq.mod gb;replace ag:=ag.ne Aq.mod eR;replace E:=E.own Aq.mod fQ;replace F:=F.own Aq.mod oh;replace cR:=cR.put Aq.mod mf;replace cV:=cV.put Aq.mod mg;replace bm:aF pJ g4 _ [_,_,_,_,_,_,_,_,_,_,_,_,_,_,_,_,_]:=Aq.ar;replace j2:=j2.mod Aq.mod (fun x ae=>by simp [dx ae]) (fun h=>by have:=dC;simp at h;exact this h);refine ah (aD pO rfl) (cL b2 bm rfl rfl fun qT nN=>?_);replace R:=R.ne nN.mod gb;replace ag:=ag.ne nN.mod eR;replace E:=E.own nN.mod fQ;replace F:=F.own nN.mod oh;replace cR:=cR.put nN.mod mf;replace cV:=cV.put nN.mod mg;replace bm:aF qT g4 _ [_,_,_,_,_,_,_,_,_,_,_,_,_,_,_,_,_]:=nN.ar;replace j2:=j2.mod nN.mod (fun x ae=>by simp [dx ae]) (fun h=>by have:=dC;simp at h;exact this h);refine J cy (aa fun b6=>aO rfl (cJ (bB qE rfl) (lf [g4,g3] _ g3 (rK v).2 j2 (by simp) (fun a aE=>by simp at aE;rcases aE with rfl | rfl;exact bm.lt;exact j2.lt) (afz mQ) gG 2) fun cN qU aH=>?_));obtain⟨atV,rfl,aii,j2,U⟩:=aH;replace R:=R.ne U dv;replace ag:=ag.ne U ca;replace bm:=bm.ne U (Ne.symm dC);replace E:=E.own U df;replace F:=F.trans U;replace cR:=cR.put U qG;replace cV:=cV.put U rq;obtain⟨atW,atX,atY,atZ,rfl,at0,at1⟩:=JV.aU aii;refine ah ((lR xL rfl rfl)) (aO rfl (cJ (bB qE rfl) (lf [g4,g3] _ g3 (rL v).2 j2 (by simp) (fun a aE=>by simp at aE;rcases aE with rfl | rfl;exact bm.lt;exact j2.lt) (afA mQ) lE 2) fun cN qV aH=>?_));obtain⟨at2,rfl,aij,j2,U⟩:=aH;replace R:=R.ne U dv;replace ag:=ag.ne U ca;replace bm:=bm.ne U (Ne.symm dC);replace E:=E.own U df;replace F:=F.trans U;replace cR:=cR.put U qG;replace cV:=cV.put U rq;obtain⟨at3,at4,at5,at6,rfl,at7,aua⟩:=JV.aU aij;refine ah ((lR xL rfl rfl)) (ah (aD p0 rfl) (cL eg bm rfl rfl fun pK lp=>?_));replace R:=R.ne lp.mod gb;replace ag:=ag.ne lp.mod eR;replace E:=E.own lp.mod fQ;replace F:=F.own lp.mod oh;replace cR:=cR.put lp.mod mf;replace cV:=cV.put lp.mod mg;replace bm:aF pK g4 _ [_,_,_,_,_,_,_,_,_,_,_,_,_,_,_,_,_]:=lp.ar;replace j2:=j2.mod lp.mod (fun x ae=>by simp [dx ae]) (fun h=>by have:=dC;simp at h;exact this h);refine ah (aD p1 rfl) (cL eg bm rfl rfl fun ts sv=>?_);replace R:=R.ne sv.mod gb;replace ag:=ag.ne sv.mod eR;replace E:=E.own sv.mod fQ;replace F:=F.own sv.mod oh;replace cR:=cR.put sv.mod mf;replace cV:=cV.put sv.mod mg;replace bm:aF ts g4 _ [_,_,_,_,_,_,_,_,_,_,_,_,_,_,_,_,_]:=sv.ar;replace j2:=j2.mod sv.mod (fun x ae=>by simp [dx ae]) (fun h=>by have:=dC;simp at h;exact this h);refine J b6 (mU fun Ge bR=>?_);have vd:∀ (aJ:World),qD [g4,g3] aJ g3 (lS v).2∧aF aJ g4 46 [S (rI v).1.str,S (rJ v).1.str,S (rK v).1.str,.bool (o1 v),S (lS v).1.str,.int .i64 (fh v).1.kind,.bool (fh v).1.is,.int .i64 (fh v).1.num,S (fh v).1.str,.slice R6 (fh v).1.list.length R7,.slice R8 (fh v).1.map.length R9,.slice nA (ix v).1.length s',.slice nB (jB v).1.length ta,.int .i64 (rL v).1.num,.int .i64 (m' v).1.num,S [],.slice none 0 0]∧Own aJ 9 1 (.slice nA (ix v).1.length s') (ix v).1.length (((ix v).1.map fun s=>[S s]).flatten)∧Own aJ 9 1 (.slice nB (jB v).1.length ta) (jB v).1.length (((jB v).1.map fun s=>[S s]).flatten)∧aF aJ g2 46 [S [],S [],S [],.bool false,S [],.int .i64 0,.bool false,.int .i64 0,S [],.slice none 0 0,.slice none 0 0,.slice none 0 0,.slice none 0 0,.int .i64 0,.int .i64 0,S [],.slice none 0 0]∧Mod [g3] HX aJ∧Mod [] w aJ→∀ a,Has 173 [] [(2,.pointer (some ⟨g2,0,none⟩)),(3,.int .i64 0),(6,.pointer (some ⟨g3,0,none⟩)),(7,.pointer (some ⟨g4,0,none⟩))] a→Ge a aJ:=by
  intro sJ lI;obtain⟨j2,bm,cR,cV,ag,F,E⟩:=lI;refine bR _ _ _ _ (aB fun cv=>aa fun bV=>aO rfl (cJ (bB qE rfl) (lf [g4,g3] _ g3 (lS v).2 j2 (by simp) (fun a aE=>by simp at aE;rcases aE with rfl | rfl;exact bm.lt;exact j2.lt) (XT mQ) fS 5) fun cN tP aH=>?_));obtain⟨aub,rfl,aik,j2,U⟩:=aH;replace ag:=ag.ne U ca;replace bm:=bm.ne U (Ne.symm dC);replace F:=F.trans U;replace E:=E.own U df;replace cR:=cR.put U qG;replace cV:=cV.put U rq;obtain⟨auc,aud,ail,aim,rfl,aue,ain⟩:=JV.aU aik;obtain⟨anG,Kp,auf⟩:∃ a c,a=ail∧c=aim:=⟨_,_,rfl,rfl⟩;obtain⟨rfl,rfl⟩:=auf;obtain⟨aBj,anH⟩:∃ x,x=tP:=⟨_,rfl⟩;subst anH;obtain⟨Kq,Kr,Ks,Kt,e4,aug,auh⟩:=j2;have azX:=e4.lt;have amN:=bm.lt;have z7:=ag.lt;have awJ:=F.size;have anH:=E.size;have vb:=y5 Ax;have aui:(ck v).1.map.length≤1000000:=(oe.Kj (XT mQ) fS 5).2.2;refine ah ((lR Kk rfl rfl)) (ah (bY cO rfl) (aO rfl (J bV (eN (bK (σ:=Nat×Value) (fun⟨i,vs⟩=>[(2,.pointer (some ⟨g2,0,none⟩)),(3,.int .i64 0),(6,.pointer (some ⟨g3,0,none⟩)),(7,.pointer (some ⟨g4,0,none⟩)),(75,.slice anG (ck v).1.map.length Kp),(76,.int .i64 (ck v).1.map.length),(77,.int .i64 (i:Int))]) (fun⟨i,vs⟩ aJ=>i≤(ck v).1.map.length∧Own aJ 86 3 vs (bG ((ck v).1.map.take i)).length (((bG ((ck v).1.map.take i)).map ei.cells).flatten)∧(∀ y∈bk vs,HX.heap.size≤y∧y≠g4∧y∉bk (.slice nA (ix v).1.length s')∧y∉bk (.slice nB (jB v).1.length ta))∧bq ([g4,g3]++bk vs) aJ (.jH 7 ((ck v).1.map.map JV.jq)) (.slice anG (ck v).1.map.length Kp)∧bq ([g4,g3]++bk vs) aJ (.jH 6 ((ck v).2.rest.list.map JV.D)) (.slice Kq (ck v).2.rest.list.length Kr)∧bq ([g4,g3]++bk vs) aJ (.jH 7 ((ck v).2.rest.map.map JV.jq)) (.slice Ks (ck v).2.rest.map.length Kt)∧aF aJ g3 80 [.int .i64 (ck v).2.rest.kind,.bool (ck v).2.rest.is,.int .i64 (ck v).2.rest.num,S (ck v).2.rest.str,.slice Kq (ck v).2.rest.list.length Kr,.slice Ks (ck v).2.rest.map.length Kt,.bool ((ck v).2.bad||((ck v).1.map.take i).any p2)]∧aF aJ g4 46 [S (rI v).1.str,S (rJ v).1.str,S (rK v).1.str,.bool (o1 v),S (lS v).1.str,.int .i64 (fh v).1.kind,.bool (fh v).1.is,.int .i64 (fh v).1.num,S (fh v).1.str,.slice R6 (fh v).1.list.length R7,.slice R8 (fh v).1.map.length R9,.slice nA (ix v).1.length s',.slice nB (jB v).1.length ta,.int .i64 (rL v).1.num,.int .i64 (m' v).1.num,S [],vs]∧Own aJ 9 1 (.slice nA (ix v).1.length s') (ix v).1.length (((ix v).1.map fun s=>[S s]).flatten)∧Own aJ 9 1 (.slice nB (jB v).1.length ta) (jB v).1.length (((jB v).1.map fun s=>[S s]).flatten)∧aF aJ g2 46 [S [],S [],S [],.bool false,S [],.int .i64 0,.bool false,.int .i64 0,S [],.slice none 0 0,.slice none 0 0,.slice none 0 0,.slice none 0 0,.int .i64 0,.int .i64 0,S [],.slice none 0 0]∧Mod [g3] HX aJ∧Mod [] w aJ) (fun⟨i,vs⟩=>(ck v).1.map.length-i) (⟨0,.slice none 0 0⟩) (⟨by omega,Own.nil _ _ _,by simp [bk],ain,aug,auh,by rw [List.take_zero,List.any_nil,Bool.or_false];exact e4,bm,cR,cV,ag,F,E⟩) ?_)))));rintro⟨i,vs⟩ ve ⟨hi,fB,q4,RG,mB,mC,e4,bm,cR,cV,ag,F,E⟩;have vq:∀ y∈bk vs,y≠g2:=fun y ba e=>by have:=(q4 y ba).1;omega
  have CT:∀ y∈bk vs,y≠g3:=fun y ba e=>by have:=(q4 y ba).1;omega
  have XV:∀ y∈bk vs,y≠g4:=fun y ba=>(q4 y ba).2.1;have eE:=Mod.refl [] ve;refine aa fun cE=>ah (cT rfl rfl) (J cE (aB fun cI=>?_));refine aX rfl (fun XW=>?_) (fun XW=>?_);rotate_left
  ·have air:i=(ck v).1.map.length:=by omega
   subst air;rw [List.take_length] at fB e4;obtain⟨R',akw,rfl,Yb,Yc⟩:=fB.form;obtain⟨adB,Yd⟩:∃ l,l = [g4,g3]++bk (.slice R' (bG (ck v).1.map).length akw):=⟨_,rfl⟩;have j2:qD adB _ g3 ⟨(ck v).2.rest,uA v⟩:=⟨_,_,_,_,e4,by rw [Yd];exact mB,by rw [Yd];exact mC⟩;have WM:g3∈adB:=by rw [Yd];simp
   have anO:g4∈adB:=by rw [Yd];simp
   have anP:∀ a∈adB,a<ve.heap.size:=fun a aE=>by
    rw [Yd] at aE;rcases List.mem_append.1 aE with aE | aE
    ·simp at aE;rcases aE with rfl | rfl;exact bm.lt;exact e4.lt
    exact fB.lt a aE
   have anQ:=JV.Kv DZ;refine bL (aP (aP (ch (av cv (aa fun gh=>aO rfl (cJ (bB qE rfl) (lf adB _ g3 ⟨(ck v).2.rest,uA v⟩ j2 WM anP (oe.Km (aft mQ) _) e1 5) fun cN ab9 aH=>?_))))));obtain⟨azY,rfl,aun,j2,U⟩:=aH;replace ag:=ag.ne U ca;replace bm:=bm.ne U (Ne.symm dC);replace F:=F.trans U;replace E:=E.own U df;replace cR:=cR.put U qG;replace cV:=cV.put U rq;replace fB:=fB.put U CT;obtain⟨azZ,az0,az1,az2,rfl,auo,aup⟩:=JV.aU aun;have anR:∀ a∈adB,a<ab9.heap.size:=fun a aE=>Nat.lt_of_lt_of_le (anP a aE) U.size;refine ah ((cD afq afr rfl rfl)) ?_;have aid:=j2;refine eY rfl rfl rfl fun g8 ab' wF=>?_;have ais:=wF.le F;have TT:=wF.le E;have u6:=wF.ne ag;have adC:=wF.XR j2.lt;have Pm:=wF.ne bm;have Ye:=wF.bU cR;have Yf:=wF.bU cV;have adD:=wF.bU fB;replace j2:=j2.I wF.mod;replace ag:=ag.I wF.mod;replace bm:=bm.I wF.mod;replace F:=F.then wF.mod;replace E:=E.then wF.mod;replace cR:=cR.I wF.mod;replace cV:=cV.I wF.mod;replace fB:=fB.I wF.mod;have Gg:=wF.ar;replace j2:=aid.grow wF;have abf:qD (g8::adB) _ g8 ⟨(q3 v).1,false⟩:=⟨_,_,_,_,Gg,auo.grow wF,aup.grow wF⟩;have anS:∀ a∈g8::adB,a<ab'.heap.size:=fun a aE=>by
    rcases cB aE with rfl | aE
    ·exact Gg.lt
    exact Nat.lt_of_lt_of_le (anR a aE) wF.mod.size
   refine a7 rfl (J gh (aa fun fk=>aO rfl (cJ (bB qE rfl) (lf (g8::adB) _ g8 ⟨(q3 v).1,false⟩ abf (by simp) anS (Ft _ (anE anQ).1 (ah7 Ax).1) hR 3) fun cN ary aH=>?_)));obtain⟨az3,rfl,auq,abf,U⟩:=aH;replace ag:=ag.ne U u6;replace bm:=bm.ne U Pm;replace F:=F.own U ais;replace E:=E.own U TT;replace cR:=cR.put U Ye;replace cV:=cV.put U Yf;replace fB:=fB.put U adD;obtain⟨aby,abz,abA,abB,rfl,ak6,ak7⟩:=JV.aU auq;replace j2:=j2.mod U (fun x ae=>by simp [dx ae]) (fun h=>adC (dx h));refine ah ((lR nz rfl rfl)) (ah (aD nm rfl) (cL b2 bm rfl rfl fun alD Hl=>?_));replace ag:=ag.ne Hl.mod eR;replace F:=F.own Hl.mod oh;replace E:=E.own Hl.mod fQ;replace cR:=cR.put Hl.mod mf;replace cV:=cV.put Hl.mod mg;replace fB:=fB.put Hl.mod XV;replace bm:aF alD g4 _ [_,_,_,_,_,_,_,_,_,_,_,_,_,_,_,_,_]:=Hl.ar;replace j2:=j2.mod Hl.mod (fun x ae=>by rw [dx ae];exact List.mem_cons_of_mem _ anO) (fun h=>dC (dx h));replace abf:=abf.mod Hl.mod (fun x ae=>by rw [dx ae];exact List.mem_cons_of_mem _ anO) (fun h=>(Ne.symm Pm) (dx h));have qZ:=XP mQ;have l6:=XQ anQ Ax;have Sa:=adw v;rw [adu] at j2;rw [adv] at abf;generalize (q3 v).2=akx at j2 qZ Sa;generalize (tz v).2=TX at abf l6 Sa;refine J fk (aB fun hq=>aB fun gY=>?_)
   by_cases iE:akx.bad=true
   ·obtain⟨ait,aiu,aiv,aiw,e4,aix,aiy⟩:=j2;obtain⟨aiz,aiA,aiB,aiC,uU,aiD,aiE⟩:=abf;refine cn wide (by kernel_rfl) (hF 2 rfl rfl (ax (fun U=>(aD hy rfl)) (ax (fun U=>(bF kV rfl ((e4.I U).cell rfl))) (ax (fun U=>(fj rfl)) (fP rfl (iE) (fP rfl (iE) (fP rfl (iE) (fP rfl (iE) (ax (fun U=>(oH (iE) rfl rfl)) (hF 16 rfl rfl (cq rfl fun alE U=>?_)))))))))));replace ag:=ag.I U;replace e4:=e4.I U;replace bm:=bm.I U;replace uU:=uU.I U;replace F:=F.then U;replace E:=E.then U;replace cR:=cR.I U;replace cV:=cV.I U;replace fB:=fB.I U;refine av gY (az rfl ?_);have jA:jF v=21:=by unfold jF;rw [ak Np,aL (by rw [Sa];first | (rw [iE];rfl) | (rw [ew iE,fR];rfl) | (rw [ew iE,ew fR,bD (show akx.rest.map.length+TX.rest.map.length > 0 by omega)];rfl))]
    refine aa fun iB=>ah (fq qF kh rfl rfl) (ed eK ag rfl rfl fun alF Kw=>?_);replace e4:=e4.ne Kw.mod (Ne.symm ca);replace bm:=bm.ne Kw.mod (Ne.symm eR);replace uU:=uU.ne Kw.mod (Ne.symm u6);replace E:=E.own Kw.mod bJ;replace cR:=cR.put Kw.mod Kn;replace cV:=cV.put Kw.mod Ko;replace fB:=fB.put Kw.mod vq;replace ag:aF alF g2 _ [_,_,_,_,_,_,_,_,_,_,_,_,_,_,_,_,_]:=Kw.ar;exact a7 rfl (J iB (bn (aP (gL rfl eK rfl (ag.cs rfl) rfl ⟨_,by rw [jA],.inr ⟨by rw [jA];decide,rfl⟩,E⟩))))
   by_cases fR:TX.bad=true
   ·obtain⟨ait,aiu,aiv,aiw,e4,aix,aiy⟩:=j2;obtain⟨aiz,aiA,aiB,aiC,uU,aiD,aiE⟩:=abf;refine cn wide (by kernel_rfl) (hF 2 rfl rfl (ax (fun U=>(aD hy rfl)) (ax (fun U=>(bF kV rfl ((e4.I U).cell rfl))) (ax (fun U=>(fj rfl)) (a8 ((ew iE)) (fun U=>(fj rfl)) (a8 ((ew iE)) (fun U=>(eS rfl)) (a8 ((ew iE)) (fun U=>(aD hy rfl)) (a8 ((ew iE)) (fun U=>(bF kV rfl ((uU.I U).cell rfl))) (ax (fun U=>(hG ((ew iE)) rfl rfl)) (ax (fun U=>(fj rfl)) (fP rfl (fR) (fP rfl (fR) (fP rfl (fR) ?_)))))))))))));refine fP rfl (fR) (fP rfl (fR) (fP rfl (fR) (fP rfl (fR) (fP rfl (fR) (fP rfl (fR) (fP rfl (fR) (fP rfl (fR) (fP rfl (fR) (fP rfl (fR) (fP rfl (fR) (ax (fun U=>(oH (fR) rfl rfl)) (cq rfl fun arz U=>?_))))))))))));replace ag:=ag.I U;replace e4:=e4.I U;replace bm:=bm.I U;replace uU:=uU.I U;replace F:=F.then U;replace E:=E.then U;replace cR:=cR.I U;replace cV:=cV.I U;replace fB:=fB.I U;refine av gY (az rfl ?_);have jA:jF v=21:=by unfold jF;rw [ak Np,aL (by rw [Sa];first | (rw [iE];rfl) | (rw [ew iE,fR];rfl) | (rw [ew iE,ew fR,bD (show akx.rest.map.length+TX.rest.map.length > 0 by omega)];rfl))]
    refine aa fun jR=>ah (fq qF kh rfl rfl) (ed eK ag rfl rfl fun alM Kx=>?_);replace e4:=e4.ne Kx.mod (Ne.symm ca);replace bm:=bm.ne Kx.mod (Ne.symm eR);replace uU:=uU.ne Kx.mod (Ne.symm u6);replace E:=E.own Kx.mod bJ;replace cR:=cR.put Kx.mod Kn;replace cV:=cV.put Kx.mod Ko;replace fB:=fB.put Kx.mod vq;replace ag:aF alM g2 _ [_,_,_,_,_,_,_,_,_,_,_,_,_,_,_,_,_]:=Kx.ar;exact a7 rfl (J jR (bn (aP (gL rfl eK rfl (ag.cs rfl) rfl ⟨_,by rw [jA],.inr ⟨by rw [jA];decide,rfl⟩,E⟩))))
   by_cases anT:((akx.rest.map.length:Int)+(TX.rest.map.length:Int)) > 0
   ·obtain⟨ait,aiu,aiv,aiw,e4,aix,aiy⟩:=j2;obtain⟨aiz,aiA,aiB,aiC,uU,aiD,aiE⟩:=abf;refine cn wide (by kernel_rfl) (hF 2 rfl rfl (ax (fun U=>(aD hy rfl)) (ax (fun U=>(bF kV rfl ((e4.I U).cell rfl))) (ax (fun U=>(fj rfl)) (a8 ((ew iE)) (fun U=>(fj rfl)) (a8 ((ew iE)) (fun U=>(eS rfl)) (a8 ((ew iE)) (fun U=>(aD hy rfl)) (a8 ((ew iE)) (fun U=>(bF kV rfl ((uU.I U).cell rfl))) (ax (fun U=>(hG ((ew iE)) rfl rfl)) (ax (fun U=>(fj rfl)) (a8 ((ew fR)) (fun U=>(fj rfl)) (a8 ((ew fR)) (fun U=>(eS rfl)) (a8 ((ew fR)) (fun U=>(aD rp rfl)) ?_)))))))))))));refine a8 ((ew fR)) (fun U=>(aD cd rfl)) (a8 ((ew fR)) (fun U=>(bF dM rfl ((e4.I U).cell rfl))) (a8 ((ew fR)) (fun U=>(bY cO rfl)) (a8 ((ew fR)) (fun U=>(fj rfl)) (a8 ((ew fR)) (fun U=>(eS rfl)) (a8 ((ew fR)) (fun U=>(aD rp rfl)) (a8 ((ew fR)) (fun U=>(aD cd rfl)) (a8 ((ew fR)) (fun U=>(bF dM rfl ((uU.I U).cell rfl))) (a8 ((ew fR)) (fun U=>(bY cO rfl)) (a8 ((ew fR)) (fun U=>(bt rfl rfl (by omega))) (a8 ((ew fR)) (fun U=>(hV rfl rfl)) (ax (fun U=>(hG ((ew fR)) rfl rfl)) (cq rfl fun alN U=>?_))))))))))));replace ag:=ag.I U;replace e4:=e4.I U;replace bm:=bm.I U;replace uU:=uU.I U;replace F:=F.then U;replace E:=E.then U;replace cR:=cR.I U;replace cV:=cV.I U;replace fB:=fB.I U;refine av gY ?_;refine aX rfl (fun Ky=>?_) (fun Ky=>absurd anT Ky);have jA:jF v=21:=by unfold jF;rw [ak Np,aL (by rw [Sa];first | (rw [iE];rfl) | (rw [ew iE,fR];rfl) | (rw [ew iE,ew fR,bD (show akx.rest.map.length+TX.rest.map.length > 0 by omega)];rfl))]
    refine aa fun l3=>ah (fq qF kh rfl rfl) (ed eK ag rfl rfl fun alO Kz=>?_);replace e4:=e4.ne Kz.mod (Ne.symm ca);replace bm:=bm.ne Kz.mod (Ne.symm eR);replace uU:=uU.ne Kz.mod (Ne.symm u6);replace E:=E.own Kz.mod bJ;replace cR:=cR.put Kz.mod Kn;replace cV:=cV.put Kz.mod Ko;replace fB:=fB.put Kz.mod vq;replace ag:aF alO g2 _ [_,_,_,_,_,_,_,_,_,_,_,_,_,_,_,_,_]:=Kz.ar;exact a7 rfl (J l3 (bn (aP (gL rfl eK rfl (ag.cs rfl) rfl ⟨_,by rw [jA],.inr ⟨by rw [jA];decide,rfl⟩,E⟩))))
   obtain⟨ait,aiu,aiv,aiw,e4,aix,aiy⟩:=j2;obtain⟨aiz,aiA,aiB,aiC,uU,aiD,aiE⟩:=abf;refine cn wide (by kernel_rfl) (hF 2 rfl rfl (ax (fun U=>(aD hy rfl)) (ax (fun U=>(bF kV rfl ((e4.I U).cell rfl))) (ax (fun U=>(fj rfl)) (a8 ((ew iE)) (fun U=>(fj rfl)) (a8 ((ew iE)) (fun U=>(eS rfl)) (a8 ((ew iE)) (fun U=>(aD hy rfl)) (a8 ((ew iE)) (fun U=>(bF kV rfl ((uU.I U).cell rfl))) (ax (fun U=>(hG ((ew iE)) rfl rfl)) (ax (fun U=>(fj rfl)) (a8 ((ew fR)) (fun U=>(fj rfl)) (a8 ((ew fR)) (fun U=>(eS rfl)) (a8 ((ew fR)) (fun U=>(aD rp rfl)) ?_)))))))))))));refine a8 ((ew fR)) (fun U=>(aD cd rfl)) (a8 ((ew fR)) (fun U=>(bF dM rfl ((e4.I U).cell rfl))) (a8 ((ew fR)) (fun U=>(bY cO rfl)) (a8 ((ew fR)) (fun U=>(fj rfl)) (a8 ((ew fR)) (fun U=>(eS rfl)) (a8 ((ew fR)) (fun U=>(aD rp rfl)) (a8 ((ew fR)) (fun U=>(aD cd rfl)) (a8 ((ew fR)) (fun U=>(bF dM rfl ((uU.I U).cell rfl))) (a8 ((ew fR)) (fun U=>(bY cO rfl)) (a8 ((ew fR)) (fun U=>(bt rfl rfl (by omega))) (a8 ((ew fR)) (fun U=>(hV rfl rfl)) (ax (fun U=>(hG ((ew fR)) rfl rfl)) (cq rfl fun alT U=>?_))))))))))));replace ag:=ag.I U;replace e4:=e4.I U;replace bm:=bm.I U;replace uU:=uU.I U;replace F:=F.then U;replace E:=E.then U;replace cR:=cR.I U;replace cV:=cV.I U;replace fB:=fB.I U;refine av gY (aX rfl (fun Ky=>absurd Ky anT) (fun Ky=>?_));have KA:jF v=(fV v).q5:=by unfold jF;rw [ak Np,ak (by rw [Sa,ew iE,ew fR,cr (show ¬ akx.rest.map.length+TX.rest.map.length > 0 by omega)];simp)]
   refine b' (av hq (aB fun kb=>aB fun k6=>?_));have adE:=Mod.refl [] alT;have Sb:=ah'.toM F (by simp);have Sc:=atw.toM F (by simp);have RE:ao [] _ (fV v).D [S (rI v).1.str,S (rJ v).1.str,S (rK v).1.str,.bool (o1 v),S (lS v).1.str,.int .i64 (fh v).1.kind,.bool (fh v).1.is,.int .i64 (fh v).1.num,S (fh v).1.str,.slice R6 (fh v).1.list.length R7,.slice R8 (fh v).1.map.length R9,.slice nA (ix v).1.length s',.slice nB (jB v).1.length ta,.int .i64 (rL v).1.num,.int .i64 (m' v).1.num,S (tz v).1.str,.slice R' (bG (ck v).1.map).length akw]:=EV.bX (e:=fV v) (JV.bX (v:=(fh v).1) (Sb.eu (by simp)) (Sc.eu (by simp))) (Own.strs [] cR (by simp)) (Own.strs [] cV (by simp)) (R5 fB);refine b5 (ah (jb eK rfl (bm.cs rfl)) (Xw (bB Yg rfl) (KB _ (fV v) _ RE (Hm Ax) (Fu Ax) (kp.mod E (by simp)) (eX.I E)) fun alU U=>?_));replace ag:=ag.I U;replace e4:=e4.I U;replace bm:=bm.I U;replace uU:=uU.I U;replace F:=F.then U;replace E:=E.then U;replace adE:=adE.then U;replace cR:=cR.I U;replace cV:=cV.I U;replace fB:=fB.I U;refine a7 rfl (J k6 (aa fun ni=>aj 2 rfl (J ni ?_)));refine aX rfl (fun Yh=>?_) (fun Yh=>?_)
   ·refine aa fun kc=>ah (fq qF kh rfl rfl) (aO rfl (ed eK ag rfl rfl fun alV KC=>?_));replace e4:=e4.ne KC.mod (Ne.symm ca);replace bm:=bm.ne KC.mod (Ne.symm eR);replace uU:=uU.ne KC.mod (Ne.symm u6);replace E:=E.own KC.mod bJ;replace cR:=cR.put KC.mod Kn;replace cV:=cV.put KC.mod Ko;replace fB:=fB.put KC.mod vq;replace ag:aF alV g2 _ [_,_,_,_,_,_,_,_,_,_,_,_,_,_,_,_,_]:=KC.ar;exact a7 rfl (J kc (bn (aP (gL rfl eK rfl (ag.cs rfl) rfl ⟨_,by rw [KA],.inr ⟨by rw [KA];exact Yh,rfl⟩,E⟩))))
   refine b' (av kb (aa fun qp=>ah (jb eK rfl (bm.cs rfl)) ?_));replace Sb:=Sb.b1 adE;replace Sc:=Sc.b1 adE;refine ed eK ag rfl rfl fun aur D0=>?_;replace e4:=e4.ne D0.mod (Ne.symm ca);replace bm:=bm.ne D0.mod (Ne.symm eR);replace uU:=uU.ne D0.mod (Ne.symm u6);replace E:=E.own D0.mod bJ;replace cR:=cR.put D0.mod Kn;replace cV:=cV.put D0.mod Ko;replace fB:=fB.put D0.mod vq;replace ag:aF aur g2 _ [_,_,_,_,_,_,_,_,_,_,_,_,_,_,_,_,_]:=D0.ar;have anU:jF v=0:=KA.trans (Classical.not_not.1 Yh);replace Sb:=Sb.toM D0.mod (fun a aE=>by simp [dx aE]);replace Sc:=Sc.toM D0.mod (fun a aE=>by simp [dx aE]);exact a7 rfl (J qp (bn (gL rfl eK rfl (ag.cs rfl) rfl ⟨_,by rw [anU];rfl,pt.mk anU (JV.bX (v:=(fh v).1) (Sb.eu (fun x ae=>by simp [ae])) (Sc.eu (fun x ae=>by simp [ae]))) cR cV fB atx aty (fun x ae=>Nat.le_trans Nq (q4 x ae).1),E⟩)))
  obtain⟨x,bS⟩:∃ y,(ck v).1.map[i]? = some y:=⟨_,List.getElem?_eq_getElem (by omega)⟩;obtain⟨kJ,lz,dW,eJ,cA⟩:=JV.kQ RG bS;obtain⟨j9,j',jf,ik,rfl,lA,lT⟩:=JV.aU eJ;obtain rfl:=dW;obtain⟨XX,anI⟩:=Kl bS;have F6:x.2.map.length≤65536:=by
   have e8:(bG (ck v).1.map).length≤65536:=vb;omega
  refine b' (av cI (aB fun dr=>eN (aa fun ec=>ah (c8 dk rfl rfl (by omega)) (ah (fb jL rfl rfl cA) (bj eU rfl fun g5 DC fJ=>?_)))));have Nr:=fJ.le F;have nT:=fJ.le E;have u4:=fJ.le eE;have ow:=fJ.ne ag;have kk:=fJ.ne e4;have ox:=fJ.ne bm;have XY:=fJ.bU cR;have X0:=fJ.bU cV;have A0:=fJ.bU fB;replace ag:=ag.I fJ.mod;replace e4:=e4.I fJ.mod;replace bm:=bm.I fJ.mod;replace F:=F.then fJ.mod;replace E:=E.then fJ.mod;replace eE:=eE.then fJ.mod;replace cR:=cR.I fJ.mod;replace cV:=cV.I fJ.mod;replace fB:=fB.I fJ.mod;have dS:=fJ.ar;refine nf jL dS rfl rfl fun vT mZ=>?_;replace ag:=ag.ne mZ.mod ow;replace e4:=e4.ne mZ.mod kk;replace bm:=bm.ne mZ.mod ox;replace F:=F.own mZ.mod Nr;replace E:=E.own mZ.mod nT;replace eE:=eE.own mZ.mod u4;replace cR:=cR.put mZ.mod XY;replace cV:=cV.put mZ.mod X0;replace fB:=fB.put mZ.mod A0;replace dS:aF vT g5 _ [_,_,_,_,_,_,_]:=mZ.ar;refine J ec (mU fun auj dG=>?_);have aio:∀ (aJ:World),(∀ y∈bk vs,y≠g5)∧Own aJ 86 3 vs (bG ((ck v).1.map.take i)).length (((bG ((ck v).1.map.take i)).map ei.cells).flatten)∧(∀ y∈bk vs,HX.heap.size≤y∧y≠g4∧y∉bk (.slice nA (ix v).1.length s')∧y∉bk (.slice nB (jB v).1.length ta))∧bq ([g4,g3]++bk vs) aJ (.jH 7 ((ck v).1.map.map JV.jq)) (.slice (some kJ) (ck v).1.map.length Kp)∧bq ([g4,g3]++bk vs) aJ (.jH 6 ((ck v).2.rest.list.map JV.D)) (.slice Kq (ck v).2.rest.list.length Kr)∧bq ([g4,g3]++bk vs) aJ (.jH 7 ((ck v).2.rest.map.map JV.jq)) (.slice Ks (ck v).2.rest.map.length Kt)∧bq ([g4,g3]++bk vs) aJ (.jH 7 (x.2.map.map JV.jq)) (.slice jf x.2.map.length ik)∧aF aJ g3 80 [.int .i64 (ck v).2.rest.kind,.bool (ck v).2.rest.is,.int .i64 (ck v).2.rest.num,S (ck v).2.rest.str,.slice Kq (ck v).2.rest.list.length Kr,.slice Ks (ck v).2.rest.map.length Kt,.bool (((ck v).2.bad||((ck v).1.map.take i).any p2)||(decide (x.2.map.length=0)||(x.2.map.take 0).any fun q=>decide (q.2.kind≠3)))]∧aF aJ g5 38 [S x.1,.int .i64 x.2.kind,.bool x.2.is,.int .i64 x.2.num,S x.2.str,.slice j9 x.2.list.length j',.slice jf x.2.map.length ik]∧aF aJ g4 46 [S (rI v).1.str,S (rJ v).1.str,S (rK v).1.str,.bool (o1 v),S (lS v).1.str,.int .i64 (fh v).1.kind,.bool (fh v).1.is,.int .i64 (fh v).1.num,S (fh v).1.str,.slice R6 (fh v).1.list.length R7,.slice R8 (fh v).1.map.length R9,.slice nA (ix v).1.length s',.slice nB (jB v).1.length ta,.int .i64 (rL v).1.num,.int .i64 (m' v).1.num,S [],vs]∧Own aJ 9 1 (.slice nA (ix v).1.length s') (ix v).1.length (((ix v).1.map fun s=>[S s]).flatten)∧Own aJ 9 1 (.slice nB (jB v).1.length ta) (jB v).1.length (((jB v).1.map fun s=>[S s]).flatten)∧aF aJ g2 46 [S [],S [],S [],.bool false,S [],.int .i64 0,.bool false,.int .i64 0,S [],.slice none 0 0,.slice none 0 0,.slice none 0 0,.slice none 0 0,.int .i64 0,.int .i64 0,S [],.slice none 0 0]∧Mod [g3] HX aJ∧Mod [] w aJ→∀ a,Has 173 [] [(2,.pointer (some ⟨g2,0,none⟩)),(3,.int .i64 0),(6,.pointer (some ⟨g3,0,none⟩)),(7,.pointer (some ⟨g4,0,none⟩)),(75,.slice (some kJ) (ck v).1.map.length Kp),(76,.int .i64 (ck v).1.map.length),(77,.int .i64 (i:Int)),(11,.pointer (some ⟨g5,0,none⟩))] a→auj a aJ:=by
   intro DD lI;obtain⟨CU,fB,q4,RG,mB,mC,lT,e4,dS,bm,cR,cV,ag,F,E⟩:=lI;have vq:∀ y∈bk vs,y≠g2:=fun y ba e=>by have:=(q4 y ba).1;omega
   have CT:∀ y∈bk vs,y≠g3:=fun y ba e=>by have:=(q4 y ba).1;omega
   have XV:∀ y∈bk vs,y≠g4:=fun y ba=>(q4 y ba).2.1;have eE:=Mod.refl [] DD;refine dG _ _ _ _ (aa fun eV=>ah (aD iO rfl) (ah (vx cd rfl) (ah (bF dM rfl (dS.cell rfl)) (ah (bY cO rfl) (aO rfl (J eV (eN (bK (σ:=Nat×Value) (fun⟨j,vs⟩=>[(2,.pointer (some ⟨g2,0,none⟩)),(3,.int .i64 0),(6,.pointer (some ⟨g3,0,none⟩)),(7,.pointer (some ⟨g4,0,none⟩)),(75,.slice (some kJ) (ck v).1.map.length Kp),(76,.int .i64 (ck v).1.map.length),(77,.int .i64 (i:Int)),(11,.pointer (some ⟨g5,0,none⟩)),(97,.slice jf x.2.map.length ik),(98,.int .i64 x.2.map.length),(99,.int .i64 (j:Int))]) (fun⟨j,vs⟩ aJ=>j≤x.2.map.length∧(∀ y∈bk vs,y≠g5)∧Own aJ 86 3 vs ((bG ((ck v).1.map.take i)++(ey x).take j)).length ((((bG ((ck v).1.map.take i)++(ey x).take j)).map ei.cells).flatten)∧(∀ y∈bk vs,HX.heap.size≤y∧y≠g4∧y∉bk (.slice nA (ix v).1.length s')∧y∉bk (.slice nB (jB v).1.length ta))∧bq ([g4,g3]++bk vs) aJ (.jH 7 ((ck v).1.map.map JV.jq)) (.slice (some kJ) (ck v).1.map.length Kp)∧bq ([g4,g3]++bk vs) aJ (.jH 6 ((ck v).2.rest.list.map JV.D)) (.slice Kq (ck v).2.rest.list.length Kr)∧bq ([g4,g3]++bk vs) aJ (.jH 7 ((ck v).2.rest.map.map JV.jq)) (.slice Ks (ck v).2.rest.map.length Kt)∧bq ([g4,g3]++bk vs) aJ (.jH 7 (x.2.map.map JV.jq)) (.slice jf x.2.map.length ik)∧aF aJ g3 80 [.int .i64 (ck v).2.rest.kind,.bool (ck v).2.rest.is,.int .i64 (ck v).2.rest.num,S (ck v).2.rest.str,.slice Kq (ck v).2.rest.list.length Kr,.slice Ks (ck v).2.rest.map.length Kt,.bool (((ck v).2.bad||((ck v).1.map.take i).any p2)||(decide (x.2.map.length=0)||(x.2.map.take j).any fun q=>decide (q.2.kind≠3)))]∧aF aJ g5 38 [S x.1,.int .i64 x.2.kind,.bool x.2.is,.int .i64 x.2.num,S x.2.str,.slice j9 x.2.list.length j',.slice jf x.2.map.length ik]∧aF aJ g4 46 [S (rI v).1.str,S (rJ v).1.str,S (rK v).1.str,.bool (o1 v),S (lS v).1.str,.int .i64 (fh v).1.kind,.bool (fh v).1.is,.int .i64 (fh v).1.num,S (fh v).1.str,.slice R6 (fh v).1.list.length R7,.slice R8 (fh v).1.map.length R9,.slice nA (ix v).1.length s',.slice nB (jB v).1.length ta,.int .i64 (rL v).1.num,.int .i64 (m' v).1.num,S [],vs]∧Own aJ 9 1 (.slice nA (ix v).1.length s') (ix v).1.length (((ix v).1.map fun s=>[S s]).flatten)∧Own aJ 9 1 (.slice nB (jB v).1.length ta) (jB v).1.length (((jB v).1.map fun s=>[S s]).flatten)∧aF aJ g2 46 [S [],S [],S [],.bool false,S [],.int .i64 0,.bool false,.int .i64 0,S [],.slice none 0 0,.slice none 0 0,.slice none 0 0,.slice none 0 0,.int .i64 0,.int .i64 0,S [],.slice none 0 0]∧Mod [g3] HX aJ∧Mod [] w aJ) (fun⟨j,vs⟩=>x.2.map.length-j) (⟨0,vs⟩) (⟨by omega,CU,by simpa using fB,q4,RG.b1 eE,mB.b1 eE,mC.b1 eE,lT.b1 eE,e4,dS,bm,cR,cV,ag,F,E⟩) ?_))))))));rintro⟨j,vs⟩ ys ⟨eD,CU,fB,q4,RG,mB,mC,lT,e4,dS,bm,cR,cV,ag,F,E⟩;have vq:∀ y∈bk vs,y≠g2:=fun y ba e=>by have:=(q4 y ba).1;omega
   have CT:∀ y∈bk vs,y≠g3:=fun y ba e=>by have:=(q4 y ba).1;omega
   have XV:∀ y∈bk vs,y≠g4:=fun y ba=>(q4 y ba).2.1;have eE:=Mod.refl [] ys;refine aa fun eO=>ah (cT rfl rfl) (J eO (aB fun eC=>?_));refine aX rfl (fun anJ=>?_) (fun anJ=>?_);rotate_left
   ·have Nl:j=x.2.map.length:=by omega
    subst Nl;have aum:((ck v).2.bad||((ck v).1.map.take (i+1)).any p2)=(((ck v).2.bad||((ck v).1.map.take i).any p2)||(decide (x.2.map.length=0)||(x.2.map.take x.2.map.length).any fun q=>decide (q.2.kind≠3))):=by
     have h1:(ck v).1.map.take (i+1)=(ck v).1.map.take i ++ [x]:=by rw [List.take_succ_eq_append_getElem (by omega),(List.getElem?_eq_some_iff.1 bS).2]
     rw [h1,List.any_append,List.take_length,Bool.or_assoc,List.any_cons,List.any_nil,Bool.or_false];rfl
    rw [show(ey x).take x.2.map.length=ey x from List.take_of_length_le (by simp [ey])] at fB;exact bL (aP (aP (ch (bw (av dr (b5 (ah (bt rfl rfl (by omega)) (aO rfl (cx (aw (σ:=Nat×Value) (s:=⟨i,vs⟩) (⟨i+1,vs⟩) ⟨by omega,by rw [XX];exact fB,q4,RG.b1 eE,mB.b1 eE,mC.b1 eE,by rw [aum];exact e4,bm,cR,cV,ag,F,E⟩))))))))))
   obtain⟨q,jU⟩:∃ y,x.2.map[j]? = some y:=⟨_,List.getElem?_eq_getElem (by omega)⟩;obtain⟨Iw,T6,tR,L9,jw⟩:=JV.kQ lT jU;obtain⟨Oo,Oq,Ot,Ou,rfl,T7,auk⟩:=JV.aU L9;obtain rfl:=tR;have X8:=Fs jU;have aip:x.2.map.take (j+1)=x.2.map.take j ++ [q]:=by rw [List.take_succ_eq_append_getElem (by omega),(List.getElem?_eq_some_iff.1 jU).2]
   have anK:(ey x).length=x.2.map.length:=by simp [ey]
   have anL:((bG ((ck v).1.map.take i)++(ey x).take j)).length≤65535:=by
    have e8:(bG (ck v).1.map).length≤65536:=vb;rw [List.length_append,List.length_take];omega
   refine b' (av eC (aB fun eP=>eN (aa fun fw=>ah (c8 dk rfl rfl (by omega)) (ah (fb jL rfl rfl jw) (bj eU rfl fun g6 Bz iV=>?_)))));have X9:=iV.le F;have tN:=iV.le E;have Hk:=iV.le eE;have xM:=iV.ne ag;have u5:=iV.ne e4;have Pg:=iV.ne bm;have F':=iV.ne dS;have X':=iV.bU cR;have Ya:=iV.bU cV;have adz:=iV.bU fB;replace ag:=ag.I iV.mod;replace e4:=e4.I iV.mod;replace bm:=bm.I iV.mod;replace dS:=dS.I iV.mod;replace F:=F.then iV.mod;replace E:=E.then iV.mod;replace eE:=eE.then iV.mod;replace cR:=cR.I iV.mod;replace cV:=cV.I iV.mod;replace fB:=fB.I iV.mod;have jQ:=iV.ar;refine nf jL jQ rfl rfl fun L7 CV=>?_;replace ag:=ag.ne CV.mod xM;replace e4:=e4.ne CV.mod u5;replace bm:=bm.ne CV.mod Pg;replace dS:=dS.ne CV.mod F';replace F:=F.own CV.mod X9;replace E:=E.own CV.mod tN;replace eE:=eE.own CV.mod Hk;replace cR:=cR.put CV.mod X';replace cV:=cV.put CV.mod Ya;replace fB:=fB.put CV.mod adz;replace jQ:aF L7 g6 _ [_,_,_,_,_,_,_]:=CV.ar;refine J fw (mU fun ahs fT=>?_);have ML:∀ (aJ:World),(∀ y∈bk vs,y≠g5)∧Own aJ 86 3 vs ((bG ((ck v).1.map.take i)++(ey x).take j)).length ((((bG ((ck v).1.map.take i)++(ey x).take j)).map ei.cells).flatten)∧(∀ y∈bk vs,HX.heap.size≤y∧y≠g4∧y∉bk (.slice nA (ix v).1.length s')∧y∉bk (.slice nB (jB v).1.length ta))∧bq ([g4,g3]++bk vs) aJ (.jH 7 ((ck v).1.map.map JV.jq)) (.slice (some kJ) (ck v).1.map.length Kp)∧bq ([g4,g3]++bk vs) aJ (.jH 6 ((ck v).2.rest.list.map JV.D)) (.slice Kq (ck v).2.rest.list.length Kr)∧bq ([g4,g3]++bk vs) aJ (.jH 7 ((ck v).2.rest.map.map JV.jq)) (.slice Ks (ck v).2.rest.map.length Kt)∧bq ([g4,g3]++bk vs) aJ (.jH 7 (x.2.map.map JV.jq)) (.slice (some Iw) x.2.map.length ik)∧aF aJ g3 80 [.int .i64 (ck v).2.rest.kind,.bool (ck v).2.rest.is,.int .i64 (ck v).2.rest.num,S (ck v).2.rest.str,.slice Kq (ck v).2.rest.list.length Kr,.slice Ks (ck v).2.rest.map.length Kt,.bool (((ck v).2.bad||((ck v).1.map.take i).any p2)||(decide (x.2.map.length=0)||(x.2.map.take (j+1)).any fun q=>decide (q.2.kind≠3)))]∧aF aJ g5 38 [S x.1,.int .i64 x.2.kind,.bool x.2.is,.int .i64 x.2.num,S x.2.str,.slice j9 x.2.list.length j',.slice (some Iw) x.2.map.length ik]∧aF aJ g6 38 [S q.1,.int .i64 q.2.kind,.bool q.2.is,.int .i64 q.2.num,S q.2.str,.slice Oo q.2.list.length Oq,.slice Ot q.2.map.length Ou]∧aF aJ g4 46 [S (rI v).1.str,S (rJ v).1.str,S (rK v).1.str,.bool (o1 v),S (lS v).1.str,.int .i64 (fh v).1.kind,.bool (fh v).1.is,.int .i64 (fh v).1.num,S (fh v).1.str,.slice R6 (fh v).1.list.length R7,.slice R8 (fh v).1.map.length R9,.slice nA (ix v).1.length s',.slice nB (jB v).1.length ta,.int .i64 (rL v).1.num,.int .i64 (m' v).1.num,S [],vs]∧Own aJ 9 1 (.slice nA (ix v).1.length s') (ix v).1.length (((ix v).1.map fun s=>[S s]).flatten)∧Own aJ 9 1 (.slice nB (jB v).1.length ta) (jB v).1.length (((jB v).1.map fun s=>[S s]).flatten)∧aF aJ g2 46 [S [],S [],S [],.bool false,S [],.int .i64 0,.bool false,.int .i64 0,S [],.slice none 0 0,.slice none 0 0,.slice none 0 0,.slice none 0 0,.int .i64 0,.int .i64 0,S [],.slice none 0 0]∧Mod [g3] HX aJ∧Mod [] w aJ→∀ a,Has 173 [] [(2,.pointer (some ⟨g2,0,none⟩)),(3,.int .i64 0),(6,.pointer (some ⟨g3,0,none⟩)),(7,.pointer (some ⟨g4,0,none⟩)),(75,.slice (some kJ) (ck v).1.map.length Kp),(76,.int .i64 (ck v).1.map.length),(77,.int .i64 (i:Int)),(11,.pointer (some ⟨g5,0,none⟩)),(13,.pointer (some ⟨g6,0,none⟩)),(97,.slice (some Iw) x.2.map.length ik),(98,.int .i64 x.2.map.length),(99,.int .i64 (j:Int))] a→ahs a aJ:=by
    intro Gj lI;obtain⟨CU,fB,q4,RG,mB,mC,lT,e4,dS,jQ,bm,cR,cV,ag,F,E⟩:=lI;have vq:∀ y∈bk vs,y≠g2:=fun y ba e=>by have:=(q4 y ba).1;omega
    have CT:∀ y∈bk vs,y≠g3:=fun y ba e=>by have:=(q4 y ba).1;omega
    have XV:∀ y∈bk vs,y≠g4:=fun y ba=>(q4 y ba).2.1;have eE:=Mod.refl [] Gj;refine fT _ _ _ _ (b5 (ah (aD jj rfl) (ah (bF q' rfl (bm.cell rfl)) (ah (aD e3 rfl) (ah (bF b2 rfl (dS.cell rfl)) (ah (aD e3 rfl) (ah (bF b2 rfl (jQ.cell rfl)) (ah (aD iO rfl) (ah (vx je rfl) (ah (bF b2 rfl (jQ.cell rfl)) (ah (sY afs xN rfl rfl) (mM mS xN rfl rfl fun g7 T5 qQ=>?_))))))))))));have aul:=qQ.le F;have L0:=qQ.le E;have Ph:=qQ.le eE;have Pj:=qQ.ne ag;have Pk:=qQ.ne e4;have aqF:=qQ.ne bm;have aqG:=qQ.ne dS;have Pl:=qQ.ne jQ;have anM:=qQ.bU cR;have anN:=qQ.bU cV;have aqH:=qQ.bU fB;replace ag:=ag.I qQ.mod;replace e4:=e4.I qQ.mod;replace bm:=bm.I qQ.mod;replace dS:=dS.I qQ.mod;replace jQ:=jQ.I qQ.mod;replace F:=F.then qQ.mod;replace E:=E.then qQ.mod;replace eE:=eE.then qQ.mod;replace cR:=cR.I qQ.mod;replace cV:=cV.I qQ.mod;replace fB:=fB.I qQ.mod;have z':=qQ.ar;refine bz mS rfl rfl fB (Src.own pR (Own.all (cs:=[_,_,_]) z' rfl (by omega)) (by simp [Value.oneCell'])) (by decide) (by omega) (by omega) rfl fun Ku L8 ek=>?_;have rV:Own L8 86 3 Ku ((bG ((ck v).1.map.take i)++(ey x).take (j+1))).length ((((bG ((ck v).1.map.take i)++(ey x).take (j+1))).map ei.cells).flatten):=ek.own.same (by rw [X8];simp [Nat.add_assoc]) (by rw [X8];simp [ei.cells]);have HU:∀ y∈bk Ku,HX.heap.size≤y∧y≠g4∧y∉bk (.slice nA (ix v).1.length s')∧y∉bk (.slice nB (jB v).1.length ta):=fun y ba=>(ek.lH y ba).elim (q4 y) (fun h=>⟨Nat.le_trans F.size h,fun e=>by have:=bm.lt;omega,fun hu=>by have:=cR.lt y hu;omega,fun hu=>by have:=cV.lt y hu;omega⟩);have aiq:∀ y∈bk Ku,y≠g5:=fun y ba=>(ek.lH y ba).elim (CU y) (fun h e=>by have:=dS.lt;omega);replace RG:=rE.vw ek (RG.b1 eE);replace mB:=rE.vw ek (mB.b1 eE);replace mC:=rE.vw ek (mC.b1 eE);replace lT:=rE.vw ek (lT.b1 eE);replace e4:=e4.mod ek.mod (fun h=>CT _ h rfl);replace dS:=dS.mod ek.mod (fun h=>CU _ h rfl);replace bm:=bm.mod ek.mod (fun h=>XV _ h rfl);replace ag:=ag.mod ek.mod (fun h=>vq _ h rfl);replace F:=F.trans' ek.mod (fun y ba=>.inr (q4 y ba).1);replace E:=E.trans' ek.mod (fun y ba=>.inr (Nat.le_trans Nq (q4 y ba).1));replace cR:=cR.mod ek.mod (fun y ba h=>(q4 y h).2.2.1 ba);replace cV:=cV.mod ek.mod (fun y ba h=>(q4 y h).2.2.2 ba);obtain⟨R',akw,rfl,Yb,Yc⟩:=rV.form;have eE:=Mod.refl [] L8;refine ah (aD jj rfl) (cL q' bm rfl rfl fun Qd rM=>?_);replace ag:=ag.ne rM.mod eR;replace e4:=e4.ne rM.mod dC;replace dS:=dS.ne rM.mod (Ne.symm ox);replace F:=F.own rM.mod oh;replace E:=E.own rM.mod fQ;replace cR:=cR.put rM.mod mf;replace cV:=cV.put rM.mod mg;replace bm:aF Qd g4 _ [_,_,_,_,_,_,_,_,_,_,_,_,_,_,_,_,_]:=rM.ar;replace rV:=rV.put rM.mod (fun y ba=>(HU y ba).2.1);have adA:=rM.mod;have aqI:∀ (l:List Nat) (y:Nat),y∈[g4]→y∈[g4,g3]++l:=fun l y ba=>by simp [dx ba]
    exact cx (bw (av eP (b5 (ah (bt rfl rfl (by omega)) (aO rfl (cx (aw (σ:=Nat×Value) (s:=⟨j,vs⟩) (⟨j+1,_⟩) ⟨by omega,aiq,rV,HU,RG.toM adA (aqI _),mB.toM adA (aqI _),mC.toM adA (aqI _),lT.toM adA (aqI _),e4,dS,bm,cR,cV,ag,F,E⟩)))))))
   replace RG:=RG.b1 eE;replace mB:=mB.b1 eE;replace mC:=mC.b1 eE;replace lT:=lT.b1 eE;refine b5 (aj 3 rfl (ah (aD hy rfl) (ah (bF kV rfl (e4.cell rfl)) ?_)));refine tn (fun aW:((((ck v).2.bad||((ck v).1.map.take i).any p2)||(decide (x.2.map.length=0)||(x.2.map.take j).any fun q=>decide (q.2.kind≠3))))=true=>?_) (fun aW=>?_)
   ·have yB:(((ck v).2.bad||((ck v).1.map.take i).any p2)||(decide (x.2.map.length=0)||(x.2.map.take (j+1)).any fun q=>decide (q.2.kind≠3)))=true:=by rw [aip,List.any_append,← Bool.or_assoc,← Bool.or_assoc,Bool.or_assoc ((ck v).2.bad||((ck v).1.map.take i).any p2),aW];simp
    refine aj 7 rfl (ah (aD hy rfl) (cL kV e4 rfl rfl fun L' xO=>?_));replace ag:=ag.ne xO.mod ca;replace bm:=bm.ne xO.mod (Ne.symm dC);replace dS:=dS.ne xO.mod (Ne.symm kk);replace jQ:=jQ.ne xO.mod (Ne.symm u5);replace F:=F.trans xO.mod;replace E:=E.own xO.mod df;replace cR:=cR.put xO.mod qG;replace cV:=cV.put xO.mod rq;replace fB:=fB.put xO.mod CT;replace e4:aF L' g3 _ [_,_,_,_,_,_,_]:=xO.ar;replace RG:=RG.toM xO.mod (fun a aE=>by simp [dx aE]);replace mB:=mB.toM xO.mod (fun a aE=>by simp [dx aE]);replace mC:=mC.toM xO.mod (fun a aE=>by simp [dx aE]);replace lT:=lT.toM xO.mod (fun a aE=>by simp [dx aE]);have eE:=Mod.refl [] L';refine cx ?_;refine fH.sub (l':=[(2,_),(3,_),(6,_),(7,_),(75,_),(76,_),(77,_),(11,_),(13,_),(97,_),(98,_),(99,_)]) ⟨rfl,rfl,rfl,rfl,rfl,rfl,rfl,rfl,rfl,rfl,rfl,rfl,trivial⟩ (dq (ML L' ⟨CU,fB,q4,RG,mB,mC,lT,by rw [yB];exact e4,dS,jQ,bm,cR,cV,ag,F,E⟩))
   refine aO rfl (ay (aD iO rfl) (ay (vx hK rfl) (ay (bF eg rfl (jQ.cell rfl)) (ay (fO rfl rfl) ?_))));refine c7 (fun hk:q.2.kind≠3=>?_) (fun hk=>?_);rotate_left
   ·have yB:(((ck v).2.bad||((ck v).1.map.take i).any p2)||(decide (x.2.map.length=0)||(x.2.map.take (j+1)).any fun q=>decide (q.2.kind≠3)))=false:=by rw [aip,List.any_append,← Bool.or_assoc,← Bool.or_assoc,Bool.or_assoc ((ck v).2.bad||((ck v).1.map.take i).any p2),aW];simp [Classical.not_not.1 hk]
    refine aj 2 rfl (ah (aD hy rfl) (cL kV e4 rfl rfl fun Qe p3=>?_));replace ag:=ag.ne p3.mod ca;replace bm:=bm.ne p3.mod (Ne.symm dC);replace dS:=dS.ne p3.mod (Ne.symm kk);replace jQ:=jQ.ne p3.mod (Ne.symm u5);replace F:=F.trans p3.mod;replace E:=E.own p3.mod df;replace cR:=cR.put p3.mod qG;replace cV:=cV.put p3.mod rq;replace fB:=fB.put p3.mod CT;replace e4:aF Qe g3 _ [_,_,_,_,_,_,_]:=p3.ar;replace RG:=RG.toM p3.mod (fun a aE=>by simp [dx aE]);replace mB:=mB.toM p3.mod (fun a aE=>by simp [dx aE]);replace mC:=mC.toM p3.mod (fun a aE=>by simp [dx aE]);replace lT:=lT.toM p3.mod (fun a aE=>by simp [dx aE]);have eE:=Mod.refl [] Qe;refine cx ?_;refine fH.sub (l':=[(2,_),(3,_),(6,_),(7,_),(75,_),(76,_),(77,_),(11,_),(13,_),(97,_),(98,_),(99,_)]) ⟨rfl,rfl,rfl,rfl,rfl,rfl,rfl,rfl,rfl,rfl,rfl,rfl,trivial⟩ (dq (ML Qe ⟨CU,fB,q4,RG,mB,mC,lT,by rw [yB];exact e4,dS,jQ,bm,cR,cV,ag,F,E⟩))
   have yB:(((ck v).2.bad||((ck v).1.map.take i).any p2)||(decide (x.2.map.length=0)||(x.2.map.take (j+1)).any fun q=>decide (q.2.kind≠3)))=true:=by rw [aip,List.any_append,← Bool.or_assoc,← Bool.or_assoc,Bool.or_assoc ((ck v).2.bad||((ck v).1.map.take i).any p2),aW];simp [hk]
   refine aj 2 rfl (ah (aD hy rfl) (cL kV e4 rfl rfl fun IB xP=>?_));replace ag:=ag.ne xP.mod ca;replace bm:=bm.ne xP.mod (Ne.symm dC);replace dS:=dS.ne xP.mod (Ne.symm kk);replace jQ:=jQ.ne xP.mod (Ne.symm u5);replace F:=F.trans xP.mod;replace E:=E.own xP.mod df;replace cR:=cR.put xP.mod qG;replace cV:=cV.put xP.mod rq;replace fB:=fB.put xP.mod CT;replace e4:aF IB g3 _ [_,_,_,_,_,_,_]:=xP.ar;replace RG:=RG.toM xP.mod (fun a aE=>by simp [dx aE]);replace mB:=mB.toM xP.mod (fun a aE=>by simp [dx aE]);replace mC:=mC.toM xP.mod (fun a aE=>by simp [dx aE]);replace lT:=lT.toM xP.mod (fun a aE=>by simp [dx aE]);have eE:=Mod.refl [] IB;refine cx ?_;refine fH.sub (l':=[(2,_),(3,_),(6,_),(7,_),(75,_),(76,_),(77,_),(11,_),(13,_),(97,_),(98,_),(99,_)]) ⟨rfl,rfl,rfl,rfl,rfl,rfl,rfl,rfl,rfl,rfl,rfl,rfl,trivial⟩ (dq (ML IB ⟨CU,fB,q4,RG,mB,mC,lT,by rw [yB];exact e4,dS,jQ,bm,cR,cV,ag,F,E⟩))
  replace RG:=RG.b1 eE;replace mB:=mB.b1 eE;replace mC:=mC.b1 eE;replace lT:=lT.b1 eE;refine b5 (aj 3 rfl (ah (aD hy rfl) (ah (bF kV rfl (e4.cell rfl)) ?_)));refine tn (fun aW:(((ck v).2.bad||((ck v).1.map.take i).any p2))=true=>?_) (fun aW=>?_)
  ·have hC:(((ck v).2.bad||((ck v).1.map.take i).any p2)||(decide (x.2.map.length=0)||(x.2.map.take 0).any fun q=>decide (q.2.kind≠3)))=true:=by rw [aW];rfl
   refine aj 8 rfl (ah (aD hy rfl) (cL kV e4 rfl rfl fun Uc y7=>?_));replace ag:=ag.ne y7.mod ca;replace bm:=bm.ne y7.mod (Ne.symm dC);replace dS:=dS.ne y7.mod (Ne.symm kk);replace F:=F.trans y7.mod;replace E:=E.own y7.mod df;replace cR:=cR.put y7.mod qG;replace cV:=cV.put y7.mod rq;replace fB:=fB.put y7.mod CT;replace e4:aF Uc g3 _ [_,_,_,_,_,_,_]:=y7.ar;replace RG:=RG.toM y7.mod (fun a aE=>by simp [dx aE]);replace mB:=mB.toM y7.mod (fun a aE=>by simp [dx aE]);replace mC:=mC.toM y7.mod (fun a aE=>by simp [dx aE]);replace lT:=lT.toM y7.mod (fun a aE=>by simp [dx aE]);have eE:=Mod.refl [] Uc;refine cx ?_;refine fH.sub (l':=[(2,_),(3,_),(6,_),(7,_),(75,_),(76,_),(77,_),(11,_)]) ⟨rfl,rfl,rfl,rfl,rfl,rfl,rfl,rfl,trivial⟩ (dq (aio Uc ⟨A0,fB,q4,RG,mB,mC,lT,by rw [hC];exact e4,dS,bm,cR,cV,ag,F,E⟩))
  refine aO rfl (ay (aD iO rfl) (ay (vx cd rfl) (ay (bF dM rfl (dS.cell rfl)) (ay (bY cO rfl) (ay (k1 rfl rfl) ?_)))));refine c7 (fun hk:(x.2.map.length:Int)=0=>?_) (fun hk=>?_);rotate_left
  ·have hC:(((ck v).2.bad||((ck v).1.map.take i).any p2)||(decide (x.2.map.length=0)||(x.2.map.take 0).any fun q=>decide (q.2.kind≠3)))=false:=by rw [aW,cr (show ¬ x.2.map.length=0 by omega)];rfl
   refine aj 2 rfl (ah (aD hy rfl) (cL kV e4 rfl rfl fun Ud y8=>?_));replace ag:=ag.ne y8.mod ca;replace bm:=bm.ne y8.mod (Ne.symm dC);replace dS:=dS.ne y8.mod (Ne.symm kk);replace F:=F.trans y8.mod;replace E:=E.own y8.mod df;replace cR:=cR.put y8.mod qG;replace cV:=cV.put y8.mod rq;replace fB:=fB.put y8.mod CT;replace e4:aF Ud g3 _ [_,_,_,_,_,_,_]:=y8.ar;replace RG:=RG.toM y8.mod (fun a aE=>by simp [dx aE]);replace mB:=mB.toM y8.mod (fun a aE=>by simp [dx aE]);replace mC:=mC.toM y8.mod (fun a aE=>by simp [dx aE]);replace lT:=lT.toM y8.mod (fun a aE=>by simp [dx aE]);have eE:=Mod.refl [] Ud;refine cx ?_;refine fH.sub (l':=[(2,_),(3,_),(6,_),(7,_),(75,_),(76,_),(77,_),(11,_)]) ⟨rfl,rfl,rfl,rfl,rfl,rfl,rfl,rfl,trivial⟩ (dq (aio Ud ⟨A0,fB,q4,RG,mB,mC,lT,by rw [hC];exact e4,dS,bm,cR,cV,ag,F,E⟩))
  have hC:(((ck v).2.bad||((ck v).1.map.take i).any p2)||(decide (x.2.map.length=0)||(x.2.map.take 0).any fun q=>decide (q.2.kind≠3)))=true:=by rw [aW,bD (show x.2.map.length=0 by omega)];rfl
  refine aj 2 rfl (ah (aD hy rfl) (cL kV e4 rfl rfl fun Ma rN=>?_));replace ag:=ag.ne rN.mod ca;replace bm:=bm.ne rN.mod (Ne.symm dC);replace dS:=dS.ne rN.mod (Ne.symm kk);replace F:=F.trans rN.mod;replace E:=E.own rN.mod df;replace cR:=cR.put rN.mod qG;replace cV:=cV.put rN.mod rq;replace fB:=fB.put rN.mod CT;replace e4:aF Ma g3 _ [_,_,_,_,_,_,_]:=rN.ar;replace RG:=RG.toM rN.mod (fun a aE=>by simp [dx aE]);replace mB:=mB.toM rN.mod (fun a aE=>by simp [dx aE]);replace mC:=mC.toM rN.mod (fun a aE=>by simp [dx aE]);replace lT:=lT.toM rN.mod (fun a aE=>by simp [dx aE]);have eE:=Mod.refl [] Ma;refine cx ?_;refine fH.sub (l':=[(2,_),(3,_),(6,_),(7,_),(75,_),(76,_),(77,_),(11,_)]) ⟨rfl,rfl,rfl,rfl,rfl,rfl,rfl,rfl,trivial⟩ (dq (aio Ma ⟨A0,fB,q4,RG,mB,mC,lT,by rw [hC];exact e4,dS,bm,cR,cV,ag,F,E⟩))
 refine aB fun r8=>?_;obtain⟨aiF,aiG,aiH,aiI,e4,Sd,Se⟩:=j2;have D9:=Mod.refl [] ts;refine b5 (aj 2 rfl (ah (aD rp rfl) (ah (br au rfl (e4.cs rfl)) (cJ (bB Nk rfl) (F5 [g4,g3] _ _ D9 (m' v).2.rest _ (JV.bX (v:=(m' v).2.rest) Sd Se) dL (KD mQ).1 (by have:=(KD mQ).2.1;omega)) fun cN az4 aH=>?_))));obtain⟨aiJ,rfl,aus,U⟩:=aH;replace R:=R.I U;replace ag:=ag.I U;replace e4:=e4.I U;replace bm:=bm.I U;replace E:=E.then U;replace F:=F.then U;replace D9:=D9.then U;replace cR:=cR.I U;replace cV:=cV.I U;obtain⟨aiK,aiL,aiM,aiN,rfl,Sf,Sg⟩:=JV.aU aus;refine aj 3 rfl (bj bA rfl fun g9 az5 yd=>?_);have yo:=yd.le E;have aiO:=yd.le F;have Yi:=yd.le D9;have adF:=yd.ne R;have adG:=yd.ne ag;have Pn:=yd.ne e4;have Hn:=yd.ne bm;have Yj:=yd.bU cR;have Yk:=yd.bU cV;replace R:=R.I yd.mod;replace ag:=ag.I yd.mod;replace e4:=e4.I yd.mod;replace bm:=bm.I yd.mod;replace E:=E.then yd.mod;replace F:=F.then yd.mod;replace D9:=D9.then yd.mod;replace cR:=cR.I yd.mod;replace cV:=cV.I yd.mod;have mV:=yd.ar;refine aK au mV rfl rfl fun anV D'=>?_;replace R:=R.ne D'.mod adF;replace ag:=ag.ne D'.mod adG;replace e4:=e4.ne D'.mod Pn;replace bm:=bm.ne D'.mod Hn;replace E:=E.own D'.mod yo;replace F:=F.own D'.mod aiO;replace D9:=D9.own D'.mod Yi;replace cR:=cR.put D'.mod Yj;replace cV:=cV.put D'.mod Yk;replace mV:aF anV g9 _ [_,_,_,_,_,_]:=D'.ar;refine a7 rfl (J r8 (aB fun qq=>?_));have j2:qD [g4,g3] _ g3 (m' v).2:=⟨_,_,_,_,e4,Sd.b1 D9,Se.b1 D9⟩;refine b5 (aO rfl (J qq ?_));refine a1 rfl (fun aiP=>?_) (fun aiP=>?_);rotate_left
 ·have CW:o1 v=false:=aiP;refine b' ?_;refine fH.sub (l':=[(2,_),(3,_),(6,_),(7,_)]) ⟨rfl,rfl,rfl,rfl,trivial⟩ (dq (vd anV ⟨by rw [show(lS v).2=(m' v).2 by unfold lS;rw [ak (by rw [CW];simp)]];exact j2,by rw [CW,show(lS v).1=JV.fg by unfold lS;rw [ak (by rw [CW];simp)]];exact bm,cR,cV,ag,F,E⟩))
 have CW:o1 v=true:=aiP;refine b5 (aO rfl (cJ (bB qE rfl) (lf [g4,g3] _ g3 (m' v).2 j2 (by simp) (fun a aE=>by simp at aE;rcases aE with rfl | rfl;exact bm.lt;exact j2.lt) (KD mQ) dL 3) fun cN az6 aH=>?_));obtain⟨aut,rfl,aiQ,j2,U⟩:=aH;replace R:=R.ne U dv;replace ag:=ag.ne U ca;replace bm:=bm.ne U (Ne.symm dC);replace mV:=mV.ne U (Ne.symm Pn);replace E:=E.own U df;replace F:=F.trans U;replace cR:=cR.put U qG;replace cV:=cV.put U rq;obtain⟨auu,auv,auw,auy,rfl,auz,auA⟩:=JV.aU aiQ;refine ah ((lR nz rfl rfl)) (ah (aD rr rfl) (cL kV bm rfl rfl fun auB Ho=>?_));replace R:=R.ne Ho.mod gb;replace ag:=ag.ne Ho.mod eR;replace mV:=mV.ne Ho.mod (Ne.symm Hn);replace E:=E.own Ho.mod fQ;replace F:=F.own Ho.mod oh;replace cR:=cR.put Ho.mod mf;replace cV:=cV.put Ho.mod mg;replace bm:aF auB g4 _ [_,_,_,_,_,_,_,_,_,_,_,_,_,_,_,_,_]:=Ho.ar;replace j2:=j2.mod Ho.mod (fun x ae=>by simp [dx ae]) (fun h=>by have:=dC;simp at h;exact this h);refine ah (aD oz rfl) (cL b2 bm rfl rfl fun anW Hp=>?_);replace R:=R.ne Hp.mod gb;replace ag:=ag.ne Hp.mod eR;replace mV:=mV.ne Hp.mod (Ne.symm Hn);replace E:=E.own Hp.mod fQ;replace F:=F.own Hp.mod oh;replace cR:=cR.put Hp.mod mf;replace cV:=cV.put Hp.mod mg;replace bm:aF anW g4 _ [_,_,_,_,_,_,_,_,_,_,_,_,_,_,_,_,_]:=Hp.ar;replace j2:=j2.mod Hp.mod (fun x ae=>by simp [dx ae]) (fun h=>by have:=dC;simp at h;exact this h);refine cx ?_;refine fH.sub (l':=[(2,_),(3,_),(6,_),(7,_)]) ⟨rfl,rfl,rfl,rfl,trivial⟩ (dq (vd anW ⟨by rw [show(lS v).2=(dZ (m' v).2 dL 3).2 by unfold lS;rw [aL CW]];exact j2,by rw [CW,show(lS v).1=(dZ (m' v).2 dL 3).1 by unfold lS;rw [aL CW]];exact bm,cR,cV,ag,F,E⟩))
set_option maxRecDepth 10000
def Yl:=eW Tryz.func20
theorem pt.low {A:List Nat} {w0 aJ w:World} {v:JV} {us:List Value} (E:Mod [] w0 aJ) (h:pt A aJ w v us):pt A w0 w v us:=by
 rcases h with⟨h,al,cl,am,cm,up,HW,LI,hu,aBn,fs,rV,zo,rZ,HU,Rh⟩ | h
 ·exact .inl ⟨h,al,cl,am,cm,up,HW,LI,hu,aBn,fs,rV,zo,fun x ae=>Nat.le_trans E.size (rZ x ae),fun x ae=>Nat.le_trans E.size (HU x ae),fun x ae=>Nat.le_trans E.size (Rh x ae)⟩
 exact .inr h
theorem pt.len {A:List Nat} {w0 w:World} {v:JV} {us:List Value} (h:pt A w0 w v us):∃ (e6 a2 a3:ab) (a4:Bool) (a5:ab) (qz:Int) (vo:Bool) (vp:Int) (a9:ab) (dN:Option Addr) (fz mW:Nat) (c1:Option Addr) (c2 c3:Nat) (d1:Option Addr) (d2 d3:Nat) (bu:Option Addr) (ee kH:Nat) (qA q1:Int) (q2:ab) (f1:Option Addr) (f2 f3:Nat),us = [S e6,S a2,S a3,.bool a4,S a5,.int .i64 qz,.bool vo,.int .i64 vp,S a9,.slice dN fz mW,.slice c1 c2 c3,.slice d1 d2 d3,.slice bu ee kH,.int .i64 qA,.int .i64 q1,S q2,.slice f1 f2 f3]:=by
 rcases h with⟨h,al,cl,am,cm,up,HW,LI,hu,_,fs,rV,zo,_⟩ | h
 ·obtain⟨_,_,rfl,_⟩:=fs.form;obtain⟨_,_,rfl,_⟩:=rV.form;obtain⟨_,_,rfl,_⟩:=zo.form;exact⟨_,_,_,_,_,_,_,_,_,_,_,_,_,_,_,_,_,_,_,_,_,_,_,_,_,_,_,hu⟩
 exact⟨_,_,_,_,_,_,_,_,_,_,_,_,_,_,_,_,_,_,_,_,_,_,_,_,_,_,_,h.2⟩
theorem pt.vw {A:List Nat} {w0 w w':World} {g:Nat} {v:JV} {us:List Value} (h:pt A w0 w v us) (dY:g∈A) (bM:g<w0.heap.size) (P:Mod [g] w w'):pt A w0 w' v us:=by
 rcases h with⟨h,al,cl,am,cm,up,HW,LI,hu,aBn,fs,rV,zo,rZ,HU,Rh⟩ | h
 ·exact .inl ⟨h,al,cl,am,cm,up,HW,LI,hu,aBn.toM P (fun x ae=>by rw [dx ae];exact dY),fs.put P (fun x ae e=>by have:=rZ x ae;omega),rV.put P (fun x ae e=>by have:=HU x ae;omega),zo.put P (fun x ae e=>by have:=Rh x ae;omega),rZ,HU,Rh⟩
 exact .inr h
theorem pt.eu {A A':List Nat} {w0 w:World} {v:JV} {us:List Value} (h:pt A w0 w v us) (bh:∀ x∈A',x∈A):pt A' w0 w v us:=by
 rcases h with⟨h,al,cl,am,cm,up,HW,LI,hu,aBn,r⟩ | h
 ·exact .inl ⟨h,al,cl,am,cm,up,HW,LI,hu,aBn.eu bh,r⟩
 exact .inr h
theorem pt.mod {A:List Nat} {w0 w w':World} {v:JV} {us:List Value} (h:pt A w0 w v us) (P:Mod [] w w'):pt A w0 w' v us:=by
 rcases h with⟨h,al,cl,am,cm,up,HW,LI,hu,aBn,fs,rV,zo,r⟩ | h
 ·exact .inl ⟨h,al,cl,am,cm,up,HW,LI,hu,aBn.b1 P,fs.I P,rV.I P,zo.I P,r⟩
 exact .inr h
/-- what is wrong with a text of an event -/
noncomputable def nC (s:ab):Int:=if jY s≠0 then jY s else jF (iv s)
def aiR (A:List Nat) (w0 w:World) (s:ab) (us:List Value):Prop:=(jY s=0∧pt A w0 w (iv s) us)∨(jY s≠0∧us = [S [],S [],S [],.bool false,S [],.int .i64 0,.bool false,.int .i64 0,S [],.slice none 0 0,.slice none 0 0,.slice none 0 0,.slice none 0 0,.int .i64 0,.int .i64 0,S [],.slice none 0 0])
theorem Ym (A:List Nat) (w:World) (dy:∀ a∈A,a<w.heap.size) (s:ab) (gR:Env w) (eX:kv w):Calls aR 23 [S s].toArray w (bH fun u w'=>∃ ga,u = .tuple #[.agg ga.toArray,.int .i64 (nC s)]∧aiR A w w' s ga∧Mod [] w w'):=by
 refine bs Tryz.func23 rfl fun E=>?_;have kp:=gR.Ag;refine aa fun a6=>bj kh rfl fun g1 aJ bZ=>?_;have aY:=bZ.le E;replace E:=E.then bZ.mod;have R:=bZ.ar;refine a7 rfl (J a6 (aa fun aQ=>aO rfl (cJ (bB ahm rfl) (WK _ s (gR.I E)) fun cN cX aH=>?_)));obtain⟨ada,rfl,B9,U⟩:=aH;replace R:=R.I U;replace E:=E.then U;have afB:=Mod.refl [] cX;replace B9:=B9.eu (A':=g1::A) (fun x ae=>by rcases cB ae with rfl | ae;exact List.mem_range.2 bZ.ar.lt;exact List.mem_range.2 (Nat.lt_of_lt_of_le (dy x ae) bZ.mod.size));obtain⟨auC,auD,auE,auF,rfl,aiS,aiT⟩:=JV.aU B9;replace B9:=JV.bX aiS aiT;refine aj 3 rfl (bj bA rfl fun g2 gr cz=>?_);have bJ:=cz.le E;have adH:=cz.le afB;have bl:=cz.ne R;replace R:=R.I cz.mod;replace E:=E.then cz.mod;replace afB:=afB.then cz.mod;have ag:=cz.ar;refine aK au ag rfl rfl fun h8 j0=>?_;replace R:=R.ne j0.mod bl;replace E:=E.own j0.mod bJ;replace afB:=afB.own j0.mod adH;replace ag:aF h8 g2 _ [_,_,_,_,_,_]:=j0.ar;refine a7 rfl (J aQ (aB fun a'=>aa fun bp=>aj 2 rfl (J bp ?_)));refine aX rfl (fun tQ=>?_) (fun tQ=>?_)
 ·refine aa fun bx=>ah (fq qF kh rfl rfl) (aO rfl (ed eK R rfl rfl fun iS hd=>?_));replace ag:=ag.ne hd.mod (Ne.symm bl);replace E:=E.own hd.mod aY;replace R:aF iS g1 _ [_,_,_,_,_,_,_,_,_,_,_,_,_,_,_,_,_]:=hd.ar;exact a7 rfl (J bx (bn (aP (gL rfl eK rfl (R.cs rfl) rfl ⟨_,by rw [show nC s=jY s from aL tQ];rfl,.inr ⟨tQ,rfl⟩,E⟩))))
 refine b' (av a' (aa fun bO=>ah (br au rfl (ag.cs rfl)) ?_));have Oa:=E;have Ba:=R.lt;refine cJ (bB Yl rfl) (Pf (g1::A) _ (iv s) _ (B9.b1 afB) (fun a aE=>by rcases cB aE with rfl | aE;exact R.lt;exact Nat.lt_of_lt_of_le (dy a aE) E.size) (kp.mod E (by simp)) (eX.I E)) fun cN i' aH=>?_;obtain⟨ak5,rfl,rV,U⟩:=aH;replace R:=R.I U;replace ag:=ag.I U;replace E:=E.then U;replace afB:=afB.then U;obtain⟨e6,a2,a3,a4,a5,qz,vo,vp,a9,dN,fz,mW,c1,c2,c3,d1,d2,d3,bu,ee,kH,qA,q1,q2,f1,f2,f3,rfl⟩:=rV.len;refine aj 2 rfl (ed eK R rfl rfl fun iw ml=>?_);replace ag:=ag.ne ml.mod (Ne.symm bl);replace E:=E.own ml.mod aY;replace R:aF iw g1 _ [_,_,_,_,_,_,_,_,_,_,_,_,_,_,_,_,_]:=ml.ar;have zo:=(rV.vw (List.mem_cons_self ..) Ba ml.mod).eu (A':=A) (fun x ae=>List.mem_cons_of_mem _ ae);replace zo:=zo.low Oa;exact a7 rfl (J bO (bn (gL rfl eK rfl (R.cs rfl) rfl ⟨_,by rw [show nC s=jF (iv s) from ak tQ];rfl,.inl ⟨Classical.not_not.1 tQ,zo⟩,E⟩)))
end Go.Proofs.YtkjgljnkocnnpaaGreatDoor.V
namespace Go.Proofs.YtkjgljnkocnnpaaGreatDoor.V
open Go
open JV
namespace EV
def left (e:EV):List (ab×JV):=(e1,obj [(hR,aN e.hash)])::(fS,obj (mc e.sigs e.sigs.length))::(if e.st then [(dL,aN e.key)] else [])
theorem aeC {e:EV} (h:e.b7.kind=5):(fh e.val).1=e.b7∧(dZ (fh e.val).2 eH 4).1=de (e.prev.map aN)∧(dZ (ix e.val).2 eL 4).1=de (e.b8.map aN)∧(rI e.val).1=aN e.room∧(rJ e.val).1=aN e.snd∧(rK e.val).1=aN e.ty∧(rL e.val).1=hr e.dep∧(m' e.val).1=hr e.time∧(dZ (dZ (dZ (dZ (dZ (dZ (dZ (dZ ⟨e.val,false⟩ fZ 5).2 eH 4).2 eL 4).2 hD 3).2 e2 3).2 ih 3).2 gG 2).2 lE 2).2=⟨obj e.left,false⟩:=by
 obtain⟨room,snd,ty,st,key,b7,prev,b8,dep,time,hash,sigs⟩:=e;obtain⟨k,b,n,s,l,m⟩:=b7;have h:k=5:=h;subst h;cases st <;> exact⟨by kernel_rfl,by kernel_rfl,by kernel_rfl,by kernel_rfl,by kernel_rfl,by kernel_rfl,by kernel_rfl,by kernel_rfl,by kernel_rfl⟩
theorem Lx (l:List ab):(de (l.map aN)).list.any (fun x=>decide (x.kind≠3))=false:=by
 show(l.map aN).any _=false;rw [List.any_eq_false];intro x ae;obtain⟨s,_,rfl⟩:=List.mem_map.1 ae;simp [aN,JV.kind]
theorem yb (l:List ab):(de (l.map aN)).list.map JV.str=l:=by
 show(l.map aN).map JV.str=l;rw [List.map_map]
 conv=>rhs;rw [← List.map_id l]
 rfl
theorem FQ {e:EV} (h:e.b7.kind=5):(fh e.val).1=e.b7∧(ix e.val).1=e.prev∧(jB e.val).1=e.b8∧(rI e.val).1=aN e.room∧(rJ e.val).1=aN e.snd∧(rK e.val).1=aN e.ty∧(rL e.val).1=hr e.dep∧(m' e.val).1=hr e.time∧(m' e.val).2=⟨obj e.left,false⟩:=by
 obtain⟨h1,aq,bb,bP,cZ,fy,lL,lZ,l2⟩:=aeC h;have afd:(ix e.val).2=(dZ (fh e.val).2 eH 4).2:=by
  show(⟨_,_⟩:oe)=_;rw [aq,Lx,Bool.or_false]
 have dy:(jB e.val).2=(dZ (ix e.val).2 eL 4).2:=by
  show(⟨_,_⟩:oe)=_;rw [bb,Lx,Bool.or_false]
 refine⟨h1,?_,?_,bP,cZ,fy,lL,lZ,?_⟩
 ·show(dZ (fh e.val).2 eH 4).1.list.map JV.str=_;rw [aq,yb]
 ·show(dZ (ix e.val).2 eL 4).1.list.map JV.str=_;rw [bb,yb]
 show(dZ (dZ (dZ (dZ (dZ (jB e.val).2 hD 3).2 e2 3).2 ih 3).2 gG 2).2 lE 2).2=_;rw [dy,afd];exact l2
theorem aaF {e:EV} (h:e.b7.kind=5):o1 e.val=e.st∧(lS e.val).1=(if e.st then aN e.key else JV.fg)∧(ck e.val).1=obj (mc e.sigs e.sigs.length)∧(ck e.val).2=⟨obj [(e1,obj [(hR,aN e.hash)])],false⟩:=by
 obtain⟨_,_,_,_,_,_,_,_,l2⟩:=FQ h;unfold ck lS o1;rw [l2];obtain⟨room,snd,ty,st,key,b7,prev,b8,dep,time,hash,sigs⟩:=e;cases st <;> exact⟨by kernel_rfl,by kernel_rfl,by kernel_rfl,by kernel_rfl⟩
theorem Ly (l:List ei):∀ k,∀ p∈mc l k,p.2.map≠[]∧∀ q∈p.2.map,q.2.kind=3
 | 0=>by simp [x7]
 | k+1=>by
  have ea:=Ly l k
  rcases Nat.lt_or_ge k l.length with h | h
  ·rw [x8 (List.getElem?_eq_getElem h)]
   intro p cc
   rcases x6 cc with cc | rfl
   ·exact ea p cc
   refine⟨?_,fun q e8=>?_⟩
   ·show dO _ _ _≠[]
    unfold dO
    simp
   rcases x6 (show q∈dO _ _ _ from e8)with e8 | rfl
   ·unfold one at e8
    cases cb:look (mc l k) (l[k]).eo with
    | none=>rw [cb] at e8;simp [JV.fg,JV.map] at e8
    | some y=>rw [cb] at e8;exact(ea _ (eG cb)).2 q e8
   rfl
  have e:mc l (k+1)=mc l k:=by unfold mc;rw [List.take_of_length_le (by omega),List.take_of_length_le h]
  rw [e]
  exact ea
theorem aeD (l:List ei) (k:Nat):(mc l k).any p2=false:=by
 rw [List.any_eq_false];intro p cc;obtain⟨h1,aq⟩:=Ly l k p cc;unfold p2;simp only [Bool.or_eq_true,decide_eq_true_eq,List.any_eq_true,not_or,not_exists,not_and];exact⟨fun h=>h1 (List.eq_nil_of_length_eq_zero h),fun q e8 hk=>absurd (aq q e8) hk⟩
def again (e:EV):EV:={e with key:=if e.st then e.key else [],sigs:=bG (mc e.sigs e.sigs.length)}
theorem HJ {e:EV} (h:e.b7.kind=5):fV e.val=e.again∧Aw e.val=false:=by
 obtain⟨h1,aq,bb,bP,cZ,fy,lL,lZ,l2⟩:=FQ h;obtain⟨ef,jt,pA,vY⟩:=aaF h;have S0:uA e.val=false:=by
  unfold uA;rw [vY,pA];show(false||(mc e.sigs e.sigs.length).any p2)=false;rw [aeD];rfl
 have hH:q3 e.val=(obj [(hR,aN e.hash)],⟨obj [],false⟩):=by
  unfold q3;rw [S0,vY]
  kernel_rfl
 have WO:tz e.val=(aN e.hash,⟨obj [],false⟩):=by
  unfold tz;rw [hH]
  kernel_rfl
 constructor
 ·unfold fV again;rw [h1,aq,bb,bP,cZ,fy,lL,lZ,ef,jt,pA,WO]
  congr 1
  ·cases e.st <;> rfl
 unfold Aw;rw [hH,WO];rfl
end EV
end Go.Proofs.YtkjgljnkocnnpaaGreatDoor.V
namespace Go.Proofs.YtkjgljnkocnnpaaGreatDoor.V
open Go
namespace JV
def sF (v:JV):Prop:=∃ d b gv,wr v d b = .ok gv
theorem sF.bare {v:JV} (h:v.sF):v.bare=true:=by
 obtain⟨d,b,gv,h⟩:=h;rw [en] at h
 split at h
 ·cases h
 rename_i aW;simpa using aW
theorem sF.jt {v:JV} (h:v.sF) (k:v.kind=2):v=hr v.num:=by
 obtain⟨h1,aq,bb,bP,cZ⟩:=mJ h.bare;exact mk_eq k (h1.resolve_left (by omega)) rfl (bb.resolve_left (by omega)) (bP.resolve_left (by omega)) (cZ.resolve_left (by omega))
theorem sF.pA {v:JV} (h:v.sF) (k:v.kind=3):v=aN v.str:=by
 obtain⟨h1,aq,bb,bP,cZ⟩:=mJ h.bare;exact mk_eq k (h1.resolve_left (by omega)) (aq.resolve_left (by omega)) rfl (bP.resolve_left (by omega)) (cZ.resolve_left (by omega))
theorem sF.vY {v:JV} (h:v.sF) (k:v.kind=4):v=de v.list∧∀ x∈v.list,x.sF:=by
 obtain⟨h1,aq,bb,bP,cZ⟩:=mJ h.bare;refine⟨mk_eq k (h1.resolve_left (by omega)) (aq.resolve_left (by omega)) (bb.resolve_left (by omega)) rfl (cZ.resolve_left (by omega)),fun x ae=>?_⟩;have aW:=h.bare;obtain⟨d,b,gv,h⟩:=h;rw [en,if_neg (by simp [aW]),if_neg (by omega),if_neg (by omega),if_neg (by omega),if_neg (by omega)] at h
 split at h
 ·cases h
 obtain⟨dN,h1,bb⟩:=dU h;obtain⟨fz,aq,bP⟩:=dU bb;obtain⟨c,c',aZ⟩:=Dh _ _ _ _ aq x ae;exact⟨_,_,_,aZ⟩
theorem sF.qX {v:JV} (h:v.sF) (k:v.kind=5):v=obj v.map∧et v.map∧∀ p∈v.map,p.2.sF:=by
 obtain⟨d,b,gv,h⟩:=h;obtain⟨_,fz,aq,_,_⟩:=PN k h;refine⟨JV.EU k h,(w8 _ _ _ _ _ aq).1,fun p cc=>?_⟩;obtain⟨c,c',aZ⟩:=Di _ _ _ _ aq p cc;exact⟨_,_,_,aZ⟩
theorem sF.avC {v:JV} (h:v.sF) (k:v.map.length≠0):v.kind=5:=by
 obtain⟨h1,aq,bb,bP,cZ⟩:=mJ h.bare;exact cZ.resolve_right (fun e=>k (by rw [e];rfl))
theorem Lz {v:JV} (h:v.sF) (k:v.kind=4) (aE:v.list.any (fun x=>decide (x.kind≠3))=false):de ((v.list.map JV.str).map aN)=v:=by
 obtain⟨e,ae⟩:=h.vY k;have:(v.list.map JV.str).map aN=v.list:=by
  rw [List.map_map];refine(List.map_congr_left fun x DX=>?_).trans (List.map_id _);have:x.kind=3:=by
   rw [List.any_eq_false] at aE;have:=aE x DX;simpa using this
  exact((ae x DX).pA this).symm
 rw [this];exact e.symm
end JV
open JV
theorem ly {m:List (ab×JV)} {k:ab} {x:JV} (h:∀ y∈m,fx y.1 k=true):dO m k x=m ++ [(k,x)]:=by
 unfold dO;rw [List.filter_eq_self.2 h,List.filter_eq_nil_iff.2 (fun y ba=>by
  rw [kD (h y ba)];simp)]
 simp
theorem FR {m:List (ab×JV)} {k:ab} {x y:JV} (h:∀ y∈m,fx y.1 k=true):dO (m ++ [(k,y)]) k x=m ++ [(k,x)]:=by
 have:=ly (x:=x) h;unfold dO at this ⊢;have e:fx k k=false:=dJ k;rw [List.filter_append,List.filter_append];simpa [e] using this
theorem Dk {m:List (ab×JV)} {k:ab} {y:JV} (h:∀ y∈m,fx y.1 k=true):look (m ++ [(k,y)]) k=some y:=by
 have cu:look m k=none:=iq fun j z cP hk=>by
  have:=h z (List.mem_of_getElem? cP);rw [hk,dJ] at this;cases this
 rw [pY,cu];simp [look]
theorem zY {m:List (ab×JV)} {k:ab} (h:∀ y∈m,fx y.1 k=true):look m k=none:=iq fun j z cP hk=>by
 have:=h z (List.mem_of_getElem? cP);rw [hk,dJ] at this;cases this
namespace EV
theorem FT {acc:List (ab×JV)} {eo:ab} (aE:∀ y∈acc,fx y.1 eo=true):∀ (r pre:List (ab×JV)),pre≠[]→et (pre++r)→(∀ q∈r,q.2=aN q.2.str)→(r.map fun q=>(⟨eo,q.1,q.2.str⟩:ei)).foldl jo (acc ++ [(eo,obj pre)])=acc ++ [(eo,obj (pre++r))]
 | [],pre,_,_,_=>by simp
 | q::r,pre,cu,bh,bW=>by
  rw [List.map_cons,List.foldl_cons]
  have bM:∀ y∈pre,fx y.1 q.1=true:=fun y ba=>(List.pairwise_append.1 bh).2.2 y ba q (by simp)
  have e:jo (acc ++ [(eo,obj pre)]) ⟨eo,q.1,q.2.str⟩=acc ++ [(eo,obj (pre ++ [q]))]:=by
   unfold jo one
   simp only
   rw [Dk aE,FR aE]
   show acc ++ [(eo,obj (dO pre q.1 (aN q.2.str)))]=_
   rw [ly bM,← bW q (by simp)]
  rw [e,FT aE r (pre ++ [q]) (by simp) (by rw [List.append_assoc];exact bh) (fun x ae=>bW x (by simp [ae])),List.append_assoc]
  rfl
theorem S' {acc:List (ab×JV)} {p:ab×JV} (aE:∀ y∈acc,fx y.1 p.1=true) (cu:p.2.map≠[]) (cZ:p.2=obj p.2.map) (bh:et p.2.map) (bW:∀ q∈p.2.map,q.2=aN q.2.str):(ey p).foldl jo acc=acc ++ [p]:=by
 obtain⟨k,v⟩:=p;simp only at aE cu cZ bh bW;unfold ey;simp only;cases hm:v.map with
 | nil=>exact absurd hm cu
 | cons q r=>
  rw [hm] at bh bW cZ;rw [List.map_cons,List.foldl_cons];have e:jo acc ⟨k,q.1,q.2.str⟩=acc ++ [(k,obj [q])]:=by
   unfold jo one;simp only;rw [zY aE,ly aE];show acc ++ [(k,obj (dO [] q.1 (aN q.2.str)))]=_;rw [ly (by simp),← bW q (by simp)];rfl
  rw [e,FT aE r [q] (by simp) bh (fun x ae=>bW x (by simp [ae])),cZ];rfl
theorem FU:∀ (m acc:List (ab×JV)),et (acc++m)→(∀ p∈m,p.2.map≠[]∧p.2=obj p.2.map∧et p.2.map∧∀ q∈p.2.map,q.2=aN q.2.str)→(bG m).foldl jo acc=acc++m
 | [],acc,_,_=>by simp [bG]
 | p::r,acc,bh,h=>by
  have e:bG (p::r)=ey p++bG r:=by simp [bG]
  obtain⟨h1,aq,bb,bP⟩:=h p (by simp)
  rw [e,List.foldl_append,S' (fun y ba=>(List.pairwise_append.1 bh).2.2 y ba p (by simp)) h1 aq bb bP,FU r (acc ++ [p]) (by rw [List.append_assoc];exact bh) (fun x ae=>h x (by simp [ae])),List.append_assoc]
  rfl
theorem aaG {x:JV} (bW:x.sF) (k:x.kind=5) (aW:x.map.any p2=false):obj (mc (bG x.map) (bG x.map).length)=x:=by
 obtain⟨e,bh,cc⟩:=bW.qX k;rw [List.any_eq_false] at aW;have:=FU x.map [] bh (fun p aaH=>by
  have h1:=aW p aaH;unfold p2 at h1;simp only [Bool.or_eq_true,decide_eq_true_eq,List.any_eq_true,not_or,not_exists,not_and] at h1;have qX:=(cc p aaH).avC h1.1;obtain⟨ee,DI,e8⟩:=(cc p aaH).qX qX;exact⟨fun e=>h1.1 (by rw [e];rfl),ee,DI,fun q apt=>(e8 q apt).pA (Classical.not_not.1 (h1.2 q apt))⟩)
 unfold mc;rw [List.take_length,this];exact e.symm
end EV
end Go.Proofs.YtkjgljnkocnnpaaGreatDoor.V
namespace Go.Proofs.YtkjgljnkocnnpaaGreatDoor.V
open Go
open JV
theorem hp {m:List (ab×JV)} {k kS:ab}:look (c6 m kS) k=if k=kS then none else look m k:=by
 unfold c6
 by_cases h:k=kS
 ·rw [aL h,kn (b:=false) (fun p _ cc=>by rw [cc,h];simp)];rfl
 rw [ak h,kn (b:=true) (fun p _ cc=>by rw [cc];simpa using h)];rfl
theorem py {r:List (ab×JV)} {b:Bool} {k:ab} {kind:Int} (h:(dZ ⟨obj r,b⟩ k kind).2.bad=false):b=false∧∃ x,look r k=some x∧x.kind=kind∧dZ ⟨obj r,b⟩ k kind=(x,⟨obj (c6 r k),false⟩):=by
 have dY:(obj r).get k=look r k:=rfl;cases cb:look r k with
 | none=>rw [qi (t:=⟨obj r,b⟩) (dY.trans cb)] at h;cases h
 | some x=>
  by_cases hk:x.kind=kind
  ·rw [og (t:=⟨obj r,b⟩) (dY.trans cb) hk] at h;have aW:b=false:=h;refine⟨aW,x,rfl,hk,?_⟩;rw [og (t:=⟨obj r,b⟩) (dY.trans cb) hk,aW];rfl
  rw [qh (t:=⟨obj r,b⟩) (dY.trans cb) hk] at h;cases h
theorem oE {t:oe} {k:ab} {kind:Int} (h:(dZ t k kind).2.bad=false):t.bad=false:=by
 unfold dZ at h
 split at h
 ·split at h
  ·exact h
  cases h
 cases h
namespace EV
theorem wD (e:EV):look e.mi eL=some (de (e.b8.map aN))∧look e.mi fZ=some e.b7∧look e.mi gG=some (hr e.dep)∧look e.mi e1=some (obj [(hR,aN e.hash)])∧look e.mi lE=some (hr e.time)∧look e.mi eH=some (de (e.prev.map aN))∧look e.mi hD=some (aN e.room)∧look e.mi e2=some (aN e.snd)∧look e.mi fS=some (obj (mc e.sigs e.sigs.length))∧look e.mi ih=some (aN e.ty)∧look e.mi dL=if e.st then some (aN e.key)else none:=by
 obtain⟨room,snd,ty,st,key,b7,prev,b8,dep,time,hash,sigs⟩:=e;cases st <;> exact⟨by kernel_rfl,by kernel_rfl,by kernel_rfl,by kernel_rfl,by kernel_rfl,by kernel_rfl,by kernel_rfl,by kernel_rfl,by kernel_rfl,by kernel_rfl,by kernel_rfl⟩
def keys:List ab:=[eL,fZ,gG,e1,lE,eH,hD,e2,fS,ih,dL]
theorem N6 {e:EV} {p:ab×JV} (h:p∈e.mi):p.1∈keys:=by
 have jP:p∈e.ho→p.1∈keys:=fun h=>by
  unfold ho at h;simp only [List.mem_cons,List.not_mem_nil,or_false] at h;unfold keys;rcases h with rfl | rfl | rfl | rfl | rfl | rfl | rfl | rfl | rfl | rfl <;> simp
 unfold mi at h
 split at h
 ·rcases x6 h with h | rfl
  ·exact jP h
  unfold keys;simp
 exact jP h
theorem LF {v:JV} (bW:v.sF) (qX:v.kind=5) (h:Aw v=false):(fV v).val=v∧(fV v).b7.kind=5:=by
 obtain⟨rX,bh,cc⟩:=bW.qX qX;unfold Aw at h;simp only [Bool.or_eq_false_iff,decide_eq_false_iff_not] at h;obtain⟨hH,WO,pS⟩:=h;have S0:uA v=false:=oE hH;have ahT:(ck v).2.bad=false∧(ck v).1.map.any p2=false:=by
  unfold uA at S0;exact Bool.or_eq_false_iff.1 S0
 have nI:(lS v).2.bad=false:=oE ahT.1;have hO:(m' v).2.bad=false:=by
  unfold lS at nI
  split at nI
  ·exact oE nI
  exact nI
 have AA:(rL v).2.bad=false:=oE hO;have kp:(rK v).2.bad=false:=oE AA;have lX:(rJ v).2.bad=false:=oE kp;have dR:(rI v).2.bad=false:=oE lX;have dy:=Bool.or_eq_false_iff.1 (show((dZ (ix v).2 eL 4).2.bad||(dZ (ix v).2 eL 4).1.list.any fun x=>decide (x.kind≠3))=false from oE dR);have afd:=Bool.or_eq_false_iff.1 (show((dZ (fh v).2 eH 4).2.bad||(dZ (fh v).2 eH 4).1.list.any fun x=>decide (x.kind≠3))=false from oE dy.1);have h4:(fh v).2.bad=false:=oE afd.1;obtain⟨m,hm⟩:∃ m,m=v.map:=⟨_,rfl⟩;rw [← hm] at rX bh cc;unfold fh at h4;rw [rX] at h4;obtain⟨_,aqR,aAA,aAB,apV⟩:=py h4;have apV:fh v=(aqR,⟨obj (c6 m fZ),false⟩):=by unfold fh;rw [rX];exact apV
 rw [apV] at afd;obtain⟨_,aqS,aAC,aAD,akC⟩:=py afd.1;have akk:=afd.2;rw [akC] at akk;have akC:ix v=(aqS.list.map JV.str,⟨obj (c6 (c6 m fZ) eH),false⟩):=by
  unfold ix Hi;rw [apV,akC,akk];rfl
 rw [akC] at dy;obtain⟨_,aqT,aAE,aAF,akD⟩:=py dy.1;have LP:=dy.2;rw [akD] at LP;have akD:jB v=(aqT.list.map JV.str,⟨obj (c6 (c6 (c6 m fZ) eH) eL),false⟩):=by
  unfold jB Hi;rw [akC,akD,LP];rfl
 unfold rI at dR;rw [akD] at dR;obtain⟨_,aqU,aAG,aAH,aeR⟩:=py dR;have aeR:rI v=(aqU,⟨obj (c6 (c6 (c6 (c6 m fZ) eH) eL) hD),false⟩):=by unfold rI;rw [akD];exact aeR
 unfold rJ at lX;rw [aeR] at lX;obtain⟨_,aqV,aAI,xX,apW⟩:=py lX;have apW:rJ v=(aqV,⟨obj (c6 (c6 (c6 (c6 (c6 m fZ) eH) eL) hD) e2),false⟩):=by unfold rJ;rw [aeR];exact apW
 unfold rK at kp;rw [apW] at kp;obtain⟨_,aqW,aAJ,aAK,aP⟩:=py kp;have aP:rK v=(aqW,⟨obj (c6 (c6 (c6 (c6 (c6 (c6 m fZ) eH) eL) hD) e2) ih),false⟩):=by unfold rK;rw [apW];exact aP
 unfold rL at AA;rw [aP] at AA;obtain⟨_,aqX,aAL,tD,apX⟩:=py AA;have apX:rL v=(aqX,⟨obj (c6 (c6 (c6 (c6 (c6 (c6 (c6 m fZ) eH) eL) hD) e2) ih) gG),false⟩):=by unfold rL;rw [aP];exact apX
 unfold m' at hO;rw [apX] at hO;obtain⟨_,aqY,aAM,aAN,aeK⟩:=py hO;have aeK:m' v=(aqY,⟨obj (c6 (c6 (c6 (c6 (c6 (c6 (c6 (c6 m fZ) eH) eL) hD) e2) ih) gG) lE),false⟩):=by unfold m';rw [apX];exact aeK
 obtain⟨m8,lZ⟩:∃ m8,m8=c6 (c6 (c6 (c6 (c6 (c6 (c6 (c6 m fZ) eH) eL) hD) e2) ih) gG) lE:=⟨_,rfl⟩;rw [← lZ] at aeK;have aqZ:∀ k,look m8 k=if k=lE then none else if k=gG then none else if k=ih then none else if k=e2 then none else if k=hD then none else if k=eL then none else if k=eH then none else if k=fZ then none else look m k:=fun k=>by
  rw [lZ];simp only [hp]
 have apY:o1 v=(look m8 dL).isSome:=by unfold o1;rw [aeK];rfl
 have akl:look m8 dL=look m dL:=by rw [aqZ];simp
 -- the state key
 obtain⟨aq0,av3,apZ⟩:∃ aq0:JV,(look m dL=if o1 v then some (aN (lS v).1.str)else none)∧lS v=(aq0,⟨obj (c6 m8 dL),false⟩):=by
  unfold lS at nI ⊢;cases aW:o1 v with
  | true=>
   rw [aW,if_pos rfl,aeK] at nI;obtain⟨_,aq0,av4,aAO,apZ⟩:=py nI;refine⟨aq0,?_,by rw [if_pos rfl,aeK];exact apZ⟩;rw [if_pos rfl,if_pos rfl,aeK,apZ,← akl,av4];rw [akl] at av4;exact congrArg some ((cc _ (eG av4)).pA aAO)
  | false=>
   refine⟨JV.fg,?_,?_⟩
   ·rw [if_neg (by simp),← akl];rw [apY] at aW;cases cb:look m8 dL with
    | none=>rfl
    | some x=>rw [cb] at aW;cases aW
   rw [if_neg (by simp),aeK];have:c6 m8 dL=m8:=List.filter_eq_self.2 fun p aaH=>by
    rw [apY] at aW;have:=s6 (m:=m8) (k:=dL) (by cases cb:look m8 dL with | none=>rfl | some x=>rw [cb] at aW;cases aW) p aaH;simpa using this
   rw [this]
 have akm:=ahT.1;unfold ck at akm;rw [apZ] at akm;obtain⟨_,aq1,ay5,C5,ap0⟩:=py akm;have ap0:ck v=(aq1,⟨obj (c6 (c6 m8 dL) fS),false⟩):=by unfold ck;rw [apZ];exact ap0
 unfold q3 at hH;rw [ap0,S0] at hH;obtain⟨_,afS,ay6,aAP,ap1⟩:=py hH;have ap1:q3 v=(afS,⟨obj (c6 (c6 (c6 m8 dL) fS) e1),false⟩):=by unfold q3;rw [ap0,S0];exact ap1
 have ap2:look m fS=some aq1:=by rw [hp,if_neg (by decide),aqZ] at ay5;simpa using ay5
 have ap3:look m e1=some afS:=by rw [hp,if_neg (by decide),hp,if_neg (by decide),aqZ] at ay6;simpa using ay6
 obtain⟨aq2,ap4,ap5⟩:=(cc _ (eG ap3)).qX aAP;simp only at aq2 ap4 ap5;unfold tz at WO;rw [ap1] at WO;rw [aq2] at WO;obtain⟨_,aq3,aAQ,aAR,aq4⟩:=py WO;have aq4:tz v=(aq3,⟨obj (c6 afS.map hR),false⟩):=by unfold tz;rw [ap1];rw [aq2];exact aq4
 rw [ap1,aq4] at pS;have qZ:c6 (c6 (c6 m8 dL) fS) e1 = []:=List.eq_nil_of_length_eq_zero (by simp only [obj,JV.map] at pS;omega);have l6:c6 afS.map hR = []:=List.eq_nil_of_length_eq_zero (by simp only [obj,JV.map] at pS ⊢;omega);have av5:look m fZ=some aqR:=aAA;have ap6:look m eH=some aqS:=by simpa [hp] using aAC
 have ap7:look m eL=some aqT:=by simpa [hp] using aAE
 have ap8:look m hD=some aqU:=by simpa [hp] using aAG
 have ap9:look m e2=some aqV:=by simpa [hp] using aAI
 have ap':look m ih=some aqW:=by simpa [hp] using aAJ
 have aqa:look m gG=some aqX:=by simpa [hp] using aAL
 have aqb:look m lE=some aqY:=by simpa [hp] using aAM
 have aqc:look afS.map hR=some aq3:=aAQ;have aAS:de ((fV v).b8.map aN)=aqT:=by
  show de ((jB v).1.map aN)=aqT;rw [akD];exact Lz (cc _ (eG ap7)) aAF LP
 have aAT:de ((fV v).prev.map aN)=aqS:=by
  show de ((ix v).1.map aN)=aqS;rw [akC];exact Lz (cc _ (eG ap6)) aAD akk
 have ay7:(fV v).b7=aqR:=by
  show(fh v).1=aqR;rw [apV]
 have aAU:aN (fV v).room=aqU:=by
  show aN (rI v).1.str=aqU;rw [aeR];exact((cc _ (eG ap8)).pA aAH).symm
 have aAV:aN (fV v).snd=aqV:=by
  show aN (rJ v).1.str=aqV;rw [apW];exact((cc _ (eG ap9)).pA xX).symm
 have aAW:aN (fV v).ty=aqW:=by
  show aN (rK v).1.str=aqW;rw [aP];exact((cc _ (eG ap')).pA aAK).symm
 have aAX:hr (fV v).dep=aqX:=by
  show hr (rL v).1.num=aqX;rw [apX];exact((cc _ (eG aqa)).jt tD).symm
 have aAY:hr (fV v).time=aqY:=by
  show hr (m' v).1.num=aqY;rw [aeK];exact((cc _ (eG aqb)).jt aAN).symm
 have aAZ:obj (mc (fV v).sigs (fV v).sigs.length)=aq1:=by
  show obj (mc (bG (ck v).1.map) (bG (ck v).1.map).length)=aq1;have:=ahT.2;rw [ap0] at this ⊢;exact aaG (cc _ (eG ap2)) C5 this
 have aA0:obj [(hR,aN (fV v).hash)]=afS:=by
  show obj [(hR,aN (tz v).1.str)]=afS;rw [aq4,aq2];refine congrArg obj (uZ (by simp [et]) ap4 fun k=>?_);have ee:aN aq3.str=aq3:=((ap5 _ (eG aqc)).pA aAR).symm;rw [ee]
  by_cases hk:k=hR
  ·rw [hk,aqc];rfl
  have:look (c6 afS.map hR) k=none:=by rw [l6];rfl
  rw [hp,if_neg hk] at this;rw [this,look,if_neg (fun e=>hk e.symm)];rfl
 obtain⟨e6,a2,a3,a4,a5,qz,vo,vp,a9,pZ,ob⟩:=wD (fV v);refine⟨Eq.trans (congrArg obj (uZ (SZ _) bh fun k=>?_)) rX.symm,by rw [ay7];exact aAB⟩
 by_cases ack:k=eL
 ·rw [ack,e6,aAS,ap7]
 by_cases wG:k=fZ
 ·rw [wG,a2,ay7,av5]
 by_cases se:k=gG
 ·rw [se,a3,aAX,aqa]
 by_cases n3:k=e1
 ·rw [n3,a4,aA0,ap3]
 by_cases n4:k=lE
 ·rw [n4,a5,aAY,aqb]
 by_cases QQ:k=eH
 ·rw [QQ,qz,aAT,ap6]
 by_cases n6:k=hD
 ·rw [n6,vo,aAU,ap8]
 by_cases n7:k=e2
 ·rw [n7,vp,aAV,ap9]
 by_cases n8:k=fS
 ·rw [n8,a9,aAZ,ap2]
 by_cases HT:k=ih
 ·rw [HT,pZ,aAW,ap']
 by_cases n10:k=dL
 ·rw [n10,ob,av3];rfl
 have akR:look (fV v).mi k=none:=iq fun j y ba hk=>by
  have:=N6 (List.mem_of_getElem? ba);rw [hk] at this;simp only [keys,List.mem_cons,List.not_mem_nil,or_false] at this;rcases this with h | h | h | h | h | h | h | h | h | h | h <;> contradiction
 have z2:look (c6 (c6 (c6 m8 dL) fS) e1) k=none:=by rw [qZ];rfl
 rw [hp,if_neg n3,hp,if_neg n8,hp,if_neg n10,aqZ,if_neg n4,if_neg se,if_neg HT,if_neg n7,if_neg n6,if_neg ack,if_neg QQ,if_neg wG] at z2;rw [akR,z2]
end EV
def JV.neg:JV:=.mk (-1) false 0 [] [] []
def hA (v:JV) (k:ab) (kind:Int):JV:=match look v.map k with
 | some x=>if x.kind=kind then x else JV.neg
 | none=>JV.neg
theorem hl {v x:JV} {k:ab} {kind:Int} (h:look v.map k=some x) (hk:x.kind=kind):hA v k kind=x:=by unfold hA;rw [h];simp only;rw [aL hk]
theorem u7 {v:JV} {k:ab} {kind:Int} (h:look v.map k=none):hA v k kind=JV.neg:=by unfold hA;rw [h]
theorem y' {v x:JV} {k:ab} {kind:Int} (h:look v.map k=some x) (hk:x.kind≠kind):hA v k kind=JV.neg:=by unfold hA;rw [h];simp only;rw [ak hk]
def ki (v:JV):EV:=⟨(hA v hD 3).str,(hA v e2 3).str,(hA v ih 3).str,decide ((hA v dL 3).kind=3),(hA v dL 3).str,hA v fZ 5,(hA v eH 4).list.map JV.str,(hA v eL 4).list.map JV.str,(hA v gG 2).num,(hA v lE 2).num,(hA (hA v e1 5) hR 3).str,bG (hA v fS 5).map⟩
namespace EV
theorem Te {e:EV} (h:e.b7.kind=5):ki e.val=e.again:=by
 obtain⟨e6,a2,a3,a4,a5,qz,vo,vp,a9,pZ,ob⟩:=wD e;unfold ki;rw [hl (v:=e.val) (kind:=3) vo rfl,hl (v:=e.val) (kind:=3) vp rfl,hl (v:=e.val) (kind:=3) pZ rfl,hl (v:=e.val) (kind:=5) a2 h,hl (v:=e.val) (kind:=4) qz rfl,hl (v:=e.val) (kind:=4) e6 rfl,hl (v:=e.val) (kind:=2) a3 rfl,hl (v:=e.val) (kind:=2) a5 rfl,hl (v:=e.val) (kind:=5) a4 rfl,hl (v:=e.val) (kind:=5) a9 rfl,hl (v:=obj [(hR,aN e.hash)]) (x:=aN e.hash) (k:=hR) (kind:=3) (by kernel_rfl) rfl,yb,yb];cases bh:e.st with
 | true=>
  rw [bh,if_pos rfl] at ob;rw [hl (v:=e.val) (kind:=3) ob rfl];unfold again;rw [bh];rfl
 | false=>
  rw [bh,if_neg (by simp)] at ob;rw [u7 (v:=e.val) (kind:=3) ob];unfold again;rw [bh];rfl
theorem aa3 {v:JV} (bW:v.sF) (qX:v.kind=5) (h:Aw v=false):(ki v).val=v∧ki v=fV v:=by
 obtain⟨h1,aq⟩:=LF bW qX h;have bu:ki v=fV v:=by
  have a:=Te aq;have b:=(HJ aq).1;rw [h1] at a b;exact a.trans b.symm
 exact⟨by rw [bu];exact h1,bu⟩
theorem aa4 {v:JV} (bW:v.sF) (qX:v.kind=5) (h:(ki v).val=v):Aw v=false:=by
 have aZ:(ki v).b7.kind=5:=by
  show(hA v fZ 5).kind=5;have cb:look v.map fZ=some (hA v fZ 5):=by
   have:=(wD (ki v)).2.1;rw [show(ki v).mi=v.map from congrArg JV.map h] at this;exact this
  obtain⟨_,_,cc⟩:=bW.qX qX;have aW:=(cc _ (eG cb)).bare;cases l6:look v.map fZ with
  | none=>rw [l6] at cb;cases cb
  | some x=>
   by_cases hk:x.kind=5
   ·rw [hl l6 hk];exact hk
   rw [y' l6 hk] at aW;exact absurd aW (by decide)
 have:=(HJ aZ).2;rw [h] at this;exact this
noncomputable def ru (v:JV):Int:=if Go.Proofs.YtkjgljnkocnnpaaGreatDoor.V.gz (v.wr 0 [])≠0∨v.kind≠5 then 21 else if pG (ki v).val v=false then 21 else (ki v).q5
theorem CZ (v:JV):ru v=jF v∧(jF v=0→ki v=fV v):=by
 unfold ru jF
 by_cases h:Go.Proofs.YtkjgljnkocnnpaaGreatDoor.V.gz (v.wr 0 [])≠0∨v.kind≠5
 ·rw [if_pos h,if_pos h];exact⟨rfl,fun h=>by omega⟩
 rw [if_neg h,if_neg h];have cg:Go.Proofs.YtkjgljnkocnnpaaGreatDoor.V.gz (v.wr 0 [])=0:=Classical.not_not.1 fun e=>h (.inl e);have qX:v.kind=5:=Classical.not_not.1 fun e=>h (.inr e);obtain⟨t,DZ⟩:=iP cg;have bW:v.sF:=⟨_,_,_,DZ⟩;cases hw:Aw v with
 | true=>
  rw [if_pos rfl,if_pos (ov fun e=>by rw [aa4 bW qX e] at hw;cases hw)];exact⟨rfl,fun h=>by omega⟩
 | false=>
  obtain⟨h1,aq⟩:=aa3 bW qX hw;have e8:pG (ki v).val v=true:=by rw [h1];exact r2 _
  rw [if_neg (show ¬ (false=true)by simp),if_neg (show ¬ (pG (ki v).val v=false)by rw [e8];simp),aq];exact⟨rfl,fun _=>rfl⟩
end EV
end Go.Proofs.YtkjgljnkocnnpaaGreatDoor.V
namespace Go.Proofs.YtkjgljnkocnnpaaGreatDoor.V
open Go
open JV
namespace EV
theorem uL (a b:List (ab×JV)):bG (a++b)=bG a++bG b:=by simp [bG]
theorem wE:∀ (r:List ei) (acc pre:List (ab×JV)) (p:ei),(∀ y∈acc,fx y.1 p.eo=true)→(∀ y∈pre,y.1=p.key∨fx y.1 p.key=true)→eT (some p) r=true→bG (r.foldl jo (acc ++ [(p.eo,obj pre)]))=bG (acc ++ [(p.eo,obj pre)])++r
 | [],acc,pre,p,_,_,_=>by simp
 | s::r,acc,pre,p,aE,cc,h=>by
  rw [eT] at h
  simp only [Bool.and_eq_true] at h
  obtain⟨⟨_,h1⟩,aq⟩:=h
  unfold aaw at h1
  simp only at h1
  unfold ij at h1
  simp only [Bool.not_eq_true',Bool.or_eq_false_iff,Bool.not_eq_false',Bool.or_eq_true,beq_iff_eq,Bool.and_eq_false_iff,decide_eq_false_iff_not] at h1
  rw [List.foldl_cons]
  by_cases bh:p.eo=s.eo
  rotate_left
  ·have aW:fx p.eo s.eo=true:=by
    rcases h1.1 with h | h
    ·exact h
    exact absurd h bh
   have y0:∀ y∈acc ++ [(p.eo,obj pre)],fx y.1 s.eo=true:=fun y ba=>by
    rcases List.mem_append.1 ba with ba | ba
    ·exact hL (aE y ba) aW
    rw [List.mem_singleton.1 ba];exact aW
   have e:jo (acc ++ [(p.eo,obj pre)]) s=(acc ++ [(p.eo,obj pre)]) ++ [(s.eo,obj [(s.key,aN s.sig)])]:=by
    unfold jo one
    rw [zY y0,ly y0]
    show _ ++ [(s.eo,obj (dO [] s.key (aN s.sig)))]=_
    rw [ly (by simp)]
    rfl
   rw [e,wE r _ _ s y0 (fun y ba=>by rw [List.mem_singleton.1 ba];exact .inl rfl) aq,uL _ [(s.eo,_)]]
   simp [bG,ey,obj,JV.map,aN,JV.str]
  have hk:fx p.key s.key=true:=by
   rcases h1.2 with h | h
   ·exact absurd bh h
   simpa using h
  have bM:∀ y∈pre,fx y.1 s.key=true:=fun y ba=>by
   rcases cc y ba with e | e
   ·rw [e];exact hk
   exact hL e hk
  have y0:∀ y∈acc,fx y.1 s.eo=true:=fun y ba=>by rw [← bh];exact aE y ba
  have e:jo (acc ++ [(p.eo,obj pre)]) s=acc ++ [(s.eo,obj (pre ++ [(s.key,aN s.sig)]))]:=by
   unfold jo one
   rw [bh,Dk y0,FR y0]
   show acc ++ [(s.eo,obj (dO pre s.key (aN s.sig)))]=_
   rw [ly bM]
  rw [e,wE r acc _ s y0 (fun y ba=>by
   rcases List.mem_append.1 ba with ba | ba
   ·exact .inr (bM y ba)
   rw [List.mem_singleton.1 ba];exact .inl rfl) aq,uL,uL,bh]
  simp [bG,ey,obj,JV.map,aN,JV.str]
theorem HN {l:List ei} (h:eT none l=true):bG (mc l l.length)=l:=by
 unfold mc;rw [List.take_length];cases l with
 | nil=>rfl
 | cons s r=>
  rw [eT] at h;simp only [Bool.and_eq_true] at h;have e:jo [] s = [] ++ [(s.eo,obj [(s.key,aN s.sig)])]:=by
   unfold jo one;rw [ly (by simp)];show [] ++ [(s.eo,obj (dO [] s.key (aN s.sig)))]=_;rw [ly (by simp)];rfl
  rw [List.foldl_cons,e,wE r [] _ s (by simp) (fun y ba=>by rw [List.mem_singleton.1 ba];exact .inl rfl) h.2];simp [bG,ey,obj,JV.map,aN,JV.str]
theorem Dp {e:EV} (h:e.q5=0):eT none e.sigs=true∧e.b7.kind=5∧(e.st=false→e.key = []):=by
 have dn:e.iL=true:=by
  unfold EV.q5 at h
  split at h
  ·cases h
  split at h
  ·assumption
  cases h
 unfold iL iY jD at dn;simp only [Bool.and_eq_true,decide_eq_true_eq,Bool.or_eq_true] at dn;obtain⟨⟨⟨⟨⟨⟨⟨⟨_,h1⟩,aq⟩,_⟩,_⟩,_⟩,_⟩,bb⟩,_⟩:=dn;exact⟨bb,aq,fun bh=>h1.resolve_left (by rw [bh];simp)⟩
theorem Tf {e:EV} (h:e.q5=0):e.again=e:=by
 obtain⟨h1,_,bb⟩:=Dp h;unfold again;rw [HN h1];cases bh:e.st with
 | true=>rw [if_pos rfl,← bh]
 | false=>rw [if_neg (by simp),← bb bh,← bh]
theorem Yr {e:EV} (h:e.gz=0):fV e.val=e∧jF e.val=0:=by
 obtain⟨aZ,h1,_⟩:=FO h;obtain⟨aq,bb⟩:=HJ (Dp aZ).2.1;rw [Tf aZ] at aq;refine⟨aq,?_⟩;unfold jF;rw [if_neg (by rintro(h | h);exact h h1;exact h rfl),if_neg (by rw [bb];simp),aq];exact aZ
end EV
end Go.Proofs.YtkjgljnkocnnpaaGreatDoor.V
namespace Go.Proofs.YtkjgljnkocnnpaaGreatDoor.V
open Go
open JV
theorem JV.Tg {s:ab} {deep:Nat} (bT:deep≠32) (bI:cC s=true) (cb:s.length≤65536):Fit (de [aN s]) deep ([91]++cM s ++ [93]):=fun c aZ=>by
 have aW:¬ bare (de [aN s])=false:=by simp [bare,de,kind,is,num,str,list,map]
 have vY:(de [aN s]).kind=4:=rfl;have e:c++([91]++cM s ++ [93])=c ++ [91]++cM s ++ [93]:=by simp
 rw [e] at aZ ⊢;have h1:(c ++ [91]++cM s).length≤65536:=by rw [List.length_append] at aZ;omega
 have cg:(c ++ [91]).length≤65536:=by rw [List.length_append] at h1;omega
 rw [en,ak aW,ak (by rw [vY];decide),ak (by rw [vY];decide),ak (by rw [vY];decide),ak (by rw [vY];decide),ak bT,aL vY,gJ cg];show(ji [aN s] deep true (c ++ [91])).bind _=_;rw [mu];show((wr (aN s) (deep+1) (c ++ [91])).bind fun b=>ji [] deep false b).bind _=_;rw [Dg bI cb (c ++ [91]) h1];show(ji [] deep false (c ++ [91]++cM s)).bind _=_;rw [ji];show cK _=_;rw [gJ aZ]
namespace EV
theorem Nv:plain.Yp:=⟨by decide,by decide,by decide⟩
theorem CY:plain.gz=0:=by
 have d:∀ {m k v r deep t1 t2} {q:ab},(∀ c∈k,c.toNat<128)→k.length≤1000→fx q k=true→Fit v (deep+1) t1→vG r deep (some k) t2→m=(k,v)::r→vG m deep (some q) ([44]++cM k ++ [58]++t1++t2):=fun {m k v r deep t1 t2 q} bI cb e8 h1 aq e=>by
  subst e;exact x' bI cb (fun ass e=>by injection e with e;subst e;exact e8) h1 aq
 have ack:Fit (hr 0) 1 (Lib.itoa 0):=Lv (by decide) (by decide);have f5:∀ deep,deep≠32→Fit (obj []) deep ([123] ++ [] ++ [125]):=fun deep bT=>x5 x9 bT;have T:∀ s:ab,(∀ c∈s,c.toNat<128)→s.length≤1000→Fit (aN s) 1 (cM s):=fun s h1 aq=>Dg (qP s h1) (by omega);have m0:vG [] 0 (some ih) []:=x9;have m1:=d (k:=ih) (v:=aN plain.ty) (q:=fS) (by decide) (by decide) (by decide) (T _ (by decide) (by decide)) m0 rfl;have m2:=d (k:=fS) (v:=obj []) (q:=e2) (by decide) (by decide) (by decide) (f5 1 (by decide)) m1 rfl;have m3:=d (k:=e2) (v:=aN plain.snd) (q:=hD) (by decide) (by decide) (by decide) (T _ (by decide) (by decide)) m2 rfl;have m4:=d (k:=hD) (v:=aN plain.room) (q:=eH) (by decide) (by decide) (by decide) (T _ (by decide) (by decide)) m3 rfl;have akv:Fit (de [aN (36::FM)]) 1 _:=Tg (by decide) (qP _ (by decide)) (by decide);have m5:=d (k:=eH) (v:=de [aN (36::FM)]) (q:=lE) (by decide) (by decide) (by decide) akv m4 rfl;have m6:=d (k:=lE) (v:=hr 0) (q:=e1) (by decide) (by decide) (by decide) ack m5 rfl;have bh:Fit (obj [(hR,aN plain.hash)]) 1 _:=x5 (x' (k:=hR) (v:=aN plain.hash) (by decide) (by decide) (fun q e=>by cases e) (Dg (qP _ (by decide)) (by decide)) x9) (by decide);have m7:=d (k:=e1) (q:=gG) (by decide) (by decide) (by decide) bh m6 rfl;have m8:=d (k:=gG) (v:=hr 0) (q:=fZ) (by decide) (by decide) (by decide) ack m7 rfl;have m9:=d (k:=fZ) (v:=obj []) (q:=eL) (by decide) (by decide) (by decide) (f5 1 (by decide)) m8 rfl;have m10:=x' (k:=eL) (v:=de []) (prev:=none) (by decide) (by decide) (fun q e=>by cases e) (SY (by decide)) m9;have cb:(Lib.itoa 0).length≤21:=Lib.itoa_length_le 0 (by decide) (by decide);have:=x5 m10 (by decide) [] (by
  have Gv:(cM ih).length=6:=by decide
  have HS:(cM fS).length=12:=by decide
  have OF:(cM e2).length=8:=by decide
  have LH:(cM hD).length=9:=by decide
  have I0:(cM eH).length=13:=by decide
  have aA1:(cM lE).length=18:=by decide
  have aA2:(cM e1).length=8:=by decide
  have aA3:(cM gG).length=7:=by decide
  have aA4:(cM fZ).length=9:=by decide
  have aA5:(cM eL).length=13:=by decide
  have aA6:(cM plain.ty).length=3:=by decide
  have aA7:(cM plain.snd).length=6:=by decide
  have aA8:(cM plain.room).length=6:=by decide
  have aA9:(cM plain.hash).length=45:=by decide
  have aA':(cM hR).length=8:=by decide
  have aBa:(cM (36::FM)).length=46:=by decide
  simp only [List.length_append,List.length_cons,List.length_nil,comma,Gv,HS,OF,LH,I0,aA1,aA2,aA3,aA4,aA5,aA6,aA7,aA8,aA9,aA',aBa];generalize (Lib.itoa 0).length=z at cb ⊢;omega)
 exact PO NZ (show plain.val.wr 0 [] = .ok _ from this)
theorem Hq {e:EV} (h:e.gz=0):e.val.wr 0 [] = .ok e.yv:=by
 obtain⟨_,h1,aq⟩:=FO h;obtain⟨T,kp⟩:=iP h1;rw [aq,kp];rfl
theorem CX {e:EV} (h:e.gz=0):parse e.yv = .ok e.val:=EK (Hq h)
theorem Fv {v:JV} (h:jF v=0):(fV v).val=v∧(fV v).gz=0∧Aw v=false∧(fV v).q5=0:=by
 unfold jF at h
 split at h
 ·cases h
 rename_i h1
 have cg:Go.Proofs.YtkjgljnkocnnpaaGreatDoor.V.gz (v.wr 0 [])=0:=Classical.not_not.1 fun e=>h1 (.inl e);have qX:v.kind=5:=Classical.not_not.1 fun e=>h1 (.inr e)
 split at h
 ·cases h
 rename_i aq
 have hw:Aw v=false:=by simpa using aq
 obtain⟨t,DZ⟩:=iP cg;obtain⟨bb,bP⟩:=LF ⟨_,_,_,DZ⟩ qX hw;exact⟨bb,PO h (T:=t) (by rw [bb];exact DZ),hw,h⟩
end EV
def akn:ab:=[117,110,115,105,103,110,101,100]
def Nt:ab:=[123,34,117,110,115,105,103,110,101,100,34,58,49,125]
def aeL:JV:=obj [(akn,hr 1)]
theorem aa5:aeL.wr 0 [] = .ok Nt:=by
 have h1:Lib.itoa 1 = [49]:=by
  rw [Lib.itoa,if_neg (by decide)];show Lib.decDigits 1 = [49];unfold Lib.decDigits;rfl
 have wG:Fit (hr 1) 1 [49]:=by
  have:=Lv (n:=1) (deep:=1) (by decide) (by decide)
  rwa [h1] at this
 have:=x5 (x' (k:=akn) (v:=hr 1) (deep:=0) (prev:=none) (by decide) (by decide) (fun q e=>by cases e) wG x9) (by decide) [] (by decide);have e:([]:ab)++([123]++(comma none++cM akn ++ [58] ++ [49] ++ []) ++ [125])=Nt:=by decide
 rw [e] at this;exact this
theorem Si:parse Nt = .ok aeL:=EK aa5
theorem aeM:Aw aeL=true:=by kernel_rfl
theorem adI:jF aeL=21:=by
 unfold jF;rw [if_neg (by rw [aa5];rintro(h | h);exact h rfl;exact h rfl),if_pos aeM]
end Go.Proofs.YtkjgljnkocnnpaaGreatDoor.V
set_option maxRecDepth 10000
namespace Go.Proofs.YtkjgljnkocnnpaaGreatDoor.V
open Go Go.Proofs
/-- the digest's table as the program has it -/
def afW (w:World):Prop:=pF w ⟨av6,0,none⟩ (Ts.map W4)∧av6<w.heap.size
theorem afW.I {w w':World} (h:afW w) (k:Mod [] w w'):afW w':=⟨h.1.I k,Nat.lt_of_lt_of_le h.2 k.size⟩
set_option maxRecDepth 10000
set_option maxRecDepth 10000
end Go.Proofs.YtkjgljnkocnnpaaGreatDoor.V
