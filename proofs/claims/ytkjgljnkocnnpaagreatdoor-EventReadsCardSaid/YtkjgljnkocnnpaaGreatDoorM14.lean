/-
  A part of the proof: escapes and texts as the document reads them, step by step; the document's reading of numbers and blanks, step by step. No condition of its own.
-/
import Derived.Test.YtkjgljnkocnnpaaGreatDoorM0
import Derived.Test.YtkjgljnkocnnpaaGreatDoorM13
import Derived.Test.YtkjgljnkocnnpaaGreatDoorM9
import Derived.Test.YtkjgljnkocnnpaaGreatDoorM3
import Derived.Test.YtkjgljnkocnnpaaGreatDoorM6
import Derived.Test.YtkjgljnkocnnpaaGreatDoorM7
import Derived.Test.YtkjgljnkocnnpaaGreatDoorM4
import Derived.Test.YtkjgljnkocnnpaaGreatDoorM11
set_option linter.all false
set_option maxRecDepth 10000
namespace Go.Proofs.YtkjgljnkocnnpaaGreatDoor.V
open Go Go.Proofs
def Yn:=eW Tryz.func42
def aiU:=eW Tryz.func26
def Ns:=eW Tryz.func23
theorem KE {s:ab} {v:JV} (h:parse s = .ok v):nC s=jF v:=by
 unfold nC jY iv;rw [h];exact ak (fun h=>h rfl)
/-- the event of a text; of one that has none: the empty one -/
noncomputable def rO (s:ab):EV:=if nC s=0 then fV (iv s)else EV.fg
theorem pt.Yo {A:List Nat} {w0 w:World} {v:JV} {us:List Value} (h:pt A w0 w v us) (dy:∀ a∈A,a<w0.heap.size) (cg:jF v=0):ao A w (fV v).D us:=by
 rcases h with⟨_,al,cl,am,cm,up,HW,LI,rfl,aBn,fs,rV,zo,rZ,HU,Rh⟩ | h
 ·obtain⟨e6,c1,rfl,_⟩:=fs.form;obtain⟨a2,c2,rfl,_⟩:=rV.form;obtain⟨a3,c3,rfl,_⟩:=zo.form;have cu:∀ (u:Value),(∀ x∈bk u,w0.heap.size≤x)→∀ x∈bk u,x∉A:=fun u h1 x ae aE=>by have:=dy x aE;have:=h1 x ae;omega
  exact EV.bX (e:=fV v) aBn (Own.strs A fs (cu _ rZ)) (Own.strs A rV (cu _ HU)) (Own.flat (A:=A) zo (fun _ _=>rfl) (fun x _ c aZ=>by simp [ei.cells] at aZ;rcases aZ with rfl | rfl | rfl <;> rfl) rfl (cu _ Rh))
 exact absurd cg h.1
theorem pt.I1 {w0 w:World} {v:JV} {us:List Value} (h:pt [] w0 w v us) (cg:jF v=0):ao [] w (fV v).D us:=h.Yo (by simp) cg
theorem pt.afC {A:List Nat} {w0 w:World} {v:JV} {us:List Value} (h:pt A w0 w v us) (cg:jF v≠0):ao A w EV.fg.D us:=by
 rcases h with⟨h,_⟩ | ⟨_,rfl⟩
 ·exact absurd h cg
 exact EV.b3
theorem aiR.I1 {A:List Nat} {w0 w:World} {s:ab} {us:List Value} (h:aiR A w0 w s us) (dy:∀ a∈A,a<w0.heap.size):ao A w (rO s).D us:=by
 unfold rO;rcases h with⟨cg,h⟩ | ⟨cg,rfl⟩
 ·have bT:nC s=jF (iv s):=ak (fun e=>e cg);rw [bT]
  by_cases dn:jF (iv s)=0
  ·rw [aL dn];exact h.Yo dy dn
  rw [ak dn];exact h.afC dn
 have bT:nC s=jY s:=aL cg;rw [bT,ak cg];exact EV.b3
theorem Sh {s:ab} (h:nC s=0):(rO s).gz=0∧(rO s).ok∧(rO s).lens∧(rO s).Yp:=by
 have e:rO s=fV (iv s):=aL h;have dn:jF (iv s)=0:=by
  unfold nC at h
  split at h
  ·rename_i a;exact absurd h a
  exact h
 obtain⟨h1,aq,_,_⟩:=EV.Fv dn;have hw:=EV.Hq aq;rw [h1] at hw;have bh:=JV.CS hw;rw [e];exact⟨aq,Hm bh,Fu bh,Yq bh⟩
theorem Fw {e:EV} (h:e.gz=0):nC e.yv=0∧rO e.yv=e:=by
 have h1:=KE (EV.CX h);obtain⟨aq,bb⟩:=EV.Yr h;rw [bb] at h1;refine⟨h1,?_⟩;unfold rO iv;rw [aL h1,EV.CX h];exact aq
theorem KF:nC Nt=21:=(KE Si).trans adI
theorem Fx (A:List Nat) (w:World) (dy:∀ a∈A,a<w.heap.size) (s:ab) (gR:Env w) (eX:kv w):Calls aR 23 [S s].toArray w (bH fun u w'=>∃ us,u = .tuple #[.agg us.toArray,.int .i64 (nC s)]∧ao A w' (rO s).D us∧Mod [] w w'):=
 Calls.imp (Ym A w dy s gR eX) fun u w' h=>by
  obtain⟨us,h1,aq,bb⟩:=h
  exact⟨us,h1,aq.I1 dy,bb⟩
theorem Fy (w:World) (s:ab) (gR:Env w) (eX:kv w):Calls aR 23 [S s].toArray w (bH fun u w'=>∃ us,u = .tuple #[.agg us.toArray,.int .i64 (nC s)]∧ao [] w' (rO s).D us∧Mod [] w w'):=Fx [] w (by simp) s gR eX
theorem Sj (w:World) (e:EV) (he:e.gz=0) (gR:Env w) (eX:kv w):Calls aR 23 [S e.yv].toArray w (bH fun u w'=>∃ us,u = .tuple #[.agg us.toArray,.int .i64 0]∧ao [] w' e.D us∧Mod [] w w'):=by
 have h:=Fy w e.yv gR eX;rw [(Fw he).1,(Fw he).2] at h;exact h
theorem Sk (w:World) (gR:Env w) (eX:kv w):Calls aR 23 [S Nt].toArray w (bH fun u w'=>∃ us,u = .tuple #[.agg us.toArray,.int .i64 21]∧ao [] w' EV.fg.D us∧Mod [] w w'):=by
 have h:=Fy w Nt gR eX;have e:rO Nt=EV.fg:=by unfold rO;rw [ak (by rw [KF];decide)]
 rw [KF,e] at h;exact h
theorem Nu (w:World) (gR:Env w) (eX:kv w):Calls aR 18 [].toArray w (bH fun u w'=>u = .bool true∧Mod [] w w'):=by
 refine Fi Tryz.func18 rfl fun E=>?_;have kp:=gR.Ag;refine aa fun a6=>a7 rfl (J a6 (aa fun aQ=>cJ (bB Yn rfl) (Fz _) fun cN aJ aH=>?_));obtain⟨⟨aiJ,rfl,anX⟩,U⟩:=aH;replace E:=E.then U;have E8:=Mod.refl [] aJ;refine cG E (bB aiU rfl) (Sl _ EV.plain _ (anX.b1 E8) EV.FA EV.KG EV.Nv (kp.mod E (by simp)) (eX.I E)) fun cX U E=>?_;replace E8:=E8.then U;rw [EV.CY];refine aj 5 rfl (J aQ (aa fun a'=>aO rfl (cJ (bB Ns rfl) (Sj _ EV.plain EV.CY (gR.I E) (eX.I E)) fun cN gr aH=>?_)));obtain⟨awK,rfl,aiV,U⟩:=aH;replace E:=E.then U;replace E8:=E8.then U;obtain⟨awL,awM,awN,awO,awP,awQ,awR,awS,awT,awU,rfl,anY,anZ,an0,an1⟩:=EV.jk aiV;replace aiV:=EV.bX (e:=EV.plain) anY anZ an0 an1;have wy:=Mod.refl [] gr;refine aj 3 rfl (bj kh rfl fun g1 h8 bZ=>?_);have aY:=bZ.le E;have adJ:=bZ.le E8;have Ys:=bZ.le wy;replace E:=E.then bZ.mod;replace E8:=E8.then bZ.mod;replace wy:=wy.then bZ.mod;have R:=bZ.ar;refine ed eK R rfl rfl fun iS hd=>?_;replace E:=E.own hd.mod aY;replace E8:=E8.own hd.mod adJ;replace wy:=wy.own hd.mod Ys;replace R:aF iS g1 _ [_,_,_,_,_,_,_,_,_,_,_,_,_,_,_,_,_]:=hd.ar;refine a7 rfl (J a' (aa fun bp=>cJ (bB Ns rfl) (Sk _ (gR.I E) (eX.I E)) fun cN i' aH=>?_));obtain⟨awV,rfl,an2,U⟩:=aH;replace R:=R.I U;replace E:=E.then U;replace E8:=E8.then U;replace wy:=wy.then U;obtain⟨awW,awX,awY,awZ,aw0,aw1,aw2,aw3,aw4,aw5,rfl,an3,an4,an5,an6⟩:=EV.jk an2;replace an2:=EV.bX (e:=EV.fg) an3 an4 an5 an6;have Nw:=Mod.refl [] i';refine aj 3 rfl (bj kh rfl fun g2 iw cz=>?_);have bJ:=cz.le E;have Hr:=cz.le E8;have Yt:=cz.le wy;have Yu:=cz.le Nw;have bl:=cz.ne R;replace R:=R.I cz.mod;replace E:=E.then cz.mod;replace E8:=E8.then cz.mod;replace wy:=wy.then cz.mod;replace Nw:=Nw.then cz.mod;have ag:=cz.ar;refine ed eK ag rfl rfl fun nd lY=>?_;replace R:=R.ne lY.mod bl;replace E:=E.own lY.mod bJ;replace E8:=E8.own lY.mod Hr;replace wy:=wy.own lY.mod Yt;replace Nw:=Nw.own lY.mod Yu;replace ag:aF nd g2 _ [_,_,_,_,_,_,_,_,_,_,_,_,_,_,_,_,_]:=lY.ar;refine a7 rfl (J bp (aB fun bx=>cn wide (by kernel_rfl) (hF 3 rfl rfl (RO rfl (bD (by decide)) (fun db U=>(fj rfl)) rfl rfl (RO rfl (bD (by decide)) (fun db U=>(k1 rfl rfl)) rfl rfl (ax (fun U=>(oH (bD (by decide)) rfl rfl)) (ax (fun U=>(fj rfl)) (RO rfl (bD (by decide)) (fun db U=>(jb eK rfl ((R.I U).cs rfl))) rfl rfl (anj (fun u db=>∃ us,u = .agg us.toArray∧ao [] db (EV.plain).D us) (fun cN nM jX kr aH=>by obtain⟨hz,o7,nD⟩:=aH;exact⟨hz,o7,nD.b1 kr⟩) rfl (bD (by decide)) (fun db U=>bB Yn rfl) (fun db U=>Calls.imp (Fz _) fun nD jX aiW=>aiW) rfl rfl rfl ?_)))))))));refine anq (args:=fun xp=>[_,xp].toArray) (v:=.bool true) 29 rfl (bD (by decide)) rfl rfl ⟨_,List.Mem.tail _ (List.Mem.tail _ (List.Mem.head _)),rfl⟩ (fun db xp U aH=>bB Nx rfl) (fun db xp U aH=>by
  obtain⟨hz,rfl,nD⟩:=aH;exact y9 _ EV.plain _ _ (aiV.b1 (wy.then U)) nD EV.FA) rfl rfl ?_
 refine ax (fun U=>(oH (bD (by decide)) rfl rfl)) (hF 5 rfl rfl (cq rfl fun lF U=>?_));replace R:=R.I U;replace ag:=ag.I U;replace E:=E.then U;replace E8:=E8.then U;replace wy:=wy.then U;replace Nw:=Nw.then U;exact av bx (bn (aG rfl rfl ⟨rfl,E⟩))
set_option maxRecDepth 10000
set_option maxRecDepth 10000
theorem EV.Ty {e d:EV} (h1:e.room=d.room) (aq:e.snd=d.snd) (bb:e.ty=d.ty) (bP:e.st=d.st) (cZ:e.key=d.key) (fy:e.b7=d.b7) (lL:e.prev=d.prev) (lZ:e.b8=d.b8) (l2:e.dep=d.dep) (jP:e.time=d.time) (wL:e.hash=d.hash) (tQ:e.sigs=d.sigs):e=d:=by
 cases e;cases d;simp_all
set_option maxRecDepth 10000
section
variable {P:Program} {ops:Array Oper} {n:Nat} {l:List (Nat×Value)} {M:List (Nat×(Value→World→Prop))} {w:World} {rest:List Oper} {d:Nat} {op:Op} {ty:TypeId} {pos:String} {af:Array Edge} {Fin:lj→Prop}
/-- a value got out of one of which a property is known -/
theorem ai3 {v:Value} (t:Nat) {aBo:Value→World→Prop} (bW:iF t l=none) (eX:o0 t M=some aBo) (ae:∃ x∈op.operands.toList,x = .tmp t) (bo:∀ aJ u,Mod [] w aJ→aBo u aJ→bE P ((t,u)::l) ⟨some d,op,ty,pos,af,none⟩ aJ v aJ) (bT:Nat.blt d n=true) (bh:gf op=true) (h:hj P ops w n Fin rest ((d,v)::l) M) :
  hj P ops w n Fin (⟨some d,op,ty,pos,af,none⟩::rest) l M:=by
 refine⟨fun u _=>u=v,Cx bW eX ae (fun _ _ _ _ h=>h) bT bh fun ρ aJ u h4 j1 h1=>?_,?_⟩
 ·rw [bo aJ u h4 j1 ρ h1]
  exact⟨Mod.refl [] aJ,rfl⟩
 rw [lu rfl];exact h
end
theorem KO {v:JV} {k:ab} {kind:Int} (h:(!(look v.map k).isSome)=true):hA v k kind=JV.neg:=by
 cases cb:look v.map k with
 | none=>exact u7 cb
 | some x=>rw [cb] at h;cases h
theorem KP {v:JV} {k:ab} {kind:Int} (h:((look v.map k).getD JV.fg).kind≠kind):hA v k kind=JV.neg:=by
 cases cb:look v.map k with
 | none=>exact u7 cb
 | some x=>rw [cb] at h;exact y' cb h
theorem Za {v:JV} {k:ab} {kind:Int} (h1:¬ (!(look v.map k).isSome)=true) (h:¬ ((look v.map k).getD JV.fg).kind≠kind):hA v k kind=(look v.map k).getD JV.fg:=by
 cases cb:look v.map k with
 | none=>rw [cb] at h1;exact absurd rfl h1
 | some x=>rw [cb] at h;exact hl cb (Classical.not_not.1 h)
theorem u9 {A:List Nat} {w:World}:ao A w JV.neg.D [.int .i64 (-1),.bool false,.int .i64 0,S [],.slice none 0 0,.slice none 0 0]:=JV.bX (v:=JV.neg) (al:=none) (am:=none) (cl:=0) (cm:=0) bq.eh bq.eh
theorem Zb (A:List Nat) (w0 w:World) (Oa:Mod [] w0 w) (v:JV) (us:List Value) (aBn:ao A w0 v.D us) (k:ab) (kind:Int):Calls aR 48 [.agg us.toArray,S k,.int .i64 kind].toArray w (bH fun u w'=>∃ ga,u = .agg ga.toArray∧ao A w0 (hA v k kind).D ga∧Mod [] w w'):=by
 refine iZ Tryz.func48 rfl fun E=>?_;obtain⟨al,cl,am,cm,rfl,k3,j3⟩:=JV.aU aBn;refine aa fun a6=>eY rfl rfl rfl fun g1 aJ bZ=>?_;have aY:=bZ.le E;replace E:=E.then bZ.mod;have R:=bZ.ar;refine bj bA rfl fun g2 cX cz=>?_;have bJ:=cz.le E;have bl:=cz.ne R;replace R:=R.I cz.mod;replace E:=E.then cz.mod;have ag:=cz.ar;refine J a6 (aa fun aQ=>ah (aD cd rfl) (ah (bF dM rfl (R.cell rfl)) (aO rfl (cJ (bB MR rfl) (yj A _ _ (Oa.then E) v.map _ j3 k) fun cN gr aH=>?_))));obtain⟨ada,rfl,B9,U⟩:=aH;replace R:=R.I U;replace ag:=ag.I U;replace E:=E.then U;obtain⟨auC,auD,auE,auF,rfl,aiS,aiT⟩:=JV.aU B9;replace B9:=JV.bX aiS aiT;refine aj 3 rfl (bj bA rfl fun g3 h8 dF=>?_);have df:=dF.le E;have dv:=dF.ne R;have ca:=dF.ne ag;replace R:=R.I dF.mod;replace ag:=ag.I dF.mod;replace E:=E.then dF.mod;have bd:=dF.ar;refine aK au bd rfl rfl fun iS hd=>?_;replace R:=R.ne hd.mod dv;replace ag:=ag.ne hd.mod ca;replace E:=E.own hd.mod df;replace bd:aF iS g3 _ [_,_,_,_,_,_]:=hd.ar;refine a7 rfl (J aQ (aB fun a'=>aa fun bp=>aj 2 rfl ?_));refine oM (fun fu:(!(look v.map k).isSome)=true=>?_) (fun fu=>?_)
 ·refine aj 6 rfl (J bp (az rfl (aa fun bx=>ah (bc dz bA rfl rfl) (aK au ag rfl rfl fun i' kI=>?_))));replace R:=R.ne kI.mod bl;replace bd:=bd.ne kI.mod (Ne.symm ca);replace E:=E.own kI.mod bJ;replace ag:aF i' g2 _ [_,_,_,_,_,_]:=kI.ar;exact J bx (bn (aP (gT rfl au rfl (ag.cs rfl) ⟨_,rfl,by first | (rw [KO fu];exact u9) | (rw [KP bC];exact u9),E⟩)))
 refine aO rfl (ay (aD hK rfl) (ay (bF eg rfl (bd.cell rfl)) (aj 2 rfl ?_)));refine c7 (fun bC:((look v.map k).getD JV.fg).kind≠kind=>?_) (fun bC=>?_)
 ·refine ah (hG rfl rfl rfl) (J bp (az rfl (aa fun bO=>ah (bc dz bA rfl rfl) (aK au ag rfl rfl fun iw ml=>?_))));replace R:=R.ne ml.mod bl;replace bd:=bd.ne ml.mod (Ne.symm ca);replace E:=E.own ml.mod bJ;replace ag:aF iw g2 _ [_,_,_,_,_,_]:=ml.ar;exact J bO (bn (aP (gT rfl au rfl (ag.cs rfl) ⟨_,rfl,by first | (rw [KO fu];exact u9) | (rw [KP bC];exact u9),E⟩)))
 refine ah (hG rfl rfl rfl) (J bp (aI rfl (b' (av a' (aa fun b4=>ah (br au rfl (bd.cs rfl)) (aK au ag rfl rfl fun nd lY=>?_))))));replace R:=R.ne lY.mod bl;replace bd:=bd.ne lY.mod (Ne.symm ca);replace E:=E.own lY.mod bJ;replace ag:aF nd g2 _ [_,_,_,_,_,_]:=lY.ar;exact J b4 (bn (gT rfl au rfl (ag.cs rfl) ⟨_,rfl,by rw [Za fu bC];exact B9,E⟩))
theorem mn (A:List Nat) (w0 w:World) (Oa:Mod [] w0 w) (v:JV) (us:List Value) (aBn:ao A w0 v.D us) (k:ab) (kind:Int) (y:JV) (ba:y=hA v k kind):Calls aR 48 [.agg us.toArray,S k,.int .i64 kind].toArray w (bH fun u w'=>(∃ ga,u = .agg ga.toArray∧ao A w0 y.D ga)∧Mod [] w w'):=by
 subst ba;exact Calls.imp (Zb A w0 w Oa v us aBn k kind) fun u w' h=>by
  obtain⟨ga,h1,aq,bb⟩:=h;exact⟨⟨ga,h1,aq⟩,bb⟩
theorem FB (A:List Nat) (w0 w:World) (Oa:Mod [] w0 w) (v:JV) (us:List Value) (aBn:ao A w0 v.D us) (cb:v.list.length≤1000000):Calls aR 49 [.agg us.toArray].toArray w (bH fun u w'=>Own w' 9 1 u v.list.length ((v.list.map fun x=>[S x.str]).flatten)∧(∀ y∈bk u,w.heap.size≤y)∧Mod [] w w'):=by
 refine bs Tryz.func49 rfl fun E=>?_;obtain⟨al,cl,am,cm,rfl,k3,j3⟩:=JV.aU aBn;refine aa fun a6=>eY rfl rfl rfl fun g1 aJ bZ=>?_;have aY:=bZ.le E;replace E:=E.then bZ.mod;have R:=bZ.ar;refine a7 rfl (J a6 (aa fun aQ=>a7 rfl (J aQ (aB fun a'=>aa fun bp=>ah (aD gU rfl) (ah (bF j8 rfl (R.cell rfl)) (ah (bY hJ rfl) (aO rfl (J bp (eN (bK (σ:=Nat×Value) (fun⟨j,v5⟩=>[(3,v5),(7,.slice al v.list.length cl),(8,.int .i64 v.list.length),(9,.int .i64 (j:Int))]) (fun⟨j,v5⟩ aJ=>j≤v.list.length∧Own aJ 9 1 v5 j (((v.list.take j).map fun x=>[S x.str]).flatten)∧(∀ y∈bk v5,w.heap.size≤y)∧Mod [] w aJ) (fun⟨j,v5⟩=>v.list.length-j) (⟨0,.slice none 0 0⟩) (⟨by omega,Own.nil _ _ _,by simp [bk],E⟩) ?_))))))))));rintro⟨j,v5⟩ cX ⟨eD,fB,yg,E⟩;refine aa fun bx=>ah (cT rfl rfl) (J bx (aB fun bO=>?_));refine aX rfl (fun jP=>?_) (fun jP=>?_);rotate_left
 ·have Nl:j=v.list.length:=by omega
  subst Nl;exact bL (aP (aP (ch (av a' (aa fun cy=>aj 2 rfl (J cy (bn (aG rfl rfl ⟨fB.same rfl (by rw [List.take_length]),yg,E⟩))))))))
 obtain⟨x,bS⟩:∃ x,v.list[j]? = some x:=⟨_,List.getElem?_eq_getElem (by omega)⟩;obtain⟨kJ,lz,dW,eJ,cA⟩:=JV.zp (k3.b1 (Oa.then E)) bS;obtain⟨j9,j',jf,ik,rfl,lA,mD⟩:=JV.aU eJ;obtain rfl:=dW;have ti:=JV.qk k3;have nK:v.list.take (j+1)=v.list.take j ++ [x]:=by rw [List.take_succ_eq_append_getElem (by omega),(List.getElem?_eq_some_iff.1 bS).2]
 refine b' (av bO (aB fun b4=>eN (aa fun cw=>ah (c8 kt rfl rfl (by omega)) (ah (fb au rfl rfl cA) (bj bA rfl fun g2 gr cz=>?_)))));have bJ:=cz.le E;have Pe:=cz.bU fB;replace E:=E.then cz.mod;replace fB:=fB.I cz.mod;have ag:=cz.ar;refine aK au ag rfl rfl fun h8 j0=>?_;replace E:=E.own j0.mod bJ;replace fB:=fB.put j0.mod Pe;replace ag:aF h8 g2 _ [_,_,_,_,_,_]:=j0.ar;refine J cw (b5 (aO rfl (ah (aD je rfl) (ah (bF b2 rfl (ag.cell rfl)) (dm l4 Ji rfl rfl fun g3 iS dF=>?_)))));have df:=dF.le E;have ca:=dF.ne ag;have adt:=dF.bU fB;replace ag:=ag.I dF.mod;replace E:=E.then dF.mod;replace fB:=fB.I dF.mod;have bd:=dF.ar;refine bz l4 rfl rfl fB (Src.own hQ (Own.all (cs:=[_]) bd rfl (by omega)) (by simp [Value.oneCell'])) (by decide) (by omega) (by omega) rfl fun v1 i' ek=>?_;have fs:Own i' 9 1 v1 (j+1) (((v.list.take (j+1)).map fun x=>[S x.str]).flatten):=ek.own.same (by omega) (by rw [nK];simp);have rZ:∀ y∈bk v1,w.heap.size≤y:=fun y ba=>(ek.lH y ba).elim (yg y) (fun h=>Nat.le_trans E.size h);replace E:=E.trans' ek.mod (fun y ba=>.inr (yg y ba));exact a7 rfl (cx (bw (av b4 (b5 (ah (bt rfl rfl (by omega)) (aO rfl (cx (aw (σ:=Nat×Value) (s:=⟨j,v5⟩) (⟨j+1,v1⟩) ⟨by omega,fs,rZ,E⟩))))))))
set_option maxRecDepth 10000
def pv:=eW Tryz.func48
def Zc:=eW Tryz.func49
def ai4:=eW Tryz.func50
def ai5:=eW Tryz.func51
theorem rv {v:JV} (h:v.o'≤65536) (k:ab) (kind:Int):(hA v k kind).o'≤65536:=by
 have cu:JV.neg.o'≤65536:=by rw [JV.hE];simp [JV.neg,JV.str,JV.list,JV.map,JV.sA,JV.lv]
 cases cb:look v.map k with
 | none=>rw [u7 cb];exact cu
 | some x=>
  by_cases hk:x.kind=kind
  ·rw [hl cb hk];have h1:=JV.o2 (eG cb);have aq:=JV.hE v;simp only at h1;omega
  rw [y' cb hk];exact cu
theorem kE {v:JV} (h:v.o'≤65536) (k:ab) (kind:Int):(hA v k kind).list.length≤65536∧(hA v k kind).map.length≤65536∧(hA v k kind).str.length≤65536:=by
 have h1:=rv h k kind;have aq:=JV.hE (hA v k kind);have bb:=JV.sB (hA v k kind).list;have bP:=JV.o3 (hA v k kind).map;omega
theorem Sm {v:JV} (h:v.o'≤65536):(ki v).Yp:=by
 have dY:=JV.hE (hA v fS 5);have h1:=rv h fS 5;have bb:=(oi (hA v fS 5).map).1;have Gv:=(kE h eH 4).1;have e6:=(kE h eL 4).1;refine⟨Nat.le_trans (show(bG (hA v fS 5).map).length≤65536 by omega) (by decide),Nat.le_trans (show((hA v eH 4).list.map JV.str).length≤65536 by rw [List.length_map];exact Gv) (by decide),Nat.le_trans (show((hA v eL 4).list.map JV.str).length≤65536 by rw [List.length_map];exact e6) (by decide)⟩
theorem Zd {v:JV} (h:v.o'≤65536):(ki v).ok:=by
 have b:∀ n:Nat,n≤65536→n≤140737488351232:=fun n cu=>by omega
 have dY:=JV.hE (hA v fS 5);have h1:=rv h fS 5;obtain⟨bb,aq⟩:=oi (hA v fS 5).map;obtain⟨Gv,HS⟩:=sC _ (rv h eH 4);obtain⟨e6,a2⟩:=sC _ (rv h eL 4);exact⟨b _ (kE h _ _).2.2,b _ (kE h _ _).2.2,b _ (kE h _ _).2.2,b _ (kE h _ _).2.2,JV.Ht _ _ (Nat.le_refl _) (rv h _ _),fun s bh=>b _ (HS s bh),b _ Gv,fun s bh=>b _ (a2 s bh),b _ e6,b _ (kE (rv h _ _) _ _).2.2,fun s bh=>by obtain⟨nc,po,sZ⟩:=aq s bh;exact⟨b _ (by omega),b _ (by omega),b _ (by omega)⟩,b _ (show(bG (hA v fS 5).map).length≤65536 by omega)⟩
/-- what the document's reading hands back -/
noncomputable def KN (v:JV):EV:=if EV.ru v=0 then ki v else EV.fg
theorem A1 {v:JV} (h:EV.ru v≠0):KN v=EV.fg:=ak h
theorem Ze {v:JV} (h:EV.ru v=0):KN v=ki v:=aL h
theorem Yy (A:List Nat) (w:World) (v:JV) (us:List Value) (aBn:ao A w v.D us) (dy:∀ a∈A,a<w.heap.size) (kp:pd w):Calls aR 21 [.agg us.toArray].toArray w (bH fun u w'=>∃ ga,u = .tuple #[.agg ga.toArray,.int .i64 (EV.ru v)]∧ao A w' (KN v).D ga∧Mod [] w w'):=by
 refine bs Tryz.func21 rfl fun E=>?_;obtain⟨al,cl,am,cm,rfl,k3,j3⟩:=JV.aU aBn;have aBn:=JV.bX k3 j3;obtain⟨afD,aoq⟩:∃ y,y=hA v hD 3:=⟨_,rfl⟩;obtain⟨afE,aor⟩:∃ y,y=hA v e2 3:=⟨_,rfl⟩;obtain⟨afF,aos⟩:∃ y,y=hA v ih 3:=⟨_,rfl⟩;obtain⟨Ec,aot⟩:∃ y,y=hA v fZ 5:=⟨_,rfl⟩;obtain⟨HY,ai6⟩:∃ y,y=hA v eH 4:=⟨_,rfl⟩;obtain⟨HZ,ai7⟩:∃ y,y=hA v eL 4:=⟨_,rfl⟩;obtain⟨aky,aou⟩:∃ y,y=hA v gG 2:=⟨_,rfl⟩;obtain⟨akz,aov⟩:∃ y,y=hA v lE 2:=⟨_,rfl⟩;obtain⟨auG,aow⟩:∃ y,y=hA v e1 5:=⟨_,rfl⟩;obtain⟨akA,aox⟩:∃ y,y=hA auG hR 3:=⟨_,rfl⟩;obtain⟨Zf,aoy⟩:∃ y,y=hA v dL 3:=⟨_,rfl⟩;obtain⟨A2,adO⟩:∃ y,y=hA v fS 5:=⟨_,rfl⟩;have aoz:ki v=⟨afD.str,afE.str,afF.str,decide (Zf.kind=3),Zf.str,Ec,HY.list.map JV.str,HZ.list.map JV.str,aky.num,akz.num,akA.str,bG A2.map⟩:=by subst aox aoq aor aos aot ai6 ai7 aou aov aow aoy adO;rfl
 refine aa fun a6=>eY rfl rfl rfl fun g1 aJ bZ=>?_;have aY:=bZ.le E;replace E:=E.then bZ.mod;have R:=bZ.ar;refine bj kh rfl fun g2 cX cz=>?_;have bJ:=cz.le E;have bl:=cz.ne R;replace R:=R.I cz.mod;replace E:=E.then cz.mod;have ag:=cz.ar;refine a7 rfl (J a6 (aa fun aQ=>ah (br au rfl (R.cs rfl)) (cG E (bB Zg rfl) (Ey _ v _ ((aBn.eu (by simp)).b1 E) (kp.mod E (by simp))) fun gr U E=>?_)));replace R:=R.I U;replace ag:=ag.I U;refine aj 5 rfl (J aQ (aB fun a'=>aa fun bp=>aj 2 rfl ?_));refine c7 (fun oN:gz (v.wr 0 [])≠0=>?_) (fun oN=>?_)
 ·refine aj 5 rfl (J bp (az rfl ?_));have jA:EV.ru v=21:=aL (by first | exact .inl oN | exact .inr pg);refine aa fun bx=>ah (fq qF kh rfl rfl) (ed eK ag rfl rfl fun h8 j0=>?_);replace R:=R.ne j0.mod bl;replace E:=E.own j0.mod bJ;replace ag:aF h8 g2 _ [_,_,_,_,_,_,_,_,_,_,_,_,_,_,_,_,_]:=j0.ar;exact a7 rfl (J bx (bn (aP (gL rfl eK rfl (ag.cs rfl) rfl ⟨_,by rw [jA],by rw [A1 (by rw [jA];decide)];exact EV.b3,E⟩))))
 refine aO rfl (ay (aD hK rfl) (ay (bF eg rfl (R.cell rfl)) (ay (fO rfl rfl) ?_)));refine c7 (fun pg:v.kind≠5=>?_) (fun pg=>?_)
 ·refine ah (hG rfl rfl rfl) (J bp (az rfl ?_));have jA:EV.ru v=21:=aL (by first | exact .inl oN | exact .inr pg);refine aa fun bO=>ah (fq qF kh rfl rfl) (ed eK ag rfl rfl fun iS hd=>?_);replace R:=R.ne hd.mod bl;replace E:=E.own hd.mod bJ;replace ag:aF iS g2 _ [_,_,_,_,_,_,_,_,_,_,_,_,_,_,_,_,_]:=hd.ar;exact a7 rfl (J bO (bn (aP (gL rfl eK rfl (ag.cs rfl) rfl ⟨_,by rw [jA],by rw [A1 (by rw [jA];decide)];exact EV.b3,E⟩))))
 refine ah (hG rfl rfl rfl) (J bp (aI rfl ?_));obtain⟨t,DZ⟩:=iP (Classical.not_not.1 oN);have Ax:=JV.CS DZ;have ky:=Sm Ax;have yJ:=Zd Ax;have adP:HY.list.length≤65536:=by rw [ai6];exact(kE Ax _ _).1
 have adQ:HZ.list.length≤65536:=by rw [ai7];exact(kE Ax _ _).1
 have aui:A2.map.length≤65536:=by rw [adO];exact(kE Ax _ _).2.1
 have vb:(bG A2.map).length≤65536:=by
  have h1:=(oi A2.map).1;have aq:=rv Ax fS 5;have bb:=JV.hE (hA v fS 5);rw [← adO] at aq bb;omega
 have Np:¬ (gz (v.wr 0 [])≠0∨v.kind≠5):=fun h=>h.elim oN pg;refine b' (av a' (aB fun b4=>ks [] [0,1,2,3,4,5,6,7,8,9,10] 11 [] wide (by kernel_rfl) (fun _ _ _ h=>h.2) (jG (ax (fun U=>(br au rfl ((R.I U).cs rfl))) (Av (fun u db=>∃ us:List Value,u=Value.agg us.toArray∧ao A w afD.D us) (fun cN nM jX kr aH=>aH) (fun db U=>bB pv rfl) (fun db U=>mn A w _ (E.then U) v _ aBn hD 3 afD aoq) rfl rfl rfl ?_)))));refine ai3 (v:=S afD.str) 26 rfl rfl ⟨_,by simp [Op.operands],rfl⟩ (fun db xp U aH=>by
  obtain⟨hz,rfl,nD⟩:=aH;obtain⟨_,_,_,_,rfl,_,_⟩:=JV.aU nD;exact lR nz rfl rfl) rfl rfl ?_
 refine ax (fun U=>(br au rfl ((R.I U).cs rfl))) (Av (fun u db=>∃ us:List Value,u=Value.agg us.toArray∧ao A w afE.D us) (fun cN nM jX kr aH=>aH) (fun db U=>bB pv rfl) (fun db U=>mn A w _ (E.then U) v _ aBn e2 3 afE aor) rfl rfl rfl ?_);refine ai3 (v:=S afE.str) 29 rfl rfl ⟨_,by simp [Op.operands],rfl⟩ (fun db xp U aH=>by
  obtain⟨hz,rfl,nD⟩:=aH;obtain⟨_,_,_,_,rfl,_,_⟩:=JV.aU nD;exact lR nz rfl rfl) rfl rfl ?_
 refine ax (fun U=>(br au rfl ((R.I U).cs rfl))) (Av (fun u db=>∃ us:List Value,u=Value.agg us.toArray∧ao A w afF.D us) (fun cN nM jX kr aH=>aH) (fun db U=>bB pv rfl) (fun db U=>mn A w _ (E.then U) v _ aBn ih 3 afF aos) rfl rfl rfl ?_);refine ai3 (v:=S afF.str) 32 rfl rfl ⟨_,by simp [Op.operands],rfl⟩ (fun db xp U aH=>by
  obtain⟨hz,rfl,nD⟩:=aH;obtain⟨_,_,_,_,rfl,_,_⟩:=JV.aU nD;exact lR nz rfl rfl) rfl rfl ?_
 refine ax (fun U=>(fq qF kh rfl rfl)) (Ke kh rfl rfl (mN (t:=6) rfl rfl rfl rfl fun i' v6 U auH=>?_));obtain⟨Ay,rfl,auI,aoA⟩:=auH;have rP:Ay≠g1:=fun h=>by have:=R.lt;omega
 have oj:Ay≠g2:=fun h=>by have:=ag.lt;omega
 have rQ:w.heap.size≤Ay:=Nat.le_trans E.size auI;replace R:=R.I U;replace ag:=ag.I U;replace E:=E.then U;have ez:=aoA;refine ed eK ez rfl rfl fun iw ml=>?_;replace R:=R.ne ml.mod (Ne.symm rP);replace ag:=ag.ne ml.mod (Ne.symm oj);replace E:=E.own ml.mod rQ;replace ez:aF iw Ay _ [_,_,_,_,_,_,_,_,_,_,_,_,_,_,_,_,_]:=ml.ar;refine J b4 (aa fun cw=>ah (br au rfl (R.cs rfl)) (cJ (bB pv rfl) (mn A w _ E v _ aBn fZ 5 Ec aot) fun cN nd aH=>?_));obtain⟨⟨axY,rfl,zT⟩,U⟩:=aH;replace R:=R.I U;replace ag:=ag.I U;replace ez:=ez.I U;replace E:=E.then U;obtain⟨Zh,Zi,Zj,Zk,rfl,aoB,aoC⟩:=JV.aU zT;have auJ:=JV.bX aoB aoC;clear zT;refine ah (aD oA rfl) (aK au ez rfl rfl fun lF lW=>?_);replace R:=R.ne lW.mod (Ne.symm rP);replace ag:=ag.ne lW.mod (Ne.symm oj);replace E:=E.own lW.mod rQ;replace ez:aF lF Ay _ [_,_,_,_,_,_,_,_,_,_,_,_,_,_,_,_,_]:=lW.ar;refine J cw (aa fun cy=>ah (br au rfl (R.cs rfl)) (cJ (bB pv rfl) (mn A w _ E v _ aBn eH 4 HY ai6) fun cN h2 aH=>?_));obtain⟨⟨axZ,rfl,zT⟩,U⟩:=aH;replace R:=R.I U;replace ag:=ag.I U;replace ez:=ez.I U;replace E:=E.then U;obtain⟨ax0,ax1,ax2,ax3,rfl,aoD,aoE⟩:=JV.aU zT;have auK:=JV.bX aoD aoE;clear zT;have Ba:=R.lt;have Bb:=ag.lt;have aoF:=ez.lt;have ai8:=E.size;refine cJ (bB Zc rfl) (FB A w _ E HY _ auK (by have:=adP;omega)) fun cN jJ aH=>?_;obtain⟨fr,adR,U⟩:=aH;replace R:=R.I U;replace ag:=ag.I U;replace ez:=ez.I U;replace E:=E.then U;obtain⟨xQ,Hu,rfl,auL,auM⟩:=fr.form;have aoG:∀ x∈bk (.slice xQ HY.list.length Hu),w.heap.size≤x:=fun x ae=>Nat.le_trans ai8 (adR x ae);have ax4:∀ x∈bk (.slice xQ HY.list.length Hu),x≠g1:=fun x ae e=>by have h1:=adR x ae;omega
 have Pq:∀ x∈bk (.slice xQ HY.list.length Hu),x≠g2:=fun x ae e=>by have h1:=adR x ae;omega
 have zU:∀ x∈bk (.slice xQ HY.list.length Hu),x≠Ay:=fun x ae e=>by have h1:=adR x ae;omega
 refine ah (aD pP rfl) (cL nR ez rfl rfl fun mo l0=>?_);replace R:=R.ne l0.mod (Ne.symm rP);replace ag:=ag.ne l0.mod (Ne.symm oj);replace E:=E.own l0.mod rQ;replace fr:=fr.put l0.mod zU;replace ez:aF mo Ay _ [_,_,_,_,_,_,_,_,_,_,_,_,_,_,_,_,_]:=l0.ar;refine J cy (aa fun b6=>ah (br au rfl (R.cs rfl)) (cJ (bB pv rfl) (mn A w _ E v _ aBn eL 4 HZ ai7) fun cN mT aH=>?_));obtain⟨⟨ax5,rfl,zT⟩,U⟩:=aH;replace R:=R.I U;replace ag:=ag.I U;replace ez:=ez.I U;replace E:=E.then U;replace fr:=fr.I U;obtain⟨ax6,ax7,ax8,ax9,rfl,aoH,aoI⟩:=JV.aU zT;have auN:=JV.bX aoH aoI;clear zT;have Ba:=R.lt;have Bb:=ag.lt;have aoF:=ez.lt;have ai8:=E.size;refine cJ (bB Zc rfl) (FB A w _ E HZ _ auN (by have:=adQ;omega)) fun cN lK aH=>?_;obtain⟨f',adS,U⟩:=aH;replace R:=R.I U;replace ag:=ag.I U;replace ez:=ez.I U;replace E:=E.then U;replace fr:=fr.I U;obtain⟨xR,Hv,rfl,auO,auP⟩:=f'.form;have aoJ:∀ x∈bk (.slice xR HZ.list.length Hv),w.heap.size≤x:=fun x ae=>Nat.le_trans ai8 (adS x ae);have ax':∀ x∈bk (.slice xR HZ.list.length Hv),x≠g1:=fun x ae e=>by have h1:=adS x ae;omega
 have Pr:∀ x∈bk (.slice xR HZ.list.length Hv),x≠g2:=fun x ae e=>by have h1:=adS x ae;omega
 have C0:∀ x∈bk (.slice xR HZ.list.length Hv),x≠Ay:=fun x ae e=>by have h1:=adS x ae;omega
 refine ah (aD pQ rfl) (cL nR ez rfl rfl fun nj qx=>?_);replace R:=R.ne qx.mod (Ne.symm rP);replace ag:=ag.ne qx.mod (Ne.symm oj);replace E:=E.own qx.mod rQ;replace fr:=fr.put qx.mod zU;replace f':=f'.put qx.mod C0;replace ez:aF nj Ay _ [_,_,_,_,_,_,_,_,_,_,_,_,_,_,_,_,_]:=qx.ar;refine J b6 (aa fun bR=>ah (br au rfl (R.cs rfl)) (cJ (bB pv rfl) (mn A w _ E v _ aBn gG 2 aky aou) fun cN pJ aH=>?_));obtain⟨⟨aya,rfl,zT⟩,U⟩:=aH;replace R:=R.I U;replace ag:=ag.I U;replace ez:=ez.I U;replace E:=E.then U;replace fr:=fr.I U;replace f':=f'.I U;obtain⟨ayb,ayc,ayd,aye,rfl,aoK,aoL⟩:=JV.aU zT;have az7:=JV.bX aoK aoL;clear zT;refine ah ((lR xL rfl rfl)) (ah (aD p0 rfl) (cL eg ez rfl rfl fun qT nN=>?_));replace R:=R.ne nN.mod (Ne.symm rP);replace ag:=ag.ne nN.mod (Ne.symm oj);replace E:=E.own nN.mod rQ;replace fr:=fr.put nN.mod zU;replace f':=f'.put nN.mod C0;replace ez:aF qT Ay _ [_,_,_,_,_,_,_,_,_,_,_,_,_,_,_,_,_]:=nN.ar;refine J bR (aa fun cv=>ah (br au rfl (R.cs rfl)) (cJ (bB pv rfl) (mn A w _ E v _ aBn lE 2 akz aov) fun cN qU aH=>?_));obtain⟨⟨ayf,rfl,zT⟩,U⟩:=aH;replace R:=R.I U;replace ag:=ag.I U;replace ez:=ez.I U;replace E:=E.then U;replace fr:=fr.I U;replace f':=f'.I U;obtain⟨ayg,ayh,ayi,ayj,rfl,aoM,aoN⟩:=JV.aU zT;have az8:=JV.bX aoM aoN;clear zT;refine ah ((lR xL rfl rfl)) (ah (aD p1 rfl) (cL eg ez rfl rfl fun qV mY=>?_));replace R:=R.ne mY.mod (Ne.symm rP);replace ag:=ag.ne mY.mod (Ne.symm oj);replace E:=E.own mY.mod rQ;replace fr:=fr.put mY.mod zU;replace f':=f'.put mY.mod C0;replace ez:aF qV Ay _ [_,_,_,_,_,_,_,_,_,_,_,_,_,_,_,_,_]:=mY.ar;refine J cv (aa fun bV=>ah (br au rfl (R.cs rfl)) (cJ (bB pv rfl) (mn A w _ E v _ aBn e1 5 auG aow) fun cN pK aH=>?_));obtain⟨⟨ayk,rfl,zT⟩,U⟩:=aH;replace R:=R.I U;replace ag:=ag.I U;replace ez:=ez.I U;replace E:=E.then U;replace fr:=fr.I U;replace f':=f'.I U;obtain⟨ayl,aym,ayn,ayo,rfl,aoO,aoP⟩:=JV.aU zT;have auQ:=JV.bX aoO aoP;clear zT;refine cJ (bB pv rfl) (mn A w _ E auG _ auQ hR 3 akA aox) fun cN ts aH=>?_;obtain⟨⟨ayp,rfl,zT⟩,U⟩:=aH;replace R:=R.I U;replace ag:=ag.I U;replace ez:=ez.I U;replace E:=E.then U;replace fr:=fr.I U;replace f':=f'.I U;obtain⟨ayq,ayr,ays,ayt,rfl,aoQ,aoR⟩:=JV.aU zT;have az9:=JV.bX aoQ aoR;clear zT;refine ah ((lR nz rfl rfl)) (ah (aD nm rfl) (cL b2 ez rfl rfl fun sJ s5=>?_));replace R:=R.ne s5.mod (Ne.symm rP);replace ag:=ag.ne s5.mod (Ne.symm oj);replace E:=E.own s5.mod rQ;replace fr:=fr.put s5.mod zU;replace f':=f'.put s5.mod C0;replace ez:aF sJ Ay _ [_,_,_,_,_,_,_,_,_,_,_,_,_,_,_,_,_]:=s5.ar;refine J bV (aa fun cE=>ah (br au rfl (R.cs rfl)) (cJ (bB pv rfl) (mn A w _ E v _ aBn dL 3 Zf aoy) fun cN tP aH=>?_));obtain⟨⟨ayu,rfl,zT⟩,U⟩:=aH;replace R:=R.I U;replace ag:=ag.I U;replace ez:=ez.I U;replace E:=E.then U;replace fr:=fr.I U;replace f':=f'.I U;obtain⟨ayv,ayw,ayx,ayy,rfl,aoS,aoT⟩:=JV.aU zT;have az':=JV.bX aoS aoT;clear zT;refine bj bA rfl fun g3 ve dF=>?_;have df:=dF.le E;have dv:=dF.ne R;have ca:=dF.ne ag;have Hw:=dF.ne ez;have adT:=dF.bU fr;have adU:=dF.bU f';replace R:=R.I dF.mod;replace ag:=ag.I dF.mod;replace ez:=ez.I dF.mod;replace E:=E.then dF.mod;replace fr:=fr.I dF.mod;replace f':=f'.I dF.mod;have bd:=dF.ar;refine aK au bd rfl rfl fun DC Ny=>?_;replace R:=R.ne Ny.mod dv;replace ag:=ag.ne Ny.mod ca;replace ez:=ez.ne Ny.mod Hw;replace E:=E.own Ny.mod df;replace fr:=fr.put Ny.mod adT;replace f':=f'.put Ny.mod adU;replace bd:aF DC g3 _ [_,_,_,_,_,_]:=Ny.ar;refine J cE (aa fun cI=>ah (aD hK rfl) (ah (bF eg rfl (bd.cell rfl)) (ah (k1 rfl rfl) (ah (aD rr rfl) (cL kV ez rfl rfl fun vT mZ=>?_)))));replace R:=R.ne mZ.mod (Ne.symm rP);replace ag:=ag.ne mZ.mod (Ne.symm oj);replace bd:=bd.ne mZ.mod (Ne.symm Hw);replace E:=E.own mZ.mod rQ;replace fr:=fr.put mZ.mod zU;replace f':=f'.put mZ.mod C0;replace ez:aF vT Ay _ [_,_,_,_,_,_,_,_,_,_,_,_,_,_,_,_,_]:=mZ.ar;refine J cI (aa fun dr=>ah (aD je rfl) (ah (bF b2 rfl (bd.cell rfl)) (ah (aD oz rfl) (cL b2 ez rfl rfl fun DD DQ=>?_))));replace R:=R.ne DQ.mod (Ne.symm rP);replace ag:=ag.ne DQ.mod (Ne.symm oj);replace bd:=bd.ne DQ.mod (Ne.symm Hw);replace E:=E.own DQ.mod rQ;replace fr:=fr.put DQ.mod zU;replace f':=f'.put DQ.mod C0;replace ez:aF DD Ay _ [_,_,_,_,_,_,_,_,_,_,_,_,_,_,_,_,_]:=DQ.ar;refine J dr (aB fun ec=>aa fun dG=>ah (br au rfl (R.cs rfl)) (cJ (bB pv rfl) (mn A w _ E v _ aBn fS 5 A2 adO) fun cN ys aH=>?_));obtain⟨⟨ayz,rfl,zT⟩,U⟩:=aH;replace R:=R.I U;replace ag:=ag.I U;replace ez:=ez.I U;replace bd:=bd.I U;replace E:=E.then U;replace fr:=fr.I U;replace f':=f'.I U;obtain⟨ayA,ayB,aoU,afG,rfl,aoV,afH⟩:=JV.aU zT;have aAa:=JV.bX aoV afH;clear zT;refine ah ((lR Kk rfl rfl)) (ah (bY cO rfl) (aO rfl ?_));obtain⟨HX,aoW⟩:∃ x,x=ys:=⟨_,rfl⟩;subst aoW;have F:=Mod.refl [Ay] HX;have Nq:=E.size;have aAb:=R.lt;have aAc:=ag.lt;have aAd:=ez.lt;have auR:=fr.lt;have auS:=f'.lt;refine J dG (eN (bK (σ:=Nat×Value) (fun⟨i,vs⟩=>[(1,.pointer (some ⟨g1,0,none⟩)),(2,.pointer (some ⟨g2,0,none⟩)),(3,.int .i64 0),(6,.pointer (some ⟨Ay,0,none⟩)),(70,.slice aoU A2.map.length afG),(71,.int .i64 A2.map.length),(72,.int .i64 (i:Int))]) (fun⟨i,vs⟩ aJ=>i≤A2.map.length∧Own aJ 86 3 vs (bG (A2.map.take i)).length (((bG (A2.map.take i)).map ei.cells).flatten)∧(∀ y∈bk vs,HX.heap.size≤y)∧Own aJ 9 1 (.slice xQ HY.list.length Hu) HY.list.length ((HY.list.map fun x=>[S x.str]).flatten)∧Own aJ 9 1 (.slice xR HZ.list.length Hv) HZ.list.length ((HZ.list.map fun x=>[S x.str]).flatten)∧aF aJ Ay 46 [S afD.str,S afE.str,S afF.str,.bool (decide (Zf.kind=3)),S Zf.str,.int .i64 Ec.kind,.bool Ec.is,.int .i64 Ec.num,S Ec.str,.slice Zh Ec.list.length Zi,.slice Zj Ec.map.length Zk,.slice xQ HY.list.length Hu,.slice xR HZ.list.length Hv,.int .i64 aky.num,.int .i64 akz.num,S akA.str,vs]∧aF aJ g2 46 [S [],S [],S [],.bool false,S [],.int .i64 0,.bool false,.int .i64 0,S [],.slice none 0 0,.slice none 0 0,.slice none 0 0,.slice none 0 0,.int .i64 0,.int .i64 0,S [],.slice none 0 0]∧aF aJ g1 25 [.int .i64 v.kind,.bool v.is,.int .i64 v.num,S v.str,.slice al v.list.length cl,.slice am v.map.length cm]∧Mod [Ay] HX aJ∧Mod [] w aJ) (fun⟨i,vs⟩=>A2.map.length-i) (⟨0,.slice none 0 0⟩) (⟨by omega,Own.nil _ _ _,by simp [bk],fr,f',ez,ag,R,F,E⟩) ?_));rintro⟨i,vs⟩ Bz ⟨hi,fB,q4,fr,f',ez,ag,R,F,E⟩;have aoX:∀ y∈bk vs,y≠g1:=fun y ba e=>by have:=q4 y ba;omega
 have vq:∀ y∈bk vs,y≠g2:=fun y ba e=>by have:=q4 y ba;omega
 have CU:∀ y∈bk vs,y≠Ay:=fun y ba e=>by have:=q4 y ba;omega
 have ai9:∀ y∈bk vs,w.heap.size≤y:=fun y ba=>Nat.le_trans Nq (q4 y ba);refine aa fun eV=>ah (cT rfl rfl) (J eV (aB fun eO=>?_));refine aX rfl (fun Zl=>?_) (fun Zl=>?_);rotate_left
 ·have air:i=A2.map.length:=by omega
  subst air;rw [List.take_length] at fB;obtain⟨R',akw,rfl,Yb,Yc⟩:=fB.form;have aoZ:∀ a∈g2::A,a∈A∨w.heap.size≤a:=fun a aE=>by rcases cB aE with rfl | aE;exact .inr bJ;exact .inl aE
  have ai':∀ (u:Value),(∀ x∈bk u,w.heap.size≤x)→(∀ x∈bk u,x≠g2)→∀ x∈bk u,x∉g2::A:=fun u h1 aq x ae aE=>by rcases cB aE with e | aE;exact aq x ae e;have:=dy x aE;have:=h1 x ae;omega
  have RE:ao (g2::A) Bz (ki v).D [S afD.str,S afE.str,S afF.str,.bool (decide (Zf.kind=3)),S Zf.str,.int .i64 Ec.kind,.bool Ec.is,.int .i64 Ec.num,S Ec.str,.slice Zh Ec.list.length Zi,.slice Zj Ec.map.length Zk,.slice xQ HY.list.length Hu,.slice xR HZ.list.length Hv,.int .i64 aky.num,.int .i64 akz.num,S akA.str,.slice R' (bG A2.map).length akw]:=by
   rw [aoz];exact EV.bX (e:=⟨afD.str,afE.str,afF.str,decide (Zf.kind=3),Zf.str,Ec,HY.list.map JV.str,HZ.list.map JV.str,aky.num,akz.num,akA.str,bG A2.map⟩) ((auJ.more aoZ).b1 E) (Own.strs (g2::A) (fr.same (by simp) (by simp [Function.comp_def])) (ai' _ aoG Pq)) (Own.strs (g2::A) (f'.same (by simp) (by simp [Function.comp_def])) (ai' _ aoJ Pr)) (Own.flat (A:=g2::A) fB (fun _ _=>rfl) (fun x _ c aZ=>by simp [ei.cells] at aZ;rcases aZ with rfl | rfl | rfl <;> rfl) rfl (ai' _ ai9 vq))
  have aja:=Mod.refl [] Bz;refine bL (aP (aP (ch (av ec (aB fun gY=>aB fun iB=>cn wide (by kernel_rfl) (ax (fun U=>(jb eK rfl ((ez.I U).cs rfl))) (Av (fun u db=>∃ us,u = .agg us.toArray∧ao [] db ((ki v).val).D us) (fun cN nM jX kr aH=>by obtain⟨hz,o7,nD⟩:=aH;exact⟨hz,o7,nD.b1 kr⟩) (fun db U=>bB ai4 rfl) (fun db U=>Calls.imp (Nz [] _ (by simp) (ki v) _ ((RE.eu (by simp)).b1 (aja.then U)) ky.1 ky.2.1 ky.2.2) fun nD jX aiW=>by obtain⟨hz,o7,rR,kr⟩:=aiW;exact⟨⟨hz,o7,rR⟩,kr⟩) rfl rfl rfl (ax (fun U=>(br au rfl ((R.I U).cs rfl))) ?_))))))));refine as2 (args:=fun xp=>[xp,_].toArray) (v:=.bool (JV.pG (ki v).val v)) 100 rfl rfl ⟨_,List.Mem.tail _ (List.Mem.head _),rfl⟩ (fun db xp U aH=>bB F1 rfl) (fun db xp U aH=>by
   obtain⟨hz,rfl,nD⟩:=aH;exact N' _ (ki v).val v _ _ nD ((aBn.eu (by simp)).b1 (E.then U))) rfl rfl ?_
  refine ax (fun U=>(fC rfl)) (cq rfl fun Uc U=>?_);replace R:=R.I U;replace ag:=ag.I U;replace ez:=ez.I U;replace E:=E.then U;replace aja:=aja.then U;replace fr:=fr.I U;replace f':=f'.I U;replace fB:=fB.I U;refine av iB ?_;refine a1 rfl (fun Zm=>?_) (fun Zm=>?_)
  ·have jA:EV.ru v=21:=by unfold EV.ru;rw [ak Np,aL (by simpa using Zm)]
   refine aa fun jR=>ah (fq qF kh rfl rfl) (ed eK ag rfl rfl fun Ma rN=>?_);replace R:=R.ne rN.mod bl;replace ez:=ez.ne rN.mod oj;replace E:=E.own rN.mod bJ;replace fr:=fr.put rN.mod Pq;replace f':=f'.put rN.mod Pr;replace fB:=fB.put rN.mod vq;replace ag:aF Ma g2 _ [_,_,_,_,_,_,_,_,_,_,_,_,_,_,_,_,_]:=rN.ar;exact a7 rfl (J jR (bn (aP (gL rfl eK rfl (ag.cs rfl) rfl ⟨_,by rw [jA],by rw [A1 (by rw [jA];decide)];exact EV.b3,E⟩))))
  have KA:EV.ru v=(ki v).q5:=by unfold EV.ru;rw [ak Np,ak (by simpa using Zm)]
  refine b' (av gY (aa fun l3=>ah (jb eK rfl (ez.cs rfl)) (cG E (bB ai5 rfl) (Sn _ (ki v) _ ((RE.eu (by simp)).b1 aja) yJ (kp.mod E (by simp))) fun Ud U E=>?_)));replace R:=R.I U;replace ag:=ag.I U;replace ez:=ez.I U;replace aja:=aja.then U;replace fr:=fr.I U;replace f':=f'.I U;replace fB:=fB.I U;refine a7 rfl (J l3 (aB fun kb=>aa fun k6=>aj 2 rfl (J k6 ?_)));refine aX rfl (fun Pt=>?_) (fun Pt=>?_)
  ·refine aa fun ni=>ah (fq qF kh rfl rfl) (aO rfl (ed eK ag rfl rfl fun ab9 NA=>?_));replace R:=R.ne NA.mod bl;replace ez:=ez.ne NA.mod oj;replace E:=E.own NA.mod bJ;replace fr:=fr.put NA.mod Pq;replace f':=f'.put NA.mod Pr;replace fB:=fB.put NA.mod vq;replace ag:aF ab9 g2 _ [_,_,_,_,_,_,_,_,_,_,_,_,_,_,_,_,_]:=NA.ar;exact a7 rfl (J ni (bn (aP (gL rfl eK rfl (ag.cs rfl) rfl ⟨_,by rw [KA],by rw [A1 (by rw [KA];exact Pt)];exact EV.b3,E⟩))))
  refine b' (av kb (aa fun kc=>ah (jb eK rfl (ez.cs rfl)) ?_));have ajb:=RE.b1 aja;refine ed eK ag rfl rfl fun ab' KQ=>?_;replace R:=R.ne KQ.mod bl;replace ez:=ez.ne KQ.mod oj;replace E:=E.own KQ.mod bJ;replace fr:=fr.put KQ.mod Pq;replace f':=f'.put KQ.mod Pr;replace fB:=fB.put KQ.mod vq;replace ag:aF ab' g2 _ [_,_,_,_,_,_,_,_,_,_,_,_,_,_,_,_,_]:=KQ.ar;replace ajb:=ajb.toM KQ.mod (fun a aE=>by simp [dx aE]);exact a7 rfl (J kc (bn (gL rfl eK rfl (ag.cs rfl) rfl ⟨_,by rw [KA,Classical.not_not.1 Pt],by rw [Ze (KA.trans (Classical.not_not.1 Pt))];exact ajb.eu (fun x ae=>List.mem_cons_of_mem _ ae),E⟩)))
 obtain⟨x,bS⟩:∃ y,A2.map[i]? = some y:=⟨_,List.getElem?_eq_getElem (by omega)⟩;obtain⟨kJ,lz,dW,eJ,cA⟩:=JV.kQ afH bS;obtain⟨j9,j',jf,ik,rfl,lA,lT⟩:=JV.aU eJ;obtain rfl:=dW;obtain⟨XX,anI⟩:=Kl bS;have auT:=JV.iA lT;have F6:x.2.map.length≤65536:=by
  have e8:(bG A2.map).length≤65536:=vb;omega
 refine b' (av eO (aB fun eC=>eN (aa fun eP=>ah (c8 dk rfl rfl (by omega)) (ah (fb jL rfl rfl (cA.I E)) (bj eU rfl fun g4 L7 N4=>?_)))));have oh:=N4.le F;have fQ:=N4.le E;have gb:=N4.ne R;have eR:=N4.ne ag;have Ps:=N4.ne ez;have adV:=N4.bU fr;have adW:=N4.bU f';have Hj:=N4.bU fB;replace R:=R.I N4.mod;replace ag:=ag.I N4.mod;replace ez:=ez.I N4.mod;replace F:=F.then N4.mod;replace E:=E.then N4.mod;replace fr:=fr.I N4.mod;replace f':=f'.I N4.mod;replace fB:=fB.I N4.mod;have bm:=N4.ar;refine nf jL bm rfl rfl fun Gj Hx=>?_;replace R:=R.ne Hx.mod gb;replace ag:=ag.ne Hx.mod eR;replace ez:=ez.ne Hx.mod Ps;replace F:=F.own Hx.mod oh;replace E:=E.own Hx.mod fQ;replace fr:=fr.put Hx.mod adV;replace f':=f'.put Hx.mod adW;replace fB:=fB.put Hx.mod Hj;replace bm:aF Gj g4 _ [_,_,_,_,_,_,_]:=Hx.ar;refine J eP (aa fun fw=>ah (aD iO rfl) (ah (vx cd rfl) (ah (bF dM rfl (bm.cell rfl)) (ah (bY cO rfl) (aO rfl (J fw (eN (bK (σ:=Nat×Value) (fun⟨j,vs⟩=>[(1,.pointer (some ⟨g1,0,none⟩)),(2,.pointer (some ⟨g2,0,none⟩)),(3,.int .i64 0),(6,.pointer (some ⟨Ay,0,none⟩)),(70,.slice (some kJ) A2.map.length afG),(71,.int .i64 A2.map.length),(72,.int .i64 (i:Int)),(9,.pointer (some ⟨g4,0,none⟩)),(78,.slice jf x.2.map.length ik),(79,.int .i64 x.2.map.length),(80,.int .i64 (j:Int))]) (fun⟨j,vs⟩ aJ=>(j≤x.2.map.length∧∀ y∈bk vs,y≠g4)∧Own aJ 86 3 vs ((bG (A2.map.take i)++(ey x).take j)).length ((((bG (A2.map.take i)++(ey x).take j)).map ei.cells).flatten)∧(∀ y∈bk vs,HX.heap.size≤y)∧aF aJ g4 38 [S x.1,.int .i64 x.2.kind,.bool x.2.is,.int .i64 x.2.num,S x.2.str,.slice j9 x.2.list.length j',.slice jf x.2.map.length ik]∧Own aJ 9 1 (.slice xQ HY.list.length Hu) HY.list.length ((HY.list.map fun x=>[S x.str]).flatten)∧Own aJ 9 1 (.slice xR HZ.list.length Hv) HZ.list.length ((HZ.list.map fun x=>[S x.str]).flatten)∧aF aJ Ay 46 [S afD.str,S afE.str,S afF.str,.bool (decide (Zf.kind=3)),S Zf.str,.int .i64 Ec.kind,.bool Ec.is,.int .i64 Ec.num,S Ec.str,.slice Zh Ec.list.length Zi,.slice Zj Ec.map.length Zk,.slice xQ HY.list.length Hu,.slice xR HZ.list.length Hv,.int .i64 aky.num,.int .i64 akz.num,S akA.str,vs]∧aF aJ g2 46 [S [],S [],S [],.bool false,S [],.int .i64 0,.bool false,.int .i64 0,S [],.slice none 0 0,.slice none 0 0,.slice none 0 0,.slice none 0 0,.int .i64 0,.int .i64 0,S [],.slice none 0 0]∧aF aJ g1 25 [.int .i64 v.kind,.bool v.is,.int .i64 v.num,S v.str,.slice al v.list.length cl,.slice am v.map.length cm]∧Mod [Ay] HX aJ∧Mod [] w aJ) (fun⟨j,vs⟩=>x.2.map.length-j) (⟨0,vs⟩) (⟨⟨by omega,Hj⟩,by simpa using fB,q4,bm,fr,f',ez,ag,R,F,E⟩) ?_))))))));rintro⟨j,vs⟩ T5 ⟨⟨eD,aoY⟩,fB,q4,bm,fr,f',ez,ag,R,F,E⟩;have aoX:∀ y∈bk vs,y≠g1:=fun y ba e=>by have:=q4 y ba;omega
 have vq:∀ y∈bk vs,y≠g2:=fun y ba e=>by have:=q4 y ba;omega
 have CU:∀ y∈bk vs,y≠Ay:=fun y ba e=>by have:=q4 y ba;omega
 have ai9:∀ y∈bk vs,w.heap.size≤y:=fun y ba=>Nat.le_trans Nq (q4 y ba);refine aa fun fT=>ah (cT rfl rfl) (J fT (aB fun gh=>?_));refine aX rfl (fun L4=>?_) (fun L4=>?_);rotate_left
 ·have Nl:j=x.2.map.length:=by omega
  subst Nl;rw [show(ey x).take x.2.map.length=ey x from List.take_of_length_le (by simp [ey])] at fB;exact bL (aP (aP (ch (bw (av eC (b5 (ah (bt rfl rfl (by omega)) (aO rfl (cx (aw (σ:=Nat×Value) (s:=⟨i,vs⟩) (⟨i+1,vs⟩) ⟨by omega,by rw [XX];exact fB,q4,fr,f',ez,ag,R,F,E⟩))))))))))
 obtain⟨q,jU⟩:∃ y,x.2.map[j]? = some y:=⟨_,List.getElem?_eq_getElem (by omega)⟩;obtain⟨Iw,T6,tR,L9,jw⟩:=JV.kQ lT jU;obtain⟨Oo,Oq,Ot,Ou,rfl,T7,auk⟩:=JV.aU L9;obtain rfl:=tR;have X8:=Fs jU;have anK:(ey x).length=x.2.map.length:=by simp [ey]
 have anL:((bG (A2.map.take i)++(ey x).take j)).length≤65535:=by
  have e8:(bG A2.map).length≤65536:=vb;rw [List.length_append,List.length_take];omega
 refine b' (av gh (aB fun fk=>eN (aa fun hq=>ah (c8 dk rfl rfl (by omega)) (ah (fb jL rfl rfl (jw.I E)) (bj eU rfl fun g5 L8 fJ=>?_)))));have Nr:=fJ.le F;have nT:=fJ.le E;have ng:=fJ.ne R;have ow:=fJ.ne ag;have adX:=fJ.ne ez;have ox:=fJ.ne bm;have adY:=fJ.bU fr;have adZ:=fJ.bU f';have ad0:=fJ.bU fB;replace R:=R.I fJ.mod;replace ag:=ag.I fJ.mod;replace ez:=ez.I fJ.mod;replace bm:=bm.I fJ.mod;replace F:=F.then fJ.mod;replace E:=E.then fJ.mod;replace fr:=fr.I fJ.mod;replace f':=f'.I fJ.mod;replace fB:=fB.I fJ.mod;have dS:=fJ.ar;refine nf jL dS rfl rfl fun Qd rM=>?_;replace R:=R.ne rM.mod ng;replace ag:=ag.ne rM.mod ow;replace ez:=ez.ne rM.mod adX;replace bm:=bm.ne rM.mod ox;replace F:=F.own rM.mod Nr;replace E:=E.own rM.mod nT;replace fr:=fr.put rM.mod adY;replace f':=f'.put rM.mod adZ;replace fB:=fB.put rM.mod ad0;replace dS:aF Qd g5 _ [_,_,_,_,_,_,_]:=rM.ar;refine J hq (b5 (ah (aD jj rfl) (ah (bF q' rfl (ez.cell rfl)) (ah (aD e3 rfl) (ah (bF b2 rfl (bm.cell rfl)) (ah (aD e3 rfl) (ah (bF b2 rfl (dS.cell rfl)) (ah (aD iO rfl) (ah (vx je rfl) (ah (bF b2 rfl (dS.cell rfl)) (ah (sY afs xN rfl rfl) (mM mS xN rfl rfl fun g6 L' iV=>?_))))))))))));have X9:=iV.le F;have tN:=iV.le E;have AD:=iV.ne R;have xM:=iV.ne ag;have aqK:=iV.ne ez;have Pg:=iV.ne bm;have F':=iV.ne dS;have aqL:=iV.bU fr;have aqM:=iV.bU f';have aqN:=iV.bU fB;replace R:=R.I iV.mod;replace ag:=ag.I iV.mod;replace ez:=ez.I iV.mod;replace bm:=bm.I iV.mod;replace dS:=dS.I iV.mod;replace F:=F.then iV.mod;replace E:=E.then iV.mod;replace fr:=fr.I iV.mod;replace f':=f'.I iV.mod;replace fB:=fB.I iV.mod;have jQ:=iV.ar;refine bz mS rfl rfl fB (Src.own pR (Own.all (cs:=[_,_,_]) jQ rfl (by omega)) (by simp [Value.oneCell'])) (by decide) (by omega) (by omega) rfl fun Ku IB ek=>?_;have rV:Own IB 86 3 Ku ((bG (A2.map.take i)++(ey x).take (j+1))).length ((((bG (A2.map.take i)++(ey x).take (j+1))).map ei.cells).flatten):=ek.own.same (by rw [X8];simp [Nat.add_assoc]) (by rw [X8];simp [ei.cells]);have HU:∀ y∈bk Ku,HX.heap.size≤y:=fun y ba=>(ek.lH y ba).elim (q4 y) (fun h=>Nat.le_trans F.size h);have auU:∀ y∈bk Ku,y≠g4:=fun y ba=>(ek.lH y ba).elim (aoY y) (fun h e=>by have:=bm.lt;omega);have aiq:∀ y∈bk Ku,y≠Ay:=fun y ba e=>by have:=HU y ba;omega
 replace bm:=bm.mod ek.mod (fun h=>aoY _ h rfl);replace ez:=ez.mod ek.mod (fun h=>CU _ h rfl);replace ag:=ag.mod ek.mod (fun h=>vq _ h rfl);replace R:=R.mod ek.mod (fun h=>aoX _ h rfl);replace fr:=fr.mod ek.mod (fun y ba h=>by have:=q4 y h;have:=auR y ba;omega);replace f':=f'.mod ek.mod (fun y ba h=>by have:=q4 y h;have:=auS y ba;omega);replace F:=F.trans' ek.mod (fun y ba=>.inr (q4 y ba));replace E:=E.trans' ek.mod (fun y ba=>.inr (ai9 y ba));obtain⟨R',akw,rfl,Yb,Yc⟩:=rV.form;refine ah (aD jj rfl) (cL q' ez rfl rfl fun Qe p3=>?_);replace R:=R.ne p3.mod (Ne.symm rP);replace ag:=ag.ne p3.mod (Ne.symm oj);replace bm:=bm.ne p3.mod (Ne.symm Ps);replace F:=F.trans p3.mod;replace E:=E.own p3.mod rQ;replace fr:=fr.put p3.mod zU;replace f':=f'.put p3.mod C0;replace ez:aF Qe Ay _ [_,_,_,_,_,_,_,_,_,_,_,_,_,_,_,_,_]:=p3.ar;replace rV:=rV.put p3.mod (fun y ba=>aiq y ba);exact cx (bw (av fk (b5 (ah (bt rfl rfl (by omega)) (aO rfl (cx (aw (σ:=Nat×Value) (s:=⟨j,vs⟩) (⟨j+1,_⟩) ⟨⟨by omega,auU⟩,rV,HU,bm,fr,f',ez,ag,R,F,E⟩)))))))
end Go.Proofs.YtkjgljnkocnnpaaGreatDoor.V
namespace Go.Proofs.YtkjgljnkocnnpaaGreatDoor.V
open Go
def ua:Option Nat→Int
 | none=>-1
 | some n=>n
theorem rf {s:ab} (h:s.length<6):ej s=none:=by
 unfold ej
 split
 ·rename_i r
  exact rb _ _ _ (by simp only [List.length_cons] at h;omega)
 rfl
theorem BX {s:ab} {c:UInt8} (h:s[0]? = some c) (aZ:¬ (c.toNat:Int)≠92→False):ej s=none:=by
 unfold ej
 split
 ·exfalso;injection h with h
  subst h;exact aZ (by simp)
 rfl
theorem BY {s:ab} {c:UInt8} (h:s[1]? = some c) (aZ:¬ (c.toNat:Int)≠117→False):ej s=none:=by
 unfold ej
 split
 ·exfalso;injection h with h
  subst h;exact aZ (by simp)
 rfl
theorem Vy {s:ab} {c d:UInt8} (h:s[0]? = some c) (h1:s[1]? = some d) (aZ:(c.toNat:Int)=92) (bT:(d.toNat:Int)=117):ej s=e' 4 (s.drop 2) 0:=by
 obtain rfl:c=92:=dT aZ;obtain rfl:d=117:=dT bT
 match s,h,h1 with
 | a::b::r,h,h1=>
  injection h with h
  injection h1 with h1
  subst h;subst h1;rfl
theorem Vz {c:UInt8} (h1:48≤c.toNat) (aq:c.toNat≤57):gP c=some (c.toNat-48):=by unfold gP;rw [aL ⟨h1,aq⟩]
theorem I8 {c:UInt8} (h1:97≤c.toNat) (aq:c.toNat≤102):gP c=some (c.toNat-87):=by unfold gP;rw [ak (by omega),aL ⟨h1,aq⟩]
theorem xe {c:UInt8} (h1:65≤c.toNat) (aq:c.toNat≤70):gP c=some (c.toNat-55):=by unfold gP;rw [ak (by omega),ak (by omega),aL ⟨h1,aq⟩]
theorem rh {c:UInt8} (h1:¬ (48≤c.toNat∧c.toNat≤57)) (aq:¬ (97≤c.toNat∧c.toNat≤102)) (bb:¬ (65≤c.toNat∧c.toNat≤70)):gP c=none:=by unfold gP;rw [ak h1,ak aq,ak bb]
theorem mw {s:ab} {i n d:Nat} {c:UInt8} {W:Option Nat} (hi:i<6) (aZ:s[i]? = some c) (bI:gP c=some d) (h:e' (6-i) (s.drop i) n=W):e' (6-(i+1)) (s.drop (i+1)) (16*n+d)=W:=by
 rw [show 6-i=(6-(i+1))+1 by omega,xc aZ,bI] at h;exact h
theorem k' {s:ab} {i n:Nat} {c:UInt8} {W:Option Nat} (hi:i<6) (aZ:s[i]? = some c) (bI:gP c=none) (h:e' (6-i) (s.drop i) n=W):W=none:=by
 rw [show 6-i=(6-(i+1))+1 by omega,xc aZ,bI] at h;exact h.symm
theorem n9 {n d i:Nat} (h:n<16 ^ (i-2)) (bT:d<16) (hi:2≤i):16*n+d<16 ^ (i+1-2):=by
 rw [show i+1-2=(i-2)+1 by omega];exact Vt h bT
theorem QH {s:ab} {n:Nat} (h:ej s=some n):6≤s.length∧n<65536:=by
 rcases Nat.lt_or_ge s.length 6 with cb | cb
 ·rw [rf cb] at h;cases h
 refine⟨cb,?_⟩;unfold ej at h
 split at h
 ·exact xb h
 cases h
abbrev QI:ab:=[34,92,47,98,102,110,114,116]
abbrev QJ:ab:=[34,92,47,8,12,10,13,9]
def acB (c:UInt8) (i:Nat):Option Nat:=(((QI.zip QJ).drop i).find? fun p=>p.1 == c).map fun p=>p.2.toNat
theorem acC (c:UInt8):acB c 0=l5 c:=by
 unfold acB l5;simp only [QI,QJ,List.zip_cons_cons,List.zip_nil_right,List.drop_zero,List.find?_cons,List.find?_nil]
 by_cases h1:c=34
 ·subst h1;rfl
 by_cases aq:c=92
 ·subst aq;rfl
 by_cases bb:c=47
 ·subst bb;rfl
 by_cases bP:c=98
 ·subst bP;rfl
 by_cases cZ:c=102
 ·subst cZ;rfl
 by_cases fy:c=110
 ·subst fy;rfl
 by_cases lL:c=114
 ·subst lL;rfl
 by_cases lZ:c=116
 ·subst lZ;rfl
 rw [beq_eq_false_iff_ne.2 (Ne.symm h1),beq_eq_false_iff_ne.2 (Ne.symm aq),beq_eq_false_iff_ne.2 (Ne.symm bb),beq_eq_false_iff_ne.2 (Ne.symm bP),beq_eq_false_iff_ne.2 (Ne.symm cZ),beq_eq_false_iff_ne.2 (Ne.symm fy),beq_eq_false_iff_ne.2 (Ne.symm lL),beq_eq_false_iff_ne.2 (Ne.symm lZ),ak h1,ak aq,ak bb,ak bP,ak cZ,ak fy,ak lL,ak lZ];rfl
theorem VO {c a b:UInt8} {i:Nat} (hi:i<8) (aE:QI[i]? = some a) (aW:QJ[i]? = some b):acB c i=if a=c then some b.toNat else acB c (i+1):=by
 have cP:(QI.zip QJ)[i]? = some (a,b):=by rw [List.getElem?_zip_eq_some];exact⟨aE,aW⟩
 obtain⟨cb,e⟩:=List.getElem?_eq_some_iff.1 cP;unfold acB;rw [List.drop_eq_getElem_cons cb,e,List.find?_cons]
 by_cases h:a=c
 ·rw [aL h,beq_iff_eq.2 h];rfl
 rw [ak h,beq_eq_false_iff_ne.2 h]
theorem acD (c:UInt8):acB c 8=none:=rfl
theorem QK {s:ab} {c:UInt8} {d:Nat} (h:s[1]? = some c) (aZ:l5 c=some d):fK s=(d,2):=by
 match s,h with
 | a::b::r,h=>
  injection h with h
  subst h;unfold fK;simp only;rw [aZ]
theorem uR {s:ab} {c:UInt8} (h:s[1]? = some c) (aZ:l5 c=none):fK s=match ej s with
  | none=>(0,0)
  | some n=>
   if 56320≤n∧n≤57343 then (0,0)
   else if n<55296∨57343<n then (n,6)
   else match ej (s.drop 6)with
    | none=>(0,0)
    | some m=>if m<56320∨57343<m then (0,0)else (65536+1024*(n-55296)+(m-56320),12):=by
 match s,h with
 | a::b::r,h=>
  injection h with h
  subst h
  unfold fK
  simp only
  rw [aZ]
  rfl
theorem I9 {s:ab} (h:s.length<2):fK s=(0,0):=by
 match s,h with
 | [],_=>rfl
 | [_],_=>rfl
section
variable {s:ab} {c:UInt8} {N M:Int}
theorem ON (h:s[1]? = some c) (aZ:l5 c=none) (gy:ua (ej s)=N) (aW:N<0∨(56320≤N∧N≤57343)):fK s=(0,0):=by
 rw [uR h aZ];cases hu:ej s with
 | none=>rfl
 | some n=>
  rw [hu] at gy;have:(n:Int)=N:=gy;simp only;rw [aL (by omega)]
theorem uS (h:s[1]? = some c) (aZ:l5 c=none) (gy:ua (ej s)=N) (aW:¬ (N<0∨(56320≤N∧N≤57343))) (aq:N<55296∨57343<N):fK s=(N.toNat,6):=by
 rw [uR h aZ];cases hu:ej s with
 | none=>rw [hu] at gy;have:(-1:Int)=N:=gy;omega
 | some n=>
  rw [hu] at gy;have:(n:Int)=N:=gy;simp only;rw [ak (by omega),aL (by omega),← this];rfl
theorem xf (h:s[1]? = some c) (aZ:l5 c=none) (gy:ua (ej s)=N) (aW:¬ (N<0∨(56320≤N∧N≤57343))) (aq:¬ (N<55296∨57343<N)) (eX:ua (ej (s.drop 6))=M) (bb:M<56320∨57343<M):fK s=(0,0):=by
 rw [uR h aZ];cases hu:ej s with
 | none=>rfl
 | some n=>
  rw [hu] at gy;have:(n:Int)=N:=gy;simp only;rw [ak (by omega),ak (by omega)];cases bI:ej (s.drop 6)with
  | none=>rfl
  | some m=>
   rw [bI] at eX;have:(m:Int)=M:=eX;simp only;rw [aL (by omega)]
theorem BZ (h:s[1]? = some c) (aZ:l5 c=none) (gy:ua (ej s)=N) (aW:¬ (N<0∨(56320≤N∧N≤57343))) (aq:¬ (N<55296∨57343<N)) (eX:ua (ej (s.drop 6))=M) (bb:¬ (M<56320∨57343<M)):fK s=((65536+1024*(N-55296)+(M-56320)).toNat,12):=by
 rw [uR h aZ];cases hu:ej s with
 | none=>rw [hu] at gy;have:(-1:Int)=N:=gy;omega
 | some n=>
  rw [hu] at gy;have:(n:Int)=N:=gy;simp only;rw [ak (by omega),ak (by omega)];cases bI:ej (s.drop 6)with
  | none=>rw [bI] at eX;have:(-1:Int)=M:=eX;omega
  | some m=>
   rw [bI] at eX;have:(m:Int)=M:=eX;simp only;rw [ak (by omega)];exact Prod.ext (show 65536+1024*(n-55296)+(m-56320)=_ by omega) rfl
theorem ub (gy:ua (ej s)=N) : -1≤N∧N<65536∧(0≤N→6≤s.length):=by
 cases hu:ej s with
 | none=>rw [hu] at gy;have:(-1:Int)=N:=gy;omega
 | some n=>
  rw [hu] at gy;have:(n:Int)=N:=gy;obtain⟨h1,aq⟩:=QH hu;omega
end
theorem OO {c:Nat} (h:c<128):1=(fl c).length∧(fl c).map ku = [.int .u8 (c:Int)]:=⟨by simp [fl,fe,h],by rw [oT (by omega),fe,aL h];rfl⟩
theorem OP {c:Nat} (h:¬ c<128) (aq:c<2048):2=(fl c).length∧(fl c).map ku = [.int .u8 ((192+c / 64:Nat):Int),.int .u8 ((128+c % 64:Nat):Int)]:=⟨by simp [fl,fe,h,aq],by rw [oT (by omega),fe,ak h,aL aq];rfl⟩
theorem OQ {c:Nat} (h:¬ c<2048) (aq:c<65536):3=(fl c).length∧(fl c).map ku = [.int .u8 ((224+c / 4096:Nat):Int),.int .u8 ((128+c / 64 % 64:Nat):Int),.int .u8 ((128+c % 64:Nat):Int)]:=⟨by simp [fl,fe,h,aq,show ¬ c<128 by omega],by rw [oT (by omega),fe,ak (by omega),ak h,aL aq];rfl⟩
theorem OR {c:Nat} (h:¬ c<65536) (aq:c≤1114111):4=(fl c).length∧(fl c).map ku = [.int .u8 ((240+c / 262144:Nat):Int),.int .u8 ((128+c / 4096 % 64:Nat):Int),.int .u8 ((128+c / 64 % 64:Nat):Int),.int .u8 ((128+c % 64:Nat):Int)]:=⟨by simp [fl,fe,h,show ¬ c<128 by omega,show ¬ c<2048 by omega],by rw [oT aq,fe,ak (by omega),ak (by omega),ak h];rfl⟩
def sj (s:ab) (i:Nat):Nat×Nat:=if s[i]? = some 92 then fK (s.drop i)else aM (s.drop i)
theorem I' {s:ab} {i:Nat} {c:UInt8} (h:s[i]? = some c):(sj s i).1≤1114111∧i+(sj s i).2≤s.length:=by
 have hi:=(List.getElem?_eq_some_iff.1 h).1;unfold sj
 split
 rotate_left
 ·have hle:=kC (s.drop i);rw [List.length_drop] at hle;refine⟨?_,by omega⟩;rcases pU (l:=s.drop i) (by rw [gn h];simp)with⟨h1,_⟩ | ⟨_,_,_,bP,_⟩
  ·have cP:∀ l:ab,(aM l).2=0→(aM l).1=0:=by
    intro l;unfold aM
    repeat' split
    all_goals simp
    intro aq;omega
   rw [cP _ h1];omega
  exact bP
 rename_i Gx
 rw [gn Gx];have:=I5 (s.drop (i+1));unfold ha at this;rw [List.length_drop] at this
 split at this
 ·rename_i cg
  rw [cg];have h1:(fK (92::s.drop (i+1))).1=0∨True:=.inr trivial;refine⟨?_,by omega⟩;have cP:∀ l:ab,(fK l).2=0→(fK l).1=0:=by
   intro l;unfold fK
   repeat' split
   all_goals simp
  rw [cP _ cg];omega
 refine⟨this.1,?_⟩;have:=this.2.2;simp only at this;omega
theorem VU {f i:Nat} {s out:ab} {c:UInt8} (h:s[i]? = some c) (tW:c≠34):gx (f+1) (s.drop i) i out=if (sj s i).2=0∨(c≠92∧(sj s i).1<32)then none else gx f (s.drop (i+(sj s i).2)) (i+(sj s i).2) (out++fl (sj s i).1):=by
 unfold sj;rw [h];simp only [Option.some.injEq];rw [← List.drop_drop,gn h,gx,ak tW]
end Go.Proofs.YtkjgljnkocnnpaaGreatDoor.V
set_option maxRecDepth 10000
namespace Go.Proofs.YtkjgljnkocnnpaaGreatDoor.V
open Go Go.Proofs
theorem mO (n i:Nat) (h:n<16 ^ (i-2)) (hi:i<6):n<4096:=EP h (by omega)
theorem GR (w:World) (s:ab) (bh:s.length≤1000000):Calls aR 145 [S s].toArray w (bH fun u w'=>u = .int .i64 (ua (ej s))∧Mod [] w w'):=by
 refine bs Tryz.func145 rfl fun E=>aa fun a6=>a7 rfl (J a6 (aB fun aQ=>aa fun a'=>aO rfl (ah (bQ aA rfl) (ah (cT rfl rfl) ?_))));refine c7 (fun bM:(s.length:Int)<6=>?_) (fun bM=>?_)
 ·refine aj 10 rfl (J a' (az rfl ?_));have dR:ej s=none:=by first | exact rf (by omega) | exact BX sU (fun h=>h WN) | exact BY eQ (fun h=>h P2)
  exact aa fun bp=>a7 rfl (J bp (bn (aP (aG rfl rfl ⟨by rw [dR];rfl,E⟩))))
 obtain⟨c0,sU⟩:∃ c,s[0]? = some c:=⟨_,List.getElem?_eq_getElem (by omega)⟩;obtain⟨c1,eQ⟩:∃ c,s[1]? = some c:=⟨_,List.getElem?_eq_getElem (by omega)⟩;refine aj 2 rfl (ay (hM (c:=c0) aA rfl rfl (by omega) sU) (ay (fO rfl rfl) ?_));refine c7 (fun WN:(c0.toNat:Int)≠92=>?_) (fun WN=>?_)
 ·refine aj 6 rfl (J a' (az rfl ?_));have dR:ej s=none:=by first | exact rf (by omega) | exact BX sU (fun h=>h WN) | exact BY eQ (fun h=>h P2)
  exact aa fun bx=>a7 rfl (J bx (bn (aP (aG rfl rfl ⟨by rw [dR];rfl,E⟩))))
 refine aj 3 rfl (ay (hM (c:=c1) aA rfl rfl (by omega) eQ) (ay (fO rfl rfl) ?_));refine c7 (fun P2:(c1.toNat:Int)≠117=>?_) (fun P2=>?_)
 ·refine ah (hG rfl rfl rfl) (J a' (az rfl ?_));have dR:ej s=none:=by first | exact rf (by omega) | exact BX sU (fun h=>h WN) | exact BY eQ (fun h=>h P2)
  exact aa fun bO=>a7 rfl (J bO (bn (aP (aG rfl rfl ⟨by rw [dR];rfl,E⟩))))
 refine ah (hG rfl rfl rfl) (J a' (aI rfl (b' (av aQ (aa fun b4=>a7 rfl (J b4 (aB fun cw=>aa fun cy=>a7 rfl (J cy (eN (bK (σ:=Nat×Nat) (fun⟨i,n⟩=>[(0,S s),(3,.int .i64 (n:Int)),(4,.int .i64 (i:Int))]) (fun⟨i,n⟩ aJ=>2≤i∧i≤6∧e' (6-i) (s.drop i) n=ej s∧n<16 ^ (i-2)∧Mod [] w aJ) (fun⟨i,n⟩=>6-i) (⟨2,0⟩) (⟨by omega,by omega,(Vy sU eQ (Classical.not_not.1 WN) (Classical.not_not.1 P2)).symm,by decide,E⟩) ?_))))))))));rintro⟨i,n⟩ aJ ⟨nJ,hi,hH,cu,E⟩;refine aB fun b6=>aa fun bR=>aj 2 rfl (J bR ?_);refine aX rfl (fun yk=>?_) (fun yk=>?_);rotate_left
 ·have asF:i=6:=by omega
  subst asF;have dR:ej s=some n:=hH.symm;exact bL (aP (aP (ch (av cw (aa fun iB=>aj 2 rfl (J iB (bn (aG rfl rfl ⟨by rw [dR];rfl,E⟩))))))))
 have iQ:i<6:=by omega
 obtain⟨c,aZ⟩:∃ c,s[i]? = some c:=⟨_,List.getElem?_eq_getElem (by have:=bM;omega)⟩;have lJ:=c.toNat_lt;refine b' (av b6 (aB fun cv=>eN (aa fun bV=>aj 2 rfl (ah (bN aA rfl rfl aZ) (a7 rfl (J bV (eN (aa fun cE=>aO rfl (ah (dA rfl rfl) ?_)))))))));refine c7 (fun GS:(c.toNat:Int)≥48=>?_) (fun GS=>?_);rotate_left
 ·refine aj 5 rfl (J cE (aI rfl ?_));have oN:¬ (48≤c.toNat∧c.toNat≤57):=by omega
  refine aa fun eP=>aO rfl (ah (dA rfl rfl) ?_);refine c7 (fun fu:(c.toNat:Int)≥97=>?_) (fun fu=>?_);rotate_left
  ·refine aj 5 rfl (J eP (aI rfl ?_));have pg:¬ (97≤c.toNat∧c.toNat≤102):=by omega
   refine aa fun fk=>aO rfl (ah (dA rfl rfl) ?_);refine c7 (fun zH:(c.toNat:Int)≥65=>?_) (fun zH=>?_)
   ·refine aj 3 rfl ?_;refine c7 (fun zI:(c.toNat:Int)≤70=>?_) (fun zI=>?_)
    ·refine aj 2 rfl (J fk (az rfl ?_));obtain⟨d,bT⟩:∃ d,d=c.toNat-55:=⟨_,rfl⟩;have bI:gP c=some d:=by rw [bT];exact xe (by omega) (by omega)
     have pB:d<16:=by omega
     refine b5 (aO rfl (ah (rk (r:=((16*n:Nat):Int)) rfl rfl (by have:=mO n i cu iQ;rw [wrap64_in _ (by omega)];omega)) (aO rfl (ah ((hB rfl rfl).to (v':=.int .u8 ((c.toNat-65:Nat):Int)) (by rw [du _ (by omega)];congr 1;omega)) (ah (e9 (r:=((c.toNat-65:Nat):Int)) dH gj rfl (wrap64_in _ (by omega))) (ah (jm (r:=((16*n+(c.toNat-65):Nat):Int)) rfl rfl (by have:=mO n i cu iQ;rw [wrap64_in _ (by omega)];omega)) (ah (jm (r:=((16*n+d:Nat):Int)) rfl rfl (by have:=mO n i cu iQ;rw [wrap64_in _ (by omega)];omega)) (a7 rfl (cx (bw (bw (av cv (b5 ?_)))))))))))));exact aO rfl (ah (aS (r:=((i+1:Nat):Int)) rfl rfl) (a7 rfl (cx (aw (σ:=Nat×Nat) (s:=⟨i,n⟩) (⟨i+1,16*n+d⟩) ⟨by omega,by omega,mw iQ aZ bI hH,n9 cu pB nJ,E⟩))))
    refine aj 2 rfl (J fk (aI rfl ?_));have dR:ej s=none:=k' iQ aZ (rh oN pg (by omega)) hH;exact aa fun hq=>a7 rfl (J hq (bn (bw (bw (aP (aP (bw (aP (aG rfl rfl ⟨by rw [dR];rfl,E⟩)))))))))
   refine aj 5 rfl (J fk (aI rfl ?_));have dR:ej s=none:=k' iQ aZ (rh oN pg (by omega)) hH;exact aa fun gY=>a7 rfl (J gY (bn (bw (bw (aP (aP (bw (aP (aG rfl rfl ⟨by rw [dR];rfl,E⟩)))))))))
  refine aj 3 rfl ?_;refine c7 (fun hC:(c.toNat:Int)≤102=>?_) (fun hC=>?_)
  ·refine aj 2 rfl (J eP (az rfl ?_));obtain⟨d,bT⟩:∃ d,d=c.toNat-87:=⟨_,rfl⟩;have bI:gP c=some d:=by rw [bT];exact I8 (by omega) (by omega)
   have pB:d<16:=by omega
   refine b5 (aO rfl (ah (rk (r:=((16*n:Nat):Int)) rfl rfl (by have:=mO n i cu iQ;rw [wrap64_in _ (by omega)];omega)) (aO rfl (ah ((hB rfl rfl).to (v':=.int .u8 ((c.toNat-97:Nat):Int)) (by rw [du _ (by omega)];congr 1;omega)) (ah (e9 (r:=((c.toNat-97:Nat):Int)) dH gj rfl (wrap64_in _ (by omega))) (ah (jm (r:=((16*n+(c.toNat-97):Nat):Int)) rfl rfl (by have:=mO n i cu iQ;rw [wrap64_in _ (by omega)];omega)) (ah (jm (r:=((16*n+d:Nat):Int)) rfl rfl (by have:=mO n i cu iQ;rw [wrap64_in _ (by omega)];omega)) (a7 rfl (cx (bw (bw (av cv (b5 ?_)))))))))))));exact aO rfl (ah (aS (r:=((i+1:Nat):Int)) rfl rfl) (a7 rfl (cx (aw (σ:=Nat×Nat) (s:=⟨i,n⟩) (⟨i+1,16*n+d⟩) ⟨by omega,by omega,mw iQ aZ bI hH,n9 cu pB nJ,E⟩))))
  refine aj 2 rfl (J eP (aI rfl ?_));have pg:¬ (97≤c.toNat∧c.toNat≤102):=by omega
  refine aa fun fw=>aO rfl (ah (dA rfl rfl) ?_);refine c7 (fun zH:(c.toNat:Int)≥65=>?_) (fun zH=>?_)
  ·refine aj 3 rfl ?_;refine c7 (fun zI:(c.toNat:Int)≤70=>?_) (fun zI=>?_)
   ·refine aj 2 rfl (J fw (az rfl ?_));obtain⟨d,bT⟩:∃ d,d=c.toNat-55:=⟨_,rfl⟩;have bI:gP c=some d:=by rw [bT];exact xe (by omega) (by omega)
    have pB:d<16:=by omega
    refine b5 (aO rfl (ah (rk (r:=((16*n:Nat):Int)) rfl rfl (by have:=mO n i cu iQ;rw [wrap64_in _ (by omega)];omega)) (aO rfl (ah ((hB rfl rfl).to (v':=.int .u8 ((c.toNat-65:Nat):Int)) (by rw [du _ (by omega)];congr 1;omega)) (ah (e9 (r:=((c.toNat-65:Nat):Int)) dH gj rfl (wrap64_in _ (by omega))) (ah (jm (r:=((16*n+(c.toNat-65):Nat):Int)) rfl rfl (by have:=mO n i cu iQ;rw [wrap64_in _ (by omega)];omega)) (ah (jm (r:=((16*n+d:Nat):Int)) rfl rfl (by have:=mO n i cu iQ;rw [wrap64_in _ (by omega)];omega)) (a7 rfl (cx (bw (bw (av cv (b5 ?_)))))))))))));exact aO rfl (ah (aS (r:=((i+1:Nat):Int)) rfl rfl) (a7 rfl (cx (aw (σ:=Nat×Nat) (s:=⟨i,n⟩) (⟨i+1,16*n+d⟩) ⟨by omega,by omega,mw iQ aZ bI hH,n9 cu pB nJ,E⟩))))
   refine aj 2 rfl (J fw (aI rfl ?_));have dR:ej s=none:=k' iQ aZ (rh oN pg (by omega)) hH;exact aa fun fT=>a7 rfl (J fT (bn (bw (bw (aP (aP (bw (aP (aG rfl rfl ⟨by rw [dR];rfl,E⟩)))))))))
  refine aj 5 rfl (J fw (aI rfl ?_));have dR:ej s=none:=k' iQ aZ (rh oN pg (by omega)) hH;exact aa fun gh=>a7 rfl (J gh (bn (bw (bw (aP (aP (bw (aP (aG rfl rfl ⟨by rw [dR];rfl,E⟩)))))))))
 refine aj 3 rfl ?_;refine c7 (fun DP:(c.toNat:Int)≤57=>?_) (fun DP=>?_)
 ·refine aj 2 rfl (J cE (az rfl ?_));obtain⟨d,bT⟩:∃ d,d=c.toNat-48:=⟨_,rfl⟩;have bI:gP c=some d:=by rw [bT];exact Vz (by omega) (by omega)
  have pB:d<16:=by omega
  refine b5 (aO rfl (ah (rk (r:=((16*n:Nat):Int)) rfl rfl (by have:=mO n i cu iQ;rw [wrap64_in _ (by omega)];omega)) (aO rfl (ah ((hB rfl rfl).to (v':=.int .u8 ((c.toNat-48:Nat):Int)) (by rw [du _ (by omega)];congr 1;omega)) (ah (e9 (r:=((c.toNat-48:Nat):Int)) dH gj rfl (wrap64_in _ (by omega))) (ah (jm (r:=((16*n+d:Nat):Int)) rfl rfl (by have:=mO n i cu iQ;rw [wrap64_in _ (by omega)];omega)) (a7 rfl (cx (bw (bw (av cv (b5 (aO rfl ?_)))))))))))));exact ah (aS (r:=((i+1:Nat):Int)) rfl rfl) (a7 rfl (cx (aw (σ:=Nat×Nat) (s:=⟨i,n⟩) (⟨i+1,16*n+d⟩) ⟨by omega,by omega,mw iQ aZ bI hH,n9 cu pB nJ,E⟩)))
 refine aj 2 rfl (J cE (aI rfl ?_));have oN:¬ (48≤c.toNat∧c.toNat≤57):=by omega
 refine aa fun cI=>aO rfl (ah (dA rfl rfl) ?_);refine c7 (fun fu:(c.toNat:Int)≥97=>?_) (fun fu=>?_);rotate_left
 ·refine aj 5 rfl (J cI (aI rfl ?_));have pg:¬ (97≤c.toNat∧c.toNat≤102):=by omega
  refine aa fun eV=>aO rfl (ah (dA rfl rfl) ?_);refine c7 (fun zH:(c.toNat:Int)≥65=>?_) (fun zH=>?_)
  ·refine aj 3 rfl ?_;refine c7 (fun zI:(c.toNat:Int)≤70=>?_) (fun zI=>?_)
   ·refine aj 2 rfl (J eV (az rfl ?_));obtain⟨d,bT⟩:∃ d,d=c.toNat-55:=⟨_,rfl⟩;have bI:gP c=some d:=by rw [bT];exact xe (by omega) (by omega)
    have pB:d<16:=by omega
    refine b5 (aO rfl (ah (rk (r:=((16*n:Nat):Int)) rfl rfl (by have:=mO n i cu iQ;rw [wrap64_in _ (by omega)];omega)) (aO rfl (ah ((hB rfl rfl).to (v':=.int .u8 ((c.toNat-65:Nat):Int)) (by rw [du _ (by omega)];congr 1;omega)) (ah (e9 (r:=((c.toNat-65:Nat):Int)) dH gj rfl (wrap64_in _ (by omega))) (ah (jm (r:=((16*n+(c.toNat-65):Nat):Int)) rfl rfl (by have:=mO n i cu iQ;rw [wrap64_in _ (by omega)];omega)) (ah (jm (r:=((16*n+d:Nat):Int)) rfl rfl (by have:=mO n i cu iQ;rw [wrap64_in _ (by omega)];omega)) (a7 rfl (cx (bw (bw (av cv (b5 ?_)))))))))))));exact aO rfl (ah (aS (r:=((i+1:Nat):Int)) rfl rfl) (a7 rfl (cx (aw (σ:=Nat×Nat) (s:=⟨i,n⟩) (⟨i+1,16*n+d⟩) ⟨by omega,by omega,mw iQ aZ bI hH,n9 cu pB nJ,E⟩))))
   refine aj 2 rfl (J eV (aI rfl ?_));have dR:ej s=none:=k' iQ aZ (rh oN pg (by omega)) hH;exact aa fun eO=>a7 rfl (J eO (bn (bw (bw (aP (aP (bw (aP (aG rfl rfl ⟨by rw [dR];rfl,E⟩)))))))))
  refine aj 5 rfl (J eV (aI rfl ?_));have dR:ej s=none:=k' iQ aZ (rh oN pg (by omega)) hH;exact aa fun eC=>a7 rfl (J eC (bn (bw (bw (aP (aP (bw (aP (aG rfl rfl ⟨by rw [dR];rfl,E⟩)))))))))
 refine aj 3 rfl ?_;refine c7 (fun hC:(c.toNat:Int)≤102=>?_) (fun hC=>?_)
 ·refine aj 2 rfl (J cI (az rfl ?_));obtain⟨d,bT⟩:∃ d,d=c.toNat-87:=⟨_,rfl⟩;have bI:gP c=some d:=by rw [bT];exact I8 (by omega) (by omega)
  have pB:d<16:=by omega
  refine b5 (aO rfl (ah (rk (r:=((16*n:Nat):Int)) rfl rfl (by have:=mO n i cu iQ;rw [wrap64_in _ (by omega)];omega)) (aO rfl (ah ((hB rfl rfl).to (v':=.int .u8 ((c.toNat-97:Nat):Int)) (by rw [du _ (by omega)];congr 1;omega)) (ah (e9 (r:=((c.toNat-97:Nat):Int)) dH gj rfl (wrap64_in _ (by omega))) (ah (jm (r:=((16*n+(c.toNat-97):Nat):Int)) rfl rfl (by have:=mO n i cu iQ;rw [wrap64_in _ (by omega)];omega)) (ah (jm (r:=((16*n+d:Nat):Int)) rfl rfl (by have:=mO n i cu iQ;rw [wrap64_in _ (by omega)];omega)) (a7 rfl (cx (bw (bw (av cv (b5 ?_)))))))))))));exact aO rfl (ah (aS (r:=((i+1:Nat):Int)) rfl rfl) (a7 rfl (cx (aw (σ:=Nat×Nat) (s:=⟨i,n⟩) (⟨i+1,16*n+d⟩) ⟨by omega,by omega,mw iQ aZ bI hH,n9 cu pB nJ,E⟩))))
 refine aj 2 rfl (J cI (aI rfl ?_));have pg:¬ (97≤c.toNat∧c.toNat≤102):=by omega
 refine aa fun dr=>aO rfl (ah (dA rfl rfl) ?_);refine c7 (fun zH:(c.toNat:Int)≥65=>?_) (fun zH=>?_)
 ·refine aj 3 rfl ?_;refine c7 (fun zI:(c.toNat:Int)≤70=>?_) (fun zI=>?_)
  ·refine aj 2 rfl (J dr (az rfl ?_));obtain⟨d,bT⟩:∃ d,d=c.toNat-55:=⟨_,rfl⟩;have bI:gP c=some d:=by rw [bT];exact xe (by omega) (by omega)
   have pB:d<16:=by omega
   refine b5 (aO rfl (ah (rk (r:=((16*n:Nat):Int)) rfl rfl (by have:=mO n i cu iQ;rw [wrap64_in _ (by omega)];omega)) (aO rfl (ah ((hB rfl rfl).to (v':=.int .u8 ((c.toNat-65:Nat):Int)) (by rw [du _ (by omega)];congr 1;omega)) (ah (e9 (r:=((c.toNat-65:Nat):Int)) dH gj rfl (wrap64_in _ (by omega))) (ah (jm (r:=((16*n+(c.toNat-65):Nat):Int)) rfl rfl (by have:=mO n i cu iQ;rw [wrap64_in _ (by omega)];omega)) (ah (jm (r:=((16*n+d:Nat):Int)) rfl rfl (by have:=mO n i cu iQ;rw [wrap64_in _ (by omega)];omega)) (a7 rfl (cx (bw (bw (av cv (b5 ?_)))))))))))));exact aO rfl (ah (aS (r:=((i+1:Nat):Int)) rfl rfl) (a7 rfl (cx (aw (σ:=Nat×Nat) (s:=⟨i,n⟩) (⟨i+1,16*n+d⟩) ⟨by omega,by omega,mw iQ aZ bI hH,n9 cu pB nJ,E⟩))))
  refine aj 2 rfl (J dr (aI rfl ?_));have dR:ej s=none:=k' iQ aZ (rh oN pg (by omega)) hH;exact aa fun ec=>a7 rfl (J ec (bn (bw (bw (aP (aP (bw (aP (aG rfl rfl ⟨by rw [dR];rfl,E⟩)))))))))
 refine aj 5 rfl (J dr (aI rfl ?_));have dR:ej s=none:=k' iQ aZ (rh oN pg (by omega)) hH;exact aa fun dG=>a7 rfl (J dG (bn (bw (bw (aP (aP (bw (aP (aG rfl rfl ⟨by rw [dR];rfl,E⟩)))))))))
set_option maxRecDepth 10000
def GU:=eW Tryz.func145
def acZ:=eW Tryz.func109
def O6:=eW Tryz.func110
theorem ac0 (w:World) (s:ab) (bh:s.length≤1000000):Calls aR 109 [S s].toArray w (bH fun u w'=>u = .tuple #[.int .i64 ((fK s).1:Int),.int .i64 ((fK s).2:Int)]∧Mod [] w w'):=by
 refine bs Tryz.func109 rfl fun E=>aa fun a6=>aj 2 rfl (J a6 (aB fun aQ=>aa fun a'=>aO rfl (ah (bQ aA rfl) (ah (cT rfl rfl) (J a' ?_)))));refine aX rfl (fun wL=>?_) (fun wL=>?_)
 ·have dR:=I9 (s:=s) (by omega);exact aa fun bp=>aj 2 rfl (J bp (bn (aP (cj rfl rfl rfl ⟨by rw [dR];rfl,E⟩))))
 obtain⟨c1,eQ⟩:∃ c,s[1]? = some c:=⟨_,List.getElem?_eq_getElem (by omega)⟩;refine b' (av aQ (aa fun bx=>a7 rfl (J bx (aa fun bO=>a7 rfl (J bO (aB fun b4=>aa fun cw=>a7 rfl (J cw (eN (bK (σ:=Nat) (fun i=>[(0,S s),(4,S QI),(5,S QJ),(6,.int .i64 (i:Int))]) (fun i aJ=>i≤8∧acB c1 i=l5 c1∧Mod [] w aJ) (fun i=>8-i) (0) (⟨by omega,acC c1,E⟩) ?_)))))))));rintro i aJ ⟨hi,hinv,E⟩;refine aB fun cy=>aa fun b6=>aj 2 rfl (ah (bQ aA rfl) (ah (cT rfl rfl) (J b6 ?_)));refine aX rfl (fun kK=>?_) (fun kK=>?_)
 ·have Mt:i<8:=by have:(i:Int)<8:=kK;omega
  obtain⟨a,aE⟩:∃ a,QI[i]? = some a:=⟨_,List.getElem?_eq_getElem (show i<8 from Mt)⟩;obtain⟨b,aW⟩:∃ b,QJ[i]? = some b:=⟨_,List.getElem?_eq_getElem (show i<8 from Mt)⟩;have Jz:=b.toNat_lt;refine b' (av cy (aB fun bR=>eN (aB fun cv=>?_)))
  by_cases heq:(a.toNat:Int)=(c1.toNat:Int)
  ·refine cn wide (by kernel_rfl) (hF 2 rfl rfl (ax (fun U=>(bN (c:=a) aA rfl rfl aE)) (ax (fun U=>(fj rfl)) (ax (fun U=>(hM (c:=c1) aA rfl rfl (by omega) eQ)) (ax (fun U=>(k1 rfl rfl)) (cq rfl fun cX U=>?_))))));replace E:=E.then U;refine av cv ?_;refine aX rfl (fun pL=>?_) (fun pL=>absurd heq pL);have dR:fK s=(b.toNat,2):=QK eQ (by rw [← hinv,VO Mt aE aW,aL (dT heq)]);exact aa fun bV=>aj 2 rfl (ah (bN (c:=b) aA rfl rfl aW) (ah (e9 (r:=(b.toNat:Int)) dH gj rfl (wrap64_in _ (by omega))) (aj 2 rfl (J bV (bn (bw (aP (aP (bw (aP (cj rfl rfl rfl ⟨by rw [dR];rfl,E⟩)))))))))))
  refine cn wide (by kernel_rfl) (hF 2 rfl rfl (ax (fun U=>(bN (c:=a) aA rfl rfl aE)) (ax (fun U=>(fj rfl)) (ax (fun U=>(hM (c:=c1) aA rfl rfl (by omega) eQ)) (ax (fun U=>(k1 rfl rfl)) (cq rfl fun gr U=>?_))))));replace E:=E.then U;refine av cv (aX rfl (fun pL=>absurd pL heq) (fun pL=>?_));have cH:¬ a=c1:=fun e=>heq (by rw [e]);exact b' (bw (av bR (b5 (aO rfl (ah (aS (r:=((i+1:Nat):Int)) rfl rfl) (a7 rfl (cx (aw (σ:=Nat) (s:=i) (i+1) ⟨by omega,by rw [← hinv,VO Mt aE aW,ak cH],E⟩))))))))
 have Mt:i=8:=by have:¬ (i:Int)<8:=kK;omega
 subst Mt;have Ak:l5 c1=none:=hinv.symm.trans (acD c1);refine bL (aP (aP (ch (av b4 (aa fun cE=>aO rfl (cG E (bB GU rfl) (GR _ s bh) fun h8 U E=>?_))))));obtain⟨N,gy⟩:∃ N,ua (ej s)=N:=⟨_,rfl⟩;rw [gy];have amO:=ub gy;refine a7 rfl (J cE (aB fun cI=>aa fun dr=>aj 2 rfl ?_));refine c7 (fun LS:N<0=>?_) (fun LS=>?_)
 ·refine aj 8 rfl (J dr (az rfl ?_));have dR:=ON eQ Ak gy (by omega);exact aa fun ec=>aj 2 rfl (J ec (bn (aP (cj rfl rfl rfl ⟨by rw [dR];rfl,E⟩))))
 refine aj 2 rfl (ay (dA rfl rfl) ?_);refine c7 (fun tr:N≥56320=>?_) (fun tr=>?_);rotate_left
 ·refine aj 5 rfl (J dr (aI rfl ?_));have cP:¬ (N<0∨(56320≤N∧N≤57343)):=by omega
  refine b' (av cI (aB fun iB=>aa fun jR=>aj 2 rfl ?_));refine c7 (fun ahn:N<55296=>?_) (fun ahn=>?_)
  ·refine aj 4 rfl (J jR (az rfl ?_));have dR:=uS eQ Ak gy cP (by omega);exact aa fun l3=>aj 3 rfl (J l3 (bn (aP (cj rfl rfl rfl ⟨by simp only [dR];rw [Int.toNat_of_nonneg (by omega)];rfl,E⟩))))
  refine aj 3 rfl ?_;refine c7 (fun aho:N > 57343=>?_) (fun aho=>?_)
  ·refine ah (hG rfl rfl rfl) (J jR (az rfl ?_));have dR:=uS eQ Ak gy cP (by omega);exact aa fun kb=>aj 3 rfl (J kb (bn (aP (cj rfl rfl rfl ⟨by simp only [dR];rw [Int.toNat_of_nonneg (by omega)];rfl,E⟩))))
  refine ah (hG rfl rfl rfl) (J jR (aI rfl ?_));have ba:¬ (N<55296∨57343<N):=by omega
  have fy:6≤s.length:=amO.2.2 (by omega);refine b' (av iB (aa fun k6=>aO rfl (ah (dV (n:=6) aA rfl rfl fy) (cG E (bB GU rfl) (GR _ (s.drop 6) (by rw [List.length_drop];omega)) fun i' U E=>?_))));obtain⟨M,eX⟩:∃ M,ua (ej (s.drop 6))=M:=⟨_,rfl⟩;rw [eX];have asH:=ub eX;refine a7 rfl (J k6 (aB fun ni=>aa fun kc=>aj 2 rfl ?_));refine c7 (fun ahp:M<56320=>?_) (fun ahp=>?_)
  ·refine aj 4 rfl (J kc (az rfl ?_));have dR:=xf eQ Ak gy cP ba eX (by omega);exact aa fun qp=>aj 2 rfl (J qp (bn (aP (cj rfl rfl rfl ⟨by rw [dR];rfl,E⟩))))
  refine aj 3 rfl ?_;refine c7 (fun ahq:M > 57343=>?_) (fun ahq=>?_)
  ·refine ah (hG rfl rfl rfl) (J kc (az rfl ?_));have dR:=xf eQ Ak gy cP ba eX (by omega);exact aa fun r8=>aj 2 rfl (J r8 (bn (aP (cj rfl rfl rfl ⟨by rw [dR];rfl,E⟩))))
  refine ah (hG rfl rfl rfl) (J kc (aI rfl ?_));have dR:=BZ eQ Ak gy cP ba eX (by omega);exact b' (av ni (aa fun qq=>aO rfl (ah (xq rfl rfl (by omega)) (ah (O7 rfl rfl (by omega)) (ah (bt rfl rfl (by omega)) (aO rfl (ah (xq rfl rfl (by omega)) (ah (bt rfl rfl (by omega)) (aj 2 rfl (J qq (bn (cj rfl rfl rfl ⟨by simp only [dR];rw [Int.toNat_of_nonneg (by omega)];rfl,E⟩))))))))))))
 refine aj 3 rfl ?_;refine c7 (fun asG:N≤57343=>?_) (fun asG=>?_)
 ·refine aj 2 rfl (J dr (az rfl ?_));have dR:=ON eQ Ak gy (by omega);exact aa fun dG=>aj 2 rfl (J dG (bn (aP (cj rfl rfl rfl ⟨by rw [dR];rfl,E⟩))))
 refine aj 2 rfl (J dr (aI rfl ?_));have cP:¬ (N<0∨(56320≤N∧N≤57343)):=by omega
 refine b' (av cI (aB fun eV=>aa fun eO=>aj 2 rfl ?_));refine c7 (fun ahn:N<55296=>?_) (fun ahn=>?_)
 ·refine aj 4 rfl (J eO (az rfl ?_));have dR:=uS eQ Ak gy cP (by omega);exact aa fun eC=>aj 3 rfl (J eC (bn (aP (cj rfl rfl rfl ⟨by simp only [dR];rw [Int.toNat_of_nonneg (by omega)];rfl,E⟩))))
 refine aj 3 rfl ?_;refine c7 (fun aho:N > 57343=>?_) (fun aho=>?_)
 ·refine ah (hG rfl rfl rfl) (J eO (az rfl ?_));have dR:=uS eQ Ak gy cP (by omega);exact aa fun eP=>aj 3 rfl (J eP (bn (aP (cj rfl rfl rfl ⟨by simp only [dR];rw [Int.toNat_of_nonneg (by omega)];rfl,E⟩))))
 refine ah (hG rfl rfl rfl) (J eO (aI rfl ?_));have ba:¬ (N<55296∨57343<N):=by omega
 have fy:6≤s.length:=amO.2.2 (by omega);refine b' (av eV (aa fun fw=>aO rfl (ah (dV (n:=6) aA rfl rfl fy) (cG E (bB GU rfl) (GR _ (s.drop 6) (by rw [List.length_drop];omega)) fun iS U E=>?_))));obtain⟨M,eX⟩:∃ M,ua (ej (s.drop 6))=M:=⟨_,rfl⟩;rw [eX];have asH:=ub eX;refine a7 rfl (J fw (aB fun fT=>aa fun gh=>aj 2 rfl ?_));refine c7 (fun ahp:M<56320=>?_) (fun ahp=>?_)
 ·refine aj 4 rfl (J gh (az rfl ?_));have dR:=xf eQ Ak gy cP ba eX (by omega);exact aa fun fk=>aj 2 rfl (J fk (bn (aP (cj rfl rfl rfl ⟨by rw [dR];rfl,E⟩))))
 refine aj 3 rfl ?_;refine c7 (fun ahq:M > 57343=>?_) (fun ahq=>?_)
 ·refine ah (hG rfl rfl rfl) (J gh (az rfl ?_));have dR:=xf eQ Ak gy cP ba eX (by omega);exact aa fun hq=>aj 2 rfl (J hq (bn (aP (cj rfl rfl rfl ⟨by rw [dR];rfl,E⟩))))
 refine ah (hG rfl rfl rfl) (J gh (aI rfl ?_));have dR:=BZ eQ Ak gy cP ba eX (by omega);exact b' (av fT (aa fun gY=>aO rfl (ah (xq rfl rfl (by omega)) (ah (O7 rfl rfl (by omega)) (ah (bt rfl rfl (by omega)) (aO rfl (ah (xq rfl rfl (by omega)) (ah (bt rfl rfl (by omega)) (aj 2 rfl (J gY (bn (cj rfl rfl rfl ⟨by simp only [dR];rw [Int.toNat_of_nonneg (by omega)];rfl,E⟩))))))))))))
theorem EY (w:World) (c:Nat) (aZ:c≤1114111):Calls aR 110 [.int .i64 (c:Int)].toArray w (bH fun u w'=>u=S (fl c)∧Mod [] w w'):=by
 refine bs Tryz.func110 rfl fun E=>aa fun a6=>a7 rfl (J a6 (aB fun aQ=>aa fun a'=>aj 2 rfl (J a' ?_)));refine aX rfl (fun bP=>?_) (fun bP=>?_)
 ·have dy:c<128:=by omega
  refine aa fun bp=>aO rfl (ah (e9 gj dH rfl (du _ (by omega))) (dm di kX rfl rfl fun g1 aJ bZ=>?_));have aY:=bZ.le E;replace E:=E.then bZ.mod;have R:=bZ.ar;exact ah (js (u:=fl c) da dH aA rfl ((Own.all (c:=1) R rfl (by omega)).same (OO dy).1 (OO dy).2.symm)) (a7 rfl (J bp (bn (aP (aG rfl rfl ⟨rfl,E⟩)))))
 have dy:¬ c<128:=by omega
 refine b' (av aQ (aB fun bx=>aa fun bO=>aj 2 rfl (J bO ?_)));refine aX rfl (fun jP=>?_) (fun jP=>?_)
 ·have ev:c<2048:=by omega
  refine aa fun b4=>aO rfl (ah ((oC rfl rfl (by omega)).to (v':=.int .i64 ((c / 64:Nat):Int)) (by rw [Int.natCast_ediv];try rfl)) (ah (aS (r:=((192+c / 64:Nat):Int)) rfl rfl) (ah (e9 gj dH rfl (du _ (by omega))) (aO rfl (ah ((ln rfl rfl (by omega)).to (v':=.int .i64 ((c % 64:Nat):Int)) (by rw [Int.natCast_emod];try rfl)) (ah (aS (r:=((128+c % 64:Nat):Int)) rfl rfl) (ah (e9 gj dH rfl (du _ (by omega))) (ir di kX rfl rfl fun g2 cX cz=>?_))))))));have bJ:=cz.le E;replace E:=E.then cz.mod;have ag:=cz.ar;exact ah (js (u:=fl c) da dH aA rfl ((Own.all (c:=2) ag rfl (by omega)).same (OP dy ev).1 (OP dy ev).2.symm)) (a7 rfl (J b4 (bn (aP (aG rfl rfl ⟨rfl,E⟩)))))
 have ev:¬ c<2048:=by omega
 refine b' (av bx (aB fun cw=>aa fun cy=>aj 2 rfl (J cy ?_)));refine aX rfl (fun wM=>?_) (fun wM=>?_)
 ·have h4:c<65536:=by omega
  refine aa fun b6=>aO rfl (ah ((oC rfl rfl (by omega)).to (v':=.int .i64 ((c / 4096:Nat):Int)) (by rw [Int.natCast_ediv];try rfl)) (ah (aS (r:=((224+c / 4096:Nat):Int)) rfl rfl) (ah (e9 gj dH rfl (du _ (by omega))) (aO rfl (ah ((oC rfl rfl (by omega)).to (v':=.int .i64 ((c / 64:Nat):Int)) (by rw [Int.natCast_ediv];try rfl)) (ah ((ln rfl rfl (by omega)).to (v':=.int .i64 ((c / 64 % 64:Nat):Int)) (by rw [Int.natCast_emod];try rfl)) (ah (aS (r:=((128+c / 64 % 64:Nat):Int)) rfl rfl) (ah (e9 gj dH rfl (du _ (by omega))) (aO rfl (ah ((ln rfl rfl (by omega)).to (v':=.int .i64 ((c % 64:Nat):Int)) (by rw [Int.natCast_emod];try rfl)) (ah (aS (r:=((128+c % 64:Nat):Int)) rfl rfl) (ah (e9 gj dH rfl (du _ (by omega))) ?_))))))))))));refine mM di kX rfl rfl fun g3 gr dF=>?_;have df:=dF.le E;replace E:=E.then dF.mod;have bd:=dF.ar;exact ah (js (u:=fl c) da dH aA rfl ((Own.all (c:=3) bd rfl (by omega)).same (OQ ev h4).1 (OQ ev h4).2.symm)) (a7 rfl (J b6 (bn (aP (aG rfl rfl ⟨rfl,E⟩)))))
 have h4:¬ c<65536:=by omega
 refine b' (av cw (aa fun bR=>aO rfl (ah ((oC rfl rfl (by omega)).to (v':=.int .i64 ((c / 262144:Nat):Int)) (by rw [Int.natCast_ediv];try rfl)) (ah (aS (r:=((240+c / 262144:Nat):Int)) rfl rfl) (ah (e9 gj dH rfl (du _ (by omega))) (aO rfl (ah ((oC rfl rfl (by omega)).to (v':=.int .i64 ((c / 4096:Nat):Int)) (by rw [Int.natCast_ediv];try rfl)) (ah ((ln rfl rfl (by omega)).to (v':=.int .i64 ((c / 4096 % 64:Nat):Int)) (by rw [Int.natCast_emod];try rfl)) (ah (aS (r:=((128+c / 4096 % 64:Nat):Int)) rfl rfl) (ah (e9 gj dH rfl (du _ (by omega))) (aO rfl (ah ((oC rfl rfl (by omega)).to (v':=.int .i64 ((c / 64:Nat):Int)) (by rw [Int.natCast_ediv];try rfl)) ?_))))))))))));refine ah ((ln rfl rfl (by omega)).to (v':=.int .i64 ((c / 64 % 64:Nat):Int)) (by rw [Int.natCast_emod];try rfl)) (ah (aS (r:=((128+c / 64 % 64:Nat):Int)) rfl rfl) (ah (e9 gj dH rfl (du _ (by omega))) (aO rfl (ah ((ln rfl rfl (by omega)).to (v':=.int .i64 ((c % 64:Nat):Int)) (by rw [Int.natCast_emod];try rfl)) (ah (aS (r:=((128+c % 64:Nat):Int)) rfl rfl) (ah (e9 gj dH rfl (du _ (by omega))) (zJ di kX rfl rfl fun g4 h8 N4=>?_)))))));have fQ:=N4.le E;replace E:=E.then N4.mod;have bm:=N4.ar;exact ah (js (u:=fl c) da dH aA rfl ((Own.all (c:=4) bm rfl (by omega)).same (OR h4 aZ).1 (OR h4 aZ).2.symm)) (a7 rfl (J bR (bn (aG rfl rfl ⟨rfl,E⟩))))
theorem JC (w:World) (s:ab) (k:Nat) (bh:s.length≤200000):Calls aR 73 [S s,.int .i64 (k:Int)].toArray w (bH fun u w'=>u = .tuple #[S ((dP s k).getD ([],0)).1,.int .i64 (((dP s k).getD ([],0)).2:Int),.bool (dP s k).isSome]∧Mod [] w w'):=by
 refine cY Tryz.func73 rfl fun E=>aa fun a6=>aj 3 rfl (J a6 (aB fun aQ=>aa fun a'=>aj 2 rfl (kq (cr (show ¬ ((k:Int)<0)by omega)) (aj 3 rfl (ay (bQ aA rfl) (ay (dA rfl rfl) ?_))))));refine c7 (fun e5:(k:Int)≥(s.length:Int)=>?_) (fun e5=>?_)
 ·refine aj 7 rfl (J a' (az rfl ?_));have hI:(dP s k)=none:=by
   unfold dP;rw [ak];intro h
   first | (have:=(List.getElem?_eq_some_iff.1 h).1;omega) | (rw [sU] at h;injection h with h;subst h;exact cH rfl)
  exact aa fun bp=>aj 3 rfl (J bp (bn (aP (nt rfl rfl rfl rfl ⟨by rw [hI];rfl,E⟩))))
 obtain⟨c0,sU⟩:∃ c0,s[k]? = some c0:=⟨_,List.getElem?_eq_getElem (by omega)⟩;refine aj 4 rfl (ay (bN aA rfl rfl sU) (ay (fO rfl rfl) ?_));refine c7 (fun cH:(c0.toNat:Int)≠34=>?_) (fun cH=>?_)
 ·refine ah (hG rfl rfl rfl) (J a' (az rfl ?_));have hI:(dP s k)=none:=by
   unfold dP;rw [ak];intro h
   first | (have:=(List.getElem?_eq_some_iff.1 h).1;omega) | (rw [sU] at h;injection h with h;subst h;exact cH rfl)
  exact aa fun bx=>aj 3 rfl (J bx (bn (aP (nt rfl rfl rfl rfl ⟨by rw [hI];rfl,E⟩))))
 refine ah (hG rfl rfl rfl) (J a' (aI rfl ?_));have e8:s[k]? = some 34:=by rw [sU,dT (show(c0.toNat:Int)=(34:UInt8).toNat by rw [Classical.not_not.1 cH];rfl)]
 refine b' (av aQ (aa fun bO=>a7 rfl (J bO (aa fun b4=>aO rfl (ah (aS (r:=((k+1:Nat):Int)) rfl rfl) (a7 rfl (J b4 (aB fun cw=>eN (bK (σ:=Nat×Value×ab) (fun⟨i,v,out⟩=>[(0,S s),(7,v),(8,.int .i64 (i:Int))]) (fun⟨i,v,out⟩ aJ=>(k<i∧i≤s.length∧out.length≤4*i∧∃ f,s.length-i<f∧gx f (s.drop i) i out=(dP s k))∧iD aJ v out∧(∀ x∈bk v,w.heap.size≤x)∧Mod [] w aJ) (fun⟨i,v,out⟩=>s.length-i) (⟨k+1,.slice none 0 0,[]⟩) (⟨⟨by omega,by omega,by simp,s.length-k,by omega,by rw [dP,aL e8]⟩,Own.nil w 5 1,by simp [bk],E⟩) ?_)))))))));rintro⟨i,v,out⟩ aJ ⟨⟨hk,hi,Wf,f,dn,hinv⟩,O,nh,E⟩;refine aB fun cy=>aa fun b6=>aj 2 rfl (ah (bQ aA rfl) (ah (cT rfl rfl) (J b6 ?_)));refine aX rfl (fun DL=>?_) (fun DL=>?_);rotate_left
 ·have hI:(dP s k)=none:=by rw [← hinv,ER (by omega)]
  exact bL (aP (aP (ch (av cw (aa fun gY=>aj 3 rfl (J gY (bn (nt rfl rfl rfl rfl ⟨by rw [hI];rfl,E⟩))))))))
 obtain⟨c,aZ⟩:∃ c,s[i]? = some c:=⟨_,List.getElem?_eq_getElem (by omega)⟩;obtain⟨g,rfl⟩:∃ g,f=g+1:=⟨f-1,by omega⟩;refine b' (av cy (eN (aB fun bR=>aa fun cv=>aj 2 rfl (ah (bN aA rfl rfl aZ) (ah (k1 rfl rfl) (J cv ?_))))));refine aX rfl (fun tW=>?_) (fun tW=>?_)
 ·obtain rfl:c=34:=dT tW;have hI:(dP s k)=some (out,i+1):=by rw [← hinv,zC aZ]
  exact aa fun bV=>aO rfl (ah (js (u:=out) da dH aA rfl (O.same rfl (dt _))) (aO rfl (ah (aS (r:=((i+1:Nat):Int)) rfl rfl) (aj 3 rfl (J bV (bn (aP (bw (aP (bw (aP (nt rfl rfl rfl rfl ⟨by rw [hI];rfl,E⟩))))))))))))
 have amP:c≠34:=fun e=>tW (by rw [e];rfl);have hf:=hinv.symm.trans (VU aZ amP);refine b' (av bR (aa fun cE=>aj 2 rfl (ah (dV aA rfl rfl hi) (cG E (bB Og rfl) (Oe _ (s.drop i)) fun cX U E=>?_))));replace O:=O.I U;refine aj 5 rfl (J cE (aB fun cI=>aa fun dr=>aj 2 rfl (ah (bN aA rfl rfl aZ) (ah (k1 rfl rfl) (J dr ?_)))));refine aX rfl (fun vR=>?_) (fun vR=>?_)
 ·obtain rfl:c=92:=dT vR;have WO:sj s i=fK (s.drop i):=by unfold sj;rw [aL aZ]
  have hle:=I' aZ;rw [WO] at hf hle;refine b5 (aj 2 rfl (ah (dV aA rfl rfl hi) (cG E (bB acZ rfl) (ac0 _ (s.drop i) (by rw [List.length_drop];omega)) fun gr U E=>?_)));replace O:=O.I U;refine aj 5 rfl (J cI (aB fun ec=>aa fun dG=>aj 2 rfl (J dG ?_)));refine aX rfl (fun ahr=>?_) (fun ahr=>?_)
  ·have hI:(dP s k)=none:=by rw [hf,aL (.inl (by omega))]
   exact aa fun eV=>aj 3 rfl (J eV (bn (aP (bw (aP (bw (aP (nt rfl rfl rfl rfl ⟨by rw [hI];rfl,E⟩))))))))
  rw [ak (by rintro(h | ⟨h,fW⟩) <;> first | omega | exact h rfl)] at hf;refine b' (av ec (aa fun eO=>aj 2 rfl (cG E (bB O6 rfl) (EY _ (fK (s.drop i)).1 hle.1) fun h8 U E=>?_)));replace O:=O.I U;refine bz di rfl rfl O (Src.str aA _) (by decide) (by have:=nq (fK (s.drop i)).1;omega) (by have:=nq (fK (s.drop i)).1;omega) rfl fun v1 iS ek=>?_;have fs:iD iS v1 (out++fl (fK (s.drop i)).1):=ek.own.same (by simp) (by simp [dt,ku]);have rZ:∀ x∈bk v1,w.heap.size≤x:=fun x ae=>(ek.lH x ae).elim (nh x) (fun h=>Nat.le_trans E.size h);replace E:=E.trans' ek.mod (fun x ae=>.inr (nh x ae));exact a7 rfl (J eO (b5 (aj 2 rfl (ah (aS (r:=((i+(fK (s.drop i)).2:Nat):Int)) rfl rfl) (a7 rfl (cx (bw (aw (σ:=Nat×Value×ab) (s:=⟨i,v,out⟩) (⟨i+(fK (s.drop i)).2,v1,out++fl (fK (s.drop i)).1⟩) ⟨⟨by omega,by omega,by rw [List.length_append];have:=nq (fK (s.drop i)).1;omega,g,by omega,hf.symm⟩,fs,rZ,E⟩))))))))
 have Gx:c≠92:=fun e=>vR (by rw [e];rfl);have WO:sj s i=aM (s.drop i):=by unfold sj;rw [ak (by rw [aZ];intro h;injection h with h;exact Gx h)]
 have hle:=I' aZ;rw [WO] at hf hle;refine aa fun eC=>aj 2 rfl ?_;refine c7 (fun Bd:((aM (s.drop i)).2:Int)=0=>?_) (fun Bd=>?_)
 ·refine aj 4 rfl (J eC (az rfl ?_));have hI:(dP s k)=none:=by rw [hf,aL (by first | exact .inl (by omega) | exact .inr ⟨Gx,by omega⟩)]
  exact aa fun eP=>aj 3 rfl (J eP (bn (aP (bw (aP (bw (aP (nt rfl rfl rfl rfl ⟨by rw [hI];rfl,E⟩))))))))
 refine aj 3 rfl ?_;refine c7 (fun tE:((aM (s.drop i)).1:Int)<32=>?_) (fun tE=>?_)
 ·refine ah (hG rfl rfl rfl) (J eC (az rfl ?_));have hI:(dP s k)=none:=by rw [hf,aL (by first | exact .inl (by omega) | exact .inr ⟨Gx,by omega⟩)]
  exact aa fun fw=>aj 3 rfl (J fw (bn (aP (bw (aP (bw (aP (nt rfl rfl rfl rfl ⟨by rw [hI];rfl,E⟩))))))))
 refine ah (hG rfl rfl rfl) (J eC (aI rfl (b' (av cI (aB fun fT=>aa fun gh=>aj 2 rfl (J gh ?_))))));refine aX rfl (fun ahr=>?_) (fun ahr=>?_)
 ·have hI:(dP s k)=none:=by rw [hf,aL (.inl (by omega))]
  exact aa fun fk=>aj 3 rfl (J fk (bn (aP (bw (aP (bw (aP (nt rfl rfl rfl rfl ⟨by rw [hI];rfl,E⟩))))))))
 rw [ak (by rintro(h | ⟨h,fW⟩) <;> first | omega | exact h rfl)] at hf;refine b' (av fT (aa fun hq=>aj 2 rfl (cG E (bB O6 rfl) (EY _ (aM (s.drop i)).1 hle.1) fun i' U E=>?_)));replace O:=O.I U;refine bz di rfl rfl O (Src.str aA _) (by decide) (by have:=nq (aM (s.drop i)).1;omega) (by have:=nq (aM (s.drop i)).1;omega) rfl fun v1 iw ek=>?_;have fs:iD iw v1 (out++fl (aM (s.drop i)).1):=ek.own.same (by simp) (by simp [dt,ku]);have rZ:∀ x∈bk v1,w.heap.size≤x:=fun x ae=>(ek.lH x ae).elim (nh x) (fun h=>Nat.le_trans E.size h);replace E:=E.trans' ek.mod (fun x ae=>.inr (nh x ae));exact a7 rfl (J hq (b5 (aj 2 rfl (ah (aS (r:=((i+(aM (s.drop i)).2:Nat):Int)) rfl rfl) (a7 rfl (cx (bw (aw (σ:=Nat×Value×ab) (s:=⟨i,v,out⟩) (⟨i+(aM (s.drop i)).2,v1,out++fl (aM (s.drop i)).1⟩) ⟨⟨by omega,by omega,by rw [List.length_append];have:=nq (aM (s.drop i)).1;omega,g,by omega,hf.symm⟩,fs,rZ,E⟩))))))))
end Go.Proofs.YtkjgljnkocnnpaaGreatDoor.V
namespace Go.Proofs.YtkjgljnkocnnpaaGreatDoor.V
open Go
theorem xg {c:UInt8} (h:(c.toNat:Int)=32∨(c.toNat:Int)=9∨(c.toNat:Int)=10∨(c.toNat:Int)=13):aT c=true:=by
 rcases h with h | h | h | h
 ·obtain rfl:c=32:=dT h;rfl
 ·obtain rfl:c=9:=dT h;rfl
 ·obtain rfl:c=10:=dT h;rfl
 obtain rfl:c=13:=dT h;rfl
theorem Ja {c:UInt8} (h:¬ ((c.toNat:Int)=32∨(c.toNat:Int)=9∨(c.toNat:Int)=10∨(c.toNat:Int)=13)):aT c=false:=by
 unfold aT;rw [beq_eq_false_iff_ne.2 (fun e=>h (by rw [e];exact .inl rfl)),beq_eq_false_iff_ne.2 (fun e=>h (by rw [e];exact .inr (.inl rfl))),beq_eq_false_iff_ne.2 (fun e=>h (by rw [e];exact .inr (.inr (.inl rfl)))),beq_eq_false_iff_ne.2 (fun e=>h (by rw [e];exact .inr (.inr (.inr rfl))))];rfl
theorem OS {c:UInt8} (h:48≤(c.toNat:Int)∧(c.toNat:Int)≤57):ct c=true:=by
 unfold ct;simp;omega
theorem AN {c:UInt8} (h:¬ (48≤(c.toNat:Int)∧(c.toNat:Int)≤57)):ct c=false:=by
 unfold ct;rw [Bool.eq_false_iff];intro aq;simp at aq;omega
theorem nr {c:UInt8} (h:(48≤(c.toNat:Int)∧(c.toNat:Int)≤57)∨(c.toNat:Int)=43∨(c.toNat:Int)=45∨(c.toNat:Int)=46∨(c.toNat:Int)=101∨(c.toNat:Int)=69):cU c=true:=by
 rcases h with h | h | h | h | h | h
 ·unfold cU;rw [OS h];rfl
 ·obtain rfl:c=43:=dT h;rfl
 ·obtain rfl:c=45:=dT h;rfl
 ·obtain rfl:c=46:=dT h;rfl
 ·obtain rfl:c=101:=dT h;rfl
 obtain rfl:c=69:=dT h;rfl
theorem GB {c:UInt8} (h:¬ ((48≤(c.toNat:Int)∧(c.toNat:Int)≤57)∨(c.toNat:Int)=43∨(c.toNat:Int)=45∨(c.toNat:Int)=46∨(c.toNat:Int)=101∨(c.toNat:Int)=69)):cU c=false:=by
 unfold cU;rw [AN (fun e=>h (.inl e)),beq_eq_false_iff_ne.2 (fun e=>h (by rw [e];exact .inr (.inl rfl))),beq_eq_false_iff_ne.2 (fun e=>h (by rw [e];exact .inr (.inr (.inl rfl)))),beq_eq_false_iff_ne.2 (fun e=>h (by rw [e];exact .inr (.inr (.inr (.inl rfl))))),beq_eq_false_iff_ne.2 (fun e=>h (by rw [e];exact .inr (.inr (.inr (.inr (.inl rfl)))))),beq_eq_false_iff_ne.2 (fun e=>h (by rw [e];exact .inr (.inr (.inr (.inr (.inr rfl))))))];rfl
theorem yG {s t:ab} {k:Nat}:aC s k t=decide ((s.drop k).take t.length=t):=by rw [Bool.eq_iff_iff,yx,decide_eq_true_eq]
theorem V' {s t:ab} {k:Nat} (h:s.length<k+t.length) (hk:k≤s.length):aC s k t=false:=by
 rw [yG,decide_eq_false];intro e;have:=kZ List.length e;rw [List.length_take,List.length_drop] at this;omega
section
variable {w:ab} {a e bu ee:Nat}
theorem Jb (aE:a=if aC w 0 [45] then 1 else 0) (he:e=ai ct w a) (h:e=a∨(a+1<e∧w[a]? = some 48)):dw w=(false,false):=by
 subst he;subst aE;unfold dw;simp only;rw [aL h]
theorem Jc (aE:a=if aC w 0 [45] then 1 else 0) (he:e=ai ct w a) (h:¬ (e=a∨(a+1<e∧w[a]? = some 48))) (hm:aC w e [46]=true) (hk:ai ct w (e+1)=e+1):dw w=(false,false):=by
 subst he;subst aE;unfold dw;simp only;rw [ak h,aL ⟨hm,hk⟩]
theorem OT (aE:a=if aC w 0 [45] then 1 else 0) (he:e=ai ct w a) (h:¬ (e=a∨(a+1<e∧w[a]? = some 48))) (aq:¬ (aC w e [46]=true∧ai ct w (e+1)=e+1)) (l7:bu=if aC w e [46] then ai ct w (e+1)else e) (gR:(aC w bu [101]||aC w bu [69])=false):dw w=(decide (bu=w.length),aC w e [46]):=by
 subst l7;subst he;subst aE;unfold dw;simp only;rw [ak h,ak aq,ak (by rw [gR];simp)]
theorem xh (aE:a=if aC w 0 [45] then 1 else 0) (he:e=ai ct w a) (h:¬ (e=a∨(a+1<e∧w[a]? = some 48))) (aq:¬ (aC w e [46]=true∧ai ct w (e+1)=e+1)) (l7:bu=if aC w e [46] then ai ct w (e+1)else e) (gR:(aC w bu [101]||aC w bu [69])=true) (l8:ee=if aC w (bu+1) [43]||aC w (bu+1) [45] then bu+2 else bu+1) (hk:ai ct w ee=ee):dw w=(false,false):=by
 subst l8;subst l7;subst he;subst aE;unfold dw;simp only;rw [ak h,ak aq,aL gR,aL hk]
theorem AO (aE:a=if aC w 0 [45] then 1 else 0) (he:e=ai ct w a) (h:¬ (e=a∨(a+1<e∧w[a]? = some 48))) (aq:¬ (aC w e [46]=true∧ai ct w (e+1)=e+1)) (l7:bu=if aC w e [46] then ai ct w (e+1)else e) (gR:(aC w bu [101]||aC w bu [69])=true) (l8:ee=if aC w (bu+1) [43]||aC w (bu+1) [45] then bu+2 else bu+1) (hk:¬ ai ct w ee=ee):dw w=(decide (ai ct w ee=w.length),true):=by
 subst l8;subst l7;subst he;subst aE;unfold dw;simp only;rw [ak h,ak aq,aL gR,ak hk]
end
def awl:tA→JV
 | .ok x=>x.1
 | .error _=>JV.fg
def awm:tA→Nat
 | .ok x=>x.2
 | .error _=>0
def amj:tA→Int
 | .ok _=>0
 | .error e=>e
theorem hW {w:ab} (h1:¬ (dw w).1=false) (h:(dw w).2=true):iU w = .error 7:=by
 unfold iU;rw [ak h1,Mj h]
theorem yH {w:ab} {n:Int} (h1:¬ (dw w).1=false) (h:Lib.itoa n=w) (cg : -9007199254740991≤n) (aq:n≤9007199254740991):iU w = .ok n:=by
 unfold iU;rw [ak h1,v7 cg aq h]
end Go.Proofs.YtkjgljnkocnnpaaGreatDoor.V
