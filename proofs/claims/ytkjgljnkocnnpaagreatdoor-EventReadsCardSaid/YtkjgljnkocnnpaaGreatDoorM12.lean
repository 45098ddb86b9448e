/-
  A part of the proof: an event out of a JSON value, taken member by member, in plain Lean; bytes as letters, six bits by six; six bits out of a number, a byte put behind a number, in the words of the machine's kinds; an append in the place of an own slice's rest; a slice with three bounds; an event's value without some of its members; an event's text without some of its members is one, if the event has a text; so has the stripped event; an event that can be, its text; what has a text has keys that rise; an event out of a JSON value: what is taken, one behind the other; an event out of a JSON value: how great it may be. No condition of its own.
-/
import Derived.Test.YtkjgljnkocnnpaaGreatDoorM5
import Derived.Test.YtkjgljnkocnnpaaGreatDoorM11
import Derived.Test.YtkjgljnkocnnpaaGreatDoorProg
import Derived.Test.YtkjgljnkocnnpaaGreatDoorM9
import Derived.Test.YtkjgljnkocnnpaaGreatDoorM8
import Derived.Test.YtkjgljnkocnnpaaGreatDoorM3
import Derived.Test.YtkjgljnkocnnpaaGreatDoorM1
import Derived.Test.YtkjgljnkocnnpaaGreatDoorM2
import Derived.Test.YtkjgljnkocnnpaaGreatDoorM0
set_option linter.all false
namespace Go.Proofs.YtkjgljnkocnnpaaGreatDoor.V
open Go
structure oe where
 rest:JV
 bad:Bool
def dZ (t:oe) (k:ab) (kind:Int):JV×oe:=match t.rest.get k with
 | some x=>if x.kind=kind then (x,⟨JV.obj (c6 t.rest.fN k),t.bad⟩)else (JV.fg,⟨t.rest,true⟩)
 | none=>(JV.fg,⟨t.rest,true⟩)
def Hi (t:oe) (k:ab):List ab×oe:=((dZ t k 4).1.list.map JV.str,⟨(dZ t k 4).2.rest,(dZ t k 4).2.bad||(dZ t k 4).1.list.any fun x=>decide (x.kind≠3)⟩)
theorem qi {t:oe} {k:ab} {kind:Int} (h:t.rest.get k=none):dZ t k kind=(JV.fg,⟨t.rest,true⟩):=by unfold dZ;rw [h]
theorem qh {t:oe} {k:ab} {kind:Int} {x:JV} (h:t.rest.get k=some x) (hk:x.kind≠kind):dZ t k kind=(JV.fg,⟨t.rest,true⟩):=by unfold dZ;rw [h];simp only;rw [ak hk]
theorem og {t:oe} {k:ab} {kind:Int} {x:JV} (h:t.rest.get k=some x) (hk:x.kind=kind):dZ t k kind=(x,⟨JV.obj (c6 t.rest.fN k),t.bad⟩):=by unfold dZ;rw [h];simp only;rw [aL hk]
def oe.fit (t:oe):Prop:=et t.rest.map∧t.rest.map.length≤1000000∧∀ p∈t.rest.map,p.2.list.length≤1000000∧et p.2.map∧p.2.map.length≤1000000
theorem oe.CP {t:oe} (h:t.fit):et t.rest.fN∧t.rest.fN.length≤1000000:=by
 unfold JV.fN
 split
 ·exact⟨h.1,h.2.1⟩
 exact⟨List.Pairwise.nil,by simp⟩
theorem oe.jd {t:oe} (h:t.fit) (k:ab) (kind:Int):(dZ t k kind).2.fit:=by
 unfold dZ
 split
 ·split
  ·obtain⟨h1,aq⟩:=oe.CP h;refine⟨List.Pairwise.filter _ h1,Nat.le_trans (List.length_filter_le _ _) aq,fun p cc=>?_⟩;have wq:p∈t.rest.fN:=(List.mem_filter.1 cc).1;unfold JV.fN at wq
   split at wq
   ·exact h.2.2 p wq
   cases wq
  exact h
 exact h
theorem oe.Km {t:oe} (h:t.fit) (b:Bool):(⟨t.rest,b⟩:oe).fit:=h
theorem oe.Kj {t:oe} (h:t.fit) (k:ab) (kind:Int):(dZ t k kind).1.list.length≤1000000∧et (dZ t k kind).1.map∧(dZ t k kind).1.map.length≤1000000:=by
 have cu:JV.fg.list.length≤1000000∧et JV.fg.map∧JV.fg.map.length≤1000000:=⟨by simp [JV.fg,JV.list],List.Pairwise.nil,by simp [JV.fg,JV.map]⟩;cases dY:t.rest.get k with
 | none=>rw [qi dY];exact cu
 | some x=>
  by_cases hk:x.kind=kind
  ·rw [og dY hk];exact h.2.2 _ (JV.yZ dY)
  rw [qh dY hk];exact cu
end Go.Proofs.YtkjgljnkocnnpaaGreatDoor.V
set_option maxRecDepth 10000
namespace Go.Proofs.YtkjgljnkocnnpaaGreatDoor.V
open Go Go.Proofs
abbrev av6:Nat:=0
set_option maxRecDepth 10000
set_option maxRecDepth 10000
set_option maxRecDepth 10000
set_option maxRecDepth 10000
set_option maxRecDepth 10000
set_option maxRecDepth 10000
set_option maxRecDepth 10000
end Go.Proofs.YtkjgljnkocnnpaaGreatDoor.V
namespace Go.Proofs.YtkjgljnkocnnpaaGreatDoor.V
open Go
end Go.Proofs.YtkjgljnkocnnpaaGreatDoor.V
set_option maxRecDepth 10000
namespace Go.Proofs.YtkjgljnkocnnpaaGreatDoor.V
open Go Go.Proofs
set_option maxRecDepth 10000
end Go.Proofs.YtkjgljnkocnnpaaGreatDoor.V
namespace Go.Proofs.YtkjgljnkocnnpaaGreatDoor.V
open Go
section
variable {P:Program} {ops:Array Oper} {Q:Exit→Act→World→Prop} {n:Nat} {ds:List Deferred} {l:List (Nat×Value)} {w w':World} {a:Act}
variable {rest:List Oper} {d:Nat} {op:Op} {ty:TypeId} {pos:String} {af:Array Edge}
variable {dd:Option Nat} {gg:Option (Nat×Bool)} {x y z:Operand} {t t':TypeId}
theorem Tm {s8 e sz fM N c k c':Nat} {ad:Addr} {u:Value} {vs news:List Value} (bW:kU P t e sz fM=true) (O:Own w e sz (.slice (some ad) N c) N vs) (ae:bf l x=some (.slice (some ad) k c)) (ba:bf l y=some u)
  (bh:Src P sz s8 u c' news w) (hk:k+c'≤N) (bT:Nat.blt d n=true)
  (h:∀ w',Own w' e sz (.slice (some ad) N c) N (vs.take (k*sz)++news++vs.drop ((k+c')*sz))→Mod [ad.block] w w'→w'.heap.size=w.heap.size→fI P ops Q rest n ds ((d,.slice (some ad) (k+c') c)::l) w') :
  fI P ops Q (⟨some d,.call {callee:=.builtin .append,args:=#[x,y],argTypes:=#[t,s8]},ty,pos,af,none⟩::rest) n ds l w:=by
 obtain⟨i,z,h1,aq,bb,bP,cZ,fy⟩:=jZ bW
 subst bb
 rcases O.2 with⟨cg,_⟩ | ⟨g,o,cap,cs,bI,ev,eQ,h3,uc,rG⟩
 ·cases cg
 injection bI with bu ee kH
 injection bu with bu
 subst bu;subst kH
 have tq:=bh.newsLen
 have hle:(k+c')*i.size≤N*i.size:=Nat.mul_le_mul_right _ hk
 have Fa:N*i.size≤c*i.size:=Nat.mul_le_mul_right _ eQ
 have pb:=O.1
 have afj:(k+c')*i.size=k*i.size+c'*i.size:=Nat.add_mul _ _ _
 have pc:k+c'≤c:=by omega
 obtain⟨aJ,hf,cc⟩:=jc (P:=P) ev (o:=o+k*i.size) (vs:=news) (by rw [tq];omega) bh.one
 have bo:(Builtin.append_ #[t,s8] ty #[.slice (some ⟨g,o,none⟩) k c,u]).run P w = .ok (.slice (some ⟨g,o,none⟩) (k+c') c) aJ:=by
  rcases bh.kind with⟨yu,hk⟩ | hk <;> simp [Builtin.append_,run_underlying h1,run_underlying hk,sizeOf,typeInfo,aq,bh.len,pc,bh.cells,Addr.add_lit,hf]
 refine hg (v:=.slice (some ⟨g,o,none⟩) (k+c') c) (w':=aJ) (fun ρ gw=>?_) bT (h aJ ⟨?_,.inr ⟨g,o,c,_,rfl,cc.ar,eQ,h3,by simp [splice];omega,?_⟩⟩ cc.mod cc.size)
 ·simp [execOp,resolve,invoke,builtin,gw _ _ ae,gw _ _ ba,bo]
 ·simp only [List.length_append,List.length_take,List.length_drop,tq,pb]
  omega
 subst rG
 apply List.ext_getElem?
 intro j
 simp only [splice,tq]
 simp only [List.getElem?_take,List.getElem?_drop,List.getElem?_append,List.length_append,List.length_take,List.length_drop,tq]
 repeat' split
 all_goals first
  | omega
  | rfl
  | (congr 1;omega)
theorem abk {ad:Option Addr} {c c' e sz fM lo hi mx:Nat} {h fW SX:Operand} (bW:kU P t e sz fM=true) (ae:bf l x=some (.slice ad c c')) (cb:bf l h=some (.int .i64 (lo:Int))) (kf:bf l fW=some (.int .i64 (hi:Int))) (hm:bf l SX=some (.int .i64 (mx:Int))) (aW:lo≤hi∧hi≤mx∧mx≤c') :
  bE P l ⟨dd,.slice t x (some h) (some fW) (some SX),ty,pos,af,gg⟩ w (.slice (nO ad mx lo sz) (hi-lo) (mx-lo)) w:=fun ρ gw=>by
 obtain⟨i,z,h1,aq,bb,bP,cZ,fy⟩:=jZ bW
 subst bb
 have s1:=run_sliceBound (P:=P) (w:=w) .i64 (mx:Int) c' .slice3Acap (by omega) (by omega)
 have s2:=run_sliceBound (P:=P) (w:=w) .i64 (hi:Int) mx .slice3B (by omega) (by omega)
 have aAn:=run_sliceBound (P:=P) (w:=w) .i64 (lo:Int) hi .slice3C (by omega) (by omega)
 simp [execOp,Instr.sliceAt,Instr.slice,gw _ _ ae,gw _ _ cb,gw _ _ kf,gw _ _ hm,run_underlying h1,dj aq,Instr.sliceBounds,s1,s2,aAn,nO]
end
theorem LJ {vs:List Value} {n i sz:Nat} (cb:vs.length=n*sz) (hi:i<n) :
  (vs.take (i*sz)++(vs.drop ((i+1)*sz)).take ((n-(i+1))*sz)++vs.drop ((i+(n-(i+1)))*sz)).take ((i+(n-(i+1)))*sz)=vs.take (i*sz)++vs.drop ((i+1)*sz):=by
 have h1:(i+1)*sz+(n-(i+1))*sz=n*sz:=by rw [← Nat.add_mul];congr 1;omega
 have aq:(i+(n-(i+1)))*sz=i*sz+(n-(i+1))*sz:=Nat.add_mul _ _ _
 have bb:i*sz≤n*sz:=Nat.mul_le_mul_right _ (by omega)
 have bP:(vs.drop ((i+1)*sz)).take ((n-(i+1))*sz)=vs.drop ((i+1)*sz):=List.take_of_length_le (by rw [List.length_drop];omega)
 rw [bP]
 refine List.take_left' ?_
 rw [List.length_append,List.length_take,List.length_drop]
 omega
end Go.Proofs.YtkjgljnkocnnpaaGreatDoor.V
set_option maxRecDepth 10000
namespace Go.Proofs.YtkjgljnkocnnpaaGreatDoor.V
open Go Go.Proofs
theorem abi (w:World) (n i c:Nat) (ad:Addr) (vs:List Value) (O:Own w 38 7 (.slice (some ad) n c) n vs) (h1:∀ u∈vs,u.oneCell'=true) (hi:i<n) (cu:n≤1353245080310):Calls aR 35 [.slice (some ad) n c,.int .i64 (i:Int),.int .i64 ((i+1:Nat):Int)].toArray w (bH fun u w'=>u = .slice (some ad) (i+(n-(i+1))) c∧Own w' 38 7 u (n-1) (vs.take (i*7)++vs.drop ((i+1)*7))∧Mod [ad.block] w w'):=by
 refine iZ Tryz.func35 rfl fun E=>?_;obtain⟨qR,c1,dn,abj,ay8⟩:=O.form;injection dn with bu ee kH
 subst bu;subst kH;refine aa fun a6=>a7 rfl (J a6 (aa fun aQ=>aj 4 rfl (ah (bY cO rfl) (ah (abk (lo:=i) (hi:=i+1) (mx:=n) dk rfl rfl rfl rfl (by omega)) (J aQ (aB fun a'=>aa fun bp=>aj 2 rfl (ah ((k1 rfl rfl).to (v':=.bool false) (cf (cr (by omega)))) (J bp (aI rfl ?_)))))))));refine b' (av a' (aa fun bx=>aO rfl (ah (bY cO rfl) (a7 rfl (J bx (aB fun bO=>ks [] [0,1,2,3,4,5] 6 [7] wide (by kernel_rfl) (fun _ _ _ h=>h.2) (jG (hF 2 rfl rfl (ax (fun U=>(FX dk rfl rfl (by omega) abj)) (hF 2 rfl rfl (ax (fun U=>(lk (lo:=i+1) dk rfl rfl (by omega) abj)) ?_)))))))))));refine oF rfl fun aJ U=>?_;replace E:=E.then U;have fs:=O.I E;have aq5:=fs.cut (lo:=i+1) (hi:=n) (by omega) (Nat.le_refl n);refine Tm dk fs rfl rfl (Src.own cO aq5 (fun u hu=>h1 u (List.mem_of_mem_drop (List.mem_of_mem_take hu)))) (by omega) rfl fun cX rV ay9 ay'=>?_;have aza:Mod [ad.block] w cX:=(E.mono (by simp)).trans ay9;clear E;refine a7 rfl (J bO (aa fun b4=>aj 2 rfl (ah (bY cO rfl) (aO rfl (ah (abl (lo:=(i+(n-(i+1)))) (hi:=n) dk rfl rfl rfl (by omega) (by omega)) (Tn dk eU rfl (by decide) (by simp [Value.oneCell']) rV (k:=(i+(n-(i+1)))) (by omega) rfl fun gr zo azb azc=>?_))))));have aq6:=aza.trans azb;exact J b4 (aa fun cw=>aj 2 rfl (J cw (bn (aG rfl rfl ⟨rfl,zo.same (by omega) (LJ O.1 hi),aq6⟩))))
set_option maxRecDepth 10000
def afT:=eW Tryz.func35
theorem To (A:List Nat) (w:World) (dy:∀ a∈A,a<w.heap.size) (v:JV) (us:List Value) (aBn:ao A w v.D us) (k:ab) (aE:et v.fN) (cu:v.fN.length≤1353245080310):Calls aR 13 [.agg us.toArray,S k].toArray w (bH fun u w'=>∃ ga,u = .agg ga.toArray∧ao A w' (JV.obj (c6 v.fN k)).D ga∧Mod [] w w'):=by
 refine cY Tryz.func13 rfl fun E=>?_;obtain⟨al,cl,am,cm,rfl,k3,j3⟩:=JV.aU aBn;have aBn:=JV.bX k3 j3;refine aa fun a6=>eY rfl rfl rfl fun g1 aJ bZ=>?_;have aY:=bZ.le E;replace E:=E.then bZ.mod;have R:=bZ.ar;refine bj bA rfl fun g2 cX cz=>?_;have bJ:=cz.le E;have bl:=cz.ne R;replace R:=R.I cz.mod;replace E:=E.then cz.mod;have ag:=cz.ar;refine J a6 (aa fun aQ=>ah (br au rfl (R.cs rfl)) (cJ (bB Tp rfl) (Ei A w _ v _ aBn) fun cN gr aH=>?_));obtain⟨aq7,U⟩:=aH;replace R:=R.I U;replace ag:=ag.I U;replace E:=E.then U;have Ba:=R.lt;have Bb:=ag.lt;have N7:=E.size;refine cJ (bB Tq rfl) (Ej A w _ v.fN _ aq7 E cu) fun cN h8 aH=>?_;obtain⟨vs,yc,nG,yg,U⟩:=aH;replace R:=R.I U;replace ag:=ag.I U;replace E:=E.then U;have D1:∀ x∈bk cN,x≠g1:=fun x ae e=>by have:=yg x ae;omega
 have D2:∀ x∈bk cN,x≠g2:=fun x ae e=>by have:=yg x ae;omega
 have rZ:∀ x∈bk cN,w.heap.size≤x:=fun x ae=>by have:=yg x ae;omega
 obtain⟨vI,c3,rfl,akE,akF⟩:=yc.form;refine ah (bc dz bA rfl rfl) (bj bA rfl fun g3 iS dF=>?_);have df:=dF.le E;have dv:=dF.ne R;have ca:=dF.ne ag;have FY:=dF.bU yc;replace R:=R.I dF.mod;replace ag:=ag.I dF.mod;replace E:=E.then dF.mod;replace yc:=yc.I dF.mod;have bd:=dF.ar;refine aK au bd rfl rfl fun i' kI=>?_;replace R:=R.ne kI.mod dv;replace ag:=ag.ne kI.mod ca;replace E:=E.own kI.mod df;replace yc:=yc.put kI.mod FY;replace bd:aF i' g3 _ [_,_,_,_,_,_]:=kI.ar;refine J aQ (aB fun a'=>aa fun bp=>ah (aD cd rfl) (ah (bF dM rfl (bd.cell rfl)) (aO rfl ?_)));have akG:=Own.vr (A:=[]) yc ((nG.eu (by simp)).b1 E) rfl (by simp);refine cG E (bB LK rfl) (Bc _ v.fN _ akG k aE cu) fun iw U E=>?_;replace R:=R.I U;replace ag:=ag.I U;replace bd:=bd.I U;replace yc:=yc.I U;refine aj 5 rfl (J bp (aa fun bx=>aO rfl (J bx ?_)));refine a1 rfl (fun nH=>?_) (fun nH=>?_);rotate_left
 ·have abm:c6 v.fN k=v.fN:=PU (by cases cb:look v.fN k with | none=>rfl | some z=>rw [cb] at nH;simp at nH);have vJ:=nG;have hT:(c6 v.fN k).length=v.fN.length:=by rw [abm]
  rw [← abm] at vJ;have afV:=rZ;refine b' (av a' (aa fun b4=>ah (br au rfl (bd.cs rfl)) (aK au ag rfl rfl fun jJ fa=>?_)));replace R:=R.ne fa.mod bl;replace bd:=bd.ne fa.mod (Ne.symm ca);replace E:=E.own fa.mod bJ;replace yc:=yc.put fa.mod D2;replace ag:aF jJ g2 _ [_,_,_,_,_,_]:=fa.ar;exact J b4 (bn (gT rfl au rfl (ag.cs rfl) ⟨_,rfl,JV.k4 hT (Own.vr yc (vJ.b1 E) hT (fun x ae h=>by have:=afV x ae;have:=dy x h;omega)),E⟩))
 obtain⟨y,ba,afU,_⟩:=uM aE nH;have zZ:=(List.getElem?_eq_some_iff.1 ba).1;obtain⟨vI,rfl⟩:∃ a,vI=some a:=by
  cases vI with
  | some a=>exact⟨a,rfl⟩
  | none=>have:=JV.FZ akG;rw [this] at zZ;simp at zZ
 refine b5 (ah (aD cd rfl) (ah (bF dM rfl (bd.cell rfl)) (aj 2 rfl (ah (aS (r:=((gD v.fN k+1:Nat):Int)) rfl rfl) (cJ (bB afT rfl) (abi _ v.fN.length (gD v.fN k) c3 vI vs yc nG.one zZ cu) fun cN nd aH=>?_)))));obtain⟨rfl,H0,U⟩:=aH;have nI:gD v.fN k+(v.fN.length-(gD v.fN k+1))=v.fN.length-1:=by omega
 rw [nI] at H0 ⊢;have afV:∀ x∈bk (.slice (some vI) (v.fN.length-1) c3),w.heap.size≤x:=fun x ae=>rZ x (by simpa [bk] using ae);have aq8:∀ x∈bk (.slice (some vI) (v.fN.length-1) c3),x≠g2:=fun x ae=>D2 x (by simpa [bk] using ae);have Tr:∀ x∈bk (.slice (some vI) (v.fN.length-1) c3),x≠g3:=fun x ae=>FY x (by simpa [bk] using ae);replace E:=E.trans' U (fun x ae=>.inr (rZ x (by simpa [bk] using ae)));replace ag:=ag.mod U (fun h=>D2 vI.block (by simp [bk]) (dx h).symm);replace bd:=bd.mod U (fun h=>FY vI.block (by simp [bk]) (dx h).symm);have vJ:=JV.PT nG zZ;have akH:c6 v.fN k=v.fN.take (gD v.fN k)++v.fN.drop (gD v.fN k+1):=by have lZ:=N8 aE ba;rw [afU] at lZ;exact lZ
 rw [← akH] at vJ;have hT:(c6 v.fN k).length=v.fN.length-1:=by rw [akH,List.length_append,List.length_take,List.length_drop];omega
 refine ah (aD cd rfl) (cL dM bd rfl rfl fun lF lW=>?_);replace ag:=ag.ne lW.mod ca;replace E:=E.own lW.mod df;replace H0:=H0.put lW.mod Tr;replace bd:aF lF g3 _ [_,_,_,_,_,_]:=lW.ar;refine J a' (aa fun bO=>ah (br au rfl (bd.cs rfl)) (aK au ag rfl rfl fun h2 h9=>?_));replace bd:=bd.ne h9.mod (Ne.symm ca);replace E:=E.own h9.mod bJ;replace H0:=H0.put h9.mod aq8;replace ag:aF h2 g2 _ [_,_,_,_,_,_]:=h9.ar;exact J bO (bn (gT rfl au rfl (ag.cs rfl) ⟨_,rfl,JV.k4 hT (Own.vr H0 (vJ.b1 E) hT (fun x ae h=>by have:=afV x ae;have:=dy x h;omega)),E⟩))
end Go.Proofs.YtkjgljnkocnnpaaGreatDoor.V
namespace Go.Proofs.YtkjgljnkocnnpaaGreatDoor.V
open Go
end Go.Proofs.YtkjgljnkocnnpaaGreatDoor.V
set_option maxRecDepth 10000
namespace Go.Proofs.YtkjgljnkocnnpaaGreatDoor.V
open Go Go.Proofs
set_option maxRecDepth 10000
def rp:=kT (j4 aR 80 0 0 6)
def hy:=kT (j4 aR 80 1 6 1)
def ah4:=eW Tryz.func13
/-- a taker in memory -/
def qD (A:List Nat) (w:World) (g:Nat) (t:oe):Prop:=∃ al cl am cm,aF w g 80 [.int .i64 t.rest.kind,.bool t.rest.is,.int .i64 t.rest.num,S t.rest.str,.slice al t.rest.list.length cl,.slice am t.rest.map.length cm,.bool t.bad]∧bq A w (.jH 6 (t.rest.list.map JV.D)) (.slice al t.rest.list.length cl)∧bq A w (.jH 7 (t.rest.map.map JV.jq)) (.slice am t.rest.map.length cm)
theorem qD.I {A:List Nat} {w w':World} {g:Nat} {t:oe} (h:qD A w g t) (k:Mod [] w w'):qD A w' g t:=by
 obtain⟨al,cl,am,cm,h1,aq,bb⟩:=h;exact⟨al,cl,am,cm,h1.I k,aq.b1 k,bb.b1 k⟩
theorem qD.mod {A M:List Nat} {w w':World} {g:Nat} {t:oe} (h:qD A w g t) (k:Mod M w w') (eX:∀ x∈M,x∈A) (dY:g∉M):qD A w' g t:=by
 obtain⟨al,cl,am,cm,h1,aq,bb⟩:=h;exact⟨al,cl,am,cm,h1.mod k dY,aq.toM k eX,bb.toM k eX⟩
theorem qD.lt {A:List Nat} {w:World} {g:Nat} {t:oe} (h:qD A w g t):g<w.heap.size:=by
 obtain⟨_,_,_,_,h1,_⟩:=h;exact h1.lt
theorem lf (A:List Nat) (w:World) (g:Nat) (t:oe) (H:qD A w g t) (dY:g∈A) (dy:∀ a∈A,a<w.heap.size) (bW:t.fit) (k:ab) (kind:Int):Calls aR 43 [.pointer (some ⟨g,0,none⟩),S k,.int .i64 kind].toArray w (bH fun u w'=>∃ us,u = .agg us.toArray∧ao A w' (dZ t k kind).1.D us∧qD A w' g (dZ t k kind).2∧Mod [g] w w'):=by
 refine CA Tryz.func43 rfl ?_;have E:=Mod.refl [g] w;have xK:=Mod.refl [] w;obtain⟨al,cl,am,cm,B,k3,j3⟩:=H;refine aa fun a6=>bj bA rfl fun g1 aJ bZ=>?_;have aY:=bZ.le E;have anC:=bZ.le xK;have my:=bZ.ne B;replace B:=B.I bZ.mod;replace E:=E.then bZ.mod;replace xK:=xK.then bZ.mod;have R:=bZ.ar;refine J a6 (aa fun aQ=>aj 2 rfl (ah (aD rp rfl) (ah (br au rfl (B.cs rfl)) (aO rfl (cJ (bB Nk rfl) (F5 A _ _ xK t.rest _ (JV.bX (v:=t.rest) k3 j3) k bW.1 (by have:=bW.2.1;omega)) fun cN cX aH=>?_)))));obtain⟨yS,rfl,WW,U⟩:=aH;replace B:=B.I U;replace R:=R.I U;replace E:=E.then U;replace xK:=xK.then U;obtain⟨yT,yU,Am,An,rfl,oW,ps⟩:=JV.aU WW;replace WW:=JV.bX oW ps;have CO:=Mod.refl [] cX;refine aj 3 rfl (bj bA rfl fun g2 gr cz=>?_);have bJ:=cz.le E;have XM:=cz.le xK;have R1:=cz.le CO;have wo:=cz.ne B;have bl:=cz.ne R;replace B:=B.I cz.mod;replace R:=R.I cz.mod;replace E:=E.then cz.mod;replace xK:=xK.then cz.mod;replace CO:=CO.then cz.mod;have ag:=cz.ar;refine aK au ag rfl rfl fun h8 j0=>?_;replace B:=B.ne j0.mod wo;replace R:=R.ne j0.mod bl;replace E:=E.own j0.mod bJ;replace xK:=xK.own j0.mod XM;replace CO:=CO.own j0.mod R1;replace ag:aF h8 g2 _ [_,_,_,_,_,_]:=j0.ar;refine a7 rfl (J aQ (aB fun a'=>aa fun bp=>aO rfl ?_));refine tn (fun Bm:((t.rest.get k).isSome)=true=>?_) (fun Bm=>?_);rotate_left
 ·have ae:t.rest.get k=none:=by cases h:t.rest.get k with | none=>rfl | some x=>rw [h] at Bm;cases Bm
  refine aj 7 rfl (J bp (az rfl (aa fun cy=>aj 2 rfl (ah (aD hy rfl) (cL kV B rfl rfl fun h2 h9=>?_)))));replace R:=R.ne h9.mod (Ne.symm my);replace ag:=ag.ne h9.mod (Ne.symm wo);replace E:=E.trans h9.mod;replace B:aF h2 g _ [_,_,_,_,_,_,_]:=h9.ar;refine J cy (aa fun b6=>ah (bc dz bA rfl rfl) (aK au R rfl rfl fun jJ fa=>?_));replace B:=B.ne fa.mod my;replace ag:=ag.ne fa.mod (Ne.symm bl);replace E:=E.own fa.mod aY;replace R:aF jJ g1 _ [_,_,_,_,_,_]:=fa.ar;exact J b6 (bn (aP (gT rfl au rfl (R.cs rfl) ⟨_,rfl,by rw [qi ae];exact JV.b3,by rw [qi ae];exact⟨al,cl,am,cm,B,k3.toM E (fun a aE=>by rw [dx aE];exact dY),j3.toM E (fun a aE=>by rw [dx aE];exact dY)⟩,E⟩)))
 obtain⟨x,ae⟩:=Option.isSome_iff_exists.1 Bm;simp only [ae,Option.getD_some] at WW ag ⊢;refine aj 2 rfl (ay (aD hK rfl) (ay (bF eg rfl (ag.cell rfl)) (aj 2 rfl ?_)));refine c7 (fun hk:x.kind≠kind=>?_) (fun hk=>?_)
 ·refine ah (hG rfl rfl rfl) (J bp (az rfl (aa fun bx=>aj 2 rfl (ah (aD hy rfl) (cL kV B rfl rfl fun iS hd=>?_)))));replace R:=R.ne hd.mod (Ne.symm my);replace ag:=ag.ne hd.mod (Ne.symm wo);replace E:=E.trans hd.mod;replace B:aF iS g _ [_,_,_,_,_,_,_]:=hd.ar;refine J bx (aa fun bO=>ah (bc dz bA rfl rfl) (aK au R rfl rfl fun i' kI=>?_));replace B:=B.ne kI.mod my;replace ag:=ag.ne kI.mod (Ne.symm bl);replace E:=E.own kI.mod aY;replace R:aF i' g1 _ [_,_,_,_,_,_]:=kI.ar;exact J bO (bn (aP (gT rfl au rfl (R.cs rfl) ⟨_,rfl,by rw [qh ae hk];exact JV.b3,by rw [qh ae hk];exact⟨al,cl,am,cm,B,k3.toM E (fun a aE=>by rw [dx aE];exact dY),j3.toM E (fun a aE=>by rw [dx aE];exact dY)⟩,E⟩)))
 refine ah (hG rfl rfl rfl) (J bp (aI rfl (b' (av a' (aB fun b4=>?_)))));have anD:∀ a∈g1::A,a∈A∨w.heap.size≤a:=fun a aE=>by rcases cB aE with rfl | aE;exact .inr aY;exact .inl aE
 refine b5 (aj 3 rfl (ah (aD rp rfl) (ah (br au rfl (B.cs rfl)) (aO rfl (cJ (bB ah4 rfl) (To (g1::A) _ (fun a aE=>by rcases cB aE with rfl | aE;exact R.lt;exact Nat.lt_of_lt_of_le (dy a aE) E.size) t.rest _ ((JV.bX (v:=t.rest) (k3.more (A':=g1::A) anD) (j3.more (A':=g1::A) anD)).b1 xK) k (oe.CP bW).1 (by have:=(oe.CP bW).2;omega)) fun cN iw aH=>?_)))));obtain⟨azP,rfl,Rd,U⟩:=aH;replace B:=B.I U;replace R:=R.I U;replace ag:=ag.I U;replace E:=E.then U;replace xK:=xK.then U;replace CO:=CO.then U;obtain⟨azQ,azR,azS,azT,rfl,R2,R3⟩:=JV.aU Rd;replace Rd:=JV.bX R2 R3;have awC:=Mod.refl [] iw;refine ah (eS rfl) (ah (aD rp rfl) (aK au B rfl rfl fun nd lY=>?_));replace R:=R.ne lY.mod (Ne.symm my);replace ag:=ag.ne lY.mod (Ne.symm wo);replace E:=E.trans lY.mod;replace B:aF nd g _ [_,_,_,_,_,_,_]:=lY.ar;replace R2:=R2.toM lY.mod (fun a aE=>by rw [dx aE];exact List.mem_cons_of_mem _ dY);replace R3:=R3.toM lY.mod (fun a aE=>by rw [dx aE];exact List.mem_cons_of_mem _ dY);refine J b4 (aa fun cw=>ah (br au rfl (ag.cs rfl)) (aK au R rfl rfl fun lF lW=>?_));replace B:=B.ne lW.mod my;replace ag:=ag.ne lW.mod (Ne.symm bl);replace E:=E.own lW.mod aY;replace R:aF lF g1 _ [_,_,_,_,_,_]:=lW.ar;replace R2:=R2.toM lW.mod (fun a aE=>by simp [dx aE]);replace R3:=R3.toM lW.mod (fun a aE=>by simp [dx aE]);exact J cw (bn (gT rfl au rfl (R.cs rfl) ⟨_,rfl,by rw [og ae (Classical.not_not.1 hk)];exact WW.toM E (fun a aE=>by rw [dx aE];exact dY),by rw [og ae (Classical.not_not.1 hk)];exact⟨_,_,_,_,B,R2.eu (fun a aE=>List.mem_cons_of_mem _ aE),R3.eu (fun a aE=>List.mem_cons_of_mem _ aE)⟩,E⟩))
set_option maxRecDepth 10000
def XN:=kT (Ry aR 25 4 4)
def qE:=eW Tryz.func43
theorem CQ (A:List Nat) (w:World) (g:Nat) (t:oe) (H:qD A w g t) (dY:g∈A) (dy:∀ a∈A,a<w.heap.size) (bW:t.fit) (k:ab):Calls aR 44 [.pointer (some ⟨g,0,none⟩),S k].toArray w (bH fun u w'=>Own w' 9 1 u (Hi t k).1.length (((Hi t k).1.map fun s=>[S s]).flatten)∧(∀ y∈bk u,w.heap.size≤y)∧qD A w' g (Hi t k).2∧Mod [g] w w'):=by
 refine la Tryz.func44 rfl ?_;have E:=Mod.refl [g] w;have atr:∀ x∈[g],x∈A:=fun x ae=>by rw [dx ae];exact dY
 refine aa fun a6=>a7 rfl (J a6 (aa fun aQ=>a7 rfl (J aQ (aB fun a'=>aB fun bp=>?_))))
 skip
 refine b5 (aj 2 rfl (cJ (bB qE rfl) (lf A _ g t H dY dy bW k 4) fun cN aJ aH=>?_));obtain⟨yS,rfl,oK,j2,U⟩:=aH;replace E:=E.trans U;obtain⟨ah5,ats⟩:∃ x,x=aJ:=⟨_,rfl⟩;subst ats;obtain⟨yT,yU,Am,An,rfl,oW,ps⟩:=JV.aU oK;obtain⟨amX,amY,amZ,am0,B,ahy,ahz⟩:=j2;have F:=Mod.refl [g] ah5;have azU:=B.lt;obtain⟨azV,_,_⟩:=oe.Kj bW k 4;have adr:w.heap.size≤ah5.heap.size:=E.size;refine ah ((lR XN rfl rfl)) (ah (bY hJ rfl) (aO rfl (J bp (eN (bK (σ:=Nat×Value) (fun⟨j,v⟩=>[(0,.pointer (some ⟨g,0,none⟩)),(5,v),(11,.slice yT (dZ t k 4).1.list.length yU),(12,.int .i64 (dZ t k 4).1.list.length),(13,.int .i64 (j:Int))]) (fun⟨j,v⟩ aJ=>j≤(dZ t k 4).1.list.length∧Own aJ 9 1 v j ((((dZ t k 4).1.list.take j).map fun x=>[S x.str]).flatten)∧(∀ y∈bk v,ah5.heap.size≤y)∧aF aJ g 80 [.int .i64 (dZ t k 4).2.rest.kind,.bool (dZ t k 4).2.rest.is,.int .i64 (dZ t k 4).2.rest.num,S (dZ t k 4).2.rest.str,.slice amX (dZ t k 4).2.rest.list.length amY,.slice amZ (dZ t k 4).2.rest.map.length am0,.bool ((dZ t k 4).2.bad||((dZ t k 4).1.list.take j).any fun x=>decide (x.kind≠3))]∧Mod [g] ah5 aJ∧Mod [g] w aJ) (fun⟨j,v⟩=>(dZ t k 4).1.list.length-j) (⟨0,.slice none 0 0⟩) (⟨by omega,Own.nil _ _ _,by simp [bk],by simpa using B,F,E⟩) ?_)))));rintro⟨j,v⟩ cX ⟨eD,fB,yg,B,F,E⟩;have att:∀ x∈bk v,x≠g:=fun x ae e=>by have:=yg x ae;omega
 refine aa fun bx=>ah (cT rfl rfl) (J bx (aB fun bO=>?_));refine aX rfl (fun r7=>?_) (fun r7=>?_);rotate_left
 ·have Nl:j=(dZ t k 4).1.list.length:=by omega
  subst Nl;exact bL (aP (aP (ch (av a' (aa fun b6=>aj 2 rfl (J b6 (bn (aG rfl rfl ⟨fB.same (by unfold Hi;simp) (by unfold Hi;simp [Function.comp_def]),fun y ba=>Nat.le_trans adr (yg y ba),by rw [List.take_length] at B;exact⟨_,_,_,_,B,ahy.toM F atr,ahz.toM F atr⟩,E⟩))))))))
 obtain⟨x,bS⟩:∃ x,(dZ t k 4).1.list[j]? = some x:=⟨_,List.getElem?_eq_getElem (by omega)⟩;obtain⟨kJ,lz,dW,eJ,cA⟩:=JV.zp (oW.toM F atr) bS;obtain⟨j9,j',jf,ik,rfl,lA,mD⟩:=JV.aU eJ;obtain rfl:=dW;have ti:=JV.qk oW;have nK:(dZ t k 4).1.list.take (j+1)=(dZ t k 4).1.list.take j ++ [x]:=by rw [List.take_succ_eq_append_getElem (by omega),(List.getElem?_eq_some_iff.1 bS).2]
 refine b' (av bO (aB fun b4=>eN (aa fun cw=>ah (c8 kt rfl rfl (by omega)) (ah (fb au rfl rfl cA) (bj bA rfl fun g1 gr bZ=>?_)))));have aY:=bZ.le E;have ah6:=bZ.le F;have my:=bZ.ne B;have ads:=bZ.bU fB;replace B:=B.I bZ.mod;replace E:=E.then bZ.mod;replace F:=F.then bZ.mod;replace fB:=fB.I bZ.mod;have R:=bZ.ar;refine aK au R rfl rfl fun h8 j0=>?_;replace B:=B.ne j0.mod my;replace E:=E.own j0.mod aY;replace F:=F.own j0.mod ah6;replace fB:=fB.put j0.mod ads;replace R:aF h8 g1 _ [_,_,_,_,_,_]:=j0.ar;refine J cw (aa fun cy=>aj 3 rfl (ah (aD hy rfl) (ah (bF kV rfl (B.cell rfl)) ?_)));refine tn (fun aW:(((dZ t k 4).2.bad||((dZ t k 4).1.list.take j).any fun x=>decide (x.kind≠3)))=true=>?_) (fun aW=>?_)
 ·have yB:((dZ t k 4).2.bad||((dZ t k 4).1.list.take (j+1)).any fun x=>decide (x.kind≠3))=true:=by rw [nK,List.any_append,← Bool.or_assoc,aW];simp
  refine aj 6 rfl (ah (aD hy rfl) (cL kV B rfl rfl fun iS hd=>?_));replace R:=R.ne hd.mod (Ne.symm my);replace E:=E.trans hd.mod;replace F:=F.trans hd.mod;replace fB:=fB.put hd.mod att;replace B:aF iS g _ [_,_,_,_,_,_,_]:=hd.ar;refine J cy (b5 (aO rfl (ah (aD je rfl) (ah (bF b2 rfl (R.cell rfl)) (dm l4 Ji rfl rfl fun g2 i' cz=>?_)))));have bJ:=cz.le E;have atu:=cz.le F;have wo:=cz.ne B;have bl:=cz.ne R;have Pe:=cz.bU fB;replace B:=B.I cz.mod;replace R:=R.I cz.mod;replace E:=E.then cz.mod;replace F:=F.then cz.mod;replace fB:=fB.I cz.mod;have ag:=cz.ar;refine bz l4 rfl rfl fB (Src.own hQ (Own.all (cs:=[_]) ag rfl (by omega)) (by simp [Value.oneCell'])) (by decide) (by omega) (by omega) rfl fun v1 iw ek=>?_;have fs:Own iw 9 1 v1 (j+1) ((((dZ t k 4).1.list.take (j+1)).map fun x=>[S x.str]).flatten):=ek.own.same (by omega) (by rw [nK];simp);have rZ:∀ y∈bk v1,ah5.heap.size≤y:=fun y ba=>(ek.lH y ba).elim (yg y) (fun h=>Nat.le_trans F.size h);replace B:=B.mod ek.mod (fun h=>by have:=yg _ h;omega);replace E:=E.trans' ek.mod (fun y ba=>.inr (Nat.le_trans adr (yg y ba)));replace F:=F.trans' ek.mod (fun y ba=>.inr (yg y ba));exact a7 rfl (cx (bw (av b4 (b5 (ah (bt rfl rfl (by omega)) (aO rfl (cx (aw (σ:=Nat×Value) (s:=⟨j,v⟩) (⟨j+1,v1⟩) ⟨by omega,fs,rZ,by rw [yB];exact B,F,E⟩))))))))
 refine aO rfl (ay (aD hK rfl) (ay (bF eg rfl (R.cell rfl)) (ay (fO rfl rfl) ?_)));refine c7 (fun hk:x.kind≠3=>?_) (fun hk=>?_);rotate_left
 ·have yB:((dZ t k 4).2.bad||((dZ t k 4).1.list.take (j+1)).any fun x=>decide (x.kind≠3))=false:=by rw [nK,List.any_append,← Bool.or_assoc,aW];simp [Classical.not_not.1 hk]
  refine aj 2 rfl (ah (aD hy rfl) (cL kV B rfl rfl fun jJ fa=>?_));replace R:=R.ne fa.mod (Ne.symm my);replace E:=E.trans fa.mod;replace F:=F.trans fa.mod;replace fB:=fB.put fa.mod att;replace B:aF jJ g _ [_,_,_,_,_,_,_]:=fa.ar;refine J cy (b5 (aO rfl (ah (aD je rfl) (ah (bF b2 rfl (R.cell rfl)) (dm l4 Ji rfl rfl fun g4 mo N4=>?_)))));have fQ:=N4.le E;have oh:=N4.le F;have agT:=N4.ne B;have gb:=N4.ne R;have Hj:=N4.bU fB;replace B:=B.I N4.mod;replace R:=R.I N4.mod;replace E:=E.then N4.mod;replace F:=F.then N4.mod;replace fB:=fB.I N4.mod;have bm:=N4.ar;refine bz l4 rfl rfl fB (Src.own hQ (Own.all (cs:=[_]) bm rfl (by omega)) (by simp [Value.oneCell'])) (by decide) (by omega) (by omega) rfl fun v1 mT ek=>?_;have fs:Own mT 9 1 v1 (j+1) ((((dZ t k 4).1.list.take (j+1)).map fun x=>[S x.str]).flatten):=ek.own.same (by omega) (by rw [nK];simp);have rZ:∀ y∈bk v1,ah5.heap.size≤y:=fun y ba=>(ek.lH y ba).elim (yg y) (fun h=>Nat.le_trans F.size h);replace B:=B.mod ek.mod (fun h=>by have:=yg _ h;omega);replace E:=E.trans' ek.mod (fun y ba=>.inr (Nat.le_trans adr (yg y ba)));replace F:=F.trans' ek.mod (fun y ba=>.inr (yg y ba));exact a7 rfl (cx (bw (av b4 (b5 (ah (bt rfl rfl (by omega)) (aO rfl (cx (aw (σ:=Nat×Value) (s:=⟨j,v⟩) (⟨j+1,v1⟩) ⟨by omega,fs,rZ,by rw [yB];exact B,F,E⟩))))))))
 have yB:((dZ t k 4).2.bad||((dZ t k 4).1.list.take (j+1)).any fun x=>decide (x.kind≠3))=true:=by rw [nK,List.any_append,← Bool.or_assoc,aW];simp [hk]
 refine aj 2 rfl (ah (aD hy rfl) (cL kV B rfl rfl fun nd lY=>?_));replace R:=R.ne lY.mod (Ne.symm my);replace E:=E.trans lY.mod;replace F:=F.trans lY.mod;replace fB:=fB.put lY.mod att;replace B:aF nd g _ [_,_,_,_,_,_,_]:=lY.ar;refine J cy (b5 (aO rfl (ah (aD je rfl) (ah (bF b2 rfl (R.cell rfl)) (dm l4 Ji rfl rfl fun g3 lF dF=>?_)))));have df:=dF.le E;have atv:=dF.le F;have agS:=dF.ne B;have dv:=dF.ne R;have adt:=dF.bU fB;replace B:=B.I dF.mod;replace R:=R.I dF.mod;replace E:=E.then dF.mod;replace F:=F.then dF.mod;replace fB:=fB.I dF.mod;have bd:=dF.ar;refine bz l4 rfl rfl fB (Src.own hQ (Own.all (cs:=[_]) bd rfl (by omega)) (by simp [Value.oneCell'])) (by decide) (by omega) (by omega) rfl fun v1 h2 ek=>?_;have fs:Own h2 9 1 v1 (j+1) ((((dZ t k 4).1.list.take (j+1)).map fun x=>[S x.str]).flatten):=ek.own.same (by omega) (by rw [nK];simp);have rZ:∀ y∈bk v1,ah5.heap.size≤y:=fun y ba=>(ek.lH y ba).elim (yg y) (fun h=>Nat.le_trans F.size h);replace B:=B.mod ek.mod (fun h=>by have:=yg _ h;omega);replace E:=E.trans' ek.mod (fun y ba=>.inr (Nat.le_trans adr (yg y ba)));replace F:=F.trans' ek.mod (fun y ba=>.inr (yg y ba));exact a7 rfl (cx (bw (av b4 (b5 (ah (bt rfl rfl (by omega)) (aO rfl (cx (aw (σ:=Nat×Value) (s:=⟨j,v⟩) (⟨j+1,v1⟩) ⟨by omega,fs,rZ,by rw [yB];exact B,F,E⟩))))))))
end Go.Proofs.YtkjgljnkocnnpaaGreatDoor.V
namespace Go.Proofs.YtkjgljnkocnnpaaGreatDoor.V
open Go
namespace JV
end JV
namespace EV
open JV
theorem PO {e:EV} (aZ:e.q5=0) {T:ab} (h:e.val.wr 0 [] = .ok T):e.gz=0:=by
 unfold EV.gz;rw [if_neg (by simp [aZ]),h];rfl
end EV
end Go.Proofs.YtkjgljnkocnnpaaGreatDoor.V
namespace Go.Proofs.YtkjgljnkocnnpaaGreatDoor.V
open Go
theorem qP:∀ s:ab,(∀ c∈s,c.toNat<128)→cC s=true
 | [],_=>oL
 | c::r,h=>by
  have h1:aM (c::r)=(c.toNat,1):=hs (h c (by simp))
  rw [mq (by simp) (by rw [h1];simp),h1]
  exact qP r fun x ae=>h x (by simp [ae])
namespace JV
theorem PQ {s:ab} (bI:cC s=true) (cb:s.length≤65536):∀ c:ab,(c++cM s).length≤65536→gm c s = .ok (c++cM s):=fun c aZ=>by
 rw [gm,if_neg (by omega),if_pos bI,gJ aZ]
theorem Dg {s:ab} {deep:Nat} (bI:cC s=true) (cb:s.length≤65536):Fit (aN s) deep (cM s):=fun c aZ=>by
 have aW:¬ bare (aN s)=false:=by simp [bare,aN,kind,is,num,str,list,map]
 have pA:(aN s).kind=3:=rfl;rw [en,if_neg aW,if_neg (by rw [pA];decide),if_neg (by rw [pA];decide),if_neg (by rw [pA];decide),if_pos pA];exact PQ bI cb c aZ
theorem Lv {n:Int} {deep:Nat} (cg : -9007199254740991≤n) (h1:n≤9007199254740991):Fit (hr n) deep (Lib.itoa n):=fun c aZ=>by
 have aW:¬ bare (hr n)=false:=by
  have:bare (hr n)=true:=by unfold bare hr;simp [kind,is,num,str,list,map,cg,h1]
  rw [this];simp
 have jt:(hr n).kind=2:=rfl;rw [en,if_neg aW,if_neg (by rw [jt];decide),if_neg (by rw [jt];decide),if_pos jt];exact gJ aZ
theorem SY {deep:Nat} (bT:deep≠32):Fit (de []) deep [91,93]:=fun c aZ=>by
 have aW:¬ bare (de [])=false:=by simp [bare,de,kind,is,num,str,list,map]
 have vY:(de []).kind=4:=rfl;rw [en,if_neg aW,if_neg (by rw [vY];decide),if_neg (by rw [vY];decide),if_neg (by rw [vY];decide),if_neg (by rw [vY];decide),if_neg bT,if_pos vY,gJ (by simp only [List.length_append,List.length_cons,List.length_nil] at aZ ⊢;omega)];show(ji [] deep true (c ++ [91])).bind _=_;rw [ji];show cK (c ++ [91] ++ [93])=_;rw [gJ (by simp only [List.length_append,List.length_cons,List.length_nil] at aZ ⊢;omega)];simp
theorem x9 {deep:Nat} {prev:Option ab}:vG [] deep prev []:=fun b _=>by rw [gA];simp
theorem x' {k:ab} {v:JV} {r:List (ab×JV)} {deep:Nat} {prev:Option ab} {t1 t2:ab} (bI:∀ c∈k,c.toNat<128) (cb:k.length≤1000) (e8:∀ q,prev=some q→fx q k=true) (h1:Fit v (deep+1) t1) (aq:vG r deep (some k) t2) :
  vG ((k,v)::r) deep prev (comma prev++cM k ++ [58]++t1++t2):=Lq (p:=(k,v)) e8 (PQ (qP k bI) (by simp only;omega)) h1 aq
theorem Dh {deep:Nat}:∀ (l:List JV) (fst:Bool) (b gv:ab),ji l deep fst b = .ok gv→∀ x∈l,∃ c c',wr x (deep+1) c = .ok c'
 | [],_,_,_,_,x,ae=>by cases ae
 | y::l,fst,b,gv,h,x,ae=>by
  rw [mu] at h
  obtain⟨dN,h1,h⟩:=dU h
  obtain⟨fz,aq,h⟩:=dU h
  rcases List.mem_cons.1 ae with rfl | ae
  ·exact⟨_,_,aq⟩
  exact Dh l _ _ _ h x ae
theorem Di {deep:Nat}:∀ (m:List (ab×JV)) (prev:Option ab) (b gv:ab),gA m deep prev b = .ok gv→∀ p∈m,∃ c c',wr p.2 (deep+1) c = .ok c'
 | [],_,_,_,_,x,ae=>by cases ae
 | y::m,prev,b,gv,h,x,ae=>by
  obtain⟨_,fz,aq,bb,_,_⟩:=w7 h
  rcases List.mem_cons.1 ae with rfl | ae
  ·exact⟨_,_,aq⟩
  exact Di m _ _ _ bb x ae
theorem ya:∀ (N:Nat) (v:JV) (deep:Nat) (b gv:ab),v.sz≤N→wr v deep b = .ok gv→v.iH
 | 0,v,_,_,_,h,_=>absurd (ql v) (by omega)
 | N+1,v,deep,b,gv,gy,h=>by
  have ea:=ya N
  rw [oX]
  have cg:=h
  rw [en] at h
  split at h
  ·cases h
  rename_i aW
  have aW:v.bare=true:=by simpa using aW
  have hk:=@sR v aW
  have LH:v.kind=4∨v.list = []:=by
   unfold bare at aW
   simp only [Bool.and_eq_true,Bool.or_eq_true,decide_eq_true_eq] at aW
   exact aW.1.1.2.imp id List.eq_nil_of_length_eq_zero
  have I0:v.kind=5∨v.map = []:=by
   unfold bare at aW
   simp only [Bool.and_eq_true,Bool.or_eq_true,decide_eq_true_eq] at aW
   exact aW.1.2.imp id List.eq_nil_of_length_eq_zero
  by_cases vY:v.kind=4
  ·have hm:v.map = []:=I0.resolve_left (by omega)
   rw [if_neg (by omega),if_neg (by omega),if_neg (by omega),if_neg (by omega)] at h
   split at h
   ·cases h
   obtain⟨dN,h1,bb⟩:=dU h
   obtain⟨fz,aq,bP⟩:=dU bb
   rw [hm]
   refine⟨List.Pairwise.nil,fun x ae=>?_,by simp⟩
   obtain⟨c,c',aZ⟩:=Dh _ _ _ _ aq x ae
   exact ea x _ _ _ (by have:=il ae;omega) aZ
  have cb:v.list = []:=LH.resolve_left vY
  by_cases qX:v.kind=5
  ·obtain⟨_,fz,aq,_,_⟩:=PN qX cg
   rw [cb]
   refine⟨(w8 _ _ _ _ _ aq).1,by simp,fun p cc=>?_⟩
   obtain⟨c,c',aZ⟩:=Di _ _ _ _ aq p cc
   exact ea p.2 _ _ _ (by have:=hU cc;omega) aZ
  rw [cb,I0.resolve_left qX]
  exact⟨List.Pairwise.nil,by simp,by simp⟩
theorem Kv {v:JV} {deep:Nat} {b gv:ab} (h:wr v deep b = .ok gv):v.iH:=ya v.sz v deep b gv (Nat.le_refl _) h
end JV
namespace EV
open JV
theorem SZ (e:EV):et e.mi:=by rw [← aaD];exact tL _ _
end EV
end Go.Proofs.YtkjgljnkocnnpaaGreatDoor.V
namespace Go.Proofs.YtkjgljnkocnnpaaGreatDoor.V
open Go
namespace JV
mutual
def o':JV→Nat
 | .mk k b n s l m=>1+s.length+sA l+lv m
def sA:List JV→Nat
 | []=>0
 | v::r=>o' v+sA r
def lv:List (List UInt8×JV)→Nat
 | []=>0
 | p::r=>p.1.length+o' p.2+lv r
end
theorem hE (v:JV):v.o'=1+v.str.length+sA v.list+lv v.map:=by cases v;simp [o',str,list,map]
theorem Lw (s:ab):s.length≤(dI s).length:=by
 induction s with
 | nil=>simp
 | cons c r ea=>
  have:=EE c;simp only [dI,List.map_cons,List.flatten_cons,List.length_append,List.length_cons] at ea ⊢;omega
theorem PR:∀ N:Nat,∀ (v:JV) (deep:Nat) (b gv:ab),v.sz≤N→wr v deep b = .ok gv→b.length+v.o'≤gv.length
 | 0,v,_,_,_,h,_=>absurd (ql v) (by omega)
 | N+1,v,deep,b,gv,gy,h=>by
  have ea:=PR N
  have aaz:∀ (l:List JV),(∀ x∈l,x.sz≤N)→∀ (fst:Bool) (b gv:ab),ji l deep fst b = .ok gv→b.length+sA l≤gv.length:=by
   intro l
   induction l with
   | nil=>
    intro _ fst b gv h
    rw [ji] at h
    injection h with h
    subst h
    simp [sA]
   | cons x r ajX=>
    intro ae fst b gv h
    rw [mu] at h
    obtain⟨dN,h1,h⟩:=dU h
    obtain⟨fz,aq,bb⟩:=dU h
    have akv:b.length≤dN.length:=by
     cases fst with
     | true=>injection h1 with h1;rw [h1];exact Nat.le_refl _
     | false=>obtain⟨rfl,_⟩:=gF h1;simp
    have Tj:=ea x (deep+1) dN fz (ae x (List.mem_cons_self ..)) aq
    have aAo:=ajX (fun y ba=>ae y (List.mem_cons_of_mem _ ba)) false fz gv bb
    rw [sA]
    omega
  have aaA:∀ (m:List (ab×JV)),(∀ x∈m,x.2.sz≤N)→∀ (prev:Option ab) (b gv:ab),gA m deep prev b = .ok gv→b.length+lv m≤gv.length:=by
   intro m
   induction m with
   | nil=>
    intro _ prev b gv h
    rw [gA] at h
    injection h with h
    subst h
    simp [lv]
   | cons x r ajY=>
    intro ae prev b gv h
    obtain⟨_,fz,aq,bb,_⟩:=w7 h
    have Tj:=ea x.2 (deep+1) _ fz (ae x (List.mem_cons_self ..)) aq
    have aAo:=ajY (fun y ba=>ae y (List.mem_cons_of_mem _ ba)) _ fz gv bb
    have aAp:=Lw x.1
    simp only [List.length_append,cM,List.length_cons,List.length_nil] at Tj
    rw [lv]
    omega
  have cP:=hE v
  have ayJ:1≤(Lib.itoa v.num).length:=List.length_pos_iff.2 (US _)
  rw [en] at h
  split at h
  ·cases h
  rename_i aW
  obtain⟨Gv,HS,OF,LH,I0⟩:=mJ (by simpa using aW)
  split at h
  ·rename_i o8
   obtain⟨rfl,_⟩:=gF h
   rw [cP,OF.resolve_left (by omega),LH.resolve_left (by omega),I0.resolve_left (by omega)]
   simp [sA,lv]
  split at h
  ·rename_i o8
   obtain⟨rfl,_⟩:=gF h
   rw [cP,OF.resolve_left (by omega),LH.resolve_left (by omega),I0.resolve_left (by omega)]
   cases v.is <;> simp [sA,lv]
  split at h
  ·rename_i o8
   obtain⟨rfl,_⟩:=gF h
   rw [cP,OF.resolve_left (by omega),LH.resolve_left (by omega),I0.resolve_left (by omega)]
   simp only [sA,lv,List.length_append,List.length_nil]
   omega
  split at h
  ·rename_i o8
   obtain⟨t,rfl,rfl,_⟩:=Dd h
   have aAp:=Lw v.str
   rw [cP,LH.resolve_left (by omega),I0.resolve_left (by omega)]
   simp only [sA,lv,List.length_append,cM,List.length_cons,List.length_nil]
   omega
  split at h
  ·cases h
  split at h
  ·rename_i vY
   obtain⟨dN,h1,fW⟩:=dU h
   obtain⟨fz,aq,SX⟩:=dU fW
   obtain⟨rfl,_⟩:=gF h1
   obtain⟨rfl,_⟩:=gF SX
   have:=aaz v.list (fun x ae=>by have:=il ae;omega) _ _ _ aq
   rw [cP,OF.resolve_left (by omega),I0.resolve_left (by omega)]
   simp only [lv,List.length_append,List.length_cons,List.length_nil] at this ⊢
   omega
  rename_i vY
  have hk:=sR (v:=v) (by simpa using aW)
  obtain⟨dN,h1,fW⟩:=dU h
  obtain⟨fz,aq,SX⟩:=dU fW
  obtain⟨rfl,_⟩:=gF h1
  obtain⟨rfl,_⟩:=gF SX
  have:=aaA v.map (fun x ae=>by have:=hU ae;omega) _ _ _ aq
  rw [cP,OF.resolve_left (by omega),LH.resolve_left vY]
  simp only [sA,List.length_append,List.length_cons,List.length_nil] at this ⊢
  omega
theorem sB:∀ l:List JV,l.length≤sA l
 | []=>by simp [sA]
 | x::r=>by
  have:=sB r
  have:=hE x
  simp only [List.length_cons,sA]
  omega
theorem o3:∀ m:List (ab×JV),m.length≤lv m
 | []=>by simp [lv]
 | x::r=>by
  have:=o3 r
  have:=hE x.2
  simp only [List.length_cons,lv]
  omega
theorem Dj:∀ {l:List JV} {x:JV},x∈l→x.o'≤sA l
 | y::r,x,h=>by
  rw [sA]
  rcases List.mem_cons.1 h with rfl | h
  ·omega
  have:=Dj h;omega
theorem o2:∀ {m:List (ab×JV)} {p:ab×JV},p∈m→p.1.length+p.2.o'≤lv m
 | y::r,x,h=>by
  rw [lv]
  rcases List.mem_cons.1 h with rfl | h
  ·omega
  have:=o2 h;omega
theorem Ht:∀ (N:Nat) (v:JV),v.sz≤N→v.o'≤65536→v.ok
 | 0,v,h,_=>absurd (ql v) (by omega)
 | N+1,v,h,bh=>by
  have e:=hE v
  have h1:=sB v.list
  have aq:=o3 v.map
  exact(ok_eq v).2 ⟨by omega,by omega,by omega,fun x ae=>Ht N x (by have:=il ae;omega) (by have:=Dj ae;omega),fun p cc=>⟨by have:=o2 cc;omega,Ht N p.2 (by have:=hU cc;omega) (by have:=o2 cc;omega)⟩⟩
theorem CS {v:JV} {t:ab} (h:v.wr 0 [] = .ok t):v.o'≤65536:=by
 have h1:=PR v.sz v 0 [] t (Nat.le_refl _) h;have aq:t.length≤65536:=(fit h).elim fun t bW=>bW.2.1;simp only [List.length_nil] at h1;omega
end JV
theorem ady {v:JV} {t:ab} (h:v.wr 0 [] = .ok t):(⟨v,false⟩:oe).fit:=by
 have h1:=JV.CS h;have cP:=JV.hE v;have hm:=JV.o3 v.map;obtain⟨r1,_,akB⟩:=(JV.oX v).1 (JV.Kv h);refine⟨r1,(by omega:v.map.length≤1000000),fun p cc=>?_⟩;have bh:p.1.length+p.2.o'≤JV.lv v.map:=JV.o2 cc;have tE:=JV.hE p.2;have l6:=JV.sB p.2.list;have agN:=JV.o3 p.2.map;exact⟨by omega,((JV.oX p.2).1 (akB p cc)).1,by omega⟩
def fh (v:JV):=dZ ⟨v,false⟩ fZ 5
def ix (v:JV):=Hi (fh v).2 eH
def jB (v:JV):=Hi (ix v).2 eL
def rI (v:JV):=dZ (jB v).2 hD 3
def rJ (v:JV):=dZ (rI v).2 e2 3
def rK (v:JV):=dZ (rJ v).2 ih 3
def rL (v:JV):=dZ (rK v).2 gG 2
def m' (v:JV):=dZ (rL v).2 lE 2
def o1 (v:JV):Bool:=((m' v).2.rest.get dL).isSome
def lS (v:JV):JV×oe:=if o1 v then dZ (m' v).2 dL 3 else (JV.fg,(m' v).2)
def ck (v:JV):=dZ (lS v).2 fS 5
def p2 (p:ab×JV):Bool:=decide (p.2.map.length=0)||p.2.map.any fun q=>decide (q.2.kind≠3)
def uA (v:JV):Bool:=(ck v).2.bad||(ck v).1.map.any p2
def q3 (v:JV):=dZ ⟨(ck v).2.rest,uA v⟩ e1 5
def tz (v:JV):=dZ ⟨(q3 v).1,false⟩ hR 3
def ey (p:ab×JV):List ei:=p.2.map.map fun q=>⟨p.1,q.1,q.2.str⟩
def bG (m:List (ab×JV)):List ei:=(m.map ey).flatten
def fV (v:JV):EV:=⟨(rI v).1.str,(rJ v).1.str,(rK v).1.str,o1 v,(lS v).1.str,(fh v).1,(ix v).1,(jB v).1,(rL v).1.num,(m' v).1.num,(tz v).1.str,bG (ck v).1.map⟩
def Aw (v:JV):Bool:=(q3 v).2.bad||((tz v).2.bad||decide ((q3 v).2.rest.map.length+(tz v).2.rest.map.length > 0))
noncomputable def jF (v:JV):Int:=if gz (v.wr 0 [])≠0∨v.kind≠5 then 21 else if Aw v=true then 21 else (fV v).q5
section
variable {v:JV} (h:(⟨v,false⟩:oe).fit)
include h
theorem afu:(fh v).2.fit:=oe.jd h _ _
theorem afv:(ix v).2.fit:=oe.jd (afu h) eH 4
theorem afw:(jB v).2.fit:=oe.jd (afv h) eL 4
theorem afx:(rI v).2.fit:=oe.jd (afw h) _ _
theorem afy:(rJ v).2.fit:=oe.jd (afx h) _ _
theorem afz:(rK v).2.fit:=oe.jd (afy h) _ _
theorem afA:(rL v).2.fit:=oe.jd (afz h) _ _
theorem KD:(m' v).2.fit:=oe.jd (afA h) _ _
theorem XT:(lS v).2.fit:=by
 unfold lS
 split
 ·exact oe.jd (KD h) _ _
 exact KD h
theorem aft:(ck v).2.fit:=oe.jd (XT h) _ _
end
end Go.Proofs.YtkjgljnkocnnpaaGreatDoor.V
namespace Go.Proofs.YtkjgljnkocnnpaaGreatDoor.V
open Go
namespace JV
theorem zX (q:ab×JV→Bool):∀ m:List (ab×JV),lv (m.filter q)≤lv m
 | []=>by simp
 | x::r=>by
  have:=zX q r
  rw [List.filter_cons,lv]
  split
  ·rw [lv];omega
  omega
end JV
theorem kz {t:oe} (h:t.rest.o'≤65536) (k:ab) (kind:Int):(dZ t k kind).1.o'≤65536∧(dZ t k kind).2.rest.o'≤65536:=by
 have cu:JV.fg.o'≤65536:=by rw [JV.hE];simp [JV.fg,JV.str,JV.list,JV.map,JV.sA,JV.lv]
 have bo:=JV.hE t.rest;cases dY:t.rest.get k with
 | none=>rw [qi dY];exact⟨cu,h⟩
 | some x=>
  by_cases hk:x.kind=kind
  ·rw [og dY hk];have hm:=JV.o2 (JV.yZ dY);refine⟨by simp only at hm ⊢;omega,?_⟩;have dn:=JV.zX (fun q:ab×JV=>decide (q.1≠k)) t.rest.fN;have bW:JV.lv t.rest.fN≤JV.lv t.rest.map:=by
    unfold JV.fN
    split
    ·exact Nat.le_refl _
    simp [JV.lv]
   show(JV.obj (c6 t.rest.fN k)).o'≤65536;rw [JV.hE];simp only [JV.obj,JV.str,JV.list,JV.map,JV.sA,List.length_nil];unfold c6;omega
  rw [qh dY hk];exact⟨cu,h⟩
theorem FP:JV.fg.iH:=(JV.oX _).2 ⟨List.Pairwise.nil,by simp [JV.fg,JV.list],by simp [JV.fg,JV.map]⟩
theorem iN {t:oe} (h:t.rest.iH) (k:ab) (kind:Int):(dZ t k kind).1.iH∧(dZ t k kind).2.rest.iH:=by
 obtain⟨r1,aBl,akB⟩:=(JV.oX _).1 h;cases dY:t.rest.get k with
 | none=>rw [qi dY];exact⟨FP,h⟩
 | some x=>
  by_cases hk:x.kind=kind
  ·rw [og dY hk];refine⟨akB _ (JV.yZ dY),(JV.oX _).2 ⟨?_,by simp [JV.obj,JV.list],fun p cc=>?_⟩⟩
   ·show et (c6 t.rest.fN k);refine List.Pairwise.filter _ ?_;unfold JV.fN
    split
    ·exact r1
    exact List.Pairwise.nil
   have wq:p∈t.rest.fN:=(List.mem_filter.1 (show p∈c6 t.rest.fN k from cc)).1;unfold JV.fN at wq
   split at wq
   ·exact akB p wq
   cases wq
  rw [qh dY hk];exact⟨FP,h⟩
theorem Ft {x:JV} (b:Bool) (h:x.iH) (bh:x.o'≤65536):(⟨x,b⟩:oe).fit:=by
 obtain⟨r1,_,akB⟩:=(JV.oX x).1 h;have e:=JV.hE x;have hm:=JV.o3 x.map;refine⟨r1,(by omega:x.map.length≤1000000),fun p cc=>?_⟩;have bh:p.1.length+p.2.o'≤JV.lv x.map:=JV.o2 cc;have tE:=JV.hE p.2;have l6:=JV.sB p.2.list;have agN:=JV.o3 p.2.map;exact⟨by omega,((JV.oX p.2).1 (akB p cc)).1,by omega⟩
section
variable {v:JV} (h:v.iH)
include h
theorem avr:(fh v).1.iH∧(fh v).2.rest.iH:=iN h _ _
theorem avs:(ix v).2.rest.iH:=(iN (avr h).2 eH 4).2
theorem avt:(jB v).2.rest.iH:=(iN (avs h) eL 4).2
theorem avu:(rI v).2.rest.iH:=(iN (avt h) _ _).2
theorem avv:(rJ v).2.rest.iH:=(iN (avu h) _ _).2
theorem avw:(rK v).2.rest.iH:=(iN (avv h) _ _).2
theorem avx:(rL v).2.rest.iH:=(iN (avw h) _ _).2
theorem apn:(m' v).2.rest.iH:=(iN (avx h) _ _).2
theorem avy:(lS v).2.rest.iH:=by
 unfold lS
 split
 ·exact(iN (apn h) _ _).2
 exact apn h
theorem avz:(ck v).2.rest.iH:=(iN (avy h) _ _).2
theorem anE:(q3 v).1.iH∧(q3 v).2.rest.iH:=iN (t:=⟨(ck v).2.rest,uA v⟩) (avz h) _ _
end
theorem oi:∀ m:List (ab×JV),(bG m).length≤JV.lv m∧∀ s∈bG m,s.eo.length≤JV.lv m∧s.key.length≤JV.lv m∧s.sig.length≤JV.lv m
 | []=>by simp [bG,JV.lv]
 | p::r=>by
  obtain⟨h1,aq⟩:=oi r
  have e:bG (p::r)=ey p++bG r:=by simp [bG]
  have cc:=JV.hE p.2
  have cb:=JV.o3 p.2.map
  have bh:(ey p).length=p.2.map.length:=by simp [ey]
  rw [e,JV.lv,List.length_append,bh]
  refine⟨by omega,fun s bh=>?_⟩
  rcases List.mem_append.1 bh with bh | bh
  ·unfold ey at bh
   obtain⟨q,e8,rfl⟩:=List.mem_map.1 bh
   have:=JV.o2 e8
   have:=JV.hE q.2
   simp only
   omega
  obtain⟨a,b,c⟩:=aq s bh
  omega
section
variable {v:JV} (h:v.o'≤65536)
include h
theorem apo:(fh v).1.o'≤65536∧(fh v).2.rest.o'≤65536:=kz h _ _
theorem aj0:(dZ (fh v).2 eH 4).1.o'≤65536∧(ix v).2.rest.o'≤65536:=kz (apo h).2 eH 4
theorem aj1:(dZ (ix v).2 eL 4).1.o'≤65536∧(jB v).2.rest.o'≤65536:=kz (aj0 h).2 eL 4
theorem aj2:(rI v).1.o'≤65536∧(rI v).2.rest.o'≤65536:=kz (aj1 h).2 _ _
theorem aj3:(rJ v).1.o'≤65536∧(rJ v).2.rest.o'≤65536:=kz (aj2 h).2 _ _
theorem apq:(rK v).1.o'≤65536∧(rK v).2.rest.o'≤65536:=kz (aj3 h).2 _ _
theorem avA:(rL v).1.o'≤65536∧(rL v).2.rest.o'≤65536:=kz (apq h).2 _ _
theorem apr:(m' v).1.o'≤65536∧(m' v).2.rest.o'≤65536:=kz (avA h).2 _ _
theorem aps:(lS v).1.o'≤65536∧(lS v).2.rest.o'≤65536:=by
 unfold lS
 split
 ·exact kz (apr h).2 _ _
 exact⟨by rw [JV.hE];simp [JV.fg,JV.str,JV.list,JV.map,JV.sA,JV.lv],(apr h).2⟩
theorem aeB:(ck v).1.o'≤65536∧(ck v).2.rest.o'≤65536:=kz (aps h).2 _ _
theorem ah7:(q3 v).1.o'≤65536∧(q3 v).2.rest.o'≤65536:=kz (t:=⟨(ck v).2.rest,uA v⟩) (aeB h).2 _ _
theorem avB:(tz v).1.o'≤65536∧(tz v).2.rest.o'≤65536:=kz (t:=⟨(q3 v).1,false⟩) (ah7 h).1 _ _
omit h in
theorem th (x:JV) (ae:x.o'≤65536):x.str.length≤65536:=by have:=JV.hE x;omega
omit h in
theorem sC (x:JV) (ae:x.o'≤65536):(x.list.map JV.str).length≤65536∧∀ s∈x.list.map JV.str,s.length≤65536:=by
 have:=JV.hE x;have:=JV.sB x.list;refine⟨by rw [List.length_map];omega,fun s bh=>?_⟩;obtain⟨y,ba,rfl⟩:=List.mem_map.1 bh;have:=JV.Dj ba;have:=JV.hE y;omega
theorem Fu:(fV v).lens:=by
 have dY:=JV.hE (ck v).1;have h1:=aeB h;obtain⟨_,aq⟩:=oi (ck v).1.map;exact⟨Nat.lt_of_le_of_lt (th _ (aj2 h).1) (by decide),Nat.lt_of_le_of_lt (th _ (aj3 h).1) (by decide),fun s bh=>by have:=(aq s bh).1;omega⟩
theorem y5:(fV v).sigs.length≤65536:=by
 have dY:=JV.hE (ck v).1;have h1:=aeB h;have:=(oi (ck v).1.map).1;show(bG (ck v).1.map).length≤65536;omega
theorem Hm:(fV v).ok:=by
 have b:∀ n:Nat,n≤65536→n≤140737488351232:=fun n cu=>by omega
 have dY:=JV.hE (ck v).1;have h1:=(aeB h).1;obtain⟨bb,aq⟩:=oi (ck v).1.map;obtain⟨Gv,HS⟩:=sC _ (aj0 h).1;obtain⟨e6,a2⟩:=sC _ (aj1 h).1;exact⟨b _ (th _ (aj2 h).1),b _ (th _ (aj3 h).1),b _ (th _ (apq h).1),b _ (th _ (aps h).1),JV.Ht _ _ (Nat.le_refl _) (apo h).1,fun s bh=>b _ (HS s bh),b _ Gv,fun s bh=>b _ (a2 s bh),b _ e6,b _ (th _ (avB h).1),fun s bh=>by obtain⟨nc,po,sZ⟩:=aq s bh;exact⟨b _ (by omega),b _ (by omega),b _ (by omega)⟩,b _ (y5 h)⟩
theorem Yq:(fV v).Yp:=by
 obtain⟨Gv,HS⟩:=sC _ (aj0 h).1;obtain⟨e6,a2⟩:=sC _ (aj1 h).1;exact⟨Nat.le_trans (y5 h) (by decide),Nat.le_trans Gv (by decide),Nat.le_trans e6 (by decide)⟩
end
end Go.Proofs.YtkjgljnkocnnpaaGreatDoor.V
