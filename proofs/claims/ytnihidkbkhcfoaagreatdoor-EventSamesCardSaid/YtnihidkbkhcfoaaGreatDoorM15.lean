/-
  A part of the proof: a value that an event can be read of whole is the event's value (plain Lean); a value that an event is read of whole is the event's value (plain Lean); the document's event of a value (plain Lean); an event that can be is read from its value as it is (plain Lean); the law's own event, and a text that is none's (plain Lean). No condition of its own.
-/
import Derived.Test.YtnihidkbkhcfoaaGreatDoorM14
import Derived.Test.YtnihidkbkhcfoaaGreatDoorM13
import Derived.Test.YtnihidkbkhcfoaaGreatDoorM5
import Derived.Test.YtnihidkbkhcfoaaGreatDoorM10
import Derived.Test.YtnihidkbkhcfoaaGreatDoorM3
set_option linter.unusedVariables false
set_option linter.unusedSimpArgs false
namespace Go.Proofs.YtnihidkbkhcfoaaGreatDoor.V
open Go
namespace JV
def xW (v:JV):Prop:=∃ d b e8,wr v d b = .ok e8
theorem xW.bare {v:JV} (h:v.xW):v.bare=true:=by
 obtain⟨d,b,e8,h⟩:=h;rw [dM] at h
 split at h
 ·cases h
 rename_i aS;simpa using aS
theorem xW.j9 {v:JV} (h:v.xW) (k:v.kind=2):v=hp v.num:=by
 obtain⟨h1,aq,aU,bM,cL⟩:=mZ h.bare;exact mk_eq k (h1.resolve_left (by omega)) rfl (aU.resolve_left (by omega)) (bM.resolve_left (by omega)) (cL.resolve_left (by omega))
theorem xW.vS {v:JV} (h:v.xW) (k:v.kind=3):v=aP v.str:=by
 obtain⟨h1,aq,aU,bM,cL⟩:=mZ h.bare;exact mk_eq k (h1.resolve_left (by omega)) (aq.resolve_left (by omega)) rfl (bM.resolve_left (by omega)) (cL.resolve_left (by omega))
theorem xW.uo {v:JV} (h:v.xW) (k:v.kind=4):v=cX v.list∧∀ x∈v.list,x.xW:=by
 obtain⟨h1,aq,aU,bM,cL⟩:=mZ h.bare;refine⟨mk_eq k (h1.resolve_left (by omega)) (aq.resolve_left (by omega)) (aU.resolve_left (by omega)) rfl (cL.resolve_left (by omega)),fun x ae=>?_⟩;have aS:=h.bare;obtain⟨d,b,e8,h⟩:=h;rw [dM,if_neg (by simp [aS]),if_neg (by omega),if_neg (by omega),if_neg (by omega),if_neg (by omega)] at h
 split at h
 ·cases h
 obtain⟨dn,h1,aU⟩:=dt h;obtain⟨eJ,aq,bM⟩:=dt aU;obtain⟨c,c',bj⟩:=AU _ _ _ _ aq x ae;exact⟨_,_,_,bj⟩
theorem xW.A2 {v:JV} (h:v.xW) (k:v.kind=5):v=obj v.map∧er v.map∧∀ p∈v.map,p.2.xW:=by
 obtain⟨d,b,e8,h⟩:=h;obtain⟨_,eJ,aq,_,_⟩:=Mm k h;refine⟨JV.Cl k h,(uT _ _ _ _ _ aq).1,fun p cp=>?_⟩;obtain⟨c,c',bj⟩:=AV _ _ _ _ aq p cp;exact⟨_,_,_,bj⟩
end JV
open JV
theorem ov {m:List (aa×JV)} {k:aa} {x:JV} (h:∀ y∈m,eR y.1 k=true):dC m k x=m ++ [(k,x)]:=by
 unfold dC;rw [List.filter_eq_self.2 h,List.filter_eq_nil_iff.2 (fun y aY=>by
  rw [jk (h y aY)];simp)]
 simp
theorem OV {m:List (aa×JV)} {k:aa} {x y:JV} (h:∀ y∈m,eR y.1 k=true):dC (m ++ [(k,y)]) k x=m ++ [(k,x)]:=by
 have:=ov (x:=x) h;unfold dC at this ⊢;have e:eR k k=false:=df k;rw [List.filter_append,List.filter_append];simpa [e] using this
theorem KE {m:List (aa×JV)} {k:aa} {y:JV} (h:∀ y∈m,eR y.1 k=true):look (m ++ [(k,y)]) k=some y:=by
 have ck:look m k=none:=hQ fun j z dk hk=>by
  have:=h z (List.mem_of_getElem? dk);rw [hk,df] at this;cases this
 rw [n0,ck];simp [look]
theorem H7 {m:List (aa×JV)} {k:aa} (h:∀ y∈m,eR y.1 k=true):look m k=none:=hQ fun j z dk hk=>by
 have:=h z (List.mem_of_getElem? dk);rw [hk,df] at this;cases this
namespace EV
end EV
end Go.Proofs.YtnihidkbkhcfoaaGreatDoor.V
namespace Go.Proofs.YtnihidkbkhcfoaaGreatDoor.V
open Go
open JV
namespace EV
def keys:List aa:=[hZ,nC,kh,gz,qz,hY,mm,iu,mo,mn,gm]
end EV
end Go.Proofs.YtnihidkbkhcfoaaGreatDoor.V
namespace Go.Proofs.YtnihidkbkhcfoaaGreatDoor.V
open Go
open JV
namespace EV
end EV
end Go.Proofs.YtnihidkbkhcfoaaGreatDoor.V
namespace Go.Proofs.YtnihidkbkhcfoaaGreatDoor.V
open Go
open JV
namespace EV
theorem sB (a b:List (aa×JV)):ch (a++b)=ch a++ch b:=by simp [ch]
theorem uk:∀ (r:List dH) (acc pre:List (aa×JV)) (p:dH),(∀ y∈acc,eR y.1 p.c8=true)→(∀ y∈pre,y.1=p.key∨eR y.1 p.key=true)→eg (some p) r=true→ch (r.foldl mI (acc ++ [(p.c8,obj pre)]))=ch (acc ++ [(p.c8,obj pre)])++r
 | [],acc,pre,p,_,_,_=>by simp
 | s::r,acc,pre,p,ay,cp,h=>by
  rw [eg] at h
  simp only [Bool.and_eq_true] at h
  obtain⟨⟨_,h1⟩,aq⟩:=h
  unfold UE at h1
  simp only at h1
  unfold gM at h1
  simp only [Bool.not_eq_true',Bool.or_eq_false_iff,Bool.not_eq_false',Bool.or_eq_true,beq_iff_eq,Bool.and_eq_false_iff,decide_eq_false_iff_not] at h1
  rw [List.foldl_cons]
  by_cases bf:p.c8=s.c8
  rotate_left
  ·have aS:eR p.c8 s.c8=true:=by
    rcases h1.1 with h | h
    ·exact h
    exact absurd h bf
   have wJ:∀ y∈acc ++ [(p.c8,obj pre)],eR y.1 s.c8=true:=fun y aY=>by
    rcases List.mem_append.1 aY with aY | aY
    ·exact gh (ay y aY) aS
    rw [List.mem_singleton.1 aY];exact aS
   have e:mI (acc ++ [(p.c8,obj pre)]) s=(acc ++ [(p.c8,obj pre)]) ++ [(s.c8,obj [(s.key,aP s.sig)])]:=by
    unfold mI one
    rw [H7 wJ,ov wJ]
    show _ ++ [(s.c8,obj (dC [] s.key (aP s.sig)))]=_
    rw [ov (by simp)]
    rfl
   rw [e,uk r _ _ s wJ (fun y aY=>by rw [List.mem_singleton.1 aY];exact .inl rfl) aq,sB _ [(s.c8,_)]]
   simp [ch,fv,obj,JV.map,aP,JV.str]
  have hk:eR p.key s.key=true:=by
   rcases h1.2 with h | h
   ·exact absurd bf h
   simpa using h
  have bJ:∀ y∈pre,eR y.1 s.key=true:=fun y aY=>by
   rcases cp y aY with e | e
   ·rw [e];exact hk
   exact gh e hk
  have wJ:∀ y∈acc,eR y.1 s.c8=true:=fun y aY=>by rw [← bf];exact ay y aY
  have e:mI (acc ++ [(p.c8,obj pre)]) s=acc ++ [(s.c8,obj (pre ++ [(s.key,aP s.sig)]))]:=by
   unfold mI one
   rw [bf,KE wJ,OV wJ]
   show acc ++ [(s.c8,obj (dC pre s.key (aP s.sig)))]=_
   rw [ov bJ]
  rw [e,uk r acc _ s wJ (fun y aY=>by
   rcases List.mem_append.1 aY with aY | aY
   ·exact .inr (bJ y aY)
   rw [List.mem_singleton.1 aY];exact .inl rfl) aq,sB,sB,bf]
  simp [ch,fv,obj,JV.map,aP,JV.str]
theorem ES {l:List dH} (h:eg none l=true):ch (lB l l.length)=l:=by
 unfold lB;rw [List.take_length];cases l with
 | nil=>rfl
 | cons s r=>
  rw [eg] at h;simp only [Bool.and_eq_true] at h;have e:mI [] s = [] ++ [(s.c8,obj [(s.key,aP s.sig)])]:=by
   unfold mI one;rw [ov (by simp)];show [] ++ [(s.c8,obj (dC [] s.key (aP s.sig)))]=_;rw [ov (by simp)];rfl
  rw [List.foldl_cons,e,uk r [] _ s (by simp) (fun y aY=>by rw [List.mem_singleton.1 aY];exact .inl rfl) h.2];simp [ch,fv,obj,JV.map,aP,JV.str]
theorem A0 {e:EV} (h:e.q6=0):eg none e.sigs=true∧e.bd.kind=5∧(e.st=false→e.key = []):=by
 have dI:e.hd=true:=by
  unfold EV.q6 at h
  split at h
  ·cases h
  split at h
  ·assumption
  cases h
 unfold hd hv h2 at dI;simp only [Bool.and_eq_true,decide_eq_true_eq,Bool.or_eq_true] at dI;obtain⟨⟨⟨⟨⟨⟨⟨⟨_,h1⟩,aq⟩,_⟩,_⟩,_⟩,_⟩,aU⟩,_⟩:=dI;exact⟨aU,aq,fun bf=>h1.resolve_left (by rw [bf];simp)⟩
theorem O1 {e:EV} (h:e.q6=0):e.again=e:=by
 obtain⟨h1,_,aU⟩:=A0 h;unfold again;rw [ES h1];cases bf:e.st with
 | true=>rw [if_pos rfl,← bf]
 | false=>rw [if_neg (by simp),← aU bf,← bf]
theorem Ao {e:EV} (h:e.e7=0):h9 e.val=e∧lO e.val=0:=by
 obtain⟨bj,h1,_⟩:=C5 h;obtain⟨aq,aU⟩:=aah (A0 bj).2.1;rw [O1 bj] at aq;refine⟨aq,?_⟩;unfold lO;rw [if_neg (by rintro(h | h);exact h h1;exact h rfl),if_neg (by rw [aU];simp),aq];exact bj
end EV
end Go.Proofs.YtnihidkbkhcfoaaGreatDoor.V
namespace Go.Proofs.YtnihidkbkhcfoaaGreatDoor.V
open Go
open JV
theorem JV.O2 {s:aa} {deep:Nat} (bY:deep≠32) (bK:cn s=true) (cg:s.length≤65536):Fit (cX [aP s]) deep ([91]++cw s ++ [93]):=fun c bj=>by
 have aS:¬ bare (cX [aP s])=false:=by simp [bare,cX,kind,is,num,str,list,map]
 have uo:(cX [aP s]).kind=4:=rfl;have e:c++([91]++cw s ++ [93])=c ++ [91]++cw s ++ [93]:=by simp
 rw [e] at bj ⊢;have h1:(c ++ [91]++cw s).length≤65536:=by rw [List.length_append] at bj;omega
 have b3:(c ++ [91]).length≤65536:=by rw [List.length_append] at h1;omega
 rw [dM,if_neg aS,if_neg (by rw [uo];decide),if_neg (by rw [uo];decide),if_neg (by rw [uo];decide),if_neg (by rw [uo];decide),if_neg bY,if_pos uo,fy b3];show(hL [aP s] deep true (c ++ [91])).bind _=_;rw [k3];show((wr (aP s) (deep+1) (c ++ [91])).bind fun b=>hL [] deep false b).bind _=_;rw [AT bK cg (c ++ [91]) h1];show(hL [] deep false (c ++ [91]++cw s)).bind _=_;rw [hL];show cu _=_;rw [fy bj]
namespace EV
theorem JS:plain.Hq:=⟨by decide,by decide,by decide⟩
theorem Ap:plain.e7=0:=by
 have d:∀ {m k v r deep t1 t2} {q:aa},(∀ c∈k,c.toNat<128)→k.length≤1000→eR q k=true→Fit v (deep+1) t1→tq r deep (some k) t2→m=(k,v)::r→tq m deep (some q) ([44]++cw k ++ [58]++t1++t2):=fun {m k v r deep t1 t2 q} bK cg e5 h1 aq e=>by
  subst e;exact vM bK cg (fun alL e=>by injection e with e;subst e;exact e5) h1 aq
 have Ib:Fit (hp 0) 1 (Lib.itoa 0):=H0 (by decide) (by decide);have f5:∀ deep,deep≠32→Fit (obj []) deep ([123] ++ [] ++ [125]):=fun deep bY=>vI vL bY;have T:∀ s:aa,(∀ c∈s,c.toNat<128)→s.length≤1000→Fit (aP s) 1 (cw s):=fun s h1 aq=>AT (o8 s h1) (by omega);have m0:tq [] 0 (some mn) []:=vL;have m1:=d (k:=mn) (v:=aP plain.ty) (q:=mo) (by decide) (by decide) (by decide) (T _ (by decide) (by decide)) m0 rfl;have m2:=d (k:=mo) (v:=obj []) (q:=iu) (by decide) (by decide) (by decide) (f5 1 (by decide)) m1 rfl;have m3:=d (k:=iu) (v:=aP plain.snd) (q:=mm) (by decide) (by decide) (by decide) (T _ (by decide) (by decide)) m2 rfl;have m4:=d (k:=mm) (v:=aP plain.room) (q:=hY) (by decide) (by decide) (by decide) (T _ (by decide) (by decide)) m3 rfl;have afC:Fit (cX [aP (36::C1)]) 1 _:=O2 (by decide) (o8 _ (by decide)) (by decide);have m5:=d (k:=hY) (v:=cX [aP (36::C1)]) (q:=qz) (by decide) (by decide) (by decide) afC m4 rfl;have m6:=d (k:=qz) (v:=hp 0) (q:=gz) (by decide) (by decide) (by decide) Ib m5 rfl;have bf:Fit (obj [(kL,aP plain.hash)]) 1 _:=vI (vM (k:=kL) (v:=aP plain.hash) (by decide) (by decide) (fun q e=>by cases e) (AT (o8 _ (by decide)) (by decide)) vL) (by decide);have m7:=d (k:=gz) (q:=kh) (by decide) (by decide) (by decide) bf m6 rfl;have m8:=d (k:=kh) (v:=hp 0) (q:=nC) (by decide) (by decide) (by decide) Ib m7 rfl;have m9:=d (k:=nC) (v:=obj []) (q:=hZ) (by decide) (by decide) (by decide) (f5 1 (by decide)) m8 rfl;have m10:=vM (k:=hZ) (v:=cX []) (prev:=none) (by decide) (by decide) (fun q e=>by cases e) (OU (by decide)) m9;have cg:(Lib.itoa 0).length≤21:=Lib.itoa_length_le 0 (by decide) (by decide);have:=vI m10 (by decide) [] (by
  have MS:(cw mn).length=6:=by decide
  have IX:(cw mo).length=12:=by decide
  have Ll:(cw iu).length=8:=by decide
  have Ie:(cw mm).length=9:=by decide
  have F9:(cw hY).length=13:=by decide
  have ar4:(cw qz).length=18:=by decide
  have ar5:(cw gz).length=8:=by decide
  have ar6:(cw kh).length=7:=by decide
  have ar7:(cw nC).length=9:=by decide
  have ar8:(cw hZ).length=13:=by decide
  have ar9:(cw plain.ty).length=3:=by decide
  have ar':(cw plain.snd).length=6:=by decide
  have asa:(cw plain.room).length=6:=by decide
  have asb:(cw plain.hash).length=45:=by decide
  have asc:(cw kL).length=8:=by decide
  have asd:(cw (36::C1)).length=46:=by decide
  simp only [List.length_append,List.length_cons,List.length_nil,comma,MS,IX,Ll,Ie,F9,ar4,ar5,ar6,ar7,ar8,ar9,ar',asa,asb,asc,asd];generalize (Lib.itoa 0).length=z at cg ⊢;omega)
 exact aad Kz (show plain.val.wr 0 [] = .ok _ from this)
theorem EA {e:EV} (h:e.e7=0):e.val.wr 0 [] = .ok e.l0:=by
 obtain⟨_,h1,aq⟩:=C5 h;obtain⟨T,jG⟩:=iU h1;rw [aq,jG];rfl
theorem An {e:EV} (h:e.e7=0):parse e.l0 = .ok e.val:=sJ (EA h)
end EV
def afu:aa:=[117,110,115,105,103,110,101,100]
def JP:aa:=[123,34,117,110,115,105,103,110,101,100,34,58,49,125]
def aan:JV:=obj [(afu,hp 1)]
theorem Vj:aan.wr 0 [] = .ok JP:=by
 have h1:Lib.itoa 1 = [49]:=by
  rw [Lib.itoa,if_neg (by decide)];show Lib.decDigits 1 = [49];unfold Lib.decDigits;rfl
 have rI:Fit (hp 1) 1 [49]:=by
  have:=H0 (n:=1) (deep:=1) (by decide) (by decide)
  rwa [h1] at this
 have:=vI (vM (k:=afu) (v:=hp 1) (deep:=0) (prev:=none) (by decide) (by decide) (fun q e=>by cases e) rI vL) (by decide) [] (by decide);have e:([]:aa)++([123]++(comma none++cw afu ++ [58] ++ [49] ++ []) ++ [125])=JP:=by decide
 rw [e] at this;exact this
theorem On:parse JP = .ok aan:=sJ Vj
theorem aao:SL aan=true:=by kernel_rfl
theorem Zg:lO aan=21:=by
 unfold lO;rw [if_neg (by rw [Vj];rintro(h | h);exact h rfl;exact h rfl),if_pos aao]
end Go.Proofs.YtnihidkbkhcfoaaGreatDoor.V
set_option maxRecDepth 10000
namespace Go.Proofs.YtnihidkbkhcfoaaGreatDoor.V
open Go Go.Proofs
theorem Pc:aQ Tryz.prog 38:=aQ.of Tryz.func38 (by kernel_rfl) (by kernel_rfl)
/-- the digest's table as the program has it -/
def abr (w:World):Prop:=ri w ⟨aoY,0,none⟩ (Pd.map W4)∧aoY<w.heap.size
theorem abr.I {w w':World} (h:abr w) (k:Mod [] w w'):abr w':=⟨h.1.I k,Nat.lt_of_lt_of_le h.2 k.size⟩
set_option maxRecDepth 10000
set_option maxRecDepth 10000
theorem Pe:aQ Tryz.prog 36:=aQ.of Tryz.func36 (by kernel_rfl) (by kernel_rfl)
set_option maxRecDepth 10000
theorem Ti:aQ Tryz.prog 72:=aQ.of Tryz.func72 (by kernel_rfl) (by kernel_rfl)
theorem Tj:aQ Tryz.prog 46:=aQ.of Tryz.func46 (by kernel_rfl) (by kernel_rfl)
theorem Hl {s:aa} {v:JV} (h:parse s = .ok v):rv s=lO v:=by
 unfold rv rq pF;rw [h];exact if_neg (fun h=>h rfl)
/-- the event of a text; of one that has none: the empty one -/
noncomputable def Hm (s:aa):EV:=if rv s=0 then h9 (pF s)else EV.gQ
theorem nA.Tk {A:List Nat} {w0 w:World} {v:JV} {us:List Value} (h:nA A w0 w v us) (dF:∀ a∈A,a<w0.heap.size) (b3:lO v=0):ao A w (h9 v).D us:=by
 rcases h with⟨_,al,cl,am,cm,up,EZ,Ih,rfl,asp,eS,qE,vO,rN,Ji,NL⟩ | h
 ·obtain⟨pb,c1,rfl,_⟩:=eS.form;obtain⟨a2,c2,rfl,_⟩:=qE.form;obtain⟨a3,c3,rfl,_⟩:=vO.form;have ck:∀ (u:Value),(∀ x∈a1 u,w0.heap.size≤x)→∀ x∈a1 u,x∉A:=fun u h1 x ae ay=>by have:=dF x ay;have:=h1 x ae;omega
  exact EV.cv (e:=h9 v) asp (Own.strs A eS (ck _ rN)) (Own.strs A qE (ck _ Ji)) (Own.flat (A:=A) vO (fun _ _=>rfl) (fun x _ c bj=>by simp [dH.cells] at bj;rcases bj with rfl | rfl | rfl <;> rfl) rfl (ck _ NL))
 exact absurd b3 h.1
theorem nA.Lm {w0 w:World} {v:JV} {us:List Value} (h:nA [] w0 w v us) (b3:lO v=0):ao [] w (h9 v).D us:=h.Tk (by simp) b3
theorem nA.aiK {A:List Nat} {w0 w:World} {v:JV} {us:List Value} (h:nA A w0 w v us) (b3:lO v≠0):ao A w EV.gQ.D us:=by
 rcases h with⟨h,_⟩ | ⟨_,rfl⟩
 ·exact absurd h b3
 exact EV.gR
theorem aep.Lm {A:List Nat} {w0 w:World} {s:aa} {us:List Value} (h:aep A w0 w s us) (dF:∀ a∈A,a<w0.heap.size):ao A w (Hm s).D us:=by
 unfold Hm;rcases h with⟨b3,h⟩ | ⟨b3,rfl⟩
 ·have bY:rv s=lO (pF s):=if_neg (fun e=>e b3);rw [bY]
  by_cases dI:lO (pF s)=0
  ·rw [if_pos dI];exact h.Tk dF dI
  rw [if_neg dI];exact h.aiK dI
 have bY:rv s=rq s:=if_pos b3;rw [bY,if_neg b3];exact EV.gR
theorem CL {e:EV} (h:e.e7=0):rv e.l0=0∧Hm e.l0=e:=by
 have h1:=Hl (EV.An h);obtain⟨aq,aU⟩:=EV.Ao h;rw [aU] at h1;refine⟨h1,?_⟩;unfold Hm pF;rw [if_pos h1,EV.An h];exact aq
theorem Hn:rv JP=21:=(Hl On).trans Zg
theorem Oo (A:List Nat) (w:World) (dF:∀ a∈A,a<w.heap.size) (s:aa) (e4:Env w) (eY:iK w):Calls Tryz.prog 46 [S s].toArray w (bL fun u w'=>∃ us,u = .tuple #[.agg us.toArray,.int .i64 (rv s)]∧ao A w' (Hm s).D us∧Mod [] w w'):=
 Calls.imp (Th A w dF s e4 eY) fun u w' h=>by
  obtain⟨us,h1,aq,aU⟩:=h
  exact⟨us,h1,aq.Lm dF,aU⟩
theorem CM (w:World) (s:aa) (e4:Env w) (eY:iK w):Calls Tryz.prog 46 [S s].toArray w (bL fun u w'=>∃ us,u = .tuple #[.agg us.toArray,.int .i64 (rv s)]∧ao [] w' (Hm s).D us∧Mod [] w w'):=Oo [] w (by simp) s e4 eY
theorem Oq (w:World) (e:EV) (he:e.e7=0) (e4:Env w) (eY:iK w):Calls Tryz.prog 46 [S e.l0].toArray w (bL fun u w'=>∃ us,u = .tuple #[.agg us.toArray,.int .i64 0]∧ao [] w' e.D us∧Mod [] w w'):=by
 have h:=CM w e.l0 e4 eY;rw [(CL he).1,(CL he).2] at h;exact h
theorem Ot (w:World) (e4:Env w) (eY:iK w):Calls Tryz.prog 46 [S JP].toArray w (bL fun u w'=>∃ us,u = .tuple #[.agg us.toArray,.int .i64 21]∧ao [] w' EV.gQ.D us∧Mod [] w w'):=by
 have h:=CM w JP e4 eY;have e:Hm JP=EV.gQ:=by unfold Hm;rw [if_neg (by rw [Hn];decide)]
 rw [Hn,e] at h;exact h
theorem JQ (w:World) (e4:Env w) (eY:iK w):Calls Tryz.prog 35 [].toArray w (bL fun u w'=>u = .bool true∧Mod [] w w'):=by
 refine enter Tryz.func35 rfl rfl rfl (l:=[]) trivial ?_;have E:=Mod.refl [] w;have jG:=e4.xP;refine ab fun aV=>aT rfl (J aV (ab fun aL=>fA (bF Ti rfl) (CN _) rfl fun cO aB aA=>?_));obtain⟨⟨aiF,rfl,arC⟩,R⟩:=aA;replace E:=E.then R;have E8:=Mod.refl [] aB;refine cP (bF JR rfl) (wP _ EV.plain _ (arC.bB E8) EV.CO EV.Ho EV.JS (jG.mod E (by simp)) (eY.I E)) fun cN R=>?_;replace E:=E.then R;replace E8:=E8.then R;rw [EV.Ap];refine ak 5 rfl (J aL (ab fun aW=>aG rfl (fA (bF Tj rfl) (Oq _ EV.plain EV.Ap (e4.I E) (eY.I E)) rfl fun cO fV aA=>?_)));obtain⟨apC,rfl,aeq,R⟩:=aA;replace E:=E.then R;replace E8:=E8.then R;obtain⟨apD,apE,apF,apG,apH,apI,apJ,apK,apL,apM,rfl,aiL,aiM,aiN,aiO⟩:=EV.gd aeq;replace aeq:=EV.cv (e:=EV.plain) aiL aiM aiN aiO;have uf:=Mod.refl [] fV;refine ak 3 rfl (bt oY rfl fun g1 ic bR=>?_);have bH:=bR.le E;have Zh:=bR.le E8;have Tl:=bR.le uf;replace E:=E.then bR.mod;replace E8:=E8.then bR.mod;replace uf:=uf.then bR.mod;have U:=bR.az;refine bo (vs:=[_,_,_,_,_,_,_,_,_,_,_,_,_,_,_,_,_]) fi U rfl rfl rfl (by simp [Value.oneCell']) (by simp) fun jn hx=>?_;replace E:=E.own hx.mod bH;replace E8:=E8.own hx.mod Zh;replace uf:=uf.own hx.mod Tl;replace U:aF jn g1 _ [_,_,_,_,_,_,_,_,_,_,_,_,_,_,_,_,_]:=hx.az;refine aT rfl (J aW (ab fun br=>fA (bF Tj rfl) (Ot _ (e4.I E) (eY.I E)) rfl fun cO jC aA=>?_));obtain⟨apN,rfl,aiP,R⟩:=aA;replace U:=U.I R;replace E:=E.then R;replace E8:=E8.then R;replace uf:=uf.then R;obtain⟨apO,apP,apQ,apR,apS,apT,apU,apV,apW,apX,rfl,aiQ,aiR,aiS,aiT⟩:=EV.gd aiP;replace aiP:=EV.cv (e:=EV.gQ) aiQ aiR aiS aiT;have JT:=Mod.refl [] jC;refine ak 3 rfl (bt oY rfl fun g2 iw cK=>?_);have b4:=cK.le E;have Zi:=cK.le E8;have Tm:=cK.le uf;have Tn:=cK.le JT;have bP:=cK.ne U;replace U:=U.I cK.mod;replace E:=E.then cK.mod;replace E8:=E8.then cK.mod;replace uf:=uf.then cK.mod;replace JT:=JT.then cK.mod;have ah:=cK.az;refine bo (vs:=[_,_,_,_,_,_,_,_,_,_,_,_,_,_,_,_,_]) fi ah rfl rfl rfl (by simp [Value.oneCell']) (by simp) fun n' nG=>?_;replace U:=U.ne nG.mod bP;replace E:=E.own nG.mod b4;replace E8:=E8.own nG.mod Zi;replace uf:=uf.own nG.mod Tm;replace JT:=JT.own nG.mod Tn;replace ah:aF n' g2 _ [_,_,_,_,_,_,_,_,_,_,_,_,_,_,_,_,_]:=nG.az;refine aT rfl (J br (ax fun bI=>bT wide (by kernel_rfl) (f' 3 rfl rfl (NX rfl (bh (by decide)) (fun cQ R=>(ec rfl)) rfl rfl (NX rfl (bh (by decide)) (fun cQ R=>(lT rfl rfl)) rfl rfl (ai (fun R=>(lU (bh (by decide)) rfl rfl)) (ai (fun R=>(ec rfl)) (NX rfl (bh (by decide)) (fun cQ R=>(a8 (vs:=[_,_,_,_,_,_,_,_,_,_,_,_,_,_,_,_,_]) fi rfl rfl ((U.I R).cs rfl))) rfl rfl (ahX (fun u cQ=>∃ us,u = .agg us.toArray∧ao [] cQ (EV.plain).D us) (fun cO nY jH j2 aA=>by obtain⟨hl,ob,ot⟩:=aA;exact⟨hl,ob,ot.bB j2⟩) rfl (bh (by decide)) (fun cQ R=>bF Ti rfl) (fun cQ R=>Calls.imp (CN _) fun ot jH anP=>anP) rfl rfl rfl ?_)))))))));refine ah5 (args:=fun A4=>[_,A4].toArray) (v:=.bool true) 29 rfl (bh (by decide)) rfl rfl ⟨_,List.Mem.tail _ (List.Mem.tail _ (List.Mem.head _)),rfl⟩ (fun cQ A4 R aA=>bF To rfl) (fun cQ A4 R aA=>by
  obtain⟨hl,rfl,ot⟩:=aA;exact Ou _ EV.plain _ _ (aeq.bB (uf.then R)) ot EV.CO) rfl rfl ?_
 refine ai (fun R=>(lU (bh (by decide)) rfl rfl)) (f' 5 rfl rfl (bV rfl fun lY R=>?_));replace U:=U.I R;replace ah:=ah.I R;replace E:=E.then R;replace E8:=E8.then R;replace uf:=uf.then R;replace JT:=JT.then R;exact aw bI (aZ (au rfl rfl ⟨rfl,E⟩))
set_option maxRecDepth 10000
theorem aer:aQ Tryz.prog 35:=aQ.of Tryz.func35 (by kernel_rfl) (by kernel_rfl)
set_option maxRecDepth 10000
def JU (x y:dH):Bool:=decide (x.c8=y.c8)&&(decide (x.key=y.key)&&(decide (x.sig=y.sig)&&true))
theorem Aq {x y:dH}:JU x y=true↔x=y:=by
 unfold JU;cases x;cases y;simp
theorem EV.KP {e d:EV} (h1:e.room=d.room) (aq:e.snd=d.snd) (aU:e.ty=d.ty) (bM:e.st=d.st) (cL:e.key=d.key) (eW:e.bd=d.bd) (kz:e.prev=d.prev) (kq:e.bn=d.bn) (k0:e.dep=d.dep) (kb:e.time=d.time) (uw:e.hash=d.hash) (uF:e.sigs=d.sigs):e=d:=by
 cases e;cases d;simp_all
theorem Ar {α:Type} {l m:List α} {k:Nat} {x y:α} (h:l.take k=m.take k) (ae:l[k]? = some x) (aY:m[k]? = some y) (e:x=y):l.take (k+1)=m.take (k+1):=by
 subst e;rw [List.take_add_one,List.take_add_one,h,ae,aY]
theorem CP {α:Type} {l m:List α} {k:Nat} (h:l.take k=m.take k) (h1:l.length≤k) (aq:m.length≤k):l=m:=by
 rwa [List.take_of_length_le h1,List.take_of_length_le aq] at h
theorem As (w:World) (xs yd:List aa) (pb a2:Option Addr) (c1 c2:Nat) (asp:ba [] w (lG xs) (.slice pb xs.length c1)) (p7:ba [] w (lG yd) (.slice a2 yd.length c2)) (cg:xs.length≤140737488351232):Calls Tryz.prog 94 [.slice pb xs.length c1,.slice a2 yd.length c2].toArray w (bL fun u w'=>(∃ b:Bool,u = .bool b∧(b=true↔xs=yd))∧Mod [] w w'):=by
 refine enter Tryz.func94 rfl rfl rfl (l:=[(0,_),(1,_)]) ⟨rfl,rfl,trivial⟩ ?_;have E:=Mod.refl [] w;obtain⟨_,Ov,qA,Au,Av⟩:=eN asp;injection qA with _ _ qB
 subst qB;obtain⟨_,aes,Aw,JW,JX⟩:=eN p7;injection Aw with _ _ Ax
 subst Ax;refine ab fun aV=>aT rfl (J aV (ax fun aL=>ab fun aW=>aG rfl (ag (bl Tryz.underlying26 rfl) (aG rfl (ag (bl Tryz.underlying26 rfl) (ag (eU rfl rfl) (J aW ?_)))))));refine aI rfl (fun kb=>?_) (fun kb=>?_)
 ·exact ab fun br=>aT rfl (J br (aZ (aO (by simp) (au rfl rfl ⟨⟨false,rfl,⟨fun h=>(by cases h),fun h=>absurd (by rw [h]) kb⟩⟩,E⟩))))
 have pc:(xs.length:Int)=yd.length:=Classical.not_not.1 kb;refine ca (aw aL (ax fun bI=>ab fun bW=>aG rfl (ag (bl Tryz.underlying26 rfl) (aG rfl (J bW (eB (bU (σ:=Nat) (fun k=>[(0,.slice pb xs.length c1),(1,.slice a2 yd.length c2),(11,.slice pb xs.length c1),(12,.int .i64 (xs.length:Int)),(13,.int .i64 (k:Int))]) (fun k aB=>(k≤xs.length∧xs.take k=yd.take k)∧Mod [] w aB) (fun k=>xs.length-k) (0) ⟨rfl,rfl,rfl,rfl,rfl,trivial⟩ (⟨⟨by omega,rfl⟩,E⟩) ?_)))))));rintro k aB ⟨⟨hk,kG⟩,E⟩;refine ab fun cb=>ag (cI rfl rfl) (J cb (ax fun cx=>?_));refine aI rfl (fun pf=>?_) (fun pf=>?_)
 ·obtain⟨x,ae⟩:∃ x,xs[k]? = some x:=⟨_,List.getElem?_eq_getElem (by omega)⟩;obtain⟨y,aY⟩:∃ y,yd[k]? = some y:=⟨_,List.getElem?_eq_getElem (by omega)⟩;obtain⟨jD,dv,cj,_⟩:=dW (asp.bB E) ae;obtain⟨Ft,mP,jR,_⟩:=dW (p7.bB E) aY;cases dv;cases mP;refine ca (aw cx (ax fun cH=>eB (ab fun b5=>ak 2 rfl (J b5 (ax fun bX=>bT wide (by kernel_rfl) (f' 2 rfl rfl (ai (fun R=>(b6 jz rfl rfl (by omega))) (ai (fun R=>(bc bs rfl (cj.I R).first)) (f' 2 rfl rfl (ai (fun R=>(b6 jz rfl rfl (by omega))) ?_))))))))));refine ai (fun R=>(bc bs rfl (jR.I R).first)) (ai (fun R=>(eu rfl rfl)) (bV rfl fun cN R=>?_));replace E:=E.then R;refine aw bX ?_;refine aI rfl (fun zt=>?_) (fun zt=>?_)
  ·exact ab fun cU=>aT rfl (J cU (aZ (bx (by simp) (aO (by simp) (aO (by simp) (bx (by simp) (aO (by simp) (au rfl rfl ⟨⟨false,rfl,⟨fun h=>(by cases h),fun h=>absurd (by subst h;rw [ae] at aY;injection aY) zt⟩⟩,E⟩))))))))
  exact ca (bx (by simp) (aw cH (bQ (ag (aN rfl rfl (by omega)) (aG rfl (cF (fJ (σ:=Nat) (s:=k) (k+1) ⟨rfl,rfl,rfl,rfl,rfl,trivial⟩ ⟨⟨by omega,Ar kG ae aY (Classical.not_not.1 zt)⟩,E⟩ (by omega))))))))
 exact bm (aO (by simp) (aO (by simp) (bS (aw bI (ab fun b7=>aT rfl (J b7 (aZ (au rfl rfl ⟨⟨true,rfl,⟨fun _=>CP kG (by omega) (by omega),fun _=>rfl⟩⟩,E⟩))))))))
theorem JY (w:World) (e d:EV) (us vs:List Value) (asp:ao [] w e.D us) (p7:ao [] w d.D vs) (eo:e.ok):Calls Tryz.prog 45 [.agg us.toArray,.agg vs.toArray].toArray w (bL fun u w'=>(∃ b:Bool,u = .bool b∧(b=true↔e=d))∧Mod [] w w'):=by
 refine enter Tryz.func45 rfl rfl rfl (l:=[(0,_),(1,_)]) ⟨rfl,rfl,trivial⟩ ?_;have E:=Mod.refl [] w;obtain⟨al,cl,am,cm,ap,pT,rC,qf,rJ,rK,rfl,vR,tw,Bn,xc⟩:=EV.gd asp;obtain⟨A7,A8,A9,Ba,JZ,J0,J',Ka,Tp,Tq,rfl,Kb,vX,Kc,Ey⟩:=EV.gd p7;obtain⟨pj,yX,xK,uL,xL,yY,MJ,FK,FL,yZ,rm,FM⟩:=eo;obtain⟨_,Ov,qA,Au,Av⟩:=eN xc;injection qA with _ _ qB
 subst qB;obtain⟨_,aes,Aw,JW,JX⟩:=eN Ey;injection Aw with _ _ Ax
 subst Ax;refine ab fun aV=>dP rfl rfl rfl fun g1 aB bR=>?_;have bH:=bR.le E;replace E:=E.then bR.mod;have U:=bR.az;refine dP rfl rfl rfl fun g2 cN cK=>?_;have b4:=cK.le E;have bP:=cK.ne U;replace U:=U.I cK.mod;replace E:=E.then cK.mod;have ah:=cK.az;refine aT rfl (J aV (ax fun aL=>ab fun aW=>ag (av mC rfl) (ag (bc bs rfl (U.cell rfl)) (ag (av mC rfl) (ag (bc bs rfl (ah.cell rfl)) (ag (eu rfl rfl) ?_))))));refine cT (fun ajT:e.room≠d.room=>?_) (fun ajT=>?_)
 ·exact ak 58 rfl (J aW (aD rfl (ab fun br=>aT rfl (J br (aZ (aO (by simp) (au rfl rfl ⟨⟨false,rfl,⟨fun h=>(by cases h),fun h=>absurd (congrArg EV.room h) ajT⟩⟩,E⟩)))))))
 refine aG rfl (ar (av mD rfl) (ar (bc bs rfl (U.cell rfl)) (ar (av mD rfl) (ar (bc bs rfl (ah.cell rfl)) (ar (eu rfl rfl) ?_)))));refine cT (fun qL:e.snd≠d.snd=>?_) (fun qL=>?_)
 ·exact ak 52 rfl (J aW (aD rfl (ab fun bI=>aT rfl (J bI (aZ (aO (by simp) (au rfl rfl ⟨⟨false,rfl,⟨fun h=>(by cases h),fun h=>absurd (congrArg EV.snd h) qL⟩⟩,E⟩)))))))
 refine ak 2 rfl (ar (av kR rfl) (ar (bc bs rfl (U.cell rfl)) (ar (av kR rfl) (ar (bc bs rfl (ah.cell rfl)) (ar (eu rfl rfl) ?_)))));refine cT (fun p2:e.ty≠d.ty=>?_) (fun p2=>?_)
 ·exact ak 45 rfl (J aW (aD rfl (ab fun bW=>aT rfl (J bW (aZ (aO (by simp) (au rfl rfl ⟨⟨false,rfl,⟨fun h=>(by cases h),fun h=>absurd (congrArg EV.ty h) p2⟩⟩,E⟩)))))))
 refine ak 2 rfl (ar (av n2 rfl) (ar (bc jr rfl (U.cell rfl)) (ar (av n2 rfl) (ar (bc jr rfl (ah.cell rfl)) (ar (Df Tryz.underlying4 rfl rfl) ?_)))));refine w8 (fun uq:(e.st != d.st)=true=>?_) (fun uq=>?_)
 ·exact ak 38 rfl (J aW (aD rfl (ab fun cb=>aT rfl (J cb (aZ (aO (by simp) (au rfl rfl ⟨⟨false,rfl,⟨fun h=>(by cases h),fun h=>absurd uq (by rw [congrArg EV.st h];simp)⟩⟩,E⟩)))))))
 refine ak 2 rfl (ar (av kS rfl) (ar (bc bs rfl (U.cell rfl)) (ar (av kS rfl) (ar (bc bs rfl (ah.cell rfl)) (ar (eu rfl rfl) ?_)))));refine cT (fun LD:e.key≠d.key=>?_) (fun LD=>?_)
 ·exact ak 31 rfl (J aW (aD rfl (ab fun cx=>aT rfl (J cx (aZ (aO (by simp) (au rfl rfl ⟨⟨false,rfl,⟨fun h=>(by cases h),fun h=>absurd (congrArg EV.key h) LD⟩⟩,E⟩)))))))
 refine ak 2 rfl (ar (av mG rfl) (ar (bc dE rfl (U.cell rfl)) (ar (av mG rfl) (ar (bc dE rfl (ah.cell rfl)) (ar (eU rfl rfl) ?_)))));refine cT (fun ahE:e.dep≠d.dep=>?_) (fun ahE=>?_)
 ·exact ak 24 rfl (J aW (aD rfl (ab fun cH=>aT rfl (J cH (aZ (aO (by simp) (au rfl rfl ⟨⟨false,rfl,⟨fun h=>(by cases h),fun h=>absurd (congrArg EV.dep h) ahE⟩⟩,E⟩)))))))
 refine ak 2 rfl (ar (av mH rfl) (ar (bc dE rfl (U.cell rfl)) (ar (av mH rfl) (ar (bc dE rfl (ah.cell rfl)) (ar (eU rfl rfl) ?_)))));refine cT (fun anQ:e.time≠d.time=>?_) (fun anQ=>?_)
 ·exact ak 17 rfl (J aW (aD rfl (ab fun b5=>aT rfl (J b5 (aZ (aO (by simp) (au rfl rfl ⟨⟨false,rfl,⟨fun h=>(by cases h),fun h=>absurd (congrArg EV.time h) anQ⟩⟩,E⟩)))))))
 refine ak 2 rfl (ar (av jW rfl) (ar (bc bs rfl (U.cell rfl)) (ar (av jW rfl) (ar (bc bs rfl (ah.cell rfl)) (ar (eu rfl rfl) ?_)))));refine cT (fun anR:e.hash≠d.hash=>?_) (fun anR=>?_)
 ·exact ak 10 rfl (J aW (aD rfl (ab fun bX=>aT rfl (J bX (aZ (aO (by simp) (au rfl rfl ⟨⟨false,rfl,⟨fun h=>(by cases h),fun h=>absurd (congrArg EV.hash h) anR⟩⟩,E⟩)))))))
 refine ak 2 rfl (ar (av cZ rfl) (ar (bc gj rfl (U.cell rfl)) (ar (bl Tryz.underlying27 rfl) (ar (av cZ rfl) (ar (bc gj rfl (ah.cell rfl)) (ar (bl Tryz.underlying27 rfl) (ar (eU rfl rfl) ?_)))))));refine cT (fun apY:(e.sigs.length:Int)≠d.sigs.length=>?_) (fun apY=>?_)
 ·exact ag (ji rfl rfl rfl) (J aW (aD rfl (ab fun cU=>aT rfl (J cU (aZ (aO (by simp) (au rfl rfl ⟨⟨false,rfl,⟨fun h=>(by cases h),fun h=>absurd (congrArg (fun x:EV=>(x.sigs.length:Int)) h) apY⟩⟩,E⟩)))))))
 refine ag (ji rfl rfl rfl) (J aW (aE rfl (ca (aw aL (ax fun b7=>ab fun cS=>ag (av cZ rfl) (ag (bc gj rfl (U.cell rfl)) (ag (bl Tryz.underlying27 rfl) (aG rfl (J cS (eB (bU (σ:=Nat) (fun k=>[(2,.pointer (some ⟨g1,0,none⟩)),(3,.pointer (some ⟨g2,0,none⟩)),(71,.int .i64 (e.sigs.length:Int)),(72,.int .i64 (k:Int))]) (fun k aB=>(k≤e.sigs.length∧e.sigs.take k=d.sigs.take k)∧aF aB g1 29 [S e.room,S e.snd,S e.ty,.bool e.st,S e.key,.int .i64 e.bd.kind,.bool e.bd.is,.int .i64 e.bd.num,S e.bd.str,.slice al e.bd.list.length cl,.slice am e.bd.map.length cm,.slice ap e.prev.length pT,.slice rC e.bn.length qf,.int .i64 e.dep,.int .i64 e.time,S e.hash,.slice rJ e.sigs.length rK]∧aF aB g2 29 [S d.room,S d.snd,S d.ty,.bool d.st,S d.key,.int .i64 d.bd.kind,.bool d.bd.is,.int .i64 d.bd.num,S d.bd.str,.slice A7 d.bd.list.length A8,.slice A9 d.bd.map.length Ba,.slice JZ d.prev.length J0,.slice J' d.bn.length Ka,.int .i64 d.dep,.int .i64 d.time,S d.hash,.slice Tp d.sigs.length Tq]∧Mod [] w aB) (fun k=>e.sigs.length-k) (0) ⟨rfl,rfl,rfl,rfl,trivial⟩ (⟨⟨by omega,rfl⟩,U,ah,E⟩) ?_)))))))))));rintro k fV ⟨⟨hk,kG⟩,U,ah,E⟩;refine ab fun de=>ag (cI rfl rfl) (J de (ax fun dG=>?_));refine aI rfl (fun Tr=>?_) (fun Tr=>?_)
 ·obtain⟨x,ae⟩:∃ x,e.sigs[k]? = some x:=⟨_,List.getElem?_eq_getElem (by omega)⟩;obtain⟨y,aY⟩:∃ y,d.sigs[k]? = some y:=⟨_,List.getElem?_eq_getElem (by omega)⟩;obtain⟨jD,dv,cj,_⟩:=dW (xc.bB E) ae;obtain⟨Ft,mP,jR,_⟩:=dW (Ey.bB E) aY;cases dv;cases mP;refine ca (aw dG (ax fun eC=>eB (ab fun eb=>ak 2 rfl (J eb (ax fun fq=>bT wide (by kernel_rfl) (ai (fun R=>(av cZ rfl)) (ai (fun R=>(bc gj rfl ((U.I R).cell rfl))) (ai (fun R=>(ec rfl)) (ai (fun R=>(b6 gO rfl rfl (by omega))) (ai (fun R=>(a8 pL rfl rfl (cj.I R))) ?_))))))))));refine ai (fun R=>(av cZ rfl)) (ai (fun R=>(bc gj rfl ((ah.I R).cell rfl))) (ai (fun R=>(ec rfl)) (ai (fun R=>(b6 gO rfl rfl (by omega))) (ai (fun R=>(a8 pL rfl rfl (jR.I R))) (ai (fun R=>((LO (aa9 ..) rfl rfl rfl).to (v':=.bool (!(JU x y))) rfl)) (bV rfl fun ic R=>?_))))));replace U:=U.I R;replace ah:=ah.I R;replace E:=E.then R;refine aw fq ?_;refine a7 rfl (fun Kd=>?_) (fun Kd=>?_)
  ·exact ab fun fE=>aT rfl (J fE (aZ (bx (by simp) (aO (by simp) (aO (by simp) (bx (by simp) (aO (by simp) (au rfl rfl ⟨⟨false,rfl,⟨fun h=>(by cases h),fun h=>absurd (Aq.2 (Option.some.inj (ae.symm.trans ((congrArg (fun z:EV=>z.sigs[k]?) h).trans aY)))) (by simpa using Kd)⟩⟩,E⟩))))))))
  have ade:x=y:=Aq.1 (by simpa using Kd);exact ca (bx (by simp) (aw eC (bQ (ag (aN rfl rfl (by omega)) (aG rfl (cF (fJ (σ:=Nat) (s:=k) (k+1) ⟨rfl,rfl,rfl,rfl,trivial⟩ ⟨⟨by omega,Ar kG ae aY ade⟩,U,ah,E⟩ (by omega))))))))
 refine bm (aO (by simp) (aO (by simp) (bS (aw b7 (ab fun fa=>ag (av gG rfl) (ag (a8 (vs:=[_,_,_,_,_,_]) aK rfl rfl (U.cs rfl)) (ag (av gG rfl) (ag (a8 (vs:=[_,_,_,_,_,_]) aK rfl rfl (ah.cs rfl)) (cP (bF Dd rfl) (KQ _ e.bd d.bd _ _ (vR.bB E) (Kb.bB E)) fun jn R=>?_)))))))));replace U:=U.I R;replace ah:=ah.I R;replace E:=E.then R;refine mT (fun aR:(JV.pS e.bd d.bd)=true=>?_) (fun aR=>?_)
 ·refine aG rfl (ar (av ke rfl) (ar (bc h5 rfl (U.cell rfl)) (ar (av ke rfl) (ar (bc h5 rfl (ah.cell rfl)) (X9 rfl rfl (bF Ez rfl) (As _ e.prev d.prev ap JZ pT J0 (tw.bB E) (vX.bB E) MJ) rfl fun cO jC aA=>?_)))));obtain⟨⟨anS,rfl,aa'⟩,R⟩:=aA;replace U:=U.I R;replace ah:=ah.I R;replace E:=E.then R;refine w8 (fun cC:(anS)=true=>?_) (fun cC=>?_)
  ·refine ak 2 rfl (ar (av iX rfl) (ar (bc h5 rfl (U.cell rfl)) (ar (av iX rfl) (ar (bc h5 rfl (ah.cell rfl)) (X9 rfl rfl (bF Ez rfl) (As _ e.bn d.bn rC J' qf Ka (Bn.bB E) (Kc.bB E) FL) rfl fun cO iw aA=>?_)))));obtain⟨⟨apZ,rfl,Ts⟩,R⟩:=aA;replace U:=U.I R;replace ah:=ah.I R;replace E:=E.then R;exact ak 2 rfl (J fa (aZ (au rfl rfl ⟨⟨_,rfl,⟨fun h=>EV.KP (Classical.not_not.1 ajT) (Classical.not_not.1 qL) (Classical.not_not.1 p2) (by simpa using uq) (Classical.not_not.1 LD) (JV.p8.1 aR) (aa'.1 cC) (Ts.1 h) (Classical.not_not.1 ahE) (Classical.not_not.1 anQ) (Classical.not_not.1 anR) (CP kG (by omega) (by omega)),fun h=>Ts.2 (congrArg EV.bn h)⟩⟩,E⟩)))
  exact ak 9 rfl (J fa (aZ (au rfl rfl ⟨⟨_,rfl,⟨fun h=>(by cases h),fun h=>absurd (aa'.2 (congrArg EV.prev h)) (by rw [cC];simp)⟩⟩,E⟩)))
 exact ak 15 rfl (J fa (aZ (au rfl rfl ⟨⟨_,rfl,⟨fun h=>(by cases h),fun h=>absurd (JV.p8.2 (congrArg EV.bd h)) aR⟩⟩,E⟩)))
set_option maxRecDepth 10000
/-- events that have texts are the same just if these are -/
theorem EV.Ay {e d:EV} (h1:e.e7=0) (aq:d.e7=0):decide (e.l0=d.l0)=true↔e=d:=by
 rw [decide_eq_true_eq];constructor
 ·intro h;have bK:e.val=d.val:=by
   have a:=EV.EA h1;rw [h] at a;exact Xl a (EV.EA aq)
  have a:=(EV.Ao h1).1;rw [bK,(EV.Ao aq).1] at a;exact a.symm
 rintro rfl;rfl
theorem Br (w:World) (e d:EV) (us vs:List Value) (asp:ao [] w e.D us) (p7:ao [] w d.D vs) (eo:e.ok) (yX:d.ok) (e4:Env w) (eY:iK w):Calls Tryz.prog 13 [.agg us.toArray,.agg vs.toArray].toArray w (bL fun u w'=>u = .bool true∧Mod [] w w'):=by
 refine enter Tryz.func13 rfl rfl rfl (l:=[(0,_),(1,_)]) ⟨rfl,rfl,trivial⟩ ?_;have E:=Mod.refl [] w;obtain⟨al,cl,am,cm,ap,pT,rC,qf,rJ,rK,rfl,vR,tw,Bn,xc⟩:=EV.gd asp;obtain⟨A7,A8,A9,Ba,JZ,J0,J',Ka,Tp,Tq,rfl,Kb,vX,Kc,Ey⟩:=EV.gd p7;have asp:=EV.cv (e:=e) vR tw Bn xc;have p7:=EV.cv (e:=d) Kb vX Kc Ey;have jG:=e4.xP;refine ab fun aV=>dP rfl rfl rfl fun g1 aB bR=>?_;have bH:=bR.le E;replace E:=E.then bR.mod;have U:=bR.az;refine dP rfl rfl rfl fun g2 cN cK=>?_;have b4:=cK.le E;have bP:=cK.ne U;replace U:=U.I cK.mod;replace E:=E.then cK.mod;have ah:=cK.az;refine aT rfl (J aV (ax fun aL=>ab fun aW=>cP (bF aer rfl) (JQ _ (e4.I E) (eY.I E)) fun fV R=>?_));replace U:=U.I R;replace ah:=ah.I R;replace E:=E.then R;refine ag (ff rfl) (J aW (aE rfl (ca (aw aL (ax fun br=>ab fun bI=>ag (a8 (vs:=[_,_,_,_,_,_,_,_,_,_,_,_,_,_,_,_,_]) fi rfl rfl (U.cs rfl)) (cP (bF Pe rfl) (yW _ e _ 8192 (asp.bB E) eo (by omega)) fun ic R=>?_))))));replace U:=U.I R;replace ah:=ah.I R;replace E:=E.then R;refine w8 (fun wi:(e.great 8192)=true=>?_) (fun wi=>?_)
 ·exact ak 4 rfl (J bI (aD rfl (ab fun bW=>aT rfl (J bW (aZ (aO (by simp) (au rfl rfl ⟨rfl,E⟩)))))))
 refine aG rfl (ar (a8 (vs:=[_,_,_,_,_,_,_,_,_,_,_,_,_,_,_,_,_]) fi rfl rfl (ah.cs rfl)) (fD (bF Pe rfl) (yW _ d _ 8192 (p7.bB E) yX (by omega)) fun jn R=>?_));replace U:=U.I R;replace ah:=ah.I R;replace E:=E.then R;refine w8 (fun vW:(d.great 8192)=true=>?_) (fun vW=>?_)
 ·exact ag (ji rfl rfl rfl) (J bI (aD rfl (ab fun cb=>aT rfl (J cb (aZ (aO (by simp) (au rfl rfl ⟨rfl,E⟩)))))))
 refine ag (ji rfl rfl rfl) (J bI (aE rfl ?_));have aba:e.great 8192=false:=by simpa using wi
 have abb:d.great 8192=false:=by simpa using vW
 have Tt:=EV.Hp aba;have jB:e.Hq:=EV.LX aba (by omega);have LY:=EV.Hp abb;have Tu:d.Hq:=EV.LX abb (by omega);refine ca (aw br (ab fun cx=>ag (a8 (vs:=[_,_,_,_,_,_,_,_,_,_,_,_,_,_,_,_,_]) fi rfl rfl (U.cs rfl)) (cP (bF Pc rfl) (Az _ e _ (asp.bB E) eo Tt jB (jG.mod E (by simp)) (eY.I E)) fun jC R=>?_)));replace U:=U.I R;replace ah:=ah.I R;replace E:=E.then R;refine ak 5 rfl (J cx (ab fun cH=>ag (a8 (vs:=[_,_,_,_,_,_,_,_,_,_,_,_,_,_,_,_,_]) fi rfl rfl (ah.cs rfl)) (cP (bF Pc rfl) (Az _ d _ (p7.bB E) yX LY Tu (jG.mod E (by simp)) (eY.I E)) fun iw R=>?_)));replace U:=U.I R;replace ah:=ah.I R;replace E:=E.then R;refine ak 5 rfl (J cH (ab fun b5=>ag (a8 (vs:=[_,_,_,_,_,_,_,_,_,_,_,_,_,_,_,_,_]) fi rfl rfl (U.cs rfl)) (ag (a8 (vs:=[_,_,_,_,_,_,_,_,_,_,_,_,_,_,_,_,_]) fi rfl rfl (ah.cs rfl)) (cP (bF aet rfl) (Tv _ e d _ _ (asp.bB E) (p7.bB E) eo Tt jB yX LY Tu (jG.mod E (by simp)) (eY.I E)) fun n' R=>?_))));replace U:=U.I R;replace ah:=ah.I R;replace E:=E.then R;refine ak 2 rfl ?_;refine cT (fun hs:e.e7=0=>?_) (fun hs=>?_)
 ·refine ak 3 rfl ?_;refine cT (fun iD:d.e7=0=>?_) (fun iD=>?_)
  ·refine ak 2 rfl (ar (a8 (vs:=[_,_,_,_,_,_,_,_,_,_,_,_,_,_,_,_,_]) fi rfl rfl (U.cs rfl)) (ar (a8 (vs:=[_,_,_,_,_,_,_,_,_,_,_,_,_,_,_,_,_]) fi rfl rfl (ah.cs rfl)) (X9 rfl rfl (bF To rfl) (JY _ e d _ _ (asp.bB E) (p7.bB E) eo) rfl fun cO lY aA=>?_)));obtain⟨⟨aeu,rfl,Tw⟩,R⟩:=aA;replace U:=U.I R;replace ah:=ah.I R;replace E:=E.then R;exact ag (lU rfl rfl rfl) (ag (En Tryz.underlying4 rfl rfl) (aT rfl (J b5 (aZ (au rfl rfl ⟨congrArg Value.bool (by first | (have tF:aeu=decide (e.l0=d.l0):=(Bool.eq_iff_iff.2 (Tw.trans (EV.Ay hs iD).symm));subst tF;simp [hs,iD];done) | (simp [hs,iD];done) | (simp [hs];done)),E⟩)))))
  exact ak 6 rfl (ag (En Tryz.underlying4 rfl rfl) (aT rfl (J b5 (aZ (au rfl rfl ⟨congrArg Value.bool (by first | (have tF:aeu=decide (e.l0=d.l0):=(Bool.eq_iff_iff.2 (Tw.trans (EV.Ay hs iD).symm));subst tF;simp [hs,iD];done) | (simp [hs,iD];done) | (simp [hs];done)),E⟩)))))
 exact ak 9 rfl (ag (En Tryz.underlying4 rfl rfl) (aT rfl (J b5 (aZ (au rfl rfl ⟨congrArg Value.bool (by first | (have tF:aeu=decide (e.l0=d.l0):=(Bool.eq_iff_iff.2 (Tw.trans (EV.Ay hs iD).symm));subst tF;simp [hs,iD];done) | (simp [hs,iD];done) | (simp [hs];done)),E⟩)))))
end Go.Proofs.YtnihidkbkhcfoaaGreatDoor.V
