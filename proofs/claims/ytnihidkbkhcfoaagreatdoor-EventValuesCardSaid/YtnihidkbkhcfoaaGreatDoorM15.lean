/-
  A part of the proof: a value that an event can be read of whole is the event's value (plain Lean); a value that an event is read of whole is the event's value (plain Lean); the document's event of a value (plain Lean); an event that can be is read from its value as it is (plain Lean); the law's own event, and a text that is none's (plain Lean). No condition of its own.
-/
import Derived.Test.YtnihidkbkhcfoaaGreatDoorM14
import Derived.Test.YtnihidkbkhcfoaaGreatDoorM13
import Derived.Test.YtnihidkbkhcfoaaGreatDoorM5
import Derived.Test.YtnihidkbkhcfoaaGreatDoorM10
import Derived.Test.YtnihidkbkhcfoaaGreatDoorM3
set_option linter.unusedVariables false
set_option linter.unusedSimpArgs false
namespace Go.Proofs.YtnihidkbkhcfoaaGreatDoor.V
open Go
namespace JV
def xP (v:JV):Prop:=∃ d b fb,wr v d b = .ok fb
theorem xP.bare {v:JV} (h:v.xP):v.bare=true:=by
 obtain⟨d,b,fb,h⟩:=h;rw [dI] at h
 split at h
 ·cases h
 rename_i aQ;simpa using aQ
theorem xP.j3 {v:JV} (h:v.xP) (k:v.kind=2):v=hl v.num:=by
 obtain⟨h1,aq,aT,bL,cN⟩:=mV h.bare;exact mk_eq k (h1.resolve_left (by omega)) rfl (aT.resolve_left (by omega)) (bL.resolve_left (by omega)) (cN.resolve_left (by omega))
theorem xP.vL {v:JV} (h:v.xP) (k:v.kind=3):v=aN v.str:=by
 obtain⟨h1,aq,aT,bL,cN⟩:=mV h.bare;exact mk_eq k (h1.resolve_left (by omega)) (aq.resolve_left (by omega)) rfl (bL.resolve_left (by omega)) (cN.resolve_left (by omega))
theorem xP.ug {v:JV} (h:v.xP) (k:v.kind=4):v=cT v.list∧∀ x∈v.list,x.xP:=by
 obtain⟨h1,aq,aT,bL,cN⟩:=mV h.bare;refine⟨mk_eq k (h1.resolve_left (by omega)) (aq.resolve_left (by omega)) (aT.resolve_left (by omega)) rfl (cN.resolve_left (by omega)),fun x ae=>?_⟩;have aQ:=h.bare;obtain⟨d,b,fb,h⟩:=h;rw [dI,if_neg (by simp [aQ]),if_neg (by omega),if_neg (by omega),if_neg (by omega),if_neg (by omega)] at h
 split at h
 ·cases h
 obtain⟨dm,h1,aT⟩:=dr h;obtain⟨eI,aq,bL⟩:=dr aT;obtain⟨c,c',bh⟩:=AA _ _ _ _ aq x ae;exact⟨_,_,_,bh⟩
theorem xP.AL {v:JV} (h:v.xP) (k:v.kind=5):v=obj v.map∧en v.map∧∀ p∈v.map,p.2.xP:=by
 obtain⟨d,b,fb,h⟩:=h;obtain⟨_,eI,aq,_,_⟩:=LK k h;refine⟨JV.B2 k h,(uK _ _ _ _ _ aq).1,fun p cn=>?_⟩;obtain⟨c,c',bh⟩:=AB _ _ _ _ aq p cn;exact⟨_,_,_,bh⟩
end JV
open JV
theorem oh {m:List (aa×JV)} {k:aa} {x:JV} (h:∀ y∈m,eQ y.1 k=true):dA m k x=m ++ [(k,x)]:=by
 unfold dA;rw [List.filter_eq_self.2 h,List.filter_eq_nil_iff.2 (fun y aZ=>by
  rw [ji (h y aZ)];simp)]
 simp
theorem Oi {m:List (aa×JV)} {k:aa} {x y:JV} (h:∀ y∈m,eQ y.1 k=true):dA (m ++ [(k,y)]) k x=m ++ [(k,x)]:=by
 have:=oh (x:=x) h;unfold dA at this ⊢;have e:eQ k k=false:=dc k;rw [List.filter_append,List.filter_append];simpa [e] using this
theorem JY {m:List (aa×JV)} {k:aa} {y:JV} (h:∀ y∈m,eQ y.1 k=true):look (m ++ [(k,y)]) k=some y:=by
 have cj:look m k=none:=hQ fun j z di hk=>by
  have:=h z (List.mem_of_getElem? di);rw [hk,dc] at this;cases this
 rw [nX,cj];simp [look]
theorem HH {m:List (aa×JV)} {k:aa} (h:∀ y∈m,eQ y.1 k=true):look m k=none:=hQ fun j z di hk=>by
 have:=h z (List.mem_of_getElem? di);rw [hk,dc] at this;cases this
namespace EV
end EV
end Go.Proofs.YtnihidkbkhcfoaaGreatDoor.V
namespace Go.Proofs.YtnihidkbkhcfoaaGreatDoor.V
open Go
open JV
namespace EV
def keys:List aa:=[hZ,nA,kb,gy,qs,hY,ml,im,mn,mm,gm]
end EV
end Go.Proofs.YtnihidkbkhcfoaaGreatDoor.V
namespace Go.Proofs.YtnihidkbkhcfoaaGreatDoor.V
open Go
open JV
namespace EV
end EV
end Go.Proofs.YtnihidkbkhcfoaaGreatDoor.V
namespace Go.Proofs.YtnihidkbkhcfoaaGreatDoor.V
open Go
open JV
namespace EV
theorem sr (a b:List (aa×JV)):ch (a++b)=ch a++ch b:=by simp [ch]
theorem ue:∀ (r:List dQ) (acc pre:List (aa×JV)) (p:dQ),(∀ y∈acc,eQ y.1 p.db=true)→(∀ y∈pre,y.1=p.key∨eQ y.1 p.key=true)→ed (some p) r=true→ch (r.foldl mF (acc ++ [(p.db,obj pre)]))=ch (acc ++ [(p.db,obj pre)])++r
 | [],acc,pre,p,_,_,_=>by simp
 | s::r,acc,pre,p,ay,cn,h=>by
  rw [ed] at h
  simp only [Bool.and_eq_true] at h
  obtain⟨⟨_,h1⟩,aq⟩:=h
  unfold T3 at h1
  simp only at h1
  unfold gK at h1
  simp only [Bool.not_eq_true',Bool.or_eq_false_iff,Bool.not_eq_false',Bool.or_eq_true,beq_iff_eq,Bool.and_eq_false_iff,decide_eq_false_iff_not] at h1
  rw [List.foldl_cons]
  by_cases bb:p.db=s.db
  rotate_left
  ·have aQ:eQ p.db s.db=true:=by
    rcases h1.1 with h | h
    ·exact h
    exact absurd h bb
   have wD:∀ y∈acc ++ [(p.db,obj pre)],eQ y.1 s.db=true:=fun y aZ=>by
    rcases List.mem_append.1 aZ with aZ | aZ
    ·exact gi (ay y aZ) aQ
    rw [List.mem_singleton.1 aZ];exact aQ
   have e:mF (acc ++ [(p.db,obj pre)]) s=(acc ++ [(p.db,obj pre)]) ++ [(s.db,obj [(s.key,aN s.sig)])]:=by
    unfold mF one
    rw [HH wD,oh wD]
    show _ ++ [(s.db,obj (dA [] s.key (aN s.sig)))]=_
    rw [oh (by simp)]
    rfl
   rw [e,ue r _ _ s wD (fun y aZ=>by rw [List.mem_singleton.1 aZ];exact .inl rfl) aq,sr _ [(s.db,_)]]
   simp [ch,fq,obj,JV.map,aN,JV.str]
  have hk:eQ p.key s.key=true:=by
   rcases h1.2 with h | h
   ·exact absurd bb h
   simpa using h
  have bH:∀ y∈pre,eQ y.1 s.key=true:=fun y aZ=>by
   rcases cn y aZ with e | e
   ·rw [e];exact hk
   exact gi e hk
  have wD:∀ y∈acc,eQ y.1 s.db=true:=fun y aZ=>by rw [← bb];exact ay y aZ
  have e:mF (acc ++ [(p.db,obj pre)]) s=acc ++ [(s.db,obj (pre ++ [(s.key,aN s.sig)]))]:=by
   unfold mF one
   rw [bb,JY wD,Oi wD]
   show acc ++ [(s.db,obj (dA pre s.key (aN s.sig)))]=_
   rw [oh bH]
  rw [e,ue r acc _ s wD (fun y aZ=>by
   rcases List.mem_append.1 aZ with aZ | aZ
   ·exact .inr (bH y aZ)
   rw [List.mem_singleton.1 aZ];exact .inl rfl) aq,sr,sr,bb]
  simp [ch,fq,obj,JV.map,aN,JV.str]
theorem Ex {l:List dQ} (h:ed none l=true):ch (lx l l.length)=l:=by
 unfold lx;rw [List.take_length];cases l with
 | nil=>rfl
 | cons s r=>
  rw [ed] at h;simp only [Bool.and_eq_true] at h;have e:mF [] s = [] ++ [(s.db,obj [(s.key,aN s.sig)])]:=by
   unfold mF one;rw [oh (by simp)];show [] ++ [(s.db,obj (dA [] s.key (aN s.sig)))]=_;rw [oh (by simp)];rfl
  rw [List.foldl_cons,e,ue r [] _ s (by simp) (fun y aZ=>by rw [List.mem_singleton.1 aZ];exact .inl rfl) h.2];simp [ch,fq,obj,JV.map,aN,JV.str]
theorem AH {e:EV} (h:e.qt=0):ed none e.sigs=true∧e.bj.kind=5∧(e.st=false→e.key = []):=by
 have dK:e.ha=true:=by
  unfold EV.qt at h
  split at h
  ·cases h
  split at h
  ·assumption
  cases h
 unfold ha hr h2 at dK;simp only [Bool.and_eq_true,decide_eq_true_eq,Bool.or_eq_true] at dK;obtain⟨⟨⟨⟨⟨⟨⟨⟨_,h1⟩,aq⟩,_⟩,_⟩,_⟩,_⟩,aT⟩,_⟩:=dK;exact⟨aT,aq,fun bb=>h1.resolve_left (by rw [bb];simp)⟩
theorem Oo {e:EV} (h:e.qt=0):e.again=e:=by
 obtain⟨h1,_,aT⟩:=AH h;unfold again;rw [Ex h1];cases bb:e.st with
 | true=>rw [if_pos rfl,← bb]
 | false=>rw [if_neg (by simp),← aT bb,← bb]
theorem Sw {e:EV} (h:e.fM=0):h7 e.val=e∧lN e.val=0:=by
 obtain⟨bh,h1,_⟩:=CM h;obtain⟨aq,aT⟩:=ZI (AH bh).2.1;rw [Oo bh] at aq;refine⟨aq,?_⟩;unfold lN;rw [if_neg (by rintro(h | h);exact h h1;exact h rfl),if_neg (by rw [aT];simp),aq];exact bh
end EV
end Go.Proofs.YtnihidkbkhcfoaaGreatDoor.V
namespace Go.Proofs.YtnihidkbkhcfoaaGreatDoor.V
open Go
open JV
theorem JV.Oq {s:aa} {deep:Nat} (bV:deep≠32) (bK:ck s=true) (cg:s.length≤65536):Fit (cT [aN s]) deep ([91]++cv s ++ [93]):=fun c bh=>by
 have aQ:¬ bare (cT [aN s])=false:=by simp [bare,cT,kind,is,num,str,list,map]
 have ug:(cT [aN s]).kind=4:=rfl;have e:c++([91]++cv s ++ [93])=c ++ [91]++cv s ++ [93]:=by simp
 rw [e] at bh ⊢;have h1:(c ++ [91]++cv s).length≤65536:=by rw [List.length_append] at bh;omega
 have b3:(c ++ [91]).length≤65536:=by rw [List.length_append] at h1;omega
 rw [dI,if_neg aQ,if_neg (by rw [ug];decide),if_neg (by rw [ug];decide),if_neg (by rw [ug];decide),if_neg (by rw [ug];decide),if_neg bV,if_pos ug,ft b3];show(hJ [aN s] deep true (c ++ [91])).bind _=_;rw [kX];show((wr (aN s) (deep+1) (c ++ [91])).bind fun b=>hJ [] deep false b).bind _=_;rw [Az bK cg (c ++ [91]) h1];show(hJ [] deep false (c ++ [91]++cv s)).bind _=_;rw [hJ];show ct _=_;rw [ft bh]
namespace EV
theorem Jr:plain.SL:=⟨by decide,by decide,by decide⟩
theorem Ae:plain.fM=0:=by
 have d:∀ {m k v r deep t1 t2} {q:aa},(∀ c∈k,c.toNat<128)→k.length≤1000→eQ q k=true→Fit v (deep+1) t1→tl r deep (some k) t2→m=(k,v)::r→tl m deep (some q) ([44]++cv k ++ [58]++t1++t2):=fun {m k v r deep t1 t2 q} bK cg e2 h1 aq e=>by
  subst e;exact vG bK cg (fun ale e=>by injection e with e;subst e;exact e2) h1 aq
 have HM:Fit (hl 0) 1 (Lib.itoa 0):=HB (by decide) (by decide);have f5:∀ deep,deep≠32→Fit (obj []) deep ([123] ++ [] ++ [125]):=fun deep bV=>vC vF bV;have T:∀ s:aa,(∀ c∈s,c.toNat<128)→s.length≤1000→Fit (aN s) 1 (cv s):=fun s h1 aq=>Az (o3 s h1) (by omega);have m0:tl [] 0 (some mm) []:=vF;have m1:=d (k:=mm) (v:=aN plain.ty) (q:=mn) (by decide) (by decide) (by decide) (T _ (by decide) (by decide)) m0 rfl;have m2:=d (k:=mn) (v:=obj []) (q:=im) (by decide) (by decide) (by decide) (f5 1 (by decide)) m1 rfl;have m3:=d (k:=im) (v:=aN plain.snd) (q:=ml) (by decide) (by decide) (by decide) (T _ (by decide) (by decide)) m2 rfl;have m4:=d (k:=ml) (v:=aN plain.room) (q:=hY) (by decide) (by decide) (by decide) (T _ (by decide) (by decide)) m3 rfl;have ae7:Fit (cT [aN (36::CI)]) 1 _:=Oq (by decide) (o3 _ (by decide)) (by decide);have m5:=d (k:=hY) (v:=cT [aN (36::CI)]) (q:=qs) (by decide) (by decide) (by decide) ae7 m4 rfl;have m6:=d (k:=qs) (v:=hl 0) (q:=gy) (by decide) (by decide) (by decide) HM m5 rfl;have bb:Fit (obj [(kG,aN plain.hash)]) 1 _:=vC (vG (k:=kG) (v:=aN plain.hash) (by decide) (by decide) (fun q e=>by cases e) (Az (o3 _ (by decide)) (by decide)) vF) (by decide);have m7:=d (k:=gy) (q:=kb) (by decide) (by decide) (by decide) bb m6 rfl;have m8:=d (k:=kb) (v:=hl 0) (q:=nA) (by decide) (by decide) (by decide) HM m7 rfl;have m9:=d (k:=nA) (v:=obj []) (q:=hZ) (by decide) (by decide) (by decide) (f5 1 (by decide)) m8 rfl;have m10:=vG (k:=hZ) (v:=cT []) (prev:=none) (by decide) (by decide) (fun q e=>by cases e) (Oh (by decide)) m9;have cg:(Lib.itoa 0).length≤21:=Lib.itoa_length_le 0 (by decide) (by decide);have:=vC m10 (by decide) [] (by
  have Ou:(cv mm).length=6:=by decide
  have Ix:(cv mn).length=12:=by decide
  have KD:(cv im).length=8:=by decide
  have HO:(cv ml).length=9:=by decide
  have FL:(cv hY).length=13:=by decide
  have arD:(cv qs).length=18:=by decide
  have arE:(cv gy).length=8:=by decide
  have arF:(cv kb).length=7:=by decide
  have arG:(cv nA).length=9:=by decide
  have arH:(cv hZ).length=13:=by decide
  have arI:(cv plain.ty).length=3:=by decide
  have arJ:(cv plain.snd).length=6:=by decide
  have arK:(cv plain.room).length=6:=by decide
  have arL:(cv plain.hash).length=45:=by decide
  have arM:(cv kG).length=8:=by decide
  have arN:(cv (36::CI)).length=46:=by decide
  simp only [List.length_append,List.length_cons,List.length_nil,comma,Ou,Ix,KD,HO,FL,arD,arE,arF,arG,arH,arI,arJ,arK,arL,arM,arN];generalize (Lib.itoa 0).length=z at cg ⊢;omega)
 exact ZE JS (show plain.val.wr 0 [] = .ok _ from this)
theorem ZO {e:EV} (h:e.fM=0):e.val.wr 0 [] = .ok e.sY:=by
 obtain⟨_,h1,aq⟩:=CM h;obtain⟨T,jR⟩:=iU h1;rw [aq,jR];rfl
theorem Ad {e:EV} (h:e.fM=0):parse e.sY = .ok e.val:=BV (ZO h)
end EV
def aeZ:aa:=[117,110,115,105,103,110,101,100]
def Jp:aa:=[123,34,117,110,115,105,103,110,101,100,34,58,49,125]
def ZP:JV:=obj [(aeZ,hl 1)]
theorem UD:ZP.wr 0 [] = .ok Jp:=by
 have h1:Lib.itoa 1 = [49]:=by
  rw [Lib.itoa,if_neg (by decide)];show Lib.decDigits 1 = [49];unfold Lib.decDigits;rfl
 have rB:Fit (hl 1) 1 [49]:=by
  have:=HB (n:=1) (deep:=1) (by decide) (by decide)
  rwa [h1] at this
 have:=vC (vG (k:=aeZ) (v:=hl 1) (deep:=0) (prev:=none) (by decide) (by decide) (fun q e=>by cases e) rB vF) (by decide) [] (by decide);have e:([]:aa)++([123]++(comma none++cv aeZ ++ [58] ++ [49] ++ []) ++ [125])=Jp:=by decide
 rw [e] at this;exact this
theorem NM:parse Jp = .ok ZP:=BV UD
theorem ZQ:R6 ZP=true:=by kernel_rfl
theorem Yh:lN ZP=21:=by
 unfold lN;rw [if_neg (by rw [UD];rintro(h | h);exact h rfl;exact h rfl),if_pos ZQ]
end Go.Proofs.YtnihidkbkhcfoaaGreatDoor.V
set_option maxRecDepth 10000
namespace Go.Proofs.YtnihidkbkhcfoaaGreatDoor.V
open Go Go.Proofs
theorem aaZ:aP Tryz.prog 38:=aP.of Tryz.func38 (by kernel_rfl) (by kernel_rfl)
/-- the digest's table as the program has it -/
def aa0 (w:World):Prop:=q7 w ⟨aow,0,none⟩ (OE.map W4)∧aow<w.heap.size
theorem aa0.I {w w':World} (h:aa0 w) (k:Mod [] w w'):aa0 w':=⟨h.1.I k,Nat.lt_of_lt_of_le h.2 k.size⟩
set_option maxRecDepth 10000
set_option maxRecDepth 10000
theorem aa1:aP Tryz.prog 36:=aP.of Tryz.func36 (by kernel_rfl) (by kernel_rfl)
set_option maxRecDepth 10000
theorem St:aP Tryz.prog 72:=aP.of Tryz.func72 (by kernel_rfl) (by kernel_rfl)
theorem Su:aP Tryz.prog 46:=aP.of Tryz.func46 (by kernel_rfl) (by kernel_rfl)
theorem G0 {s:aa} {v:JV} (h:parse s = .ok v):rk s=lN v:=by
 unfold rk rh pz;rw [h];exact if_neg (fun h=>h rfl)
/-- the event of a text; of one that has none: the empty one -/
noncomputable def G1 (s:aa):EV:=if rk s=0 then h7 (pz s)else EV.gN
theorem ny.Sv {A:List Nat} {w0 w:World} {v:JV} {us:List Value} (h:ny A w0 w v us) (dD:∀ a∈A,a<w0.heap.size) (b3:lN v=0):ao A w (h7 v).D us:=by
 rcases h with⟨_,al,cl,am,cm,up,EC,HQ,rfl,arZ,eR,qw,vI,rE,IW,M'⟩ | h
 ·obtain⟨p8,c1,rfl,_⟩:=eR.form;obtain⟨a2,c2,rfl,_⟩:=qw.form;obtain⟨a3,c3,rfl,_⟩:=vI.form;have cj:∀ (u:Value),(∀ x∈aY u,w0.heap.size≤x)→∀ x∈aY u,x∉A:=fun u h1 x ae ay=>by have:=dD x ay;have:=h1 x ae;omega
  exact EV.cz (e:=h7 v) arZ (Own.strs A eR (cj _ rE)) (Own.strs A qw (cj _ IW)) (Own.flat (A:=A) vI (fun _ _=>rfl) (fun x _ c bh=>by simp [dQ.cells] at bh;rcases bh with rfl | rfl | rfl <;> rfl) rfl (cj _ M'))
 exact absurd b3 h.1
theorem ny.KE {w0 w:World} {v:JV} {us:List Value} (h:ny [] w0 w v us) (b3:lN v=0):ao [] w (h7 v).D us:=h.Sv (by simp) b3
theorem ny.aib {A:List Nat} {w0 w:World} {v:JV} {us:List Value} (h:ny A w0 w v us) (b3:lN v≠0):ao A w EV.gN.D us:=by
 rcases h with⟨h,_⟩ | ⟨_,rfl⟩
 ·exact absurd h b3
 exact EV.gO
theorem adW.KE {A:List Nat} {w0 w:World} {s:aa} {us:List Value} (h:adW A w0 w s us) (dD:∀ a∈A,a<w0.heap.size):ao A w (G1 s).D us:=by
 unfold G1;rcases h with⟨b3,h⟩ | ⟨b3,rfl⟩
 ·have bV:rk s=lN (pz s):=if_neg (fun e=>e b3);rw [bV]
  by_cases dK:lN (pz s)=0
  ·rw [if_pos dK];exact h.Sv dD dK
  rw [if_neg dK];exact h.aib dK
 have bV:rk s=rh s:=if_pos b3;rw [bV,if_neg b3];exact EV.gO
theorem Cr {e:EV} (h:e.fM=0):rk e.sY=0∧G1 e.sY=e:=by
 have h1:=G0 (EV.Ad h);obtain⟨aq,aT⟩:=EV.Sw h;rw [aT] at h1;refine⟨h1,?_⟩;unfold G1 pz;rw [if_pos h1,EV.Ad h];exact aq
theorem G2:rk Jp=21:=(G0 NM).trans Yh
theorem NN (A:List Nat) (w:World) (dD:∀ a∈A,a<w.heap.size) (s:aa) (e1:Env w) (eW:je w):Calls Tryz.prog 46 [S s].toArray w (bM fun u w'=>∃ us,u = .tuple #[.agg us.toArray,.int .i64 (rk s)]∧ao A w' (G1 s).D us∧Mod [] w w'):=
 Calls.imp (Ss A w dD s e1 eW) fun u w' h=>by
  obtain⟨us,h1,aq,aT⟩:=h
  exact⟨us,h1,aq.KE dD,aT⟩
theorem Cs (w:World) (s:aa) (e1:Env w) (eW:je w):Calls Tryz.prog 46 [S s].toArray w (bM fun u w'=>∃ us,u = .tuple #[.agg us.toArray,.int .i64 (rk s)]∧ao [] w' (G1 s).D us∧Mod [] w w'):=NN [] w (by simp) s e1 eW
theorem NO (w:World) (e:EV) (he:e.fM=0) (e1:Env w) (eW:je w):Calls Tryz.prog 46 [S e.sY].toArray w (bM fun u w'=>∃ us,u = .tuple #[.agg us.toArray,.int .i64 0]∧ao [] w' e.D us∧Mod [] w w'):=by
 have h:=Cs w e.sY e1 eW;rw [(Cr he).1,(Cr he).2] at h;exact h
theorem NP (w:World) (e1:Env w) (eW:je w):Calls Tryz.prog 46 [S Jp].toArray w (bM fun u w'=>∃ us,u = .tuple #[.agg us.toArray,.int .i64 21]∧ao [] w' EV.gN.D us∧Mod [] w w'):=by
 have h:=Cs w Jp e1 eW;have e:G1 Jp=EV.gN:=by unfold G1;rw [if_neg (by rw [G2];decide)]
 rw [G2,e] at h;exact h
theorem Jq (w:World) (e1:Env w) (eW:je w):Calls Tryz.prog 35 [].toArray w (bM fun u w'=>u = .bool true∧Mod [] w w'):=by
 refine enter Tryz.func35 rfl rfl rfl (l:=[]) trivial ?_;have E:=Mod.refl [] w;have jR:=e1.xI;refine ab fun aV=>aU rfl (J aV (ab fun aL=>fv (bE St rfl) (Ct _) rfl fun cK aB az=>?_));obtain⟨⟨ah7,rfl,aq8⟩,R⟩:=az;replace E:=E.then R;have E8:=Mod.refl [] aB;refine cQ (bE Sx rfl) (Cu _ EV.plain _ (aq8.bG E8) EV.Cv EV.G3 EV.Jr (jR.mod E (by simp)) (eW.I E)) fun cO R=>?_;replace E:=E.then R;replace E8:=E8.then R;rw [EV.Ae];refine ak 5 rfl (J aL (ab fun aX=>aG rfl (fv (bE Su rfl) (NO _ EV.plain EV.Ae (e1.I E) (eW.I E)) rfl fun cK gb az=>?_)));obtain⟨ao',rfl,adX,R⟩:=az;replace E:=E.then R;replace E8:=E8.then R;obtain⟨apa,apb,apc,apd,ape,apf,apg,aph,api,apj,rfl,aic,aid,aie,aif⟩:=EV.jd adX;replace adX:=EV.cz (e:=EV.plain) aic aid aie aif;have tZ:=Mod.refl [] gb;refine ak 3 rfl (bp oT rfl fun g1 iu bT=>?_);have bI:=bT.le E;have Yi:=bT.le E8;have Sy:=bT.le tZ;replace E:=E.then bT.mod;replace E8:=E8.then bT.mod;replace tZ:=tZ.then bT.mod;have U:=bT.aA;refine bm (vs:=[_,_,_,_,_,_,_,_,_,_,_,_,_,_,_,_,_]) fI U rfl rfl rfl (by simp [Value.oneCell']) (by simp) fun js hs=>?_;replace E:=E.own hs.mod bI;replace E8:=E8.own hs.mod Yi;replace tZ:=tZ.own hs.mod Sy;replace U:aE js g1 _ [_,_,_,_,_,_,_,_,_,_,_,_,_,_,_,_,_]:=hs.aA;refine aU rfl (J aX (ab fun bt=>fv (bE Su rfl) (NP _ (e1.I E) (eW.I E)) rfl fun cK jD az=>?_));obtain⟨apk,rfl,aih,R⟩:=az;replace U:=U.I R;replace E:=E.then R;replace E8:=E8.then R;replace tZ:=tZ.then R;obtain⟨apl,apm,apn,apo,apq,apr,aps,apt,apu,apv,rfl,aii,aij,aik,ail⟩:=EV.jd aih;replace aih:=EV.cz (e:=EV.gN) aii aij aik ail;have Js:=Mod.refl [] jD;refine ak 3 rfl (bp oT rfl fun g2 iv cW=>?_);have b9:=cW.le E;have Yj:=cW.le E8;have Sz:=cW.le tZ;have SH:=cW.le Js;have bR:=cW.ne U;replace U:=U.I cW.mod;replace E:=E.then cW.mod;replace E8:=E8.then cW.mod;replace tZ:=tZ.then cW.mod;replace Js:=Js.then cW.mod;have ah:=cW.aA;refine bm (vs:=[_,_,_,_,_,_,_,_,_,_,_,_,_,_,_,_,_]) fI ah rfl rfl rfl (by simp [Value.oneCell']) (by simp) fun oj nF=>?_;replace U:=U.ne nF.mod bR;replace E:=E.own nF.mod b9;replace E8:=E8.own nF.mod Yj;replace tZ:=tZ.own nF.mod Sz;replace Js:=Js.own nF.mod SH;replace ah:aE oj g2 _ [_,_,_,_,_,_,_,_,_,_,_,_,_,_,_,_,_]:=nF.aA;refine aU rfl (J bt (ax fun bN=>bQ wide (by kernel_rfl) (f' 3 rfl rfl (Nn rfl (bd (by decide)) (fun cH R=>(d' rfl)) rfl rfl (Nn rfl (bd (by decide)) (fun cH R=>(lS rfl rfl)) rfl rfl (aj (fun R=>(lT (bd (by decide)) rfl rfl)) (aj (fun R=>(d' rfl)) (Nn rfl (bd (by decide)) (fun cH R=>(bc (vs:=[_,_,_,_,_,_,_,_,_,_,_,_,_,_,_,_,_]) fI rfl rfl ((U.I R).cs rfl))) rfl rfl (Rv (fun u cH=>∃ us,u = .agg us.toArray∧ao [] cH (EV.plain).D us) (fun cK mX iE iY az=>by obtain⟨fQ,l2,l4⟩:=az;exact⟨fQ,l2,l4.bG iY⟩) rfl (bd (by decide)) (fun cH R=>bE St rfl) (fun cH R=>Calls.imp (Ct _) fun l4 iE SI=>SI) rfl rfl rfl ?_)))))))));refine ahx (args:=fun xh=>[_,xh].toArray) (v:=.bool true) 29 rfl (bd (by decide)) rfl rfl ⟨_,List.Mem.tail _ (List.Mem.tail _ (List.Mem.head _)),rfl⟩ (fun cH xh R az=>bE adY rfl) (fun cH xh R az=>by
  obtain⟨fQ,rfl,l4⟩:=az;exact NQ _ EV.plain _ _ (adX.bG (tZ.then R)) l4 EV.Cv) rfl rfl ?_
 refine aj (fun R=>(lT (bd (by decide)) rfl rfl)) (f' 5 rfl rfl (bS rfl fun l1 R=>?_));replace U:=U.I R;replace ah:=ah.I R;replace E:=E.then R;replace E8:=E8.then R;replace tZ:=tZ.then R;replace Js:=Js.then R;exact au bN (ba (ar rfl rfl ⟨rfl,E⟩))
set_option maxRecDepth 10000
theorem adZ:aP Tryz.prog 35:=aP.of Tryz.func35 (by kernel_rfl) (by kernel_rfl)
theorem yY (w:World) (e:EV) (us:List Value) (arZ:ao [] w e.D us) (et:e.ok) (e1:Env w) (eW:je w):Calls Tryz.prog 9 [.agg us.toArray].toArray w (bM fun u w'=>u = .bool true∧Mod [] w w'):=by
 refine enter Tryz.func9 rfl rfl rfl (l:=[(0,_)]) ⟨rfl,trivial⟩ ?_;have E:=Mod.refl [] w;obtain⟨al,cl,am,cm,ap,qC,sU,rr,sV,sW,rfl,xV,vQ,Fo,A1⟩:=EV.jd arZ;have arZ:=EV.cz (e:=e) xV vQ Fo A1;have jR:=e1.xI;refine ab fun aV=>ep rfl rfl rfl fun g1 aB bT=>?_;have bI:=bT.le E;replace E:=E.then bT.mod;have U:=bT.aA;refine aU rfl (J aV (ax fun aL=>ab fun aX=>cQ (bE adZ rfl) (Jq _ (e1.I E) (eW.I E)) fun cO R=>?_));replace U:=U.I R;replace E:=E.then R;refine ag (e4 rfl) (J aX (aD rfl (b8 (au aL (ax fun bt=>ab fun bN=>ag (bc (vs:=[_,_,_,_,_,_,_,_,_,_,_,_,_,_,_,_,_]) fI rfl rfl (U.cs rfl)) (cQ (bE aa1 rfl) (Ih _ e _ 8192 (arZ.bG E) et (by omega)) fun gb R=>?_))))));replace U:=U.I R;replace E:=E.then R;refine J bN ?_;refine a1 rfl (fun km=>?_) (fun km=>?_)
 ·exact ab fun b2=>aU rfl (J b2 (ba (aR (by simp) (ar rfl rfl ⟨by first | rfl | exact congrArg Value.bool (bd rfl),E⟩))))
 have SJ:=EV.SK km;have hn:e.SL:=EV.Yk km (by omega);refine b8 (au bt (ab fun cd=>ag (bc (vs:=[_,_,_,_,_,_,_,_,_,_,_,_,_,_,_,_,_]) fI rfl rfl (U.cs rfl)) (cQ (bE Sx rfl) (Cu _ e _ (arZ.bG E) et SJ hn (jR.mod E (by simp)) (eW.I E)) fun iu R=>?_)));replace U:=U.I R;replace E:=E.then R;refine ak 5 rfl (J cd (ab fun cD=>ag (bc (vs:=[_,_,_,_,_,_,_,_,_,_,_,_,_,_,_,_,_]) fI rfl rfl (U.cs rfl)) (cQ (bE aaZ rfl) (Jt _ e _ (arZ.bG E) et SJ hn (jR.mod E (by simp)) (eW.I E)) fun js R=>?_)));replace U:=U.I R;replace E:=E.then R;refine ak 5 rfl (J cD (ax fun cJ=>ax fun cf=>?_))
 by_cases jq:e.qt=0
 ·refine bQ wide (by kernel_rfl) (aj (fun R=>(bc (vs:=[_,_,_,_,_,_,_,_,_,_,_,_,_,_,_,_,_]) fI rfl rfl ((U.I R).cs rfl))) (AI (fun cH R=>bE Ju rfl) (fun cH R=>wJ _ e _ (arZ.bG (E.then R)) et (jR.mod (E.then R) (by simp))) rfl rfl (f' 2 rfl rfl (aM (bd jq) (fun R=>(bc (vs:=[_,_,_,_,_,_,_,_,_,_,_,_,_,_,_,_,_]) fI rfl rfl ((U.I R).cs rfl))) (Rv (fun u cH=>∃ us,u = .agg us.toArray∧ao [] cH (e.val).D us) (fun cK mX iE iY az=>by obtain⟨fQ,l2,l4⟩:=az;exact⟨fQ,l2,l4.bG iY⟩) rfl (bd jq) (fun cH R=>bE SM rfl) (fun cH R=>Calls.imp (Cw [] _ (by simp) e _ (arZ.bG (E.then R)) hn.1 hn.2.1 hn.2.2) fun l4 iE SI=>by obtain⟨fQ,l2,nB,iY⟩:=SI;exact⟨⟨fQ,l2,nB⟩,iY⟩) rfl rfl rfl (aM (bd jq) (fun R=>(bc (vs:=[_,_,_,_,_,_,_,_,_,_,_,_,_,_,_,_,_]) fI rfl rfl ((U.I R).cs rfl))) (Rv (fun u cH=>∃ us,u = .agg us.toArray∧ao [] cH (e.val).D us) (fun cK mX iE iY az=>by obtain⟨fQ,l2,l4⟩:=az;exact⟨fQ,l2,l4.bG iY⟩) rfl (bd jq) (fun cH R=>bE SN rfl) (fun cH R=>Calls.imp (Af [] _ (by simp) e _ (arZ.bG (E.then R)) hn.1 hn.2.1 hn.2.2) fun l4 iE SI=>by obtain⟨fQ,l2,nB,iY⟩:=SI;exact⟨⟨fQ,l2,nB⟩,iY⟩) rfl rfl rfl ?_)))))));refine ahw (args:=fun xh cK=>[xh,cK].toArray) (v:=.bool true) 26 28 rfl (bd jq) rfl rfl ⟨_,List.Mem.tail _ (List.Mem.head _),rfl⟩ rfl rfl ⟨_,List.Mem.tail _ (List.Mem.tail _ (List.Mem.head _)),rfl⟩ (fun cH xh cK R az aim=>bE CV rfl) (fun cH xh cK R az aim=>by
   obtain⟨fQ,rfl,l4⟩:=az;obtain⟨Yl,rfl,nB⟩:=aim;exact vo _ e.val _ _ l4 nB) rfl rfl ?_
  refine aM (bd jq) (fun R=>(e4 rfl)) (aj (fun R=>(lT (bd jq) rfl rfl)) (bS rfl fun jD R=>?_));replace U:=U.I R;replace E:=E.then R;exact au cf (aD rfl (b8 (au cJ (ab fun b1=>ak 2 rfl (ag (dG rfl rfl) (iD (bd rfl) (ak 4 rfl (iD (bd rfl) (ak 2 rfl (J b1 (ba (ar rfl rfl ⟨by first | rfl | exact congrArg Value.bool (bd rfl),E⟩))))))))))))
 refine bQ wide (by kernel_rfl) (aj (fun R=>(bc (vs:=[_,_,_,_,_,_,_,_,_,_,_,_,_,_,_,_,_]) fI rfl rfl ((U.I R).cs rfl))) (AI (fun cH R=>bE Ju rfl) (fun cH R=>wJ _ e _ (arZ.bG (E.then R)) et (jR.mod (E.then R) (by simp))) rfl rfl (f' 2 rfl rfl (eF rfl (bJ jq) (eF rfl (bJ jq) (eF rfl (bJ jq) (eF rfl (bJ jq) (eF rfl (bJ jq) (eF rfl (bJ jq) (aj (fun R=>(jA (bJ jq) rfl rfl)) (bS rfl fun iv R=>?_)))))))))));replace U:=U.I R;replace E:=E.then R;exact au cf (aD rfl (b8 (au cJ (ab fun cX=>ak 2 rfl (ag (dG rfl rfl) (iD (bd rfl) (ak 4 rfl (iD (bd rfl) (ak 2 rfl (J cX (ba (ar rfl rfl ⟨by first | rfl | exact congrArg Value.bool (bd rfl),E⟩))))))))))))
end Go.Proofs.YtnihidkbkhcfoaaGreatDoor.V
