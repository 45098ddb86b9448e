/-
  A part of the proof: an event's text without some of its members is one, if the event has a text; so has the stripped event; an event that can be, its text; what has a text has keys that rise; an event out of a JSON value: what is taken, one behind the other; an event out of a JSON value: how great it may be; an event is read from its value as it is (plain Lean). No condition of its own.
-/
import Derived.Test.YtnihidkbkhcfoaaGreatDoorM13
import Derived.Test.YtnihidkbkhcfoaaGreatDoorM3
import Derived.Test.YtnihidkbkhcfoaaGreatDoorM10
import Derived.Test.YtnihidkbkhcfoaaGreatDoorM5
import Derived.Test.YtnihidkbkhcfoaaGreatDoorM9
import Derived.Test.YtnihidkbkhcfoaaGreatDoorM7
set_option linter.unusedVariables false
set_option linter.unusedSimpArgs false
set_option maxRecDepth 10000
namespace Go.Proofs.YtnihidkbkhcfoaaGreatDoor.V
open Go Go.Proofs
theorem R0:Nk Tryz.prog 25 4 4=true:=by kernel_rfl
theorem oR:aP Tryz.prog 90:=aP.of Tryz.func90 (by kernel_rfl) (by kernel_rfl)
theorem z7 (A:List Nat) (w:World) (g:Nat) (t:mE) (H:oQ A w g t) (dv:g∈A) (dD:∀ a∈A,a<w.heap.size) (cc:t.fit) (k:aa):Calls Tryz.prog 91 [.pointer (some ⟨g,0,none⟩),S k].toArray w (bM fun u w'=>Own w' 9 1 u (Jn t k).1.length (((Jn t k).1.map fun s=>[S s]).flatten)∧(∀ y∈aY u,w.heap.size≤y)∧oQ A w' g (Jn t k).2∧Mod [g] w w'):=by
 refine enter Tryz.func91 rfl rfl rfl (l:=[(0,_),(1,_)]) ⟨rfl,rfl,trivial⟩ ?_;have E:=Mod.refl [g] w;have al5:∀ x∈[g],x∈A:=fun x ae=>by rw [List.mem_singleton.1 ae];exact dv
 refine ab fun aV=>aU rfl (J aV (ab fun aL=>aU rfl (J aL (ax fun aX=>ax fun bt=>?_))))
 skip
 refine bP (ak 2 rfl (fv (bE oR rfl) (jZ A _ g t H dv dD cc k 4) rfl fun cK aB az=>?_));obtain⟨RW,rfl,abd,ir,R⟩:=az;replace E:=E.trans R;obtain⟨ac',al6⟩:∃ x,x=aB:=⟨_,rfl⟩;subst al6;obtain⟨RX,RY,Xx,Xy,rfl,Bj,Ea⟩:=JV.a' abd;obtain⟨al7,al8,al9,al',B,ama,amb⟩:=ir;have F:=Mod.refl [g] ac';have aqP:=B.lt;obtain⟨aqQ,_,_⟩:=mE.GC cc k 4;have Xz:w.heap.size≤ac'.heap.size:=E.size;refine ag ((qT R0 rfl rfl)) (ag (bs Tryz.underlying22 rfl) (aG rfl (J bt (eE (bX (σ:=Nat×Value) (fun⟨j,v⟩=>[(0,.pointer (some ⟨g,0,none⟩)),(5,v),(11,.slice RX (dR t k 4).1.list.length RY),(12,.int .i64 (dR t k 4).1.list.length),(13,.int .i64 (j:Int))]) (fun⟨j,v⟩ aB=>j≤(dR t k 4).1.list.length∧Own aB 9 1 v j ((((dR t k 4).1.list.take j).map fun x=>[S x.str]).flatten)∧(∀ y∈aY v,ac'.heap.size≤y)∧aE aB g 103 [.int .i64 (dR t k 4).2.rest.kind,.bool (dR t k 4).2.rest.is,.int .i64 (dR t k 4).2.rest.num,S (dR t k 4).2.rest.str,.slice al7 (dR t k 4).2.rest.list.length al8,.slice al9 (dR t k 4).2.rest.map.length al',.bool ((dR t k 4).2.bad||((dR t k 4).1.list.take j).any fun x=>decide (x.kind≠3))]∧Mod [g] ac' aB∧Mod [g] w aB) (fun⟨j,v⟩=>(dR t k 4).1.list.length-j) (⟨0,.slice none 0 0⟩) ⟨rfl,rfl,rfl,rfl,rfl,trivial⟩ (⟨by omega,Own.nil _ _ _,by simp [aY],by simpa using B,F,E⟩) ?_)))));rintro⟨j,v⟩ cO ⟨dY,gQ,ym,B,F,E⟩;have amc:∀ x∈aY v,x≠g:=fun x ae e=>by have:=ym x ae;omega
 refine ab fun bN=>ag (cL rfl rfl) (J bN (ax fun b2=>?_));refine aK rfl (fun p6=>?_) (fun p6=>?_);rotate_left
 ·have adb:j=(dR t k 4).1.list.length:=by omega
  subst adb;exact bo (aR (by simp) (aR (by simp) (bU (au aX (ab fun cf=>ak 2 rfl (J cf (ba (ar rfl rfl ⟨gQ.same (by unfold Jn;simp) (by unfold Jn;simp [Function.comp_def]),fun y aZ=>Nat.le_trans Xz (ym y aZ),by rw [List.take_length] at B;exact⟨_,_,_,_,B,ama.toM F al5,amb.toM F al5⟩,E⟩))))))))
 obtain⟨x,bO⟩:∃ x,(dR t k 4).1.list[j]? = some x:=⟨_,List.getElem?_eq_getElem (by omega)⟩;obtain⟨j6,k7,dL,eg,cu⟩:=JV.yp (Bj.toM F al5) bO;obtain⟨jI,jJ,ja,h3,rfl,k8,lz⟩:=JV.a' eg;obtain rfl:=dL;have rG:=JV.pM Bj;have mP:(dR t k 4).1.list.take (j+1)=(dR t k 4).1.list.take j ++ [x]:=by rw [List.take_succ_eq_append_getElem (by omega),(List.getElem?_eq_some_iff.1 bO).2]
 refine b8 (au b2 (ax fun cd=>eE (ab fun cD=>ag (ca ke rfl rfl (by omega)) (ag (bc aJ rfl rfl cu) (bp cA rfl fun g1 gb bT=>?_)))));have bI:=bT.le E;have ada:=bT.le F;have k1:=bT.ne B;have XA:=bT.b4 gQ;replace B:=B.I bT.mod;replace E:=E.then bT.mod;replace F:=F.then bT.mod;replace gQ:=gQ.I bT.mod;have U:=bT.aA;refine bm (vs:=[_,_,_,_,_,_]) aJ U rfl rfl rfl (by simp [Value.oneCell']) (by simp) fun iu kS=>?_;replace B:=B.ne kS.mod k1;replace E:=E.own kS.mod bI;replace F:=F.own kS.mod ada;replace gQ:=gQ.put kS.mod XA;replace U:aE iu g1 _ [_,_,_,_,_,_]:=kS.aA;refine J cD (ab fun cJ=>ak 3 rfl (ag (av eX rfl) (ag (bg jK rfl (B.cell rfl)) ?_)));refine AJ (fun aQ:(((dR t k 4).2.bad||((dR t k 4).1.list.take j).any fun x=>decide (x.kind≠3)))=true=>?_) (fun aQ=>?_)
 ·have wb:((dR t k 4).2.bad||((dR t k 4).1.list.take (j+1)).any fun x=>decide (x.kind≠3))=true:=by rw [mP,List.any_append,← Bool.or_assoc,aQ];simp
  refine ak 6 rfl (ag (av eX rfl) (dZ jK B rfl rfl rfl (by simp) fun js hs=>?_));replace U:=U.ne hs.mod (Ne.symm k1);replace E:=E.trans hs.mod;replace F:=F.trans hs.mod;replace gQ:=gQ.put hs.mod amc;replace B:aE js g _ [_,_,_,_,_,_,_]:=hs.aA;refine J cJ (bP (aG rfl (ag (av jt rfl) (ag (bg bB rfl (U.cell rfl)) (bC (cs:=[_]) kh IH rfl rfl rfl (by decide) rfl fun g2 jD cW=>?_)))));have b9:=cW.le E;have amd:=cW.le F;have tR:=cW.ne B;have bR:=cW.ne U;have ajB:=cW.b4 gQ;replace B:=B.I cW.mod;replace U:=U.I cW.mod;replace E:=E.then cW.mod;replace F:=F.then cW.mod;replace gQ:=gQ.I cW.mod;have ah:=cW.aA;refine bq kh rfl rfl gQ (Src.own Tryz.underlying26 (Own.all (cs:=[_]) ah rfl (by omega)) (by simp [Value.oneCell'])) (by decide) (by omega) (by omega) rfl fun v1 iv ez=>?_;have eR:Own iv 9 1 v1 (j+1) ((((dR t k 4).1.list.take (j+1)).map fun x=>[S x.str]).flatten):=ez.own.same (by omega) (by rw [mP];simp);have rE:∀ y∈aY v1,ac'.heap.size≤y:=fun y aZ=>(ez.lX y aZ).elim (ym y) (fun h=>Nat.le_trans F.size h);replace B:=B.mod ez.mod (fun h=>by have:=ym _ h;omega);replace E:=E.trans' ez.mod (fun y aZ=>.inr (Nat.le_trans Xz (ym y aZ)));replace F:=F.trans' ez.mod (fun y aZ=>.inr (ym y aZ));exact aU rfl (cF (bz (by simp) (au cd (bP (ag (aO rfl rfl (by omega)) (aG rfl (cF (fK (σ:=Nat×Value) (s:=⟨j,v⟩) (⟨j+1,v1⟩) ⟨rfl,rfl,rfl,rfl,rfl,trivial⟩ ⟨by omega,eR,rE,by rw [wb];exact B,F,E⟩ (by dsimp only;omega)))))))))
 refine aG rfl (aw (av hz rfl) (aw (bg dN rfl (U.cell rfl)) (aw (fj rfl rfl) ?_)));refine da (fun hk:x.kind≠3=>?_) (fun hk=>?_);rotate_left
 ·have wb:((dR t k 4).2.bad||((dR t k 4).1.list.take (j+1)).any fun x=>decide (x.kind≠3))=false:=by rw [mP,List.any_append,← Bool.or_assoc,aQ];simp [Classical.not_not.1 hk]
  refine ak 2 rfl (ag (av eX rfl) (dZ jK B rfl rfl rfl (by simp) fun kl e7=>?_));replace U:=U.ne e7.mod (Ne.symm k1);replace E:=E.trans e7.mod;replace F:=F.trans e7.mod;replace gQ:=gQ.put e7.mod amc;replace B:aE kl g _ [_,_,_,_,_,_,_]:=e7.aA;refine J cJ (bP (aG rfl (ag (av jt rfl) (ag (bg bB rfl (U.cell rfl)) (bC (cs:=[_]) kh IH rfl rfl rfl (by decide) rfl fun g4 p3 N4=>?_)))));have fL:=N4.le E;have oS:=N4.le F;have ace:=N4.ne B;have gD:=N4.ne U;have ajD:=N4.b4 gQ;replace B:=B.I N4.mod;replace U:=U.I N4.mod;replace E:=E.then N4.mod;replace F:=F.then N4.mod;replace gQ:=gQ.I N4.mod;have bf:=N4.aA;refine bq kh rfl rfl gQ (Src.own Tryz.underlying26 (Own.all (cs:=[_]) bf rfl (by omega)) (by simp [Value.oneCell'])) (by decide) (by omega) (by omega) rfl fun v1 ov ez=>?_;have eR:Own ov 9 1 v1 (j+1) ((((dR t k 4).1.list.take (j+1)).map fun x=>[S x.str]).flatten):=ez.own.same (by omega) (by rw [mP];simp);have rE:∀ y∈aY v1,ac'.heap.size≤y:=fun y aZ=>(ez.lX y aZ).elim (ym y) (fun h=>Nat.le_trans F.size h);replace B:=B.mod ez.mod (fun h=>by have:=ym _ h;omega);replace E:=E.trans' ez.mod (fun y aZ=>.inr (Nat.le_trans Xz (ym y aZ)));replace F:=F.trans' ez.mod (fun y aZ=>.inr (ym y aZ));exact aU rfl (cF (bz (by simp) (au cd (bP (ag (aO rfl rfl (by omega)) (aG rfl (cF (fK (σ:=Nat×Value) (s:=⟨j,v⟩) (⟨j+1,v1⟩) ⟨rfl,rfl,rfl,rfl,rfl,trivial⟩ ⟨by omega,eR,rE,by rw [wb];exact B,F,E⟩ (by dsimp only;omega)))))))))
 have wb:((dR t k 4).2.bad||((dR t k 4).1.list.take (j+1)).any fun x=>decide (x.kind≠3))=true:=by rw [mP,List.any_append,← Bool.or_assoc,aQ];simp [hk]
 refine ak 2 rfl (ag (av eX rfl) (dZ jK B rfl rfl rfl (by simp) fun oj nF=>?_));replace U:=U.ne nF.mod (Ne.symm k1);replace E:=E.trans nF.mod;replace F:=F.trans nF.mod;replace gQ:=gQ.put nF.mod amc;replace B:aE oj g _ [_,_,_,_,_,_,_]:=nF.aA;refine J cJ (bP (aG rfl (ag (av jt rfl) (ag (bg bB rfl (U.cell rfl)) (bC (cs:=[_]) kh IH rfl rfl rfl (by decide) rfl fun g3 l1 eP=>?_)))));have dE:=eP.le E;have ame:=eP.le F;have acd:=eP.ne B;have eL:=eP.ne U;have ajC:=eP.b4 gQ;replace B:=B.I eP.mod;replace U:=U.I eP.mod;replace E:=E.then eP.mod;replace F:=F.then eP.mod;replace gQ:=gQ.I eP.mod;have bu:=eP.aA;refine bq kh rfl rfl gQ (Src.own Tryz.underlying26 (Own.all (cs:=[_]) bu rfl (by omega)) (by simp [Value.oneCell'])) (by decide) (by omega) (by omega) rfl fun v1 iw ez=>?_;have eR:Own iw 9 1 v1 (j+1) ((((dR t k 4).1.list.take (j+1)).map fun x=>[S x.str]).flatten):=ez.own.same (by omega) (by rw [mP];simp);have rE:∀ y∈aY v1,ac'.heap.size≤y:=fun y aZ=>(ez.lX y aZ).elim (ym y) (fun h=>Nat.le_trans F.size h);replace B:=B.mod ez.mod (fun h=>by have:=ym _ h;omega);replace E:=E.trans' ez.mod (fun y aZ=>.inr (Nat.le_trans Xz (ym y aZ)));replace F:=F.trans' ez.mod (fun y aZ=>.inr (ym y aZ));exact aU rfl (cF (bz (by simp) (au cd (bP (ag (aO rfl rfl (by omega)) (aG rfl (cF (fK (σ:=Nat×Value) (s:=⟨j,v⟩) (⟨j+1,v1⟩) ⟨rfl,rfl,rfl,rfl,rfl,trivial⟩ ⟨by omega,eR,rE,by rw [wb];exact B,F,E⟩ (by dsimp only;omega)))))))))
end Go.Proofs.YtnihidkbkhcfoaaGreatDoor.V
namespace Go.Proofs.YtnihidkbkhcfoaaGreatDoor.V
open Go
namespace JV
end JV
namespace EV
open JV
theorem ZE {e:EV} (bh:e.qt=0) {T:aa} (h:e.val.wr 0 [] = .ok T):e.fM=0:=by
 unfold EV.fM;rw [if_neg (by simp [bh]),h];rfl
end EV
end Go.Proofs.YtnihidkbkhcfoaaGreatDoor.V
namespace Go.Proofs.YtnihidkbkhcfoaaGreatDoor.V
open Go
theorem o3:∀ s:aa,(∀ c∈s,c.toNat<128)→ck s=true
 | [],_=>mO
 | c::r,h=>by
  have h1:aI (c::r)=(c.toNat,1):=fW (h c (by simp))
  rw [kT (by simp) (by rw [h1];simp),h1]
  exact o3 r fun x ae=>h x (by simp [ae])
namespace JV
theorem LL {s:aa} (bK:ck s=true) (cg:s.length≤65536):∀ c:aa,(c++cv s).length≤65536→e8 c s = .ok (c++cv s):=fun c bh=>by
 rw [e8,if_neg (by omega),if_pos bK,ft bh]
theorem Az {s:aa} {deep:Nat} (bK:ck s=true) (cg:s.length≤65536):Fit (aN s) deep (cv s):=fun c bh=>by
 have aQ:¬ bare (aN s)=false:=by simp [bare,aN,kind,is,num,str,list,map]
 have vL:(aN s).kind=3:=rfl;rw [dI,if_neg aQ,if_neg (by rw [vL];decide),if_neg (by rw [vL];decide),if_neg (by rw [vL];decide),if_pos vL];exact LL bK cg c bh
theorem HB {n:Int} {deep:Nat} (b3 : -9007199254740991≤n) (h1:n≤9007199254740991):Fit (hl n) deep (Lib.itoa n):=fun c bh=>by
 have aQ:¬ bare (hl n)=false:=by
  have:bare (hl n)=true:=by unfold bare hl;simp [kind,is,num,str,list,map,b3,h1]
  rw [this];simp
 have j3:(hl n).kind=2:=rfl;rw [dI,if_neg aQ,if_neg (by rw [j3];decide),if_neg (by rw [j3];decide),if_pos j3];exact ft bh
theorem Oh {deep:Nat} (bV:deep≠32):Fit (cT []) deep [91,93]:=fun c bh=>by
 have aQ:¬ bare (cT [])=false:=by simp [bare,cT,kind,is,num,str,list,map]
 have ug:(cT []).kind=4:=rfl;rw [dI,if_neg aQ,if_neg (by rw [ug];decide),if_neg (by rw [ug];decide),if_neg (by rw [ug];decide),if_neg (by rw [ug];decide),if_neg bV,if_pos ug,ft (by simp only [List.length_append,List.length_cons,List.length_nil] at bh ⊢;omega)];show(hJ [] deep true (c ++ [91])).bind _=_;rw [hJ];show ct (c ++ [91] ++ [93])=_;rw [ft (by simp only [List.length_append,List.length_cons,List.length_nil] at bh ⊢;omega)];simp
theorem vF {deep:Nat} {prev:Option aa}:tl [] deep prev []:=fun b _=>by rw [ff];simp
theorem vG {k:aa} {v:JV} {r:List (aa×JV)} {deep:Nat} {prev:Option aa} {t1 t2:aa} (bK:∀ c∈k,c.toNat<128) (cg:k.length≤1000) (e2:∀ q,prev=some q→eQ q k=true) (h1:Fit v (deep+1) t1) (aq:tl r deep (some k) t2) :
  tl ((k,v)::r) deep prev (comma prev++cv k ++ [58]++t1++t2):=Hv (p:=(k,v)) e2 (LL (o3 k bK) (by simp only;omega)) h1 aq
theorem AA {deep:Nat}:∀ (l:List JV) (fst:Bool) (b fb:aa),hJ l deep fst b = .ok fb→∀ x∈l,∃ c c',wr x (deep+1) c = .ok c'
 | [],_,_,_,_,x,ae=>by cases ae
 | y::l,fst,b,fb,h,x,ae=>by
  rw [kX] at h
  obtain⟨dm,h1,h⟩:=dr h
  obtain⟨eI,aq,h⟩:=dr h
  rcases List.mem_cons.1 ae with rfl | ae
  ·exact⟨_,_,aq⟩
  exact AA l _ _ _ h x ae
theorem AB {deep:Nat}:∀ (m:List (aa×JV)) (prev:Option aa) (b fb:aa),ff m deep prev b = .ok fb→∀ p∈m,∃ c c',wr p.2 (deep+1) c = .ok c'
 | [],_,_,_,_,x,ae=>by cases ae
 | y::m,prev,b,fb,h,x,ae=>by
  obtain⟨_,eI,aq,aT,_,_⟩:=uJ h
  rcases List.mem_cons.1 ae with rfl | ae
  ·exact⟨_,_,aq⟩
  exact AB m _ _ _ aT x ae
theorem vH:∀ (N:Nat) (v:JV) (deep:Nat) (b fb:aa),v.sz≤N→wr v deep b = .ok fb→v.gX
 | 0,v,_,_,_,h,_=>absurd (oq v) (by omega)
 | N+1,v,deep,b,fb,h5,h=>by
  have dF:=vH N
  rw [mZ]
  have b3:=h
  rw [dI] at h
  split at h
  ·cases h
  rename_i aQ
  have aQ:v.bare=true:=by simpa using aQ
  have hk:=@qI v aQ
  have HO:v.kind=4∨v.list = []:=by
   unfold bare at aQ
   simp only [Bool.and_eq_true,Bool.or_eq_true,decide_eq_true_eq] at aQ
   exact aQ.1.1.2.imp id List.eq_nil_of_length_eq_zero
  have FL:v.kind=5∨v.map = []:=by
   unfold bare at aQ
   simp only [Bool.and_eq_true,Bool.or_eq_true,decide_eq_true_eq] at aQ
   exact aQ.1.2.imp id List.eq_nil_of_length_eq_zero
  by_cases ug:v.kind=4
  ·have hm:v.map = []:=FL.resolve_left (by omega)
   rw [if_neg (by omega),if_neg (by omega),if_neg (by omega),if_neg (by omega)] at h
   split at h
   ·cases h
   obtain⟨dm,h1,aT⟩:=dr h
   obtain⟨eI,aq,bL⟩:=dr aT
   rw [hm]
   refine⟨List.Pairwise.nil,fun x ae=>?_,by simp⟩
   obtain⟨c,c',bh⟩:=AA _ _ _ _ aq x ae
   exact dF x _ _ _ (by have:=gL ae;omega) bh
  have cg:v.list = []:=HO.resolve_left ug
  by_cases AL:v.kind=5
  ·obtain⟨_,eI,aq,_,_⟩:=LK AL b3
   rw [cg]
   refine⟨(uK _ _ _ _ _ aq).1,by simp,fun p cn=>?_⟩
   obtain⟨c,c',bh⟩:=AB _ _ _ _ aq p cn
   exact dF p.2 _ _ _ (by have:=gp cn;omega) bh
  rw [cg,FL.resolve_left AL]
  exact⟨List.Pairwise.nil,by simp,by simp⟩
theorem GP {v:JV} {deep:Nat} {b fb:aa} (h:wr v deep b = .ok fb):v.gX:=vH v.sz v deep b fb (Nat.le_refl _) h
end JV
namespace EV
open JV
end EV
end Go.Proofs.YtnihidkbkhcfoaaGreatDoor.V
namespace Go.Proofs.YtnihidkbkhcfoaaGreatDoor.V
open Go
namespace JV
mutual
def pc:JV→Nat
 | .mk k b n s l m=>1+s.length+q5 l+ks m
def q5:List JV→Nat
 | []=>0
 | v::r=>pc v+q5 r
def ks:List (List UInt8×JV)→Nat
 | []=>0
 | p::r=>p.1.length+pc p.2+ks r
end
theorem iq (v:JV):v.pc=1+v.str.length+q5 v.list+ks v.map:=by cases v;simp [pc,str,list,map]
theorem HC (s:aa):s.length≤(c7 s).length:=by
 induction s with
 | nil=>simp
 | cons c r dF=>
  have:=BQ c;simp only [c7,List.map_cons,List.flatten_cons,List.length_append,List.length_cons] at dF ⊢;omega
theorem LM:∀ N:Nat,∀ (v:JV) (deep:Nat) (b fb:aa),v.sz≤N→wr v deep b = .ok fb→b.length+v.pc≤fb.length
 | 0,v,_,_,_,h,_=>absurd (oq v) (by omega)
 | N+1,v,deep,b,fb,h5,h=>by
  have dF:=LM N
  have T6:∀ (l:List JV),(∀ x∈l,x.sz≤N)→∀ (fst:Bool) (b fb:aa),hJ l deep fst b = .ok fb→b.length+q5 l≤fb.length:=by
   intro l
   induction l with
   | nil=>
    intro _ fst b fb h
    rw [hJ] at h
    injection h with h
    subst h
    simp [q5]
   | cons x r aeE=>
    intro ae fst b fb h
    rw [kX] at h
    obtain⟨dm,h1,h⟩:=dr h
    obtain⟨eI,aq,aT⟩:=dr h
    have ae7:b.length≤dm.length:=by
     cases fst with
     | true=>injection h1 with h1;rw [h1];exact Nat.le_refl _
     | false=>obtain⟨rfl,_⟩:=fk h1;simp
    have Ow:=dF x (deep+1) dm eI (ae x (List.mem_cons_self ..)) aq
    have aro:=aeE (fun y aZ=>ae y (List.mem_cons_of_mem _ aZ)) false eI fb aT
    rw [q5]
    omega
  have T7:∀ (m:List (aa×JV)),(∀ x∈m,x.2.sz≤N)→∀ (prev:Option aa) (b fb:aa),ff m deep prev b = .ok fb→b.length+ks m≤fb.length:=by
   intro m
   induction m with
   | nil=>
    intro _ prev b fb h
    rw [ff] at h
    injection h with h
    subst h
    simp [ks]
   | cons x r aeF=>
    intro ae prev b fb h
    obtain⟨_,eI,aq,aT,_⟩:=uJ h
    have Ow:=dF x.2 (deep+1) _ eI (ae x (List.mem_cons_self ..)) aq
    have aro:=aeF (fun y aZ=>ae y (List.mem_cons_of_mem _ aZ)) _ eI fb aT
    have arp:=HC x.1
    simp only [List.length_append,cv,List.length_cons,List.length_nil] at Ow
    rw [ks]
    omega
  have di:=iq v
  have apD:1≤(Lib.itoa v.num).length:=List.length_pos_iff.2 (P4 _)
  rw [dI] at h
  split at h
  ·cases h
  rename_i aQ
  obtain⟨Ou,Ix,KD,HO,FL⟩:=mV (by simpa using aQ)
  split at h
  ·rename_i rb
   obtain⟨rfl,_⟩:=fk h
   rw [di,KD.resolve_left (by omega),HO.resolve_left (by omega),FL.resolve_left (by omega)]
   simp [q5,ks]
  split at h
  ·rename_i rb
   obtain⟨rfl,_⟩:=fk h
   rw [di,KD.resolve_left (by omega),HO.resolve_left (by omega),FL.resolve_left (by omega)]
   cases v.is <;> simp [q5,ks]
  split at h
  ·rename_i rb
   obtain⟨rfl,_⟩:=fk h
   rw [di,KD.resolve_left (by omega),HO.resolve_left (by omega),FL.resolve_left (by omega)]
   simp only [q5,ks,List.length_append,List.length_nil]
   omega
  split at h
  ·rename_i rb
   obtain⟨t,rfl,rfl,_⟩:=Av h
   have arp:=HC v.str
   rw [di,HO.resolve_left (by omega),FL.resolve_left (by omega)]
   simp only [q5,ks,List.length_append,cv,List.length_cons,List.length_nil]
   omega
  split at h
  ·cases h
  split at h
  ·rename_i ug
   obtain⟨dm,h1,fh⟩:=dr h
   obtain⟨eI,aq,Og⟩:=dr fh
   obtain⟨rfl,_⟩:=fk h1
   obtain⟨rfl,_⟩:=fk Og
   have:=T6 v.list (fun x ae=>by have:=gL ae;omega) _ _ _ aq
   rw [di,KD.resolve_left (by omega),FL.resolve_left (by omega)]
   simp only [ks,List.length_append,List.length_cons,List.length_nil] at this ⊢
   omega
  rename_i ug
  have hk:=qI (v:=v) (by simpa using aQ)
  obtain⟨dm,h1,fh⟩:=dr h
  obtain⟨eI,aq,Og⟩:=dr fh
  obtain⟨rfl,_⟩:=fk h1
  obtain⟨rfl,_⟩:=fk Og
  have:=T7 v.map (fun x ae=>by have:=gp ae;omega) _ _ _ aq
  rw [di,KD.resolve_left (by omega),HO.resolve_left ug]
  simp only [q5,List.length_append,List.length_cons,List.length_nil] at this ⊢
  omega
theorem sn:∀ l:List JV,l.length≤q5 l
 | []=>by simp [q5]
 | x::r=>by
  have:=sn r
  have:=iq x
  simp only [List.length_cons,q5]
  omega
theorem o4:∀ m:List (aa×JV),m.length≤ks m
 | []=>by simp [ks]
 | x::r=>by
  have:=o4 r
  have:=iq x.2
  simp only [List.length_cons,ks]
  omega
theorem AD:∀ {l:List JV} {x:JV},x∈l→x.pc≤q5 l
 | y::r,x,h=>by
  rw [q5]
  rcases List.mem_cons.1 h with rfl | h
  ·omega
  have:=AD h;omega
theorem o5:∀ {m:List (aa×JV)} {p:aa×JV},p∈m→p.1.length+p.2.pc≤ks m
 | y::r,x,h=>by
  rw [ks]
  rcases List.mem_cons.1 h with rfl | h
  ·omega
  have:=o5 h;omega
theorem JX:∀ (N:Nat) (v:JV),v.sz≤N→v.pc≤65536→v.ok
 | 0,v,h,_=>absurd (oq v) (by omega)
 | N+1,v,h,bb=>by
  have e:=iq v
  have h1:=sn v.list
  have aq:=o4 v.map
  exact(ok_eq v).2 ⟨by omega,by omega,by omega,fun x ae=>JX N x (by have:=gL ae;omega) (by have:=AD ae;omega),fun p cn=>⟨by have:=o5 cn;omega,JX N p.2 (by have:=gp cn;omega) (by have:=o5 cn;omega)⟩⟩
theorem Sa {v:JV} {t:aa} (h:v.wr 0 [] = .ok t):v.pc≤65536:=by
 have h1:=LM v.sz v 0 [] t (Nat.le_refl _) h;have aq:t.length≤65536:=(fit h).elim fun t cc=>cc.2.1;simp only [List.length_nil] at h1;omega
end JV
theorem XM {v:JV} {t:aa} (h:v.wr 0 [] = .ok t):(⟨v,false⟩:mE).fit:=by
 have h1:=JV.Sa h;have di:=JV.iq v;have hm:=JV.o4 v.map;obtain⟨r1,_,ae9⟩:=(JV.mZ v).1 (JV.GP h);refine⟨r1,(by omega:v.map.length≤1000000),fun p cn=>?_⟩;have bb:p.1.length+p.2.pc≤JV.ks v.map:=JV.o5 cn;have tq:=JV.iq p.2;have qf:=JV.sn p.2.list;have Qx:=JV.o4 p.2.map;exact⟨by omega,((JV.mZ p.2).1 (ae9 p cn)).1,by omega⟩
def eY (v:JV):=dR ⟨v,false⟩ nA 5
def hX (v:JV):=Jn (eY v).2 hY
def iF (v:JV):=Jn (hX v).2 hZ
def s6 (v:JV):=dR (iF v).2 ml 3
def s7 (v:JV):=dR (s6 v).2 im 3
def s8 (v:JV):=dR (s7 v).2 mm 3
def s9 (v:JV):=dR (s8 v).2 kb 2
def nz (v:JV):=dR (s9 v).2 qs 2
def qq (v:JV):Bool:=((nz v).2.rest.get gm).isSome
def lZ (v:JV):JV×mE:=if qq v then dR (nz v).2 gm 3 else (JV.gN,(nz v).2)
def b7 (v:JV):=dR (lZ v).2 mn 5
def pT (p:aa×JV):Bool:=decide (p.2.map.length=0)||p.2.map.any fun q=>decide (q.2.kind≠3)
def vg (v:JV):Bool:=(b7 v).2.bad||(b7 v).1.map.any pT
def qV (v:JV):=dR ⟨(b7 v).2.rest,vg v⟩ gy 5
def vh (v:JV):=dR ⟨(qV v).1,false⟩ kG 3
def fq (p:aa×JV):List dQ:=p.2.map.map fun q=>⟨p.1,q.1,q.2.str⟩
def ch (m:List (aa×JV)):List dQ:=(m.map fq).flatten
def h7 (v:JV):EV:=⟨(s6 v).1.str,(s7 v).1.str,(s8 v).1.str,qq v,(lZ v).1.str,(eY v).1,(hX v).1,(iF v).1,(s9 v).1.num,(nz v).1.num,(vh v).1.str,ch (b7 v).1.map⟩
def R6 (v:JV):Bool:=(qV v).2.bad||((vh v).2.bad||decide ((qV v).2.rest.map.length+(vh v).2.rest.map.length > 0))
noncomputable def lN (v:JV):Int:=if fM (v.wr 0 [])≠0∨v.kind≠5 then 21 else if R6 v=true then 21 else (h7 v).qt
section
variable {v:JV} (h:(⟨v,false⟩:mE).fit)
include h
theorem aaC:(eY v).2.fit:=mE.hx h _ _
theorem aaD:(hX v).2.fit:=mE.hx (aaC h) hY 4
theorem aaE:(iF v).2.fit:=mE.hx (aaD h) hZ 4
theorem aaF:(s6 v).2.fit:=mE.hx (aaE h) _ _
theorem aaG:(s7 v).2.fit:=mE.hx (aaF h) _ _
theorem aaH:(s8 v).2.fit:=mE.hx (aaG h) _ _
theorem aaI:(s9 v).2.fit:=mE.hx (aaH h) _ _
theorem GX:(nz v).2.fit:=mE.hx (aaI h) _ _
theorem Sc:(lZ v).2.fit:=by
 unfold lZ
 split
 ·exact mE.hx (GX h) _ _
 exact GX h
theorem aaB:(b7 v).2.fit:=mE.hx (Sc h) _ _
end
end Go.Proofs.YtnihidkbkhcfoaaGreatDoor.V
namespace Go.Proofs.YtnihidkbkhcfoaaGreatDoor.V
open Go
namespace JV
theorem xv (q:aa×JV→Bool):∀ m:List (aa×JV),ks (m.filter q)≤ks m
 | []=>by simp
 | x::r=>by
  have:=xv q r
  rw [List.filter_cons,ks]
  split
  ·rw [ks];omega
  omega
end JV
theorem jg {t:mE} (h:t.rest.pc≤65536) (k:aa) (kind:Int):(dR t k kind).1.pc≤65536∧(dR t k kind).2.rest.pc≤65536:=by
 have cj:JV.gN.pc≤65536:=by rw [JV.iq];simp [JV.gN,JV.str,JV.list,JV.map,JV.q5,JV.ks]
 have bl:=JV.iq t.rest;cases dv:t.rest.get k with
 | none=>rw [qp dv];exact⟨cj,h⟩
 | some x=>
  by_cases hk:x.kind=kind
  ·rw [qo dv hk];have hm:=JV.o5 (JV.wC dv);refine⟨by simp only at hm ⊢;omega,?_⟩;have dK:=JV.xv (fun q:aa×JV=>decide (q.1≠k)) t.rest.eS;have cc:JV.ks t.rest.eS≤JV.ks t.rest.map:=by
    unfold JV.eS
    split
    ·exact Nat.le_refl _
    simp [JV.ks]
   show(JV.obj (oi t.rest.eS k)).pc≤65536;rw [JV.iq];simp only [JV.obj,JV.str,JV.list,JV.map,JV.q5,List.length_nil];unfold oi;omega
  rw [qn dv hk];exact⟨cj,h⟩
theorem CN:JV.gN.gX:=(JV.mZ _).2 ⟨List.Pairwise.nil,by simp [JV.gN,JV.list],by simp [JV.gN,JV.map]⟩
theorem hc {t:mE} (h:t.rest.gX) (k:aa) (kind:Int):(dR t k kind).1.gX∧(dR t k kind).2.rest.gX:=by
 obtain⟨r1,arX,ae9⟩:=(JV.mZ _).1 h;cases dv:t.rest.get k with
 | none=>rw [qp dv];exact⟨CN,h⟩
 | some x=>
  by_cases hk:x.kind=kind
  ·rw [qo dv hk];refine⟨ae9 _ (JV.wC dv),(JV.mZ _).2 ⟨?_,by simp [JV.obj,JV.list],fun p cn=>?_⟩⟩
   ·show en (oi t.rest.eS k);refine List.Pairwise.filter _ ?_;unfold JV.eS
    split
    ·exact r1
    exact List.Pairwise.nil
   have tU:p∈t.rest.eS:=(List.mem_filter.1 (show p∈oi t.rest.eS k from cn)).1;unfold JV.eS at tU
   split at tU
   ·exact ae9 p tU
   cases tU
  rw [qn dv hk];exact⟨CN,h⟩
theorem Cp {x:JV} (b:Bool) (h:x.gX) (bb:x.pc≤65536):(⟨x,b⟩:mE).fit:=by
 obtain⟨r1,_,ae9⟩:=(JV.mZ x).1 h;have e:=JV.iq x;have hm:=JV.o4 x.map;refine⟨r1,(by omega:x.map.length≤1000000),fun p cn=>?_⟩;have bb:p.1.length+p.2.pc≤JV.ks x.map:=JV.o5 cn;have tq:=JV.iq p.2;have qf:=JV.sn p.2.list;have Qx:=JV.o4 p.2.map;exact⟨by omega,((JV.mZ p.2).1 (ae9 p cn)).1,by omega⟩
section
variable {v:JV} (h:v.gX)
include h
theorem anT:(eY v).1.gX∧(eY v).2.rest.gX:=hc h _ _
theorem anU:(hX v).2.rest.gX:=(hc (anT h).2 hY 4).2
theorem anV:(iF v).2.rest.gX:=(hc (anU h) hZ 4).2
theorem anW:(s6 v).2.rest.gX:=(hc (anV h) _ _).2
theorem anX:(s7 v).2.rest.gX:=(hc (anW h) _ _).2
theorem anY:(s8 v).2.rest.gX:=(hc (anX h) _ _).2
theorem anZ:(s9 v).2.rest.gX:=(hc (anY h) _ _).2
theorem aiG:(nz v).2.rest.gX:=(hc (anZ h) _ _).2
theorem an0:(lZ v).2.rest.gX:=by
 unfold lZ
 split
 ·exact(hc (aiG h) _ _).2
 exact aiG h
theorem an1:(b7 v).2.rest.gX:=(hc (an0 h) _ _).2
theorem ahL:(qV v).1.gX∧(qV v).2.rest.gX:=hc (t:=⟨(b7 v).2.rest,vg v⟩) (an1 h) _ _
end
theorem sQ:∀ m:List (aa×JV),(ch m).length≤JV.ks m∧∀ s∈ch m,s.db.length≤JV.ks m∧s.key.length≤JV.ks m∧s.sig.length≤JV.ks m
 | []=>by simp [ch,JV.ks]
 | p::r=>by
  obtain⟨h1,aq⟩:=sQ r
  have e:ch (p::r)=fq p++ch r:=by simp [ch]
  have cn:=JV.iq p.2
  have cg:=JV.o4 p.2.map
  have bb:(fq p).length=p.2.map.length:=by simp [fq]
  rw [e,JV.ks,List.length_append,bb]
  refine⟨by omega,fun s bb=>?_⟩
  rcases List.mem_append.1 bb with bb | bb
  ·unfold fq at bb
   obtain⟨q,e2,rfl⟩:=List.mem_map.1 bb
   have:=JV.o5 e2
   have:=JV.iq q.2
   simp only
   omega
  obtain⟨a,b,c⟩:=aq s bb
  omega
section
variable {v:JV} (h:v.pc≤65536)
include h
theorem aiH:(eY v).1.pc≤65536∧(eY v).2.rest.pc≤65536:=jg h _ _
theorem aiI:(dR (eY v).2 hY 4).1.pc≤65536∧(hX v).2.rest.pc≤65536:=jg (aiH h).2 hY 4
theorem aiJ:(dR (hX v).2 hZ 4).1.pc≤65536∧(iF v).2.rest.pc≤65536:=jg (aiI h).2 hZ 4
theorem aeH:(s6 v).1.pc≤65536∧(s6 v).2.rest.pc≤65536:=jg (aiJ h).2 _ _
theorem aeI:(s7 v).1.pc≤65536∧(s7 v).2.rest.pc≤65536:=jg (aeH h).2 _ _
theorem aiK:(s8 v).1.pc≤65536∧(s8 v).2.rest.pc≤65536:=jg (aeI h).2 _ _
theorem an2:(s9 v).1.pc≤65536∧(s9 v).2.rest.pc≤65536:=jg (aiK h).2 _ _
theorem aiL:(nz v).1.pc≤65536∧(nz v).2.rest.pc≤65536:=jg (an2 h).2 _ _
theorem aiM:(lZ v).1.pc≤65536∧(lZ v).2.rest.pc≤65536:=by
 unfold lZ
 split
 ·exact jg (aiL h).2 _ _
 exact⟨by rw [JV.iq];simp [JV.gN,JV.str,JV.list,JV.map,JV.q5,JV.ks],(aiL h).2⟩
theorem ZF:(b7 v).1.pc≤65536∧(b7 v).2.rest.pc≤65536:=jg (aiM h).2 _ _
theorem ade:(qV v).1.pc≤65536∧(qV v).2.rest.pc≤65536:=jg (t:=⟨(b7 v).2.rest,vg v⟩) (ZF h).2 _ _
theorem an3:(vh v).1.pc≤65536∧(vh v).2.rest.pc≤65536:=jg (t:=⟨(qV v).1,false⟩) (ade h).1 _ _
omit h in
theorem q6 (x:JV) (ae:x.pc≤65536):x.str.length≤65536:=by have:=JV.iq x;omega
omit h in
theorem HD (x:JV) (ae:x.pc≤65536):(x.list.map JV.str).length≤65536∧∀ s∈x.list.map JV.str,s.length≤65536:=by
 have:=JV.iq x;have:=JV.sn x.list;refine⟨by rw [List.length_map];omega,fun s bb=>?_⟩;obtain⟨y,aZ,rfl⟩:=List.mem_map.1 bb;have:=JV.AD aZ;have:=JV.iq y;omega
theorem NL:(h7 v).lens:=by
 have dv:=JV.iq (b7 v).1;have h1:=ZF h;obtain⟨_,aq⟩:=sQ (b7 v).1.map;exact⟨Nat.lt_of_le_of_lt (q6 _ (aeH h).1) (by decide),Nat.lt_of_le_of_lt (q6 _ (aeI h).1) (by decide),fun s bb=>by have:=(aq s bb).1;omega⟩
theorem Cq:(h7 v).sigs.length≤65536:=by
 have dv:=JV.iq (b7 v).1;have h1:=ZF h;have:=(sQ (b7 v).1.map).1;show(ch (b7 v).1.map).length≤65536;omega
theorem XX:(h7 v).ok:=by
 have b:∀ n:Nat,n≤65536→n≤140737488351232:=fun n cj=>by omega
 have dv:=JV.iq (b7 v).1;have h1:=(ZF h).1;obtain⟨aT,aq⟩:=sQ (b7 v).1.map;obtain⟨Ou,Ix⟩:=HD _ (aiI h).1;obtain⟨p8,a2⟩:=HD _ (aiJ h).1;exact⟨b _ (q6 _ (aeH h).1),b _ (q6 _ (aeI h).1),b _ (q6 _ (aiK h).1),b _ (q6 _ (aiM h).1),JV.JX _ _ (Nat.le_refl _) (aiH h).1,fun s bb=>b _ (Ix s bb),b _ Ou,fun s bb=>b _ (a2 s bb),b _ p8,b _ (q6 _ (an3 h).1),fun s bb=>by obtain⟨sE,re,xi⟩:=aq s bb;exact⟨b _ (by omega),b _ (by omega),b _ (by omega)⟩,b _ (Cq h)⟩
end
end Go.Proofs.YtnihidkbkhcfoaaGreatDoor.V
set_option maxRecDepth 10000
namespace Go.Proofs.YtnihidkbkhcfoaaGreatDoor.V
open Go Go.Proofs
theorem R1:vM Tryz.prog 103 [(0,6),(6,1)]=true:=by kernel_rfl
theorem R2:hD Tryz.prog 103 ([.int .i64 0,.bool false,.int .i64 0,S [],.slice none 0 0,.slice none 0 0,.bool false]):=by unfold hD;kernel_rfl
theorem sc:Nk Tryz.prog 25 3 3=true:=by kernel_rfl
theorem GD:Nk Tryz.prog 25 2 2=true:=by kernel_rfl
theorem R3:Nk Tryz.prog 25 5 5=true:=by kernel_rfl
theorem R4:aP Tryz.prog 91:=aP.of Tryz.func91 (by kernel_rfl) (by kernel_rfl)
theorem ahK:vM Tryz.prog 92 [(0,1),(1,1),(2,1)]=true:=by kernel_rfl
theorem NA (a b:List (aa×JV)):ch (a++b)=ch a++ch b:=by simp [ch]
theorem R5 {m:List (aa×JV)} {i:Nat} {x:aa×JV} (h:m[i]? = some x):ch (m.take (i+1))=ch (m.take i)++fq x∧(ch (m.take i)).length+x.2.map.length≤(ch m).length:=by
 have h1:m.take (i+1)=m.take i ++ [x]:=by
  have hi:=(List.getElem?_eq_some_iff.1 h);rw [List.take_succ_eq_append_getElem hi.1,hi.2]
 have aq:ch (m.take (i+1))=ch (m.take i)++fq x:=by rw [h1];simp [ch]
 refine⟨aq,?_⟩;have aT:m=m.take (i+1)++m.drop (i+1):=(List.take_append_drop _ _).symm;have bL:ch m=ch (m.take (i+1))++ch (m.drop (i+1)):=by rw [← NA,List.take_append_drop]
 rw [bL,aq,List.length_append,List.length_append];have:(fq x).length=x.2.map.length:=by simp [fq]
 omega
theorem NB {x:aa×JV} {j:Nat} {q:aa×JV} (h:x.2.map[j]? = some q):(fq x).take (j+1)=(fq x).take j ++ [⟨x.1,q.1,q.2.str⟩]:=by
 have dY:=(List.getElem?_eq_some_iff.1 h);have cg:j<(fq x).length:=by simpa [fq] using dY.1
 rw [List.take_succ_eq_append_getElem cg];simp [fq,dY.2]
theorem XH (v:JV):dR ⟨(b7 v).2.rest,vg v⟩ gy 5=qV v:=rfl
theorem XI (v:JV):dR ⟨(qV v).1,false⟩ kG 3=vh v:=rfl
theorem XJ (v:JV):R6 v=((qV v).2.bad||((vh v).2.bad||decide ((qV v).2.rest.map.length+(vh v).2.rest.map.length > 0))):=rfl
theorem R7 {v:JV} (h:(⟨v,false⟩:mE).fit):(qV v).2.rest.map.length≤1000000:=(mE.hx (mE.GF (aaB h) (vg v)) gy 5).2.1
theorem R8 {v:JV} (h:v.gX) (bb:v.pc≤65536):(vh v).2.rest.map.length≤1000000:=(mE.hx (Cp (x:=(qV v).1) false (ahL h).1 (ade bb).1) kG 3).2.1
theorem ko.R9 {w w':World} {g b T:Nat} {cs:List Value} (N:ko w w' g T cs) (h:b<w.heap.size):b≠g:=fun e=>by have:=N.le (Mod.refl [] w);omega
theorem oQ.grow {A:List Nat} {w w':World} {g EB T:Nat} {t:mE} {cs:List Value} (h:oQ A w g t) (N:ko w w' EB T cs):oQ (EB::A) w' g t:=by
 obtain⟨al,cl,am,cm,h1,aq,aT⟩:=h;have hm:∀ x∈EB::A,x∈A∨w.heap.size≤x:=fun x ae=>(List.mem_cons.1 ae).elim (fun e=>.inr (e▸N.le (Mod.refl [] w))) .inl;exact⟨al,cl,am,cm,h1.I N.mod,(aq.more hm).bG N.mod,(aT.more hm).bG N.mod⟩
theorem a8.grow {A:List Nat} {w w':World} {EB T:Nat} {d:D} {u:Value} {cs:List Value} (h:a8 A w d u) (N:ko w w' EB T cs):a8 (EB::A) w' d u:=
 (h.more (fun x ae=>(List.mem_cons.1 ae).elim (fun e=>.inr (e▸N.le (Mod.refl [] w))) .inl)).bG N.mod
theorem oQ.e6 {A A':List Nat} {w:World} {g:Nat} {t:mE} (h:oQ A w g t) (bb:∀ x∈A',x∈A):oQ A' w g t:=by
 obtain⟨al,cl,am,cm,h1,aq,aT⟩:=h;exact⟨al,cl,am,cm,h1,aq.e6 bb,aT.e6 bb⟩
theorem NC {w:World} {v:Value} {l:List dQ} (h:Own w 92 3 v l.length ((l.map dQ.cells).flatten)):a8 [] w (flat 3 dQ.cells l) v:=Own.flat h (fun _ _=>rfl) (fun x _ c bh=>by simp [dQ.cells] at bh;rcases bh with rfl | rfl | rfl <;> rfl) rfl (by simp)
/-- what the reading of an event hands back -/
def ny (A:List Nat) (w0 w:World) (v:JV) (us:List Value):Prop:=
 (lN v=0∧∃ al cl am cm up EC HQ,us = [S (h7 v).room,S (h7 v).snd,S (h7 v).ty,.bool (h7 v).st,S (h7 v).key,.int .i64 (h7 v).bj.kind,.bool (h7 v).bj.is,.int .i64 (h7 v).bj.num,S (h7 v).bj.str,.slice al (h7 v).bj.list.length cl,.slice am (h7 v).bj.map.length cm,up,EC,.int .i64 (h7 v).dep,.int .i64 (h7 v).time,S (h7 v).hash,HQ]∧
  ao A w (h7 v).bj.D [.int .i64 (h7 v).bj.kind,.bool (h7 v).bj.is,.int .i64 (h7 v).bj.num,S (h7 v).bj.str,.slice al (h7 v).bj.list.length cl,.slice am (h7 v).bj.map.length cm]∧Own w 9 1 up (h7 v).prev.length (((h7 v).prev.map fun s=>[S s]).flatten)∧Own w 9 1 EC (h7 v).bw.length (((h7 v).bw.map fun s=>[S s]).flatten)∧Own w 92 3 HQ (h7 v).sigs.length (((h7 v).sigs.map dQ.cells).flatten)∧(∀ x∈aY up,w0.heap.size≤x)∧(∀ x∈aY EC,w0.heap.size≤x)∧∀ x∈aY HQ,w0.heap.size≤x)∨
 (lN v≠0∧us = [S [],S [],S [],.bool false,S [],.int .i64 0,.bool false,.int .i64 0,S [],.slice none 0 0,.slice none 0 0,.slice none 0 0,.slice none 0 0,.int .i64 0,.int .i64 0,S [],.slice none 0 0])
theorem ny.mk {A:List Nat} {w0 w:World} {v:JV} {al am XK adf adg:Option Addr} {cl cm qC rr cs:Nat} (h:lN v=0) (xV:ao A w (eY v).1.D [.int .i64 (eY v).1.kind,.bool (eY v).1.is,.int .i64 (eY v).1.num,S (eY v).1.str,.slice al (eY v).1.list.length cl,.slice am (eY v).1.map.length cm]) (eR:Own w 9 1 (.slice XK (hX v).1.length qC) (hX v).1.length (((hX v).1.map fun s=>[S s]).flatten)) (qw:Own w 9 1 (.slice adf (iF v).1.length rr) (iF v).1.length (((iF v).1.map fun s=>[S s]).flatten)) (vI:Own w 92 3 (.slice adg (ch (b7 v).1.map).length cs) (ch (b7 v).1.map).length (((ch (b7 v).1.map).map dQ.cells).flatten)) (rE:∀ x∈aY (.slice XK (hX v).1.length qC),w0.heap.size≤x) (IW:∀ x∈aY (.slice adf (iF v).1.length rr),w0.heap.size≤x) (M':∀ x∈aY (.slice adg (ch (b7 v).1.map).length cs),w0.heap.size≤x) :
  ny A w0 w v [S (s6 v).1.str,S (s7 v).1.str,S (s8 v).1.str,.bool (qq v),S (lZ v).1.str,.int .i64 (eY v).1.kind,.bool (eY v).1.is,.int .i64 (eY v).1.num,S (eY v).1.str,.slice al (eY v).1.list.length cl,.slice am (eY v).1.map.length cm,.slice XK (hX v).1.length qC,.slice adf (iF v).1.length rr,.int .i64 (s9 v).1.num,.int .i64 (nz v).1.num,S (vh v).1.str,.slice adg (ch (b7 v).1.map).length cs]:=
 .inl ⟨h,al,cl,am,cm,_,_,_,rfl,xV,eR,qw,vI,rE,IW,M'⟩
set_option maxHeartbeats 4000000 in
theorem XL (A:List Nat) (w:World) (v:JV) (us:List Value) (arZ:ao A w v.D us) (dD:∀ a∈A,a<w.heap.size) (jR:oB w) (eW:je w):Calls Tryz.prog 43 [.agg us.toArray].toArray w (bM fun u w'=>∃ gd,u = .tuple #[.agg gd.toArray,.int .i64 (lN v)]∧ny A w w' v gd∧Mod [] w w'):=by
 refine enter Tryz.func43 rfl rfl rfl (l:=[(0,_)]) ⟨rfl,trivial⟩ ?_;have E:=Mod.refl [] w;obtain⟨al,cl,am,cm,rfl,kP,jF⟩:=JV.a' arZ;have arZ:=JV.cz kP jF;refine ab fun aV=>ep rfl rfl rfl fun g1 aB bT=>?_;have bI:=bT.le E;replace E:=E.then bT.mod;have U:=bT.aA;refine bp oT rfl fun g2 cO cW=>?_;have b9:=cW.le E;have bR:=cW.ne U;replace U:=U.I cW.mod;replace E:=E.then cW.mod;have ah:=cW.aA;refine aU rfl (J aV (ax fun aL=>ab fun aX=>ag (bc (vs:=[_,_,_,_,_,_]) aJ rfl rfl (U.cs rfl)) (cQ (bE Jo rfl) (z8 _ v _ ((arZ.e6 (by simp)).bG E) (jR.mod E (by simp))) fun gb R=>?_)));replace U:=U.I R;replace ah:=ah.I R;replace E:=E.then R;refine ak 5 rfl (J aX (ab fun bt=>ak 2 rfl ?_));refine da (fun cj:fM (v.wr 0 [])≠0=>?_) (fun cj=>?_)
 ·refine ak 5 rfl (J bt (aF rfl ?_));have i':lN v=21:=by unfold lN;rw [if_pos (by first | exact .inl cj | exact .inr ey)]
  refine ab fun bN=>ag (a7 (cs:=[_,_,_,_,_,_,_,_,_,_,_,_,_,_,_,_,_]) vi oT rfl rfl) (bm (vs:=[_,_,_,_,_,_,_,_,_,_,_,_,_,_,_,_,_]) fI ah rfl rfl rfl (by simp [Value.oneCell']) (by simp) fun iu kS=>?_);replace U:=U.ne kS.mod bR;replace E:=E.own kS.mod b9;replace ah:aE iu g2 _ [_,_,_,_,_,_,_,_,_,_,_,_,_,_,_,_,_]:=kS.aA;exact aU rfl (J bN (ba (aR (by simp) (jn (vs:=[_,_,_,_,_,_,_,_,_,_,_,_,_,_,_,_,_]) rfl fI rfl rfl (ah.cs rfl) rfl ⟨_,by rw [i'],.inr ⟨by rw [i'];decide,rfl⟩,E⟩))))
 refine aG rfl (aw (av hz rfl) (aw (bg dN rfl (U.cell rfl)) (aw (fj rfl rfl) ?_)));refine da (fun ey:v.kind≠5=>?_) (fun ey=>?_)
 ·refine ag (jA rfl rfl rfl) (J bt (aF rfl ?_));have i':lN v=21:=by unfold lN;rw [if_pos (by first | exact .inl cj | exact .inr ey)]
  refine ab fun b2=>ag (a7 (cs:=[_,_,_,_,_,_,_,_,_,_,_,_,_,_,_,_,_]) vi oT rfl rfl) (bm (vs:=[_,_,_,_,_,_,_,_,_,_,_,_,_,_,_,_,_]) fI ah rfl rfl rfl (by simp [Value.oneCell']) (by simp) fun js hs=>?_);replace U:=U.ne hs.mod bR;replace E:=E.own hs.mod b9;replace ah:aE js g2 _ [_,_,_,_,_,_,_,_,_,_,_,_,_,_,_,_,_]:=hs.aA;exact aU rfl (J b2 (ba (aR (by simp) (jn (vs:=[_,_,_,_,_,_,_,_,_,_,_,_,_,_,_,_,_]) rfl fI rfl rfl (ah.cs rfl) rfl ⟨_,by rw [i'],.inr ⟨by rw [i'];decide,rfl⟩,E⟩))))
 refine ag (jA rfl rfl rfl) (J bt (aD rfl ?_));obtain⟨t,adh⟩:=iU (Classical.not_not.1 cj);have ll:=XM adh;have R':=JV.Sa adh;have XN:¬ (fM (v.wr 0 [])≠0∨v.kind≠5):=fun h=>h.elim cj ey;refine b8 (au aL (ab fun cd=>ag (bc (vs:=[_,_,_,_,_,_]) aJ rfl rfl (U.cs rfl)) (ag ((a7 (cs:=[_,_,_,_,_,_,_]) R1 R2 rfl rfl)) (ep rfl rfl rfl fun g3 jD eP=>?_))));have dE:=eP.le E;have eL:=eP.ne U;have cG:=eP.ne ah;replace U:=U.I eP.mod;replace ah:=ah.I eP.mod;replace E:=E.then eP.mod;have bu:=eP.aA;have ahM:∀ a∈g3::g2::A,a∈A∨w.heap.size≤a:=fun a ay=>by simp at ay;rcases ay with rfl | rfl | ay;exact .inr dE;exact .inr b9;exact .inl ay
 have ir:oQ (g3::g2::A) _ g3 ⟨v,false⟩:=⟨_,_,_,_,bu,(kP.more ahM).bG E,(jF.more ahM).bG E⟩;refine aU rfl (J cd (ab fun cD=>aG rfl (fv (bE oR rfl) (jZ (g3::g2::A) _ g3 ⟨v,false⟩ ir (by simp) (fun a ay=>by simp at ay;rcases ay with rfl | rfl | ay;exact ir.lt;exact ah.lt;exact Nat.lt_of_lt_of_le (dD a ay) E.size) ll nA 5) rfl fun cK iv az=>?_)));obtain⟨aqR,rfl,Rxc,ir,R⟩:=az;replace U:=U.ne R eL;replace ah:=ah.ne R cG;replace E:=E.own R dE;obtain⟨ND,NF,NG,NH,rfl,adi,amf⟩:=JV.a' Rxc;replace adi:=adi;replace ir:=ir.e6 (A':=[g3]) (by simp);obtain⟨Sb,XO⟩:∃ x,x=iv:=⟨_,rfl⟩;subst XO;have F:=Mod.refl [g3] Sb;have ao0:=ir.lt;have ao1:=ah.lt;have XO:=E.size;refine aG rfl ?_;have adj:=E.size;have ajE:=ah.lt;have ajF:=ir.lt;refine fv (bE R4 rfl) (z7 [g3] _ g3 (eY v).2 ir (by simp) (fun a ay=>by simp at ay;subst ay;exact ir.lt) (aaC ll) hY) rfl fun cK oj az=>?_;obtain⟨cy,adk,ir,R⟩:=az;replace U:=U.ne R eL;replace ah:=ah.ne R cG;replace E:=E.own R dE;replace F:=F.trans R;obtain⟨lO,qW,rfl,ao2,ao3⟩:=cy.form;have amg:∀ y∈aY (.slice lO _ qW),w.heap.size≤y:=fun y aZ=>Nat.le_trans adj (adk y aZ);have GG:∀ y∈aY (.slice lO _ qW),y≠g2:=fun y aZ e=>by have:=adk y aZ;omega
 have oU:∀ y∈aY (.slice lO _ qW),y≠g3:=fun y aZ e=>by have:=adk y aZ;omega
 refine aG rfl ?_;have adl:=E.size;have ajG:=ah.lt;have ajH:=ir.lt;refine fv (bE R4 rfl) (z7 [g3] _ g3 (hX v).2 ir (by simp) (fun a ay=>by simp at ay;subst ay;exact ir.lt) (aaD ll) hZ) rfl fun cK l1 az=>?_;obtain⟨cB,adk,ir,R⟩:=az;replace U:=U.ne R eL;replace ah:=ah.ne R cG;replace E:=E.own R dE;replace F:=F.trans R;replace cy:=cy.put R oU;obtain⟨lP,qX,rfl,ao4,ao5⟩:=cB.form;have amh:∀ y∈aY (.slice lP _ qX),w.heap.size≤y:=fun y aZ=>Nat.le_trans adl (adk y aZ);have GH:∀ y∈aY (.slice lP _ qX),y≠g2:=fun y aZ e=>by have:=adk y aZ;omega
 have pE:∀ y∈aY (.slice lP _ qX),y≠g3:=fun y aZ e=>by have:=adk y aZ;omega
 refine ag (a7 (cs:=[_,_,_,_,_,_,_,_,_,_,_,_,_,_,_,_,_]) vi oT rfl rfl) ?_;have adm:=ir;refine bp oT rfl fun g4 iw N4=>?_;have fL:=N4.le E;have oS:=N4.le F;have gD:=N4.ne U;have eZ:=N4.ne ah;have dk:=N4.R9 ir.lt;have kH:=N4.b4 cy;have kI:=N4.b4 cB;replace ir:=ir.I N4.mod;replace U:=U.I N4.mod;replace ah:=ah.I N4.mod;replace E:=E.then N4.mod;replace F:=F.then N4.mod;replace cy:=cy.I N4.mod;replace cB:=cB.I N4.mod;have bf:=N4.aA;replace ir:=adm.grow N4;refine bm (vs:=[_,_,_,_,_,_,_,_,_,_,_,_,_,_,_,_,_]) fI bf rfl rfl rfl (by simp [Value.oneCell']) (by simp) fun kl e7=>?_;replace U:=U.ne e7.mod gD;replace ah:=ah.ne e7.mod eZ;replace E:=E.own e7.mod fL;replace F:=F.own e7.mod oS;replace cy:=cy.put e7.mod kH;replace cB:=cB.put e7.mod kI;replace bf:aE kl g4 _ [_,_,_,_,_,_,_,_,_,_,_,_,_,_,_,_,_]:=e7.aA;replace ir:=ir.mod e7.mod (fun x ae=>by simp [List.mem_singleton.1 ae]) (fun h=>by have:=dk;simp at h;exact this h);refine J cD (ab fun cJ=>aG rfl (fv (bE oR rfl) (jZ [g4,g3] _ g3 (iF v).2 ir (by simp) (fun a ay=>by simp at ay;rcases ay with rfl | rfl;exact bf.lt;exact ir.lt) (aaE ll) ml 3) rfl fun cK p3 az=>?_));obtain⟨ami,rfl,adn,ir,R⟩:=az;replace U:=U.ne R eL;replace ah:=ah.ne R cG;replace bf:=bf.ne R (Ne.symm dk);replace E:=E.own R dE;replace F:=F.trans R;replace cy:=cy.put R oU;replace cB:=cB.put R pE;obtain⟨amj,amk,aml,amm,rfl,amn,amo⟩:=JV.a' adn;refine ag ((qT sc rfl rfl)) (aG rfl (fv (bE oR rfl) (jZ [g4,g3] _ g3 (s6 v).2 ir (by simp) (fun a ay=>by simp at ay;rcases ay with rfl | rfl;exact bf.lt;exact ir.lt) (aaF ll) im 3) rfl fun cK ov az=>?_));obtain⟨amp,rfl,ado,ir,R⟩:=az;replace U:=U.ne R eL;replace ah:=ah.ne R cG;replace bf:=bf.ne R (Ne.symm dk);replace E:=E.own R dE;replace F:=F.trans R;replace cy:=cy.put R oU;replace cB:=cB.put R pE;obtain⟨amq,amr,ams,amt,rfl,amu,amv⟩:=JV.a' ado;refine ag ((qT sc rfl rfl)) (aG rfl (fv (bE oR rfl) (jZ [g4,g3] _ g3 (s7 v).2 ir (by simp) (fun a ay=>by simp at ay;rcases ay with rfl | rfl;exact bf.lt;exact ir.lt) (aaG ll) mm 3) rfl fun cK qB az=>?_));obtain⟨amw,rfl,adp,ir,R⟩:=az;replace U:=U.ne R eL;replace ah:=ah.ne R cG;replace bf:=bf.ne R (Ne.symm dk);replace E:=E.own R dE;replace F:=F.trans R;replace cy:=cy.put R oU;replace cB:=cB.put R pE;obtain⟨amx,amy,amz,amA,rfl,amB,amC⟩:=JV.a' adp;refine ag ((qT sc rfl rfl)) (ag (av pk rfl) (dZ bB bf rfl rfl rfl (by simp) fun p7 wm=>?_));replace U:=U.ne wm.mod gD;replace ah:=ah.ne wm.mod eZ;replace E:=E.own wm.mod fL;replace F:=F.own wm.mod oS;replace cy:=cy.put wm.mod kH;replace cB:=cB.put wm.mod kI;replace bf:aE p7 g4 _ [_,_,_,_,_,_,_,_,_,_,_,_,_,_,_,_,_]:=wm.aA;replace ir:=ir.mod wm.mod (fun x ae=>by simp [List.mem_singleton.1 ae]) (fun h=>by have:=dk;simp at h;exact this h);refine ag (av pn rfl) (dZ bB bf rfl rfl rfl (by simp) fun rn xJ=>?_);replace U:=U.ne xJ.mod gD;replace ah:=ah.ne xJ.mod eZ;replace E:=E.own xJ.mod fL;replace F:=F.own xJ.mod oS;replace cy:=cy.put xJ.mod kH;replace cB:=cB.put xJ.mod kI;replace bf:aE rn g4 _ [_,_,_,_,_,_,_,_,_,_,_,_,_,_,_,_,_]:=xJ.aA;replace ir:=ir.mod xJ.mod (fun x ae=>by simp [List.mem_singleton.1 ae]) (fun h=>by have:=dk;simp at h;exact this h);refine ag (av mB rfl) (dZ bB bf rfl rfl rfl (by simp) fun ux GI=>?_);replace U:=U.ne GI.mod gD;replace ah:=ah.ne GI.mod eZ;replace E:=E.own GI.mod fL;replace F:=F.own GI.mod oS;replace cy:=cy.put GI.mod kH;replace cB:=cB.put GI.mod kI;replace bf:aE ux g4 _ [_,_,_,_,_,_,_,_,_,_,_,_,_,_,_,_,_]:=GI.aA;replace ir:=ir.mod GI.mod (fun x ae=>by simp [List.mem_singleton.1 ae]) (fun h=>by have:=dk;simp at h;exact this h);refine J cJ (ab fun cf=>aG rfl (fv (bE oR rfl) (jZ [g4,g3] _ g3 (s8 v).2 ir (by simp) (fun a ay=>by simp at ay;rcases ay with rfl | rfl;exact bf.lt;exact ir.lt) (aaH ll) kb 2) rfl fun cK tx az=>?_));obtain⟨amD,rfl,adq,ir,R⟩:=az;replace U:=U.ne R eL;replace ah:=ah.ne R cG;replace bf:=bf.ne R (Ne.symm dk);replace E:=E.own R dE;replace F:=F.trans R;replace cy:=cy.put R oU;replace cB:=cB.put R pE;obtain⟨amE,amF,amG,amH,rfl,amI,amJ⟩:=JV.a' adq;refine ag ((qT GD rfl rfl)) (aG rfl (fv (bE oR rfl) (jZ [g4,g3] _ g3 (s9 v).2 ir (by simp) (fun a ay=>by simp at ay;rcases ay with rfl | rfl;exact bf.lt;exact ir.lt) (aaI ll) qs 2) rfl fun cK tz az=>?_));obtain⟨amK,rfl,adr,ir,R⟩:=az;replace U:=U.ne R eL;replace ah:=ah.ne R cG;replace bf:=bf.ne R (Ne.symm dk);replace E:=E.own R dE;replace F:=F.trans R;replace cy:=cy.put R oU;replace cB:=cB.put R pE;obtain⟨amL,amM,amN,amO,rfl,amP,amQ⟩:=JV.a' adr;refine ag ((qT GD rfl rfl)) (ag (av pF rfl) (dZ dN bf rfl rfl rfl (by simp) fun rQ qL=>?_));replace U:=U.ne qL.mod gD;replace ah:=ah.ne qL.mod eZ;replace E:=E.own qL.mod fL;replace F:=F.own qL.mod oS;replace cy:=cy.put qL.mod kH;replace cB:=cB.put qL.mod kI;replace bf:aE rQ g4 _ [_,_,_,_,_,_,_,_,_,_,_,_,_,_,_,_,_]:=qL.aA;replace ir:=ir.mod qL.mod (fun x ae=>by simp [List.mem_singleton.1 ae]) (fun h=>by have:=dk;simp at h;exact this h);refine ag (av pG rfl) (dZ dN bf rfl rfl rfl (by simp) fun xB vj=>?_);replace U:=U.ne vj.mod gD;replace ah:=ah.ne vj.mod eZ;replace E:=E.own vj.mod fL;replace F:=F.own vj.mod oS;replace cy:=cy.put vj.mod kH;replace cB:=cB.put vj.mod kI;replace bf:aE xB g4 _ [_,_,_,_,_,_,_,_,_,_,_,_,_,_,_,_,_]:=vj.aA;replace ir:=ir.mod vj.mod (fun x ae=>by simp [List.mem_singleton.1 ae]) (fun h=>by have:=dk;simp at h;exact this h);refine J cf (nj fun H7 b1=>?_);have o9:∀ (aB:World),oQ [g4,g3] aB g3 (lZ v).2∧aE aB g4 29 [S (s6 v).1.str,S (s7 v).1.str,S (s8 v).1.str,.bool (qq v),S (lZ v).1.str,.int .i64 (eY v).1.kind,.bool (eY v).1.is,.int .i64 (eY v).1.num,S (eY v).1.str,.slice ND (eY v).1.list.length NF,.slice NG (eY v).1.map.length NH,.slice lO (hX v).1.length qW,.slice lP (iF v).1.length qX,.int .i64 (s9 v).1.num,.int .i64 (nz v).1.num,S [],.slice none 0 0]∧Own aB 9 1 (.slice lO (hX v).1.length qW) (hX v).1.length (((hX v).1.map fun s=>[S s]).flatten)∧Own aB 9 1 (.slice lP (iF v).1.length qX) (iF v).1.length (((iF v).1.map fun s=>[S s]).flatten)∧aE aB g2 29 [S [],S [],S [],.bool false,S [],.int .i64 0,.bool false,.int .i64 0,S [],.slice none 0 0,.slice none 0 0,.slice none 0 0,.slice none 0 0,.int .i64 0,.int .i64 0,S [],.slice none 0 0]∧Mod [g3] Sb aB∧Mod [] w aB→∀ a,Has 173 [] [(2,.pointer (some ⟨g2,0,none⟩)),(3,.int .i64 0),(6,.pointer (some ⟨g3,0,none⟩)),(7,.pointer (some ⟨g4,0,none⟩))] a→H7 a aB:=by
  intro yK ox;obtain⟨ir,bf,cy,cB,ah,F,E⟩:=ox;refine b1 _ _ _ _ (ax fun cX=>ab fun cb=>aG rfl (fv (bE oR rfl) (jZ [g4,g3] _ g3 (lZ v).2 ir (by simp) (fun a ay=>by simp at ay;rcases ay with rfl | rfl;exact bf.lt;exact ir.lt) (Sc ll) mn 5) rfl fun cK Fb az=>?_));obtain⟨amR,rfl,ads,ir,R⟩:=az;replace ah:=ah.ne R cG;replace bf:=bf.ne R (Ne.symm dk);replace F:=F.trans R;replace E:=E.own R dE;replace cy:=cy.put R oU;replace cB:=cB.put R pE;obtain⟨amS,amT,adt,adu,rfl,amU,adv⟩:=JV.a' ads;obtain⟨ahN,GJ,amV⟩:∃ a c,a=adt∧c=adu:=⟨_,_,rfl,rfl⟩;obtain⟨rfl,rfl⟩:=amV;obtain⟨arW,ahO⟩:∃ x,x=Fb:=⟨_,rfl⟩;subst ahO;obtain⟨GK,GL,GM,GN,ek,amW,amX⟩:=ir;have aqS:=ek.lt;have aha:=bf.lt;have AP:=ah.lt;have ao6:=F.size;have ahO:=E.size;have ER:=Cq R';have aqT:(b7 v).1.map.length≤1000000:=(mE.GC (Sc ll) mn 5).2.2;refine ag ((qT R3 rfl rfl)) (ag (bs Tryz.underlying23 rfl) (aG rfl (J cb (eE (bX (σ:=Nat×Value) (fun⟨i,vs⟩=>[(2,.pointer (some ⟨g2,0,none⟩)),(3,.int .i64 0),(6,.pointer (some ⟨g3,0,none⟩)),(7,.pointer (some ⟨g4,0,none⟩)),(75,.slice ahN (b7 v).1.map.length GJ),(76,.int .i64 (b7 v).1.map.length),(77,.int .i64 (i:Int))]) (fun⟨i,vs⟩ aB=>i≤(b7 v).1.map.length∧Own aB 92 3 vs (ch ((b7 v).1.map.take i)).length (((ch ((b7 v).1.map.take i)).map dQ.cells).flatten)∧(∀ y∈aY vs,Sb.heap.size≤y∧y≠g4∧y∉aY (.slice lO (hX v).1.length qW)∧y∉aY (.slice lP (iF v).1.length qX))∧a8 ([g4,g3]++aY vs) aB (.ia 7 ((b7 v).1.map.map JV.hP)) (.slice ahN (b7 v).1.map.length GJ)∧a8 ([g4,g3]++aY vs) aB (.ia 6 ((b7 v).2.rest.list.map JV.D)) (.slice GK (b7 v).2.rest.list.length GL)∧a8 ([g4,g3]++aY vs) aB (.ia 7 ((b7 v).2.rest.map.map JV.hP)) (.slice GM (b7 v).2.rest.map.length GN)∧aE aB g3 103 [.int .i64 (b7 v).2.rest.kind,.bool (b7 v).2.rest.is,.int .i64 (b7 v).2.rest.num,S (b7 v).2.rest.str,.slice GK (b7 v).2.rest.list.length GL,.slice GM (b7 v).2.rest.map.length GN,.bool ((b7 v).2.bad||((b7 v).1.map.take i).any pT)]∧aE aB g4 29 [S (s6 v).1.str,S (s7 v).1.str,S (s8 v).1.str,.bool (qq v),S (lZ v).1.str,.int .i64 (eY v).1.kind,.bool (eY v).1.is,.int .i64 (eY v).1.num,S (eY v).1.str,.slice ND (eY v).1.list.length NF,.slice NG (eY v).1.map.length NH,.slice lO (hX v).1.length qW,.slice lP (iF v).1.length qX,.int .i64 (s9 v).1.num,.int .i64 (nz v).1.num,S [],vs]∧Own aB 9 1 (.slice lO (hX v).1.length qW) (hX v).1.length (((hX v).1.map fun s=>[S s]).flatten)∧Own aB 9 1 (.slice lP (iF v).1.length qX) (iF v).1.length (((iF v).1.map fun s=>[S s]).flatten)∧aE aB g2 29 [S [],S [],S [],.bool false,S [],.int .i64 0,.bool false,.int .i64 0,S [],.slice none 0 0,.slice none 0 0,.slice none 0 0,.slice none 0 0,.int .i64 0,.int .i64 0,S [],.slice none 0 0]∧Mod [g3] Sb aB∧Mod [] w aB) (fun⟨i,vs⟩=>(b7 v).1.map.length-i) (⟨0,.slice none 0 0⟩) ⟨rfl,rfl,rfl,rfl,rfl,rfl,rfl,trivial⟩ (⟨by omega,Own.nil _ _ _,by simp [aY],adv,amW,amX,by rw [List.take_zero,List.any_nil,Bool.or_false];exact ek,bf,cy,cB,ah,F,E⟩) ?_)))));rintro⟨i,vs⟩ AW ⟨hi,gQ,vk,RG,k5,k6,ek,bf,cy,cB,ah,F,E⟩;have Eb:∀ y∈aY vs,y≠g2:=fun y aZ e=>by have:=(vk y aZ).1;omega
  have z':∀ y∈aY vs,y≠g3:=fun y aZ e=>by have:=(vk y aZ).1;omega
  have Sd:∀ y∈aY vs,y≠g4:=fun y aZ=>(vk y aZ).2.1;have e5:=Mod.refl [] AW;refine ab fun cU=>ag (cL rfl rfl) (J cU (ax fun dj=>?_));refine aK rfl (fun Se=>?_) (fun Se=>?_);rotate_left
  ·have am4:i=(b7 v).1.map.length:=by omega
   subst am4;rw [List.take_length] at gQ ek;obtain⟨adC,am2,rfl,ahU,ahV⟩:=gQ.form;obtain⟨XS,Sj⟩:∃ l,l = [g4,g3]++aY (.slice adC (ch (b7 v).1.map).length am2):=⟨_,rfl⟩;have ir:oQ XS _ g3 ⟨(b7 v).2.rest,vg v⟩:=⟨_,_,_,_,ek,by rw [Sj];exact k5,by rw [Sj];exact k6⟩;have Q9:g3∈XS:=by rw [Sj];simp
   have ahW:g4∈XS:=by rw [Sj];simp
   have ahX:∀ a∈XS,a<AW.heap.size:=fun a ay=>by
    rw [Sj] at ay;rcases List.mem_append.1 ay with ay | ay
    ·simp at ay;rcases ay with rfl | rfl;exact bf.lt;exact ek.lt
    exact gQ.lt a ay
   have ahY:=JV.GP adh;refine bo (aR (by simp) (aR (by simp) (bU (au cX (ab fun hA=>aG rfl (fv (bE oR rfl) (jZ XS _ g3 ⟨(b7 v).2.rest,vg v⟩ ir Q9 ahX (mE.GF (aaB ll) _) gy 5) rfl fun cK afY az=>?_))))));obtain⟨aqV,rfl,am5,ir,R⟩:=az;replace ah:=ah.ne R cG;replace bf:=bf.ne R (Ne.symm dk);replace F:=F.trans R;replace E:=E.own R dE;replace cy:=cy.put R oU;replace cB:=cB.put R pE;replace gQ:=gQ.put R z';obtain⟨aqW,aqX,aqY,aqZ,rfl,am6,am7⟩:=JV.a' am5;have ahZ:∀ a∈XS,a<afY.heap.size:=fun a ay=>Nat.lt_of_lt_of_le (ahX a ay) R.size;refine ag ((a7 (cs:=[_,_,_,_,_,_,_]) R1 R2 rfl rfl)) ?_;have adm:=ir;refine ep rfl rfl rfl fun g8 afZ uf=>?_;have adD:=uf.le F;have OW:=uf.le E;have sM:=uf.ne ah;have XT:=uf.R9 ir.lt;have Lj:=uf.ne bf;have Sk:=uf.b4 cy;have Sl:=uf.b4 cB;have XV:=uf.b4 gQ;replace ir:=ir.I uf.mod;replace ah:=ah.I uf.mod;replace bf:=bf.I uf.mod;replace F:=F.then uf.mod;replace E:=E.then uf.mod;replace cy:=cy.I uf.mod;replace cB:=cB.I uf.mod;replace gQ:=gQ.I uf.mod;have C9:=uf.aA;replace ir:=adm.grow uf;have UL:oQ (g8::XS) _ g8 ⟨(qV v).1,false⟩:=⟨_,_,_,_,C9,am6.grow uf,am7.grow uf⟩;have ah0:∀ a∈g8::XS,a<afZ.heap.size:=fun a ay=>by
    rcases List.mem_cons.1 ay with rfl | ay
    ·exact C9.lt
    exact Nat.lt_of_lt_of_le (ahZ a ay) uf.mod.size
   refine aU rfl (J hA (ab fun hh=>aG rfl (fv (bE oR rfl) (jZ (g8::XS) _ g8 ⟨(qV v).1,false⟩ UL (by simp) ah0 (Cp _ (ahL ahY).1 (ade R').1) kG 3) rfl fun cK akj az=>?_)));obtain⟨aq0,rfl,am8,UL,R⟩:=az;replace ah:=ah.ne R sM;replace bf:=bf.ne R Lj;replace F:=F.own R adD;replace E:=E.own R OW;replace cy:=cy.put R Sk;replace cB:=cB.put R Sl;replace gQ:=gQ.put R XV;obtain⟨Ve,Vf,Vg,Vh,rfl,afC,afD⟩:=JV.a' am8;replace ir:=ir.mod R (fun x ae=>by simp [List.mem_singleton.1 ae]) (fun h=>XT (List.mem_singleton.1 h));refine ag ((qT sc rfl rfl)) (ag (av lC rfl) (dZ bB bf rfl rfl rfl (by simp) fun af0 Ed=>?_));replace ah:=ah.ne Ed.mod eZ;replace F:=F.own Ed.mod oS;replace E:=E.own Ed.mod fL;replace cy:=cy.put Ed.mod kH;replace cB:=cB.put Ed.mod kI;replace gQ:=gQ.put Ed.mod Sd;replace bf:aE af0 g4 _ [_,_,_,_,_,_,_,_,_,_,_,_,_,_,_,_,_]:=Ed.aA;replace ir:=ir.mod Ed.mod (fun x ae=>by rw [List.mem_singleton.1 ae];exact List.mem_cons_of_mem _ ahW) (fun h=>dk (List.mem_singleton.1 h));replace UL:=UL.mod Ed.mod (fun x ae=>by rw [List.mem_singleton.1 ae];exact List.mem_cons_of_mem _ ahW) (fun h=>(Ne.symm Lj) (List.mem_singleton.1 h));have wi:=R7 ll;have qf:=R8 ahY R';have NI:=XJ v;rw [XH] at ir;rw [XI] at UL;generalize (qV v).2=ae8 at ir wi NI;generalize (vh v).2=TX at UL qf NI;refine J hh (ax fun hB=>ax fun ie=>?_)
   by_cases hf:ae8.bad=true
   ·obtain⟨adE,adF,adG,adH,ek,adI,adJ⟩:=ir;obtain⟨adK,adL,adM,adN,sD,adO,adP⟩:=UL;refine bQ wide (by kernel_rfl) (f' 2 rfl rfl (aj (fun R=>(av eX rfl)) (aj (fun R=>(bg jK rfl ((ek.I R).cell rfl))) (aj (fun R=>(d' rfl)) (eF rfl (hf) (eF rfl (hf) (eF rfl (hf) (eF rfl (hf) (aj (fun R=>(lT (hf) rfl rfl)) (f' 16 rfl rfl (bS rfl fun af1 R=>?_)))))))))));replace ah:=ah.I R;replace ek:=ek.I R;replace bf:=bf.I R;replace sD:=sD.I R;replace F:=F.then R;replace E:=E.then R;replace cy:=cy.I R;replace cB:=cB.I R;replace gQ:=gQ.I R;refine au ie (aF rfl ?_);have i':lN v=21:=by unfold lN;rw [if_neg XN,if_pos (by rw [NI];first | (rw [hf];rfl) | (rw [dM hf,eV];rfl) | (rw [dM hf,dM eV,bd (show ae8.rest.map.length+TX.rest.map.length > 0 by omega)];rfl))]
    refine ab fun jO=>ag (a7 (cs:=[_,_,_,_,_,_,_,_,_,_,_,_,_,_,_,_,_]) vi oT rfl rfl) (bm (vs:=[_,_,_,_,_,_,_,_,_,_,_,_,_,_,_,_,_]) fI ah rfl rfl rfl (by simp [Value.oneCell']) (by simp) fun af2 GQ=>?_);replace ek:=ek.ne GQ.mod (Ne.symm cG);replace bf:=bf.ne GQ.mod (Ne.symm eZ);replace sD:=sD.ne GQ.mod (Ne.symm sM);replace E:=E.own GQ.mod b9;replace cy:=cy.put GQ.mod GG;replace cB:=cB.put GQ.mod GH;replace gQ:=gQ.put GQ.mod Eb;replace ah:aE af2 g2 _ [_,_,_,_,_,_,_,_,_,_,_,_,_,_,_,_,_]:=GQ.aA;exact aU rfl (J jO (ba (aR (by simp) (jn (vs:=[_,_,_,_,_,_,_,_,_,_,_,_,_,_,_,_,_]) rfl fI rfl rfl (ah.cs rfl) rfl ⟨_,by rw [i'],.inr ⟨by rw [i'];decide,rfl⟩,E⟩))))
   by_cases eV:TX.bad=true
   ·obtain⟨adE,adF,adG,adH,ek,adI,adJ⟩:=ir;obtain⟨adK,adL,adM,adN,sD,adO,adP⟩:=UL;refine bQ wide (by kernel_rfl) (f' 2 rfl rfl (aj (fun R=>(av eX rfl)) (aj (fun R=>(bg jK rfl ((ek.I R).cell rfl))) (aj (fun R=>(d' rfl)) (aM ((dM hf)) (fun R=>(d' rfl)) (aM ((dM hf)) (fun R=>(eb rfl)) (aM ((dM hf)) (fun R=>(av eX rfl)) (aM ((dM hf)) (fun R=>(bg jK rfl ((sD.I R).cell rfl))) (aj (fun R=>(jA ((dM hf)) rfl rfl)) (aj (fun R=>(d' rfl)) (eF rfl (eV) (eF rfl (eV) (eF rfl (eV) ?_)))))))))))));refine eF rfl (eV) (eF rfl (eV) (eF rfl (eV) (eF rfl (eV) (eF rfl (eV) (eF rfl (eV) (eF rfl (eV) (eF rfl (eV) (eF rfl (eV) (eF rfl (eV) (eF rfl (eV) (aj (fun R=>(lT (eV) rfl rfl)) (bS rfl fun akk R=>?_))))))))))));replace ah:=ah.I R;replace ek:=ek.I R;replace bf:=bf.I R;replace sD:=sD.I R;replace F:=F.then R;replace E:=E.then R;replace cy:=cy.I R;replace cB:=cB.I R;replace gQ:=gQ.I R;refine au ie (aF rfl ?_);have i':lN v=21:=by unfold lN;rw [if_neg XN,if_pos (by rw [NI];first | (rw [hf];rfl) | (rw [dM hf,eV];rfl) | (rw [dM hf,dM eV,bd (show ae8.rest.map.length+TX.rest.map.length > 0 by omega)];rfl))]
    refine ab fun jP=>ag (a7 (cs:=[_,_,_,_,_,_,_,_,_,_,_,_,_,_,_,_,_]) vi oT rfl rfl) (bm (vs:=[_,_,_,_,_,_,_,_,_,_,_,_,_,_,_,_,_]) fI ah rfl rfl rfl (by simp [Value.oneCell']) (by simp) fun af3 GR=>?_);replace ek:=ek.ne GR.mod (Ne.symm cG);replace bf:=bf.ne GR.mod (Ne.symm eZ);replace sD:=sD.ne GR.mod (Ne.symm sM);replace E:=E.own GR.mod b9;replace cy:=cy.put GR.mod GG;replace cB:=cB.put GR.mod GH;replace gQ:=gQ.put GR.mod Eb;replace ah:aE af3 g2 _ [_,_,_,_,_,_,_,_,_,_,_,_,_,_,_,_,_]:=GR.aA;exact aU rfl (J jP (ba (aR (by simp) (jn (vs:=[_,_,_,_,_,_,_,_,_,_,_,_,_,_,_,_,_]) rfl fI rfl rfl (ah.cs rfl) rfl ⟨_,by rw [i'],.inr ⟨by rw [i'];decide,rfl⟩,E⟩))))
   by_cases ah1:((ae8.rest.map.length:Int)+(TX.rest.map.length:Int)) > 0
   ·obtain⟨adE,adF,adG,adH,ek,adI,adJ⟩:=ir;obtain⟨adK,adL,adM,adN,sD,adO,adP⟩:=UL;refine bQ wide (by kernel_rfl) (f' 2 rfl rfl (aj (fun R=>(av eX rfl)) (aj (fun R=>(bg jK rfl ((ek.I R).cell rfl))) (aj (fun R=>(d' rfl)) (aM ((dM hf)) (fun R=>(d' rfl)) (aM ((dM hf)) (fun R=>(eb rfl)) (aM ((dM hf)) (fun R=>(av eX rfl)) (aM ((dM hf)) (fun R=>(bg jK rfl ((sD.I R).cell rfl))) (aj (fun R=>(jA ((dM hf)) rfl rfl)) (aj (fun R=>(d' rfl)) (aM ((dM eV)) (fun R=>(d' rfl)) (aM ((dM eV)) (fun R=>(eb rfl)) (aM ((dM eV)) (fun R=>(av nc rfl)) ?_)))))))))))));refine aM ((dM eV)) (fun R=>(av b5 rfl)) (aM ((dM eV)) (fun R=>(bg dz rfl ((ek.I R).cell rfl))) (aM ((dM eV)) (fun R=>(bs Tryz.underlying23 rfl)) (aM ((dM eV)) (fun R=>(d' rfl)) (aM ((dM eV)) (fun R=>(eb rfl)) (aM ((dM eV)) (fun R=>(av nc rfl)) (aM ((dM eV)) (fun R=>(av b5 rfl)) (aM ((dM eV)) (fun R=>(bg dz rfl ((sD.I R).cell rfl))) (aM ((dM eV)) (fun R=>(bs Tryz.underlying23 rfl)) (aM ((dM eV)) (fun R=>(aO rfl rfl (by omega))) (aM ((dM eV)) (fun R=>(gq rfl rfl)) (aj (fun R=>(jA ((dM eV)) rfl rfl)) (bS rfl fun af4 R=>?_))))))))))));replace ah:=ah.I R;replace ek:=ek.I R;replace bf:=bf.I R;replace sD:=sD.I R;replace F:=F.then R;replace E:=E.then R;replace cy:=cy.I R;replace cB:=cB.I R;replace gQ:=gQ.I R;refine au ie ?_;refine aK rfl (fun GS=>?_) (fun GS=>absurd ah1 GS);have i':lN v=21:=by unfold lN;rw [if_neg XN,if_pos (by rw [NI];first | (rw [hf];rfl) | (rw [dM hf,eV];rfl) | (rw [dM hf,dM eV,bd (show ae8.rest.map.length+TX.rest.map.length > 0 by omega)];rfl))]
    refine ab fun la=>ag (a7 (cs:=[_,_,_,_,_,_,_,_,_,_,_,_,_,_,_,_,_]) vi oT rfl rfl) (bm (vs:=[_,_,_,_,_,_,_,_,_,_,_,_,_,_,_,_,_]) fI ah rfl rfl rfl (by simp [Value.oneCell']) (by simp) fun af5 GU=>?_);replace ek:=ek.ne GU.mod (Ne.symm cG);replace bf:=bf.ne GU.mod (Ne.symm eZ);replace sD:=sD.ne GU.mod (Ne.symm sM);replace E:=E.own GU.mod b9;replace cy:=cy.put GU.mod GG;replace cB:=cB.put GU.mod GH;replace gQ:=gQ.put GU.mod Eb;replace ah:aE af5 g2 _ [_,_,_,_,_,_,_,_,_,_,_,_,_,_,_,_,_]:=GU.aA;exact aU rfl (J la (ba (aR (by simp) (jn (vs:=[_,_,_,_,_,_,_,_,_,_,_,_,_,_,_,_,_]) rfl fI rfl rfl (ah.cs rfl) rfl ⟨_,by rw [i'],.inr ⟨by rw [i'];decide,rfl⟩,E⟩))))
   obtain⟨adE,adF,adG,adH,ek,adI,adJ⟩:=ir;obtain⟨adK,adL,adM,adN,sD,adO,adP⟩:=UL;refine bQ wide (by kernel_rfl) (f' 2 rfl rfl (aj (fun R=>(av eX rfl)) (aj (fun R=>(bg jK rfl ((ek.I R).cell rfl))) (aj (fun R=>(d' rfl)) (aM ((dM hf)) (fun R=>(d' rfl)) (aM ((dM hf)) (fun R=>(eb rfl)) (aM ((dM hf)) (fun R=>(av eX rfl)) (aM ((dM hf)) (fun R=>(bg jK rfl ((sD.I R).cell rfl))) (aj (fun R=>(jA ((dM hf)) rfl rfl)) (aj (fun R=>(d' rfl)) (aM ((dM eV)) (fun R=>(d' rfl)) (aM ((dM eV)) (fun R=>(eb rfl)) (aM ((dM eV)) (fun R=>(av nc rfl)) ?_)))))))))))));refine aM ((dM eV)) (fun R=>(av b5 rfl)) (aM ((dM eV)) (fun R=>(bg dz rfl ((ek.I R).cell rfl))) (aM ((dM eV)) (fun R=>(bs Tryz.underlying23 rfl)) (aM ((dM eV)) (fun R=>(d' rfl)) (aM ((dM eV)) (fun R=>(eb rfl)) (aM ((dM eV)) (fun R=>(av nc rfl)) (aM ((dM eV)) (fun R=>(av b5 rfl)) (aM ((dM eV)) (fun R=>(bg dz rfl ((sD.I R).cell rfl))) (aM ((dM eV)) (fun R=>(bs Tryz.underlying23 rfl)) (aM ((dM eV)) (fun R=>(aO rfl rfl (by omega))) (aM ((dM eV)) (fun R=>(gq rfl rfl)) (aj (fun R=>(jA ((dM eV)) rfl rfl)) (bS rfl fun af6 R=>?_))))))))))));replace ah:=ah.I R;replace ek:=ek.I R;replace bf:=bf.I R;replace sD:=sD.I R;replace F:=F.then R;replace E:=E.then R;replace cy:=cy.I R;replace cB:=cB.I R;replace gQ:=gQ.I R;refine au ie (aK rfl (fun GS=>absurd GS ah1) (fun GS=>?_));have adQ:lN v=(h7 v).qt:=by unfold lN;rw [if_neg XN,if_neg (by rw [NI,dM hf,dM eV,bJ (show ¬ ae8.rest.map.length+TX.rest.map.length > 0 by omega)];simp)]
   refine b8 (au hB (ax fun jc=>ax fun kx=>?_));have XW:=Mod.refl [] af6;have NJ:=adi.toM F (by simp);have NK:=amf.toM F (by simp);have RE:ao [] _ (h7 v).D [S (s6 v).1.str,S (s7 v).1.str,S (s8 v).1.str,.bool (qq v),S (lZ v).1.str,.int .i64 (eY v).1.kind,.bool (eY v).1.is,.int .i64 (eY v).1.num,S (eY v).1.str,.slice ND (eY v).1.list.length NF,.slice NG (eY v).1.map.length NH,.slice lO (hX v).1.length qW,.slice lP (iF v).1.length qX,.int .i64 (s9 v).1.num,.int .i64 (nz v).1.num,S (vh v).1.str,.slice adC (ch (b7 v).1.map).length am2]:=EV.cz (e:=h7 v) (JV.cz (v:=(eY v).1) (NJ.e6 (by simp)) (NK.e6 (by simp))) (Own.strs [] cy (by simp)) (Own.strs [] cB (by simp)) (NC gQ);refine bP (ag (bc (vs:=[_,_,_,_,_,_,_,_,_,_,_,_,_,_,_,_,_]) fI rfl rfl (bf.cs rfl)) (cQ (bE Sm rfl) (GV _ (h7 v) _ RE (XX R') (NL R') (jR.mod E (by simp)) (eW.I E)) fun af7 R=>?_));replace ah:=ah.I R;replace ek:=ek.I R;replace bf:=bf.I R;replace sD:=sD.I R;replace F:=F.then R;replace E:=E.then R;replace XW:=XW.then R;replace cy:=cy.I R;replace cB:=cB.I R;replace gQ:=gQ.I R;refine aU rfl (J kx (ab fun lb=>ak 2 rfl (J lb ?_)));refine aK rfl (fun Sn=>?_) (fun Sn=>?_)
   ·refine ab fun jQ=>ag (a7 (cs:=[_,_,_,_,_,_,_,_,_,_,_,_,_,_,_,_,_]) vi oT rfl rfl) (aG rfl (bm (vs:=[_,_,_,_,_,_,_,_,_,_,_,_,_,_,_,_,_]) fI ah rfl rfl rfl (by simp [Value.oneCell']) (by simp) fun af8 GW=>?_));replace ek:=ek.ne GW.mod (Ne.symm cG);replace bf:=bf.ne GW.mod (Ne.symm eZ);replace sD:=sD.ne GW.mod (Ne.symm sM);replace E:=E.own GW.mod b9;replace cy:=cy.put GW.mod GG;replace cB:=cB.put GW.mod GH;replace gQ:=gQ.put GW.mod Eb;replace ah:aE af8 g2 _ [_,_,_,_,_,_,_,_,_,_,_,_,_,_,_,_,_]:=GW.aA;exact aU rfl (J jQ (ba (aR (by simp) (jn (vs:=[_,_,_,_,_,_,_,_,_,_,_,_,_,_,_,_,_]) rfl fI rfl rfl (ah.cs rfl) rfl ⟨_,by rw [adQ],.inr ⟨by rw [adQ];exact Sn,rfl⟩,E⟩))))
   refine b8 (au jc (ab fun mM=>ag (bc (vs:=[_,_,_,_,_,_,_,_,_,_,_,_,_,_,_,_,_]) fI rfl rfl (bf.cs rfl)) ?_));replace NJ:=NJ.bG XW;replace NK:=NK.bG XW;refine bm (vs:=[_,_,_,_,_,_,_,_,_,_,_,_,_,_,_,_,_]) fI ah rfl rfl rfl (by simp [Value.oneCell']) (by simp) fun am9 Bm=>?_;replace ek:=ek.ne Bm.mod (Ne.symm cG);replace bf:=bf.ne Bm.mod (Ne.symm eZ);replace sD:=sD.ne Bm.mod (Ne.symm sM);replace E:=E.own Bm.mod b9;replace cy:=cy.put Bm.mod GG;replace cB:=cB.put Bm.mod GH;replace gQ:=gQ.put Bm.mod Eb;replace ah:aE am9 g2 _ [_,_,_,_,_,_,_,_,_,_,_,_,_,_,_,_,_]:=Bm.aA;have ah2:lN v=0:=adQ.trans (Classical.not_not.1 Sn);replace NJ:=NJ.toM Bm.mod (fun a ay=>by simp [List.mem_singleton.1 ay]);replace NK:=NK.toM Bm.mod (fun a ay=>by simp [List.mem_singleton.1 ay]);exact aU rfl (J mM (ba (jn (vs:=[_,_,_,_,_,_,_,_,_,_,_,_,_,_,_,_,_]) rfl fI rfl rfl (ah.cs rfl) rfl ⟨_,by rw [ah2];rfl,ny.mk ah2 (JV.cz (v:=(eY v).1) (NJ.e6 (fun x ae=>by simp [ae])) (NK.e6 (fun x ae=>by simp [ae]))) cy cB gQ amg amh (fun x ae=>Nat.le_trans XO (vk x ae).1),E⟩)))
  obtain⟨x,bO⟩:∃ y,(b7 v).1.map[i]? = some y:=⟨_,List.getElem?_eq_getElem (by omega)⟩;obtain⟨j6,k7,dL,eg,cu⟩:=JV.kf RG bO;obtain⟨jI,jJ,ja,h3,rfl,k8,lr⟩:=JV.a' eg;obtain rfl:=dL;obtain⟨ahP,ao7⟩:=R5 bO;have EO:x.2.map.length≤65536:=by
   have e2:(ch (b7 v).1.map).length≤65536:=ER;omega
  refine b8 (au dj (ax fun dO=>eE (ab fun eH=>ag (ca cP rfl rfl (by omega)) (ag (bc jM rfl rfl cu) (bp ev rfl fun g5 Wj fx=>?_)))));have adw:=fx.le F;have ou:=fx.le E;have sK:=fx.le e5;have pe:=fx.ne ah;have iO:=fx.ne ek;have pf:=fx.ne bf;have Sf:=fx.b4 cy;have Sg:=fx.b4 cB;have yc:=fx.b4 gQ;replace ah:=ah.I fx.mod;replace ek:=ek.I fx.mod;replace bf:=bf.I fx.mod;replace F:=F.then fx.mod;replace E:=E.then fx.mod;replace e5:=e5.then fx.mod;replace cy:=cy.I fx.mod;replace cB:=cB.I fx.mod;replace gQ:=gQ.I fx.mod;have dH:=fx.aA;refine bm (vs:=[_,_,_,_,_,_,_]) jM dH rfl rfl rfl (by simp [Value.oneCell']) (by simp) fun Ie Bk=>?_;replace ah:=ah.ne Bk.mod pe;replace ek:=ek.ne Bk.mod iO;replace bf:=bf.ne Bk.mod pf;replace F:=F.own Bk.mod adw;replace E:=E.own Bk.mod ou;replace e5:=e5.own Bk.mod sK;replace cy:=cy.put Bk.mod Sf;replace cB:=cB.put Bk.mod Sg;replace gQ:=gQ.put Bk.mod yc;replace dH:aE Ie g5 _ [_,_,_,_,_,_,_]:=Bk.aA;refine J eH (nj fun amY ee=>?_);have adx:∀ (aB:World),(∀ y∈aY vs,y≠g5)∧Own aB 92 3 vs (ch ((b7 v).1.map.take i)).length (((ch ((b7 v).1.map.take i)).map dQ.cells).flatten)∧(∀ y∈aY vs,Sb.heap.size≤y∧y≠g4∧y∉aY (.slice lO (hX v).1.length qW)∧y∉aY (.slice lP (iF v).1.length qX))∧a8 ([g4,g3]++aY vs) aB (.ia 7 ((b7 v).1.map.map JV.hP)) (.slice (some j6) (b7 v).1.map.length GJ)∧a8 ([g4,g3]++aY vs) aB (.ia 6 ((b7 v).2.rest.list.map JV.D)) (.slice GK (b7 v).2.rest.list.length GL)∧a8 ([g4,g3]++aY vs) aB (.ia 7 ((b7 v).2.rest.map.map JV.hP)) (.slice GM (b7 v).2.rest.map.length GN)∧a8 ([g4,g3]++aY vs) aB (.ia 7 (x.2.map.map JV.hP)) (.slice ja x.2.map.length h3)∧aE aB g3 103 [.int .i64 (b7 v).2.rest.kind,.bool (b7 v).2.rest.is,.int .i64 (b7 v).2.rest.num,S (b7 v).2.rest.str,.slice GK (b7 v).2.rest.list.length GL,.slice GM (b7 v).2.rest.map.length GN,.bool (((b7 v).2.bad||((b7 v).1.map.take i).any pT)||(decide (x.2.map.length=0)||(x.2.map.take 0).any fun q=>decide (q.2.kind≠3)))]∧aE aB g5 51 [S x.1,.int .i64 x.2.kind,.bool x.2.is,.int .i64 x.2.num,S x.2.str,.slice jI x.2.list.length jJ,.slice ja x.2.map.length h3]∧aE aB g4 29 [S (s6 v).1.str,S (s7 v).1.str,S (s8 v).1.str,.bool (qq v),S (lZ v).1.str,.int .i64 (eY v).1.kind,.bool (eY v).1.is,.int .i64 (eY v).1.num,S (eY v).1.str,.slice ND (eY v).1.list.length NF,.slice NG (eY v).1.map.length NH,.slice lO (hX v).1.length qW,.slice lP (iF v).1.length qX,.int .i64 (s9 v).1.num,.int .i64 (nz v).1.num,S [],vs]∧Own aB 9 1 (.slice lO (hX v).1.length qW) (hX v).1.length (((hX v).1.map fun s=>[S s]).flatten)∧Own aB 9 1 (.slice lP (iF v).1.length qX) (iF v).1.length (((iF v).1.map fun s=>[S s]).flatten)∧aE aB g2 29 [S [],S [],S [],.bool false,S [],.int .i64 0,.bool false,.int .i64 0,S [],.slice none 0 0,.slice none 0 0,.slice none 0 0,.slice none 0 0,.int .i64 0,.int .i64 0,S [],.slice none 0 0]∧Mod [g3] Sb aB∧Mod [] w aB→∀ a,Has 173 [] [(2,.pointer (some ⟨g2,0,none⟩)),(3,.int .i64 0),(6,.pointer (some ⟨g3,0,none⟩)),(7,.pointer (some ⟨g4,0,none⟩)),(75,.slice (some j6) (b7 v).1.map.length GJ),(76,.int .i64 (b7 v).1.map.length),(77,.int .i64 (i:Int)),(11,.pointer (some ⟨g5,0,none⟩))] a→amY a aB:=by
   intro Wk ox;obtain⟨GO,gQ,vk,RG,k5,k6,lr,ek,dH,bf,cy,cB,ah,F,E⟩:=ox;have Eb:∀ y∈aY vs,y≠g2:=fun y aZ e=>by have:=(vk y aZ).1;omega
   have z':∀ y∈aY vs,y≠g3:=fun y aZ e=>by have:=(vk y aZ).1;omega
   have Sd:∀ y∈aY vs,y≠g4:=fun y aZ=>(vk y aZ).2.1;have e5:=Mod.refl [] Wk;refine ee _ _ _ _ (ab fun fE=>ag (av h8 rfl) (ag (xm b5 rfl) (ag (bg dz rfl (dH.cell rfl)) (ag (bs Tryz.underlying23 rfl) (aG rfl (J fE (eE (bX (σ:=Nat×Value) (fun⟨j,vs⟩=>[(2,.pointer (some ⟨g2,0,none⟩)),(3,.int .i64 0),(6,.pointer (some ⟨g3,0,none⟩)),(7,.pointer (some ⟨g4,0,none⟩)),(75,.slice (some j6) (b7 v).1.map.length GJ),(76,.int .i64 (b7 v).1.map.length),(77,.int .i64 (i:Int)),(11,.pointer (some ⟨g5,0,none⟩)),(97,.slice ja x.2.map.length h3),(98,.int .i64 x.2.map.length),(99,.int .i64 (j:Int))]) (fun⟨j,vs⟩ aB=>j≤x.2.map.length∧(∀ y∈aY vs,y≠g5)∧Own aB 92 3 vs ((ch ((b7 v).1.map.take i)++(fq x).take j)).length ((((ch ((b7 v).1.map.take i)++(fq x).take j)).map dQ.cells).flatten)∧(∀ y∈aY vs,Sb.heap.size≤y∧y≠g4∧y∉aY (.slice lO (hX v).1.length qW)∧y∉aY (.slice lP (iF v).1.length qX))∧a8 ([g4,g3]++aY vs) aB (.ia 7 ((b7 v).1.map.map JV.hP)) (.slice (some j6) (b7 v).1.map.length GJ)∧a8 ([g4,g3]++aY vs) aB (.ia 6 ((b7 v).2.rest.list.map JV.D)) (.slice GK (b7 v).2.rest.list.length GL)∧a8 ([g4,g3]++aY vs) aB (.ia 7 ((b7 v).2.rest.map.map JV.hP)) (.slice GM (b7 v).2.rest.map.length GN)∧a8 ([g4,g3]++aY vs) aB (.ia 7 (x.2.map.map JV.hP)) (.slice ja x.2.map.length h3)∧aE aB g3 103 [.int .i64 (b7 v).2.rest.kind,.bool (b7 v).2.rest.is,.int .i64 (b7 v).2.rest.num,S (b7 v).2.rest.str,.slice GK (b7 v).2.rest.list.length GL,.slice GM (b7 v).2.rest.map.length GN,.bool (((b7 v).2.bad||((b7 v).1.map.take i).any pT)||(decide (x.2.map.length=0)||(x.2.map.take j).any fun q=>decide (q.2.kind≠3)))]∧aE aB g5 51 [S x.1,.int .i64 x.2.kind,.bool x.2.is,.int .i64 x.2.num,S x.2.str,.slice jI x.2.list.length jJ,.slice ja x.2.map.length h3]∧aE aB g4 29 [S (s6 v).1.str,S (s7 v).1.str,S (s8 v).1.str,.bool (qq v),S (lZ v).1.str,.int .i64 (eY v).1.kind,.bool (eY v).1.is,.int .i64 (eY v).1.num,S (eY v).1.str,.slice ND (eY v).1.list.length NF,.slice NG (eY v).1.map.length NH,.slice lO (hX v).1.length qW,.slice lP (iF v).1.length qX,.int .i64 (s9 v).1.num,.int .i64 (nz v).1.num,S [],vs]∧Own aB 9 1 (.slice lO (hX v).1.length qW) (hX v).1.length (((hX v).1.map fun s=>[S s]).flatten)∧Own aB 9 1 (.slice lP (iF v).1.length qX) (iF v).1.length (((iF v).1.map fun s=>[S s]).flatten)∧aE aB g2 29 [S [],S [],S [],.bool false,S [],.int .i64 0,.bool false,.int .i64 0,S [],.slice none 0 0,.slice none 0 0,.slice none 0 0,.slice none 0 0,.int .i64 0,.int .i64 0,S [],.slice none 0 0]∧Mod [g3] Sb aB∧Mod [] w aB) (fun⟨j,vs⟩=>x.2.map.length-j) (⟨0,vs⟩) ⟨rfl,rfl,rfl,rfl,rfl,rfl,rfl,rfl,rfl,rfl,rfl,trivial⟩ (⟨by omega,GO,by simpa using gQ,vk,RG.bG e5,k5.bG e5,k6.bG e5,lr.bG e5,ek,dH,bf,cy,cB,ah,F,E⟩) ?_))))))));rintro⟨j,vs⟩ L8 ⟨dY,GO,gQ,vk,RG,k5,k6,lr,ek,dH,bf,cy,cB,ah,F,E⟩;have Eb:∀ y∈aY vs,y≠g2:=fun y aZ e=>by have:=(vk y aZ).1;omega
   have z':∀ y∈aY vs,y≠g3:=fun y aZ e=>by have:=(vk y aZ).1;omega
   have Sd:∀ y∈aY vs,y≠g4:=fun y aZ=>(vk y aZ).2.1;have e5:=Mod.refl [] L8;refine ab fun fT=>ag (cL rfl rfl) (J fT (ax fun fF=>?_));refine aK rfl (fun ahQ=>?_) (fun ahQ=>?_);rotate_left
   ·have adb:j=x.2.map.length:=by omega
    subst adb;have am3:((b7 v).2.bad||((b7 v).1.map.take (i+1)).any pT)=(((b7 v).2.bad||((b7 v).1.map.take i).any pT)||(decide (x.2.map.length=0)||(x.2.map.take x.2.map.length).any fun q=>decide (q.2.kind≠3))):=by
     have h1:(b7 v).1.map.take (i+1)=(b7 v).1.map.take i ++ [x]:=by rw [List.take_succ_eq_append_getElem (by omega),(List.getElem?_eq_some_iff.1 bO).2]
     rw [h1,List.any_append,List.take_length,Bool.or_assoc,List.any_cons,List.any_nil,Bool.or_false];rfl
    rw [show(fq x).take x.2.map.length=fq x from List.take_of_length_le (by simp [fq])] at gQ;exact bo (aR (by simp) (aR (by simp) (bU (bz (by simp) (au dO (bP (ag (aO rfl rfl (by omega)) (aG rfl (cF (fK (σ:=Nat×Value) (s:=⟨i,vs⟩) (⟨i+1,vs⟩) ⟨rfl,rfl,rfl,rfl,rfl,rfl,rfl,trivial⟩ ⟨by omega,by rw [ahP];exact gQ,vk,RG.bG e5,k5.bG e5,k6.bG e5,by rw [am3];exact ek,bf,cy,cB,ah,F,E⟩ (by dsimp only;omega)))))))))))
   obtain⟨q,jx⟩:∃ y,x.2.map[j]? = some y:=⟨_,List.getElem?_eq_getElem (by omega)⟩;obtain⟨Ig,ZX,uz,O4,iW⟩:=JV.kf lr jx;obtain⟨O5,O6,O7,O8,rfl,ZY,aqU⟩:=JV.a' O4;obtain rfl:=uz;have ahR:=NB jx;have ady:x.2.map.take (j+1)=x.2.map.take j ++ [q]:=by rw [List.take_succ_eq_append_getElem (by omega),(List.getElem?_eq_some_iff.1 jx).2]
   have ao8:(fq x).length=x.2.map.length:=by simp [fq]
   have ao9:((ch ((b7 v).1.map.take i)++(fq x).take j)).length≤65535:=by
    have e2:(ch (b7 v).1.map).length≤65536:=ER;rw [List.length_append,List.length_take];omega
   refine b8 (au fF (ax fun fG=>eE (ab fun gU=>ag (ca cP rfl rfl (by omega)) (ag (bc jM rfl rfl iW) (bp ev rfl fun g6 O0 j7=>?_)))));have adz:=j7.le F;have tv:=j7.le E;have Ec:=j7.le e5;have yd:=j7.ne ah;have sL:=j7.ne ek;have XP:=j7.ne bf;have Kj:=j7.ne dH;have Sh:=j7.b4 cy;have Si:=j7.b4 cB;have XQ:=j7.b4 gQ;replace ah:=ah.I j7.mod;replace ek:=ek.I j7.mod;replace bf:=bf.I j7.mod;replace dH:=dH.I j7.mod;replace F:=F.then j7.mod;replace E:=E.then j7.mod;replace e5:=e5.then j7.mod;replace cy:=cy.I j7.mod;replace cB:=cB.I j7.mod;replace gQ:=gQ.I j7.mod;have iP:=j7.aA;refine bm (vs:=[_,_,_,_,_,_,_]) jM iP rfl rfl rfl (by simp [Value.oneCell']) (by simp) fun L9 Aa=>?_;replace ah:=ah.ne Aa.mod yd;replace ek:=ek.ne Aa.mod sL;replace bf:=bf.ne Aa.mod XP;replace dH:=dH.ne Aa.mod Kj;replace F:=F.own Aa.mod adz;replace E:=E.own Aa.mod tv;replace e5:=e5.own Aa.mod Ec;replace cy:=cy.put Aa.mod Sh;replace cB:=cB.put Aa.mod Si;replace gQ:=gQ.put Aa.mod XQ;replace iP:aE L9 g6 _ [_,_,_,_,_,_,_]:=Aa.aA;refine J gU (nj fun amZ hg=>?_);have adA:∀ (aB:World),(∀ y∈aY vs,y≠g5)∧Own aB 92 3 vs ((ch ((b7 v).1.map.take i)++(fq x).take j)).length ((((ch ((b7 v).1.map.take i)++(fq x).take j)).map dQ.cells).flatten)∧(∀ y∈aY vs,Sb.heap.size≤y∧y≠g4∧y∉aY (.slice lO (hX v).1.length qW)∧y∉aY (.slice lP (iF v).1.length qX))∧a8 ([g4,g3]++aY vs) aB (.ia 7 ((b7 v).1.map.map JV.hP)) (.slice (some j6) (b7 v).1.map.length GJ)∧a8 ([g4,g3]++aY vs) aB (.ia 6 ((b7 v).2.rest.list.map JV.D)) (.slice GK (b7 v).2.rest.list.length GL)∧a8 ([g4,g3]++aY vs) aB (.ia 7 ((b7 v).2.rest.map.map JV.hP)) (.slice GM (b7 v).2.rest.map.length GN)∧a8 ([g4,g3]++aY vs) aB (.ia 7 (x.2.map.map JV.hP)) (.slice (some Ig) x.2.map.length h3)∧aE aB g3 103 [.int .i64 (b7 v).2.rest.kind,.bool (b7 v).2.rest.is,.int .i64 (b7 v).2.rest.num,S (b7 v).2.rest.str,.slice GK (b7 v).2.rest.list.length GL,.slice GM (b7 v).2.rest.map.length GN,.bool (((b7 v).2.bad||((b7 v).1.map.take i).any pT)||(decide (x.2.map.length=0)||(x.2.map.take (j+1)).any fun q=>decide (q.2.kind≠3)))]∧aE aB g5 51 [S x.1,.int .i64 x.2.kind,.bool x.2.is,.int .i64 x.2.num,S x.2.str,.slice jI x.2.list.length jJ,.slice (some Ig) x.2.map.length h3]∧aE aB g6 51 [S q.1,.int .i64 q.2.kind,.bool q.2.is,.int .i64 q.2.num,S q.2.str,.slice O5 q.2.list.length O6,.slice O7 q.2.map.length O8]∧aE aB g4 29 [S (s6 v).1.str,S (s7 v).1.str,S (s8 v).1.str,.bool (qq v),S (lZ v).1.str,.int .i64 (eY v).1.kind,.bool (eY v).1.is,.int .i64 (eY v).1.num,S (eY v).1.str,.slice ND (eY v).1.list.length NF,.slice NG (eY v).1.map.length NH,.slice lO (hX v).1.length qW,.slice lP (iF v).1.length qX,.int .i64 (s9 v).1.num,.int .i64 (nz v).1.num,S [],vs]∧Own aB 9 1 (.slice lO (hX v).1.length qW) (hX v).1.length (((hX v).1.map fun s=>[S s]).flatten)∧Own aB 9 1 (.slice lP (iF v).1.length qX) (iF v).1.length (((iF v).1.map fun s=>[S s]).flatten)∧aE aB g2 29 [S [],S [],S [],.bool false,S [],.int .i64 0,.bool false,.int .i64 0,S [],.slice none 0 0,.slice none 0 0,.slice none 0 0,.slice none 0 0,.int .i64 0,.int .i64 0,S [],.slice none 0 0]∧Mod [g3] Sb aB∧Mod [] w aB→∀ a,Has 173 [] [(2,.pointer (some ⟨g2,0,none⟩)),(3,.int .i64 0),(6,.pointer (some ⟨g3,0,none⟩)),(7,.pointer (some ⟨g4,0,none⟩)),(75,.slice (some j6) (b7 v).1.map.length GJ),(76,.int .i64 (b7 v).1.map.length),(77,.int .i64 (i:Int)),(11,.pointer (some ⟨g5,0,none⟩)),(13,.pointer (some ⟨g6,0,none⟩)),(97,.slice (some Ig) x.2.map.length h3),(98,.int .i64 x.2.map.length),(99,.int .i64 (j:Int))] a→amZ a aB:=by
    intro O1 ox;obtain⟨GO,gQ,vk,RG,k5,k6,lr,ek,dH,iP,bf,cy,cB,ah,F,E⟩:=ox;have Eb:∀ y∈aY vs,y≠g2:=fun y aZ e=>by have:=(vk y aZ).1;omega
    have z':∀ y∈aY vs,y≠g3:=fun y aZ e=>by have:=(vk y aZ).1;omega
    have Sd:∀ y∈aY vs,y≠g4:=fun y aZ=>(vk y aZ).2.1;have e5:=Mod.refl [] O1;refine hg _ _ _ _ (bP (ag (av dC rfl) (ag (bg hK rfl (bf.cell rfl)) (ag (av eA rfl) (ag (bg bB rfl (dH.cell rfl)) (ag (av eA rfl) (ag (bg bB rfl (iP.cell rfl)) (ag (av h8 rfl) (ag (xm jt rfl) (ag (bg bB rfl (iP.cell rfl)) (ag (a7 (cs:=[_,_,_]) ahK Ab rfl rfl) (bC (cs:=[_,_,_]) hj Ab rfl rfl rfl (by decide) rfl fun g7 O3 o6=>?_))))))))))));have am0:=o6.le F;have H8:=o6.le E;have Lf:=o6.le e5;have Lg:=o6.ne ah;have Lh:=o6.ne ek;have ajI:=o6.ne bf;have ajJ:=o6.ne dH;have Li:=o6.ne iP;have ahS:=o6.b4 cy;have ahT:=o6.b4 cB;have ajK:=o6.b4 gQ;replace ah:=ah.I o6.mod;replace ek:=ek.I o6.mod;replace bf:=bf.I o6.mod;replace dH:=dH.I o6.mod;replace iP:=iP.I o6.mod;replace F:=F.then o6.mod;replace E:=E.then o6.mod;replace e5:=e5.then o6.mod;replace cy:=cy.I o6.mod;replace cB:=cB.I o6.mod;replace gQ:=gQ.I o6.mod;have xA:=o6.aA;refine bq hj rfl rfl gQ (Src.own Tryz.underlying27 (Own.all (cs:=[_,_,_]) xA rfl (by omega)) (by simp [Value.oneCell'])) (by decide) (by omega) (by omega) rfl fun adB Fi ez=>?_;have qw:Own Fi 92 3 adB ((ch ((b7 v).1.map.take i)++(fq x).take (j+1))).length ((((ch ((b7 v).1.map.take i)++(fq x).take (j+1))).map dQ.cells).flatten):=ez.own.same (by rw [ahR];simp [Nat.add_assoc]) (by rw [ahR];simp [dQ.cells]);have IW:∀ y∈aY adB,Sb.heap.size≤y∧y≠g4∧y∉aY (.slice lO (hX v).1.length qW)∧y∉aY (.slice lP (iF v).1.length qX):=fun y aZ=>(ez.lX y aZ).elim (vk y) (fun h=>⟨Nat.le_trans F.size h,fun e=>by have:=bf.lt;omega,fun hu=>by have:=cy.lt y hu;omega,fun hu=>by have:=cB.lt y hu;omega⟩);have am1:∀ y∈aY adB,y≠g5:=fun y aZ=>(ez.lX y aZ).elim (GO y) (fun h e=>by have:=dH.lt;omega);replace RG:=rj.tc ez (RG.bG e5);replace k5:=rj.tc ez (k5.bG e5);replace k6:=rj.tc ez (k6.bG e5);replace lr:=rj.tc ez (lr.bG e5);replace ek:=ek.mod ez.mod (fun h=>z' _ h rfl);replace dH:=dH.mod ez.mod (fun h=>GO _ h rfl);replace bf:=bf.mod ez.mod (fun h=>Sd _ h rfl);replace ah:=ah.mod ez.mod (fun h=>Eb _ h rfl);replace F:=F.trans' ez.mod (fun y aZ=>.inr (vk y aZ).1);replace E:=E.trans' ez.mod (fun y aZ=>.inr (Nat.le_trans XO (vk y aZ).1));replace cy:=cy.mod ez.mod (fun y aZ h=>(vk y h).2.2.1 aZ);replace cB:=cB.mod ez.mod (fun y aZ h=>(vk y h).2.2.2 aZ);obtain⟨adC,am2,rfl,ahU,ahV⟩:=qw.form;have e5:=Mod.refl [] Fi;refine ag (av dC rfl) (dZ hK bf rfl rfl rfl (by simp) fun L' Bl=>?_);replace ah:=ah.ne Bl.mod eZ;replace ek:=ek.ne Bl.mod dk;replace dH:=dH.ne Bl.mod (Ne.symm pf);replace F:=F.own Bl.mod oS;replace E:=E.own Bl.mod fL;replace cy:=cy.put Bl.mod kH;replace cB:=cB.put Bl.mod kI;replace bf:aE L' g4 _ [_,_,_,_,_,_,_,_,_,_,_,_,_,_,_,_,_]:=Bl.aA;replace qw:=qw.put Bl.mod (fun y aZ=>(IW y aZ).2.1);have XR:=Bl.mod;have ajL:∀ (l:List Nat) (y:Nat),y∈[g4]→y∈[g4,g3]++l:=fun l y aZ=>by simp [List.mem_singleton.1 aZ]
    exact cF (bz (by simp) (au fG (bP (ag (aO rfl rfl (by omega)) (aG rfl (cF (fK (σ:=Nat×Value) (s:=⟨j,vs⟩) (⟨j+1,_⟩) ⟨rfl,rfl,rfl,rfl,rfl,rfl,rfl,rfl,rfl,rfl,rfl,trivial⟩ ⟨by omega,am1,qw,IW,RG.toM XR (ajL _),k5.toM XR (ajL _),k6.toM XR (ajL _),lr.toM XR (ajL _),ek,dH,bf,cy,cB,ah,F,E⟩ (by dsimp only;omega))))))))
   replace RG:=RG.bG e5;replace k5:=k5.bG e5;replace k6:=k6.bG e5;replace lr:=lr.bG e5;refine bP (ak 3 rfl (ag (av eX rfl) (ag (bg jK rfl (ek.cell rfl)) ?_)));refine AJ (fun aQ:((((b7 v).2.bad||((b7 v).1.map.take i).any pT)||(decide (x.2.map.length=0)||(x.2.map.take j).any fun q=>decide (q.2.kind≠3))))=true=>?_) (fun aQ=>?_)
   ·have wb:(((b7 v).2.bad||((b7 v).1.map.take i).any pT)||(decide (x.2.map.length=0)||(x.2.map.take (j+1)).any fun q=>decide (q.2.kind≠3)))=true:=by rw [ady,List.any_append,← Bool.or_assoc,← Bool.or_assoc,Bool.or_assoc ((b7 v).2.bad||((b7 v).1.map.take i).any pT),aQ];simp
    refine ak 7 rfl (ag (av eX rfl) (dZ jK ek rfl rfl rfl (by simp) fun Ma vl=>?_));replace ah:=ah.ne vl.mod cG;replace bf:=bf.ne vl.mod (Ne.symm dk);replace dH:=dH.ne vl.mod (Ne.symm iO);replace iP:=iP.ne vl.mod (Ne.symm sL);replace F:=F.trans vl.mod;replace E:=E.own vl.mod dE;replace cy:=cy.put vl.mod oU;replace cB:=cB.put vl.mod pE;replace gQ:=gQ.put vl.mod z';replace ek:aE Ma g3 _ [_,_,_,_,_,_,_]:=vl.aA;replace RG:=RG.toM vl.mod (fun a ay=>by simp [List.mem_singleton.1 ay]);replace k5:=k5.toM vl.mod (fun a ay=>by simp [List.mem_singleton.1 ay]);replace k6:=k6.toM vl.mod (fun a ay=>by simp [List.mem_singleton.1 ay]);replace lr:=lr.toM vl.mod (fun a ay=>by simp [List.mem_singleton.1 ay]);have e5:=Mod.refl [] Ma;refine cF ?_;refine fB.sub (l':=[(2,_),(3,_),(6,_),(7,_),(75,_),(76,_),(77,_),(11,_),(13,_),(97,_),(98,_),(99,_)]) ⟨rfl,rfl,rfl,rfl,rfl,rfl,rfl,rfl,rfl,rfl,rfl,rfl,trivial⟩ (dT (adA Ma ⟨GO,gQ,vk,RG,k5,k6,lr,by rw [wb];exact ek,dH,iP,bf,cy,cB,ah,F,E⟩))
   refine aG rfl (aw (av h8 rfl) (aw (xm hz rfl) (aw (bg dN rfl (iP.cell rfl)) (aw (fj rfl rfl) ?_))));refine da (fun hk:q.2.kind≠3=>?_) (fun hk=>?_);rotate_left
   ·have wb:(((b7 v).2.bad||((b7 v).1.map.take i).any pT)||(decide (x.2.map.length=0)||(x.2.map.take (j+1)).any fun q=>decide (q.2.kind≠3)))=false:=by rw [ady,List.any_append,← Bool.or_assoc,← Bool.or_assoc,Bool.or_assoc ((b7 v).2.bad||((b7 v).1.map.take i).any pT),aQ];simp [Classical.not_not.1 hk]
    refine ak 2 rfl (ag (av eX rfl) (dZ jK ek rfl rfl rfl (by simp) fun Wn vn=>?_));replace ah:=ah.ne vn.mod cG;replace bf:=bf.ne vn.mod (Ne.symm dk);replace dH:=dH.ne vn.mod (Ne.symm iO);replace iP:=iP.ne vn.mod (Ne.symm sL);replace F:=F.trans vn.mod;replace E:=E.own vn.mod dE;replace cy:=cy.put vn.mod oU;replace cB:=cB.put vn.mod pE;replace gQ:=gQ.put vn.mod z';replace ek:aE Wn g3 _ [_,_,_,_,_,_,_]:=vn.aA;replace RG:=RG.toM vn.mod (fun a ay=>by simp [List.mem_singleton.1 ay]);replace k5:=k5.toM vn.mod (fun a ay=>by simp [List.mem_singleton.1 ay]);replace k6:=k6.toM vn.mod (fun a ay=>by simp [List.mem_singleton.1 ay]);replace lr:=lr.toM vn.mod (fun a ay=>by simp [List.mem_singleton.1 ay]);have e5:=Mod.refl [] Wn;refine cF ?_;refine fB.sub (l':=[(2,_),(3,_),(6,_),(7,_),(75,_),(76,_),(77,_),(11,_),(13,_),(97,_),(98,_),(99,_)]) ⟨rfl,rfl,rfl,rfl,rfl,rfl,rfl,rfl,rfl,rfl,rfl,rfl,trivial⟩ (dT (adA Wn ⟨GO,gQ,vk,RG,k5,k6,lr,by rw [wb];exact ek,dH,iP,bf,cy,cB,ah,F,E⟩))
   have wb:(((b7 v).2.bad||((b7 v).1.map.take i).any pT)||(decide (x.2.map.length=0)||(x.2.map.take (j+1)).any fun q=>decide (q.2.kind≠3)))=true:=by rw [ady,List.any_append,← Bool.or_assoc,← Bool.or_assoc,Bool.or_assoc ((b7 v).2.bad||((b7 v).1.map.take i).any pT),aQ];simp [hk]
   refine ak 2 rfl (ag (av eX rfl) (dZ jK ek rfl rfl rfl (by simp) fun Mb vm=>?_));replace ah:=ah.ne vm.mod cG;replace bf:=bf.ne vm.mod (Ne.symm dk);replace dH:=dH.ne vm.mod (Ne.symm iO);replace iP:=iP.ne vm.mod (Ne.symm sL);replace F:=F.trans vm.mod;replace E:=E.own vm.mod dE;replace cy:=cy.put vm.mod oU;replace cB:=cB.put vm.mod pE;replace gQ:=gQ.put vm.mod z';replace ek:aE Mb g3 _ [_,_,_,_,_,_,_]:=vm.aA;replace RG:=RG.toM vm.mod (fun a ay=>by simp [List.mem_singleton.1 ay]);replace k5:=k5.toM vm.mod (fun a ay=>by simp [List.mem_singleton.1 ay]);replace k6:=k6.toM vm.mod (fun a ay=>by simp [List.mem_singleton.1 ay]);replace lr:=lr.toM vm.mod (fun a ay=>by simp [List.mem_singleton.1 ay]);have e5:=Mod.refl [] Mb;refine cF ?_;refine fB.sub (l':=[(2,_),(3,_),(6,_),(7,_),(75,_),(76,_),(77,_),(11,_),(13,_),(97,_),(98,_),(99,_)]) ⟨rfl,rfl,rfl,rfl,rfl,rfl,rfl,rfl,rfl,rfl,rfl,rfl,trivial⟩ (dT (adA Mb ⟨GO,gQ,vk,RG,k5,k6,lr,by rw [wb];exact ek,dH,iP,bf,cy,cB,ah,F,E⟩))
  replace RG:=RG.bG e5;replace k5:=k5.bG e5;replace k6:=k6.bG e5;replace lr:=lr.bG e5;refine bP (ak 3 rfl (ag (av eX rfl) (ag (bg jK rfl (ek.cell rfl)) ?_)));refine AJ (fun aQ:(((b7 v).2.bad||((b7 v).1.map.take i).any pT))=true=>?_) (fun aQ=>?_)
  ·have gP:(((b7 v).2.bad||((b7 v).1.map.take i).any pT)||(decide (x.2.map.length=0)||(x.2.map.take 0).any fun q=>decide (q.2.kind≠3)))=true:=by rw [aQ];rfl
   refine ak 8 rfl (ag (av eX rfl) (dZ jK ek rfl rfl rfl (by simp) fun Wo wG=>?_));replace ah:=ah.ne wG.mod cG;replace bf:=bf.ne wG.mod (Ne.symm dk);replace dH:=dH.ne wG.mod (Ne.symm iO);replace F:=F.trans wG.mod;replace E:=E.own wG.mod dE;replace cy:=cy.put wG.mod oU;replace cB:=cB.put wG.mod pE;replace gQ:=gQ.put wG.mod z';replace ek:aE Wo g3 _ [_,_,_,_,_,_,_]:=wG.aA;replace RG:=RG.toM wG.mod (fun a ay=>by simp [List.mem_singleton.1 ay]);replace k5:=k5.toM wG.mod (fun a ay=>by simp [List.mem_singleton.1 ay]);replace k6:=k6.toM wG.mod (fun a ay=>by simp [List.mem_singleton.1 ay]);replace lr:=lr.toM wG.mod (fun a ay=>by simp [List.mem_singleton.1 ay]);have e5:=Mod.refl [] Wo;refine cF ?_;refine fB.sub (l':=[(2,_),(3,_),(6,_),(7,_),(75,_),(76,_),(77,_),(11,_)]) ⟨rfl,rfl,rfl,rfl,rfl,rfl,rfl,rfl,trivial⟩ (dT (adx Wo ⟨yc,gQ,vk,RG,k5,k6,lr,by rw [gP];exact ek,dH,bf,cy,cB,ah,F,E⟩))
  refine aG rfl (aw (av h8 rfl) (aw (xm b5 rfl) (aw (bg dz rfl (dH.cell rfl)) (aw (bs Tryz.underlying23 rfl) (aw (lS rfl rfl) ?_)))));refine da (fun hk:(x.2.map.length:Int)=0=>?_) (fun hk=>?_);rotate_left
  ·have gP:(((b7 v).2.bad||((b7 v).1.map.take i).any pT)||(decide (x.2.map.length=0)||(x.2.map.take 0).any fun q=>decide (q.2.kind≠3)))=false:=by rw [aQ,bJ (show ¬ x.2.map.length=0 by omega)];rfl
   refine ak 2 rfl (ag (av eX rfl) (dZ jK ek rfl rfl rfl (by simp) fun Wp wI=>?_));replace ah:=ah.ne wI.mod cG;replace bf:=bf.ne wI.mod (Ne.symm dk);replace dH:=dH.ne wI.mod (Ne.symm iO);replace F:=F.trans wI.mod;replace E:=E.own wI.mod dE;replace cy:=cy.put wI.mod oU;replace cB:=cB.put wI.mod pE;replace gQ:=gQ.put wI.mod z';replace ek:aE Wp g3 _ [_,_,_,_,_,_,_]:=wI.aA;replace RG:=RG.toM wI.mod (fun a ay=>by simp [List.mem_singleton.1 ay]);replace k5:=k5.toM wI.mod (fun a ay=>by simp [List.mem_singleton.1 ay]);replace k6:=k6.toM wI.mod (fun a ay=>by simp [List.mem_singleton.1 ay]);replace lr:=lr.toM wI.mod (fun a ay=>by simp [List.mem_singleton.1 ay]);have e5:=Mod.refl [] Wp;refine cF ?_;refine fB.sub (l':=[(2,_),(3,_),(6,_),(7,_),(75,_),(76,_),(77,_),(11,_)]) ⟨rfl,rfl,rfl,rfl,rfl,rfl,rfl,rfl,trivial⟩ (dT (adx Wp ⟨yc,gQ,vk,RG,k5,k6,lr,by rw [gP];exact ek,dH,bf,cy,cB,ah,F,E⟩))
  have gP:(((b7 v).2.bad||((b7 v).1.map.take i).any pT)||(decide (x.2.map.length=0)||(x.2.map.take 0).any fun q=>decide (q.2.kind≠3)))=true:=by rw [aQ,bd (show x.2.map.length=0 by omega)];rfl
  refine ak 2 rfl (ag (av eX rfl) (dZ jK ek rfl rfl rfl (by simp) fun Pd wH=>?_));replace ah:=ah.ne wH.mod cG;replace bf:=bf.ne wH.mod (Ne.symm dk);replace dH:=dH.ne wH.mod (Ne.symm iO);replace F:=F.trans wH.mod;replace E:=E.own wH.mod dE;replace cy:=cy.put wH.mod oU;replace cB:=cB.put wH.mod pE;replace gQ:=gQ.put wH.mod z';replace ek:aE Pd g3 _ [_,_,_,_,_,_,_]:=wH.aA;replace RG:=RG.toM wH.mod (fun a ay=>by simp [List.mem_singleton.1 ay]);replace k5:=k5.toM wH.mod (fun a ay=>by simp [List.mem_singleton.1 ay]);replace k6:=k6.toM wH.mod (fun a ay=>by simp [List.mem_singleton.1 ay]);replace lr:=lr.toM wH.mod (fun a ay=>by simp [List.mem_singleton.1 ay]);have e5:=Mod.refl [] Pd;refine cF ?_;refine fB.sub (l':=[(2,_),(3,_),(6,_),(7,_),(75,_),(76,_),(77,_),(11,_)]) ⟨rfl,rfl,rfl,rfl,rfl,rfl,rfl,rfl,trivial⟩ (dT (adx Pd ⟨yc,gQ,vk,RG,k5,k6,lr,by rw [gP];exact ek,dH,bf,cy,cB,ah,F,E⟩))
 refine ax fun ky=>?_;obtain⟨ah3,ah4,ah5,ah6,ek,XY,X0⟩:=ir;have Bn:=Mod.refl [] xB;refine bP (ak 2 rfl (ag (av nc rfl) (ag (bc (vs:=[_,_,_,_,_,_]) aJ rfl rfl (ek.cs rfl)) (fv (bE H6 rfl) (CY [g4,g3] _ _ Bn (nz v).2.rest _ (JV.cz (v:=(nz v).2.rest) XY X0) gm (GX ll).1 (by have:=(GX ll).2.1;omega)) rfl fun cK aq1 az=>?_))));obtain⟨ah7,rfl,am',R⟩:=az;replace U:=U.I R;replace ah:=ah.I R;replace ek:=ek.I R;replace bf:=bf.I R;replace E:=E.then R;replace F:=F.then R;replace Bn:=Bn.then R;replace cy:=cy.I R;replace cB:=cB.I R;obtain⟨X8,X9,X',Ya,rfl,GY,GZ⟩:=JV.a' am';refine ak 3 rfl (bp cA rfl fun g9 aq2 vK=>?_);have vS:=vK.le E;have adR:=vK.le F;have Sp:=vK.le Bn;have Yb:=vK.ne U;have Yc:=vK.ne ah;have Lk:=vK.ne ek;have Ee:=vK.ne bf;have Sq:=vK.b4 cy;have Sr:=vK.b4 cB;replace U:=U.I vK.mod;replace ah:=ah.I vK.mod;replace ek:=ek.I vK.mod;replace bf:=bf.I vK.mod;replace E:=E.then vK.mod;replace F:=F.then vK.mod;replace Bn:=Bn.then vK.mod;replace cy:=cy.I vK.mod;replace cB:=cB.I vK.mod;have lp:=vK.aA;refine bm (vs:=[_,_,_,_,_,_]) aJ lp rfl rfl rfl (by simp [Value.oneCell']) (by simp) fun ah8 Bo=>?_;replace U:=U.ne Bo.mod Yb;replace ah:=ah.ne Bo.mod Yc;replace ek:=ek.ne Bo.mod Lk;replace bf:=bf.ne Bo.mod Ee;replace E:=E.own Bo.mod vS;replace F:=F.own Bo.mod adR;replace Bn:=Bn.own Bo.mod Sp;replace cy:=cy.put Bo.mod Sq;replace cB:=cB.put Bo.mod Sr;replace lp:aE ah8 g9 _ [_,_,_,_,_,_]:=Bo.aA;refine aU rfl (J ky (ax fun lf=>?_));have ir:oQ [g4,g3] _ g3 (nz v).2:=⟨_,_,_,_,ek,XY.bG Bn,X0.bG Bn⟩;refine bP (aG rfl (J lf ?_));refine a1 rfl (fun adS=>?_) (fun adS=>?_);rotate_left
 ·have Ac:qq v=false:=adS;refine b8 ?_;refine fB.sub (l':=[(2,_),(3,_),(6,_),(7,_)]) ⟨rfl,rfl,rfl,rfl,trivial⟩ (dT (o9 ah8 ⟨by rw [show(lZ v).2=(nz v).2 by unfold lZ;rw [if_neg (by rw [Ac];simp)]];exact ir,by rw [Ac,show(lZ v).1=JV.gN by unfold lZ;rw [if_neg (by rw [Ac];simp)]];exact bf,cy,cB,ah,F,E⟩))
 have Ac:qq v=true:=adS;refine bP (aG rfl (fv (bE oR rfl) (jZ [g4,g3] _ g3 (nz v).2 ir (by simp) (fun a ay=>by simp at ay;rcases ay with rfl | rfl;exact bf.lt;exact ir.lt) (GX ll) gm 3) rfl fun cK aq3 az=>?_));obtain⟨ana,rfl,adT,ir,R⟩:=az;replace U:=U.ne R eL;replace ah:=ah.ne R cG;replace bf:=bf.ne R (Ne.symm dk);replace lp:=lp.ne R (Ne.symm Lk);replace E:=E.own R dE;replace F:=F.trans R;replace cy:=cy.put R oU;replace cB:=cB.put R pE;obtain⟨anb,anc,ane,anf,rfl,ang,anh⟩:=JV.a' adT;refine ag ((qT sc rfl rfl)) (ag (av qY rfl) (dZ jK bf rfl rfl rfl (by simp) fun ani Ef=>?_));replace U:=U.ne Ef.mod gD;replace ah:=ah.ne Ef.mod eZ;replace lp:=lp.ne Ef.mod (Ne.symm Ee);replace E:=E.own Ef.mod fL;replace F:=F.own Ef.mod oS;replace cy:=cy.put Ef.mod kH;replace cB:=cB.put Ef.mod kI;replace bf:aE ani g4 _ [_,_,_,_,_,_,_,_,_,_,_,_,_,_,_,_,_]:=Ef.aA;replace ir:=ir.mod Ef.mod (fun x ae=>by simp [List.mem_singleton.1 ae]) (fun h=>by have:=dk;simp at h;exact this h);refine ag (av mC rfl) (dZ bB bf rfl rfl rfl (by simp) fun ah9 Eg=>?_);replace U:=U.ne Eg.mod gD;replace ah:=ah.ne Eg.mod eZ;replace lp:=lp.ne Eg.mod (Ne.symm Ee);replace E:=E.own Eg.mod fL;replace F:=F.own Eg.mod oS;replace cy:=cy.put Eg.mod kH;replace cB:=cB.put Eg.mod kI;replace bf:aE ah9 g4 _ [_,_,_,_,_,_,_,_,_,_,_,_,_,_,_,_,_]:=Eg.aA;replace ir:=ir.mod Eg.mod (fun x ae=>by simp [List.mem_singleton.1 ae]) (fun h=>by have:=dk;simp at h;exact this h);refine cF ?_;refine fB.sub (l':=[(2,_),(3,_),(6,_),(7,_)]) ⟨rfl,rfl,rfl,rfl,trivial⟩ (dT (o9 ah9 ⟨by rw [show(lZ v).2=(dR (nz v).2 gm 3).2 by unfold lZ;rw [if_pos Ac]];exact ir,by rw [Ac,show(lZ v).1=(dR (nz v).2 gm 3).1 by unfold lZ;rw [if_pos Ac]];exact bf,cy,cB,ah,F,E⟩))
set_option maxRecDepth 10000
theorem adU:aP Tryz.prog 43:=aP.of Tryz.func43 (by kernel_rfl) (by kernel_rfl)
theorem ny.low {A:List Nat} {w0 aB w:World} {v:JV} {us:List Value} (E:Mod [] w0 aB) (h:ny A aB w v us):ny A w0 w v us:=by
 rcases h with⟨h,al,cl,am,cm,up,EC,HQ,hu,arZ,eR,qw,vI,rE,IW,M'⟩ | h
 ·exact .inl ⟨h,al,cl,am,cm,up,EC,HQ,hu,arZ,eR,qw,vI,fun x ae=>Nat.le_trans E.size (rE x ae),fun x ae=>Nat.le_trans E.size (IW x ae),fun x ae=>Nat.le_trans E.size (M' x ae)⟩
 exact .inr h
theorem ny.len {A:List Nat} {w0 w:World} {v:JV} {us:List Value} (h:ny A w0 w v us):∃ (p8 a2 a3:aa) (a4:Bool) (a5:aa) (Yd:Int) (Ye:Bool) (Yf:Int) (a9:aa) (dm:Option Addr) (eI lq:Nat) (c1:Option Addr) (c2 c3:Nat) (d1:Option Addr) (d2 d3:Nat) (bk:Option Addr) (bZ kO:Nat) (adV ah':Int) (aia:aa) (f1:Option Addr) (f2 f3:Nat),us = [S p8,S a2,S a3,.bool a4,S a5,.int .i64 Yd,.bool Ye,.int .i64 Yf,S a9,.slice dm eI lq,.slice c1 c2 c3,.slice d1 d2 d3,.slice bk bZ kO,.int .i64 adV,.int .i64 ah',S aia,.slice f1 f2 f3]:=by
 rcases h with⟨h,al,cl,am,cm,up,EC,HQ,hu,_,eR,qw,vI,_⟩ | h
 ·obtain⟨_,_,rfl,_⟩:=eR.form;obtain⟨_,_,rfl,_⟩:=qw.form;obtain⟨_,_,rfl,_⟩:=vI.form;exact⟨_,_,_,_,_,_,_,_,_,_,_,_,_,_,_,_,_,_,_,_,_,_,_,_,_,_,_,hu⟩
 exact⟨_,_,_,_,_,_,_,_,_,_,_,_,_,_,_,_,_,_,_,_,_,_,_,_,_,_,_,h.2⟩
theorem ny.tc {A:List Nat} {w0 w w':World} {g:Nat} {v:JV} {us:List Value} (h:ny A w0 w v us) (dv:g∈A) (bH:g<w0.heap.size) (P:Mod [g] w w'):ny A w0 w' v us:=by
 rcases h with⟨h,al,cl,am,cm,up,EC,HQ,hu,arZ,eR,qw,vI,rE,IW,M'⟩ | h
 ·exact .inl ⟨h,al,cl,am,cm,up,EC,HQ,hu,arZ.toM P (fun x ae=>by rw [List.mem_singleton.1 ae];exact dv),eR.put P (fun x ae e=>by have:=rE x ae;omega),qw.put P (fun x ae e=>by have:=IW x ae;omega),vI.put P (fun x ae e=>by have:=M' x ae;omega),rE,IW,M'⟩
 exact .inr h
theorem ny.e6 {A A':List Nat} {w0 w:World} {v:JV} {us:List Value} (h:ny A w0 w v us) (bb:∀ x∈A',x∈A):ny A' w0 w v us:=by
 rcases h with⟨h,al,cl,am,cm,up,EC,HQ,hu,arZ,r⟩ | h
 ·exact .inl ⟨h,al,cl,am,cm,up,EC,HQ,hu,arZ.e6 bb,r⟩
 exact .inr h
theorem ny.mod {A:List Nat} {w0 w w':World} {v:JV} {us:List Value} (h:ny A w0 w v us) (P:Mod [] w w'):ny A w0 w' v us:=by
 rcases h with⟨h,al,cl,am,cm,up,EC,HQ,hu,arZ,eR,qw,vI,r⟩ | h
 ·exact .inl ⟨h,al,cl,am,cm,up,EC,HQ,hu,arZ.bG P,eR.I P,qw.I P,vI.I P,r⟩
 exact .inr h
/-- what is wrong with a text of an event -/
noncomputable def rk (s:aa):Int:=if rh s≠0 then rh s else lN (pz s)
def adW (A:List Nat) (w0 w:World) (s:aa) (us:List Value):Prop:=(rh s=0∧ny A w0 w (pz s) us)∨(rh s≠0∧us = [S [],S [],S [],.bool false,S [],.int .i64 0,.bool false,.int .i64 0,S [],.slice none 0 0,.slice none 0 0,.slice none 0 0,.slice none 0 0,.int .i64 0,.int .i64 0,S [],.slice none 0 0])
theorem Ss (A:List Nat) (w:World) (dD:∀ a∈A,a<w.heap.size) (s:aa) (e1:Env w) (eW:je w):Calls Tryz.prog 46 [S s].toArray w (bM fun u w'=>∃ gd,u = .tuple #[.agg gd.toArray,.int .i64 (rk s)]∧adW A w w' s gd∧Mod [] w w'):=by
 refine enter Tryz.func46 rfl rfl rfl (l:=[(0,_)]) ⟨rfl,trivial⟩ ?_;have E:=Mod.refl [] w;have jR:=e1.xI;refine ab fun aV=>bp oT rfl fun g1 aB bT=>?_;have bI:=bT.le E;replace E:=E.then bT.mod;have U:=bT.aA;refine aU rfl (J aV (ab fun aL=>aG rfl (fv (bE acI rfl) (Q7 _ s (e1.I E)) rfl fun cK cO az=>?_)));obtain⟨acR,rfl,DE,R⟩:=az;replace U:=U.I R;replace E:=E.then R;have aaJ:=Mod.refl [] cO;replace DE:=DE.e6 (A':=g1::A) (fun x ae=>by rcases List.mem_cons.1 ae with rfl | ae;exact List.mem_range.2 bT.aA.lt;exact List.mem_range.2 (Nat.lt_of_lt_of_le (dD x ae) bT.mod.size));obtain⟨aq4,aq5,aq6,aq7,rfl,anj,ank⟩:=JV.a' DE;replace DE:=JV.cz anj ank;refine ak 3 rfl (bp cA rfl fun g2 gb cW=>?_);have b9:=cW.le E;have Yg:=cW.le aaJ;have bR:=cW.ne U;replace U:=U.I cW.mod;replace E:=E.then cW.mod;replace aaJ:=aaJ.then cW.mod;have ah:=cW.aA;refine bm (vs:=[_,_,_,_,_,_]) aJ ah rfl rfl rfl (by simp [Value.oneCell']) (by simp) fun iu kS=>?_;replace U:=U.ne kS.mod bR;replace E:=E.own kS.mod b9;replace aaJ:=aaJ.own kS.mod Yg;replace ah:aE iu g2 _ [_,_,_,_,_,_]:=kS.aA;refine aU rfl (J aL (ax fun aX=>ab fun bt=>ak 2 rfl (J bt ?_)));refine aK rfl (fun vT=>?_) (fun vT=>?_)
 ·refine ab fun bN=>ag (a7 (cs:=[_,_,_,_,_,_,_,_,_,_,_,_,_,_,_,_,_]) vi oT rfl rfl) (aG rfl (bm (vs:=[_,_,_,_,_,_,_,_,_,_,_,_,_,_,_,_,_]) fI U rfl rfl rfl (by simp [Value.oneCell']) (by simp) fun js hs=>?_));replace ah:=ah.ne hs.mod (Ne.symm bR);replace E:=E.own hs.mod bI;replace U:aE js g1 _ [_,_,_,_,_,_,_,_,_,_,_,_,_,_,_,_,_]:=hs.aA;exact aU rfl (J bN (ba (aR (by simp) (jn (vs:=[_,_,_,_,_,_,_,_,_,_,_,_,_,_,_,_,_]) rfl fI rfl rfl (U.cs rfl) rfl ⟨_,by rw [show rk s=rh s from if_pos vT];rfl,.inr ⟨vT,rfl⟩,E⟩))))
 refine b8 (au aX (ab fun b2=>ag (bc (vs:=[_,_,_,_,_,_]) aJ rfl rfl (ah.cs rfl)) ?_));have ZT:=E;have ED:=U.lt;refine fv (bE adU rfl) (XL (g1::A) _ (pz s) _ (DE.bG aaJ) (fun a ay=>by rcases List.mem_cons.1 ay with rfl | ay;exact U.lt;exact Nat.lt_of_lt_of_le (dD a ay) E.size) (jR.mod E (by simp)) (eW.I E)) rfl fun cK jD az=>?_;obtain⟨afB,rfl,qw,R⟩:=az;replace U:=U.I R;replace ah:=ah.I R;replace E:=E.then R;replace aaJ:=aaJ.then R;obtain⟨p8,a2,a3,a4,a5,Yd,Ye,Yf,a9,dm,eI,lq,c1,c2,c3,d1,d2,d3,bk,bZ,kO,adV,ah',aia,f1,f2,f3,rfl⟩:=qw.len;refine ak 2 rfl (bm (vs:=[_,_,_,_,_,_,_,_,_,_,_,_,_,_,_,_,_]) fI U rfl rfl rfl (by simp [Value.oneCell']) (by simp) fun iv o8=>?_);replace ah:=ah.ne o8.mod (Ne.symm bR);replace E:=E.own o8.mod bI;replace U:aE iv g1 _ [_,_,_,_,_,_,_,_,_,_,_,_,_,_,_,_,_]:=o8.aA;have vI:=(qw.tc (List.mem_cons_self ..) ED o8.mod).e6 (A':=A) (fun x ae=>List.mem_cons_of_mem _ ae);replace vI:=vI.low ZT;exact aU rfl (J b2 (ba (jn (vs:=[_,_,_,_,_,_,_,_,_,_,_,_,_,_,_,_,_]) rfl fI rfl rfl (U.cs rfl) rfl ⟨_,by rw [show rk s=lN (pz s) from if_neg vT];rfl,.inl ⟨Classical.not_not.1 vT,vI⟩,E⟩)))
end Go.Proofs.YtnihidkbkhcfoaaGreatDoor.V
namespace Go.Proofs.YtnihidkbkhcfoaaGreatDoor.V
open Go
open JV
namespace EV
def left (e:EV):List (aa×JV):=(gy,obj [(kG,aN e.hash)])::(mn,obj (lx e.sigs e.sigs.length))::(if e.st then [(gm,aN e.key)] else [])
theorem ZG {e:EV} (h:e.bj.kind=5):(eY e.val).1=e.bj∧(dR (eY e.val).2 hY 4).1=cT (e.prev.map aN)∧(dR (hX e.val).2 hZ 4).1=cT (e.bw.map aN)∧(s6 e.val).1=aN e.room∧(s7 e.val).1=aN e.snd∧(s8 e.val).1=aN e.ty∧(s9 e.val).1=hl e.dep∧(nz e.val).1=hl e.time∧(dR (dR (dR (dR (dR (dR (dR (dR ⟨e.val,false⟩ nA 5).2 hY 4).2 hZ 4).2 ml 3).2 im 3).2 mm 3).2 kb 2).2 qs 2).2=⟨obj e.left,false⟩:=by
 obtain⟨room,snd,ty,st,key,bj,prev,bw,dep,time,hash,sigs⟩:=e;obtain⟨k,b,n,s,l,m⟩:=bj;have h:k=5:=h;subst h;cases st <;> exact⟨by kernel_rfl,by kernel_rfl,by kernel_rfl,by kernel_rfl,by kernel_rfl,by kernel_rfl,by kernel_rfl,by kernel_rfl,by kernel_rfl⟩
theorem HE (l:List aa):(cT (l.map aN)).list.any (fun x=>decide (x.kind≠3))=false:=by
 show(l.map aN).any _=false;rw [List.any_eq_false];intro x ae;obtain⟨s,_,rfl⟩:=List.mem_map.1 ae;simp [aN,JV.kind]
theorem HF (l:List aa):(cT (l.map aN)).list.map JV.str=l:=by
 show(l.map aN).map JV.str=l;rw [List.map_map]
 conv=>rhs;rw [← List.map_id l]
 rfl
theorem CO {e:EV} (h:e.bj.kind=5):(eY e.val).1=e.bj∧(hX e.val).1=e.prev∧(iF e.val).1=e.bw∧(s6 e.val).1=aN e.room∧(s7 e.val).1=aN e.snd∧(s8 e.val).1=aN e.ty∧(s9 e.val).1=hl e.dep∧(nz e.val).1=hl e.time∧(nz e.val).2=⟨obj e.left,false⟩:=by
 obtain⟨h1,aq,aT,bL,cN,eU,kB,kt,k9⟩:=ZG h;have arq:(hX e.val).2=(dR (eY e.val).2 hY 4).2:=by
  show(⟨_,_⟩:mE)=_;rw [aq,HE,Bool.or_false]
 have dD:(iF e.val).2=(dR (hX e.val).2 hZ 4).2:=by
  show(⟨_,_⟩:mE)=_;rw [aT,HE,Bool.or_false]
 refine⟨h1,?_,?_,bL,cN,eU,kB,kt,?_⟩
 ·show(dR (eY e.val).2 hY 4).1.list.map JV.str=_;rw [aq,HF]
 ·show(dR (hX e.val).2 hZ 4).1.list.map JV.str=_;rw [aT,HF]
 show(dR (dR (dR (dR (dR (iF e.val).2 ml 3).2 im 3).2 mm 3).2 kb 2).2 qs 2).2=_;rw [dD,arq];exact k9
theorem Ua {e:EV} (h:e.bj.kind=5):qq e.val=e.st∧(lZ e.val).1=(if e.st then aN e.key else JV.gN)∧(b7 e.val).1=obj (lx e.sigs e.sigs.length)∧(b7 e.val).2=⟨obj [(gy,obj [(kG,aN e.hash)])],false⟩:=by
 obtain⟨_,_,_,_,_,_,_,_,k9⟩:=CO h;unfold b7 lZ qq;rw [k9];obtain⟨room,snd,ty,st,key,bj,prev,bw,dep,time,hash,sigs⟩:=e;cases st <;> exact⟨by kernel_rfl,by kernel_rfl,by kernel_rfl,by kernel_rfl⟩
theorem HG (l:List dQ):∀ k,∀ p∈lx l k,p.2.map≠[]∧∀ q∈p.2.map,q.2.kind=3
 | 0=>by simp [vD]
 | k+1=>by
  have dF:=HG l k
  rcases Nat.lt_or_ge k l.length with h | h
  ·rw [vE (List.getElem?_eq_getElem h)]
   intro p cn
   rcases Ax cn with cn | rfl
   ·exact dF p cn
   refine⟨?_,fun q e2=>?_⟩
   ·show dA _ _ _≠[]
    unfold dA
    simp
   rcases Ax (show q∈dA _ _ _ from e2)with e2 | rfl
   ·unfold one at e2
    cases cg:look (lx l k) (l[k]).db with
    | none=>rw [cg] at e2;simp [JV.gN,JV.map] at e2
    | some y=>rw [cg] at e2;exact(dF _ (k2 cg)).2 q e2
   rfl
  have e:lx l (k+1)=lx l k:=by unfold lx;rw [List.take_of_length_le (by omega),List.take_of_length_le h]
  rw [e]
  exact dF
theorem ZH (l:List dQ) (k:Nat):(lx l k).any pT=false:=by
 rw [List.any_eq_false];intro p cn;obtain⟨h1,aq⟩:=HG l k p cn;unfold pT;simp only [Bool.or_eq_true,decide_eq_true_eq,List.any_eq_true,not_or,not_exists,not_and];exact⟨fun h=>h1 (List.eq_nil_of_length_eq_zero h),fun q e2 hk=>absurd (aq q e2) hk⟩
def again (e:EV):EV:={e with key:=if e.st then e.key else [],sigs:=ch (lx e.sigs e.sigs.length)}
theorem ZI {e:EV} (h:e.bj.kind=5):h7 e.val=e.again∧R6 e.val=false:=by
 obtain⟨h1,aq,aT,bL,cN,eU,kB,kt,k9⟩:=CO h;obtain⟨dX,j3,vL,ug⟩:=Ua h;have an4:vg e.val=false:=by
  unfold vg;rw [ug,vL];show(false||(lx e.sigs e.sigs.length).any pT)=false;rw [ZH];rfl
 have hH:qV e.val=(obj [(kG,aN e.hash)],⟨obj [],false⟩):=by
  unfold qV;rw [an4,ug]
  kernel_rfl
 have apE:vh e.val=(aN e.hash,⟨obj [],false⟩):=by
  unfold vh;rw [hH]
  kernel_rfl
 constructor
 ·unfold h7 again;rw [h1,aq,aT,bL,cN,eU,kB,kt,dX,j3,vL,apE]
  congr 1
  ·cases e.st <;> rfl
 unfold R6;rw [hH,apE];rfl
end EV
end Go.Proofs.YtnihidkbkhcfoaaGreatDoor.V
