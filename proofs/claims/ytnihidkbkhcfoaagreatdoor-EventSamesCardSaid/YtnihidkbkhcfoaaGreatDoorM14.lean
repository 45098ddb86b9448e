/-
  A part of the proof: an event's text without some of its members is one, if the event has a text; so has the stripped event; an event that can be, its text; what has a text has keys that rise; an event out of a JSON value: what is taken, one behind the other; an event out of a JSON value: how great it may be; an event is read from its value as it is (plain Lean). No condition of its own.
-/
import Derived.Test.YtnihidkbkhcfoaaGreatDoorM13
import Derived.Test.YtnihidkbkhcfoaaGreatDoorM3
import Derived.Test.YtnihidkbkhcfoaaGreatDoorM10
import Derived.Test.YtnihidkbkhcfoaaGreatDoorM5
import Derived.Test.YtnihidkbkhcfoaaGreatDoorM9
import Derived.Test.YtnihidkbkhcfoaaGreatDoorM7
set_option linter.unusedVariables false
set_option linter.unusedSimpArgs false
set_option maxRecDepth 10000
namespace Go.Proofs.YtnihidkbkhcfoaaGreatDoor.V
open Go Go.Proofs
theorem Sy:NV Tryz.prog 25 4 4=true:=by kernel_rfl
theorem oW:aQ Tryz.prog 90:=aQ.of Tryz.func90 (by kernel_rfl) (by kernel_rfl)
theorem Ah (A:List Nat) (w:World) (g:Nat) (t:mF) (H:oV A w g t) (dA:g∈A) (dF:∀ a∈A,a<w.heap.size) (cf:t.fit) (k:aa):Calls Tryz.prog 91 [.pointer (some ⟨g,0,none⟩),S k].toArray w (bL fun u w'=>Own w' 9 1 u (JN t k).1.length (((JN t k).1.map fun s=>[S s]).flatten)∧(∀ y∈a1 u,w.heap.size≤y)∧oV A w' g (JN t k).2∧Mod [g] w w'):=by
 refine enter Tryz.func91 rfl rfl rfl (l:=[(0,_),(1,_)]) ⟨rfl,rfl,trivial⟩ ?_;have E:=Mod.refl [g] w;have amx:∀ x∈[g],x∈A:=fun x ae=>by rw [List.mem_singleton.1 ae];exact dA
 refine ab fun aV=>aT rfl (J aV (ab fun aL=>aT rfl (J aL (ax fun aW=>ax fun br=>?_))))
 skip
 refine bQ (ak 2 rfl (fA (bF oW rfl) (j5 A _ g t H dA dF cf k 4) rfl fun cO aB aA=>?_));obtain⟨Su,rfl,abF,ix,R⟩:=aA;replace E:=E.trans R;obtain⟨adF,amy⟩:∃ x,x=aB:=⟨_,rfl⟩;subst amy;obtain⟨Sv,Sw,Yf,Yg,rfl,BE,Er⟩:=JV.bb abF;obtain⟨amz,amA,amB,amC,B,amD,amE⟩:=ix;have F:=Mod.refl [g] adF;have arh:=B.lt;obtain⟨ari,_,_⟩:=mF.G0 cf k 4;have Yh:w.heap.size≤adF.heap.size:=E.size;refine ag ((q1 Sy rfl rfl)) (ag (bl Tryz.underlying22 rfl) (aG rfl (J br (eB (bU (σ:=Nat×Value) (fun⟨j,v⟩=>[(0,.pointer (some ⟨g,0,none⟩)),(5,v),(11,.slice Sv (dS t k 4).1.list.length Sw),(12,.int .i64 (dS t k 4).1.list.length),(13,.int .i64 (j:Int))]) (fun⟨j,v⟩ aB=>j≤(dS t k 4).1.list.length∧Own aB 9 1 v j ((((dS t k 4).1.list.take j).map fun x=>[S x.str]).flatten)∧(∀ y∈a1 v,adF.heap.size≤y)∧aF aB g 103 [.int .i64 (dS t k 4).2.rest.kind,.bool (dS t k 4).2.rest.is,.int .i64 (dS t k 4).2.rest.num,S (dS t k 4).2.rest.str,.slice amz (dS t k 4).2.rest.list.length amA,.slice amB (dS t k 4).2.rest.map.length amC,.bool ((dS t k 4).2.bad||((dS t k 4).1.list.take j).any fun x=>decide (x.kind≠3))]∧Mod [g] adF aB∧Mod [g] w aB) (fun⟨j,v⟩=>(dS t k 4).1.list.length-j) (⟨0,.slice none 0 0⟩) ⟨rfl,rfl,rfl,rfl,rfl,trivial⟩ (⟨by omega,Own.nil _ _ _,by simp [a1],by simpa using B,F,E⟩) ?_)))));rintro⟨j,v⟩ cN ⟨d',gT,ys,B,F,E⟩;have amF:∀ x∈a1 v,x≠g:=fun x ae e=>by have:=ys x ae;omega
 refine ab fun bI=>ag (cI rfl rfl) (J bI (ax fun bW=>?_));refine aI rfl (fun pf=>?_) (fun pf=>?_);rotate_left
 ·have adH:j=(dS t k 4).1.list.length:=by omega
  subst adH;exact bm (aO (by simp) (aO (by simp) (bS (aw aW (ab fun b5=>ak 2 rfl (J b5 (aZ (au rfl rfl ⟨gT.same (by unfold JN;simp) (by unfold JN;simp [Function.comp_def]),fun y aY=>Nat.le_trans Yh (ys y aY),by rw [List.take_length] at B;exact⟨_,_,_,_,B,amD.toM F amx,amE.toM F amx⟩,E⟩))))))))
 obtain⟨x,bO⟩:∃ x,(dS t k 4).1.list[j]? = some x:=⟨_,List.getElem?_eq_getElem (by omega)⟩;obtain⟨jD,lf,dv,ei,cj⟩:=JV.yv (BE.toM F amx) bO;obtain⟨jM,jN,jb,h3,rfl,lg,lD⟩:=JV.bb ei;obtain rfl:=dv;have rP:=JV.pR BE;have kG:(dS t k 4).1.list.take (j+1)=(dS t k 4).1.list.take j ++ [x]:=by rw [List.take_succ_eq_append_getElem (by omega),(List.getElem?_eq_some_iff.1 bO).2]
 refine ca (aw bW (ax fun cb=>eB (ab fun cx=>ag (b6 kk rfl rfl (by omega)) (ag (a8 aK rfl rfl cj) (bt cB rfl fun g1 fV bR=>?_)))));have bH:=bR.le E;have adG:=bR.le F;have k7:=bR.ne B;have Yi:=bR.b8 gT;replace B:=B.I bR.mod;replace E:=E.then bR.mod;replace F:=F.then bR.mod;replace gT:=gT.I bR.mod;have U:=bR.az;refine bo (vs:=[_,_,_,_,_,_]) aK U rfl rfl rfl (by simp [Value.oneCell']) (by simp) fun ic kZ=>?_;replace B:=B.ne kZ.mod k7;replace E:=E.own kZ.mod bH;replace F:=F.own kZ.mod adG;replace gT:=gT.put kZ.mod Yi;replace U:aF ic g1 _ [_,_,_,_,_,_]:=kZ.az;refine J cx (ab fun cH=>ak 3 rfl (ag (av e0 rfl) (ag (bc jr rfl (B.cell rfl)) ?_)));refine w8 (fun aS:(((dS t k 4).2.bad||((dS t k 4).1.list.take j).any fun x=>decide (x.kind≠3)))=true=>?_) (fun aS=>?_)
 ·have wj:((dS t k 4).2.bad||((dS t k 4).1.list.take (j+1)).any fun x=>decide (x.kind≠3))=true:=by rw [kG,List.any_append,← Bool.or_assoc,aS];simp
  refine ak 6 rfl (ag (av e0 rfl) (ea jr B rfl rfl rfl (by simp) fun jn hx=>?_));replace U:=U.ne hx.mod (Ne.symm k7);replace E:=E.trans hx.mod;replace F:=F.trans hx.mod;replace gT:=gT.put hx.mod amF;replace B:aF jn g _ [_,_,_,_,_,_,_]:=hx.az;refine J cH (bQ (aG rfl (ag (av ju rfl) (ag (bc bs rfl (U.cell rfl)) (bD (cs:=[_]) jz I6 rfl rfl rfl (by decide) rfl fun g2 jC cK=>?_)))));have b4:=cK.le E;have amG:=cK.le F;have tX:=cK.ne B;have bP:=cK.ne U;have aj4:=cK.b8 gT;replace B:=B.I cK.mod;replace U:=U.I cK.mod;replace E:=E.then cK.mod;replace F:=F.then cK.mod;replace gT:=gT.I cK.mod;have ah:=cK.az;refine bu jz rfl rfl gT (Src.own Tryz.underlying26 (Own.all (cs:=[_]) ah rfl (by omega)) (by simp [Value.oneCell'])) (by decide) (by omega) (by omega) rfl fun v1 iw eD=>?_;have eS:Own iw 9 1 v1 (j+1) ((((dS t k 4).1.list.take (j+1)).map fun x=>[S x.str]).flatten):=eD.own.same (by omega) (by rw [kG];simp);have rN:∀ y∈a1 v1,adF.heap.size≤y:=fun y aY=>(eD.lZ y aY).elim (ys y) (fun h=>Nat.le_trans F.size h);replace B:=B.mod eD.mod (fun h=>by have:=ys _ h;omega);replace E:=E.trans' eD.mod (fun y aY=>.inr (Nat.le_trans Yh (ys y aY)));replace F:=F.trans' eD.mod (fun y aY=>.inr (ys y aY));exact aT rfl (cF (bx (by simp) (aw cb (bQ (ag (aN rfl rfl (by omega)) (aG rfl (cF (fJ (σ:=Nat×Value) (s:=⟨j,v⟩) (⟨j+1,v1⟩) ⟨rfl,rfl,rfl,rfl,rfl,trivial⟩ ⟨by omega,eS,rN,by rw [wj];exact B,F,E⟩ (by dsimp only;omega)))))))))
 refine aG rfl (ar (av hC rfl) (ar (bc dE rfl (U.cell rfl)) (ar (eU rfl rfl) ?_)));refine cT (fun hk:x.kind≠3=>?_) (fun hk=>?_);rotate_left
 ·have wj:((dS t k 4).2.bad||((dS t k 4).1.list.take (j+1)).any fun x=>decide (x.kind≠3))=false:=by rw [kG,List.any_append,← Bool.or_assoc,aS];simp [Classical.not_not.1 hk]
  refine ak 2 rfl (ag (av e0 rfl) (ea jr B rfl rfl rfl (by simp) fun kr e'=>?_));replace U:=U.ne e'.mod (Ne.symm k7);replace E:=E.trans e'.mod;replace F:=F.trans e'.mod;replace gT:=gT.put e'.mod amF;replace B:aF kr g _ [_,_,_,_,_,_,_]:=e'.az;refine J cH (bQ (aG rfl (ag (av ju rfl) (ag (bc bs rfl (U.cell rfl)) (bD (cs:=[_]) jz I6 rfl rfl rfl (by decide) rfl fun g4 qa N4=>?_)))));have fO:=N4.le E;have oX:=N4.le F;have acI:=N4.ne B;have gE:=N4.ne U;have aj6:=N4.b8 gT;replace B:=B.I N4.mod;replace U:=U.I N4.mod;replace E:=E.then N4.mod;replace F:=F.then N4.mod;replace gT:=gT.I N4.mod;have bg:=N4.az;refine bu jz rfl rfl gT (Src.own Tryz.underlying26 (Own.all (cs:=[_]) bg rfl (by omega)) (by simp [Value.oneCell'])) (by decide) (by omega) (by omega) rfl fun v1 oC eD=>?_;have eS:Own oC 9 1 v1 (j+1) ((((dS t k 4).1.list.take (j+1)).map fun x=>[S x.str]).flatten):=eD.own.same (by omega) (by rw [kG];simp);have rN:∀ y∈a1 v1,adF.heap.size≤y:=fun y aY=>(eD.lZ y aY).elim (ys y) (fun h=>Nat.le_trans F.size h);replace B:=B.mod eD.mod (fun h=>by have:=ys _ h;omega);replace E:=E.trans' eD.mod (fun y aY=>.inr (Nat.le_trans Yh (ys y aY)));replace F:=F.trans' eD.mod (fun y aY=>.inr (ys y aY));exact aT rfl (cF (bx (by simp) (aw cb (bQ (ag (aN rfl rfl (by omega)) (aG rfl (cF (fJ (σ:=Nat×Value) (s:=⟨j,v⟩) (⟨j+1,v1⟩) ⟨rfl,rfl,rfl,rfl,rfl,trivial⟩ ⟨by omega,eS,rN,by rw [wj];exact B,F,E⟩ (by dsimp only;omega)))))))))
 have wj:((dS t k 4).2.bad||((dS t k 4).1.list.take (j+1)).any fun x=>decide (x.kind≠3))=true:=by rw [kG,List.any_append,← Bool.or_assoc,aS];simp [hk]
 refine ak 2 rfl (ag (av e0 rfl) (ea jr B rfl rfl rfl (by simp) fun n' nG=>?_));replace U:=U.ne nG.mod (Ne.symm k7);replace E:=E.trans nG.mod;replace F:=F.trans nG.mod;replace gT:=gT.put nG.mod amF;replace B:aF n' g _ [_,_,_,_,_,_,_]:=nG.az;refine J cH (bQ (aG rfl (ag (av ju rfl) (ag (bc bs rfl (U.cell rfl)) (bD (cs:=[_]) jz I6 rfl rfl rfl (by decide) rfl fun g3 lY eQ=>?_)))));have dJ:=eQ.le E;have amH:=eQ.le F;have acH:=eQ.ne B;have eM:=eQ.ne U;have aj5:=eQ.b8 gT;replace B:=B.I eQ.mod;replace U:=U.I eQ.mod;replace E:=E.then eQ.mod;replace F:=F.then eQ.mod;replace gT:=gT.I eQ.mod;have bz:=eQ.az;refine bu jz rfl rfl gT (Src.own Tryz.underlying26 (Own.all (cs:=[_]) bz rfl (by omega)) (by simp [Value.oneCell'])) (by decide) (by omega) (by omega) rfl fun v1 iy eD=>?_;have eS:Own iy 9 1 v1 (j+1) ((((dS t k 4).1.list.take (j+1)).map fun x=>[S x.str]).flatten):=eD.own.same (by omega) (by rw [kG];simp);have rN:∀ y∈a1 v1,adF.heap.size≤y:=fun y aY=>(eD.lZ y aY).elim (ys y) (fun h=>Nat.le_trans F.size h);replace B:=B.mod eD.mod (fun h=>by have:=ys _ h;omega);replace E:=E.trans' eD.mod (fun y aY=>.inr (Nat.le_trans Yh (ys y aY)));replace F:=F.trans' eD.mod (fun y aY=>.inr (ys y aY));exact aT rfl (cF (bx (by simp) (aw cb (bQ (ag (aN rfl rfl (by omega)) (aG rfl (cF (fJ (σ:=Nat×Value) (s:=⟨j,v⟩) (⟨j+1,v1⟩) ⟨rfl,rfl,rfl,rfl,rfl,trivial⟩ ⟨by omega,eS,rN,by rw [wj];exact B,F,E⟩ (by dsimp only;omega)))))))))
end Go.Proofs.YtnihidkbkhcfoaaGreatDoor.V
namespace Go.Proofs.YtnihidkbkhcfoaaGreatDoor.V
open Go
namespace JV
end JV
namespace EV
open JV
theorem aad {e:EV} (bj:e.q6=0) {T:aa} (h:e.val.wr 0 [] = .ok T):e.e7=0:=by
 unfold EV.e7;rw [if_neg (by simp [bj]),h];rfl
end EV
end Go.Proofs.YtnihidkbkhcfoaaGreatDoor.V
namespace Go.Proofs.YtnihidkbkhcfoaaGreatDoor.V
open Go
theorem o8:∀ s:aa,(∀ c∈s,c.toNat<128)→cn s=true
 | [],_=>mS
 | c::r,h=>by
  have h1:aJ (c::r)=(c.toNat,1):=fW (h c (by simp))
  rw [k1 (by simp) (by rw [h1];simp),h1]
  exact o8 r fun x ae=>h x (by simp [ae])
namespace JV
theorem Mn {s:aa} (bK:cn s=true) (cg:s.length≤65536):∀ c:aa,(c++cw s).length≤65536→fb c s = .ok (c++cw s):=fun c bj=>by
 rw [fb,if_neg (by omega),if_pos bK,fy bj]
theorem AT {s:aa} {deep:Nat} (bK:cn s=true) (cg:s.length≤65536):Fit (aP s) deep (cw s):=fun c bj=>by
 have aS:¬ bare (aP s)=false:=by simp [bare,aP,kind,is,num,str,list,map]
 have vS:(aP s).kind=3:=rfl;rw [dM,if_neg aS,if_neg (by rw [vS];decide),if_neg (by rw [vS];decide),if_neg (by rw [vS];decide),if_pos vS];exact Mn bK cg c bj
theorem H0 {n:Int} {deep:Nat} (b3 : -9007199254740991≤n) (h1:n≤9007199254740991):Fit (hp n) deep (Lib.itoa n):=fun c bj=>by
 have aS:¬ bare (hp n)=false:=by
  have:bare (hp n)=true:=by unfold bare hp;simp [kind,is,num,str,list,map,b3,h1]
  rw [this];simp
 have j9:(hp n).kind=2:=rfl;rw [dM,if_neg aS,if_neg (by rw [j9];decide),if_neg (by rw [j9];decide),if_pos j9];exact fy bj
theorem OU {deep:Nat} (bY:deep≠32):Fit (cX []) deep [91,93]:=fun c bj=>by
 have aS:¬ bare (cX [])=false:=by simp [bare,cX,kind,is,num,str,list,map]
 have uo:(cX []).kind=4:=rfl;rw [dM,if_neg aS,if_neg (by rw [uo];decide),if_neg (by rw [uo];decide),if_neg (by rw [uo];decide),if_neg (by rw [uo];decide),if_neg bY,if_pos uo,fy (by simp only [List.length_append,List.length_cons,List.length_nil] at bj ⊢;omega)];show(hL [] deep true (c ++ [91])).bind _=_;rw [hL];show cu (c ++ [91] ++ [93])=_;rw [fy (by simp only [List.length_append,List.length_cons,List.length_nil] at bj ⊢;omega)];simp
theorem vL {deep:Nat} {prev:Option aa}:tq [] deep prev []:=fun b _=>by rw [fk];simp
theorem vM {k:aa} {v:JV} {r:List (aa×JV)} {deep:Nat} {prev:Option aa} {t1 t2:aa} (bK:∀ c∈k,c.toNat<128) (cg:k.length≤1000) (e5:∀ q,prev=some q→eR q k=true) (h1:Fit v (deep+1) t1) (aq:tq r deep (some k) t2) :
  tq ((k,v)::r) deep prev (comma prev++cw k ++ [58]++t1++t2):=HU (p:=(k,v)) e5 (Mn (o8 k bK) (by simp only;omega)) h1 aq
theorem AU {deep:Nat}:∀ (l:List JV) (fst:Bool) (b e8:aa),hL l deep fst b = .ok e8→∀ x∈l,∃ c c',wr x (deep+1) c = .ok c'
 | [],_,_,_,_,x,ae=>by cases ae
 | y::l,fst,b,e8,h,x,ae=>by
  rw [k3] at h
  obtain⟨dn,h1,h⟩:=dt h
  obtain⟨eJ,aq,h⟩:=dt h
  rcases List.mem_cons.1 ae with rfl | ae
  ·exact⟨_,_,aq⟩
  exact AU l _ _ _ h x ae
theorem AV {deep:Nat}:∀ (m:List (aa×JV)) (prev:Option aa) (b e8:aa),fk m deep prev b = .ok e8→∀ p∈m,∃ c c',wr p.2 (deep+1) c = .ok c'
 | [],_,_,_,_,x,ae=>by cases ae
 | y::m,prev,b,e8,h,x,ae=>by
  obtain⟨_,eJ,aq,aU,_,_⟩:=uS h
  rcases List.mem_cons.1 ae with rfl | ae
  ·exact⟨_,_,aq⟩
  exact AV m _ _ _ aU x ae
theorem vN:∀ (N:Nat) (v:JV) (deep:Nat) (b e8:aa),v.sz≤N→wr v deep b = .ok e8→v.g'
 | 0,v,_,_,_,h,_=>absurd (oz v) (by omega)
 | N+1,v,deep,b,e8,h7,h=>by
  have dK:=vN N
  rw [nb]
  have b3:=h
  rw [dM] at h
  split at h
  ·cases h
  rename_i aS
  have aS:v.bare=true:=by simpa using aS
  have hk:=@qQ v aS
  have Ie:v.kind=4∨v.list = []:=by
   unfold bare at aS
   simp only [Bool.and_eq_true,Bool.or_eq_true,decide_eq_true_eq] at aS
   exact aS.1.1.2.imp id List.eq_nil_of_length_eq_zero
  have F9:v.kind=5∨v.map = []:=by
   unfold bare at aS
   simp only [Bool.and_eq_true,Bool.or_eq_true,decide_eq_true_eq] at aS
   exact aS.1.2.imp id List.eq_nil_of_length_eq_zero
  by_cases uo:v.kind=4
  ·have hm:v.map = []:=F9.resolve_left (by omega)
   rw [if_neg (by omega),if_neg (by omega),if_neg (by omega),if_neg (by omega)] at h
   split at h
   ·cases h
   obtain⟨dn,h1,aU⟩:=dt h
   obtain⟨eJ,aq,bM⟩:=dt aU
   rw [hm]
   refine⟨List.Pairwise.nil,fun x ae=>?_,by simp⟩
   obtain⟨c,c',bj⟩:=AU _ _ _ _ aq x ae
   exact dK x _ _ _ (by have:=gN ae;omega) bj
  have cg:v.list = []:=Ie.resolve_left uo
  by_cases A2:v.kind=5
  ·obtain⟨_,eJ,aq,_,_⟩:=Mm A2 b3
   rw [cg]
   refine⟨(uT _ _ _ _ _ aq).1,by simp,fun p cp=>?_⟩
   obtain⟨c,c',bj⟩:=AV _ _ _ _ aq p cp
   exact dK p.2 _ _ _ (by have:=gp cp;omega) bj
  rw [cg,F9.resolve_left A2]
  exact⟨List.Pairwise.nil,by simp,by simp⟩
theorem Hb {v:JV} {deep:Nat} {b e8:aa} (h:wr v deep b = .ok e8):v.g':=vN v.sz v deep b e8 (Nat.le_refl _) h
end JV
namespace EV
open JV
end EV
end Go.Proofs.YtnihidkbkhcfoaaGreatDoor.V
namespace Go.Proofs.YtnihidkbkhcfoaaGreatDoor.V
open Go
namespace JV
mutual
def po:JV→Nat
 | .mk k b n s l m=>1+s.length+re l+ky m
def re:List JV→Nat
 | []=>0
 | v::r=>po v+re r
def ky:List (List UInt8×JV)→Nat
 | []=>0
 | p::r=>p.1.length+po p.2+ky r
end
theorem iv (v:JV):v.po=1+v.str.length+re v.list+ky v.map:=by cases v;simp [po,str,list,map]
theorem H2 (s:aa):s.length≤(db s).length:=by
 induction s with
 | nil=>simp
 | cons c r dK=>
  have:=Ca c;simp only [db,List.map_cons,List.flatten_cons,List.length_append,List.length_cons] at dK ⊢;omega
theorem Mo:∀ N:Nat,∀ (v:JV) (deep:Nat) (b e8:aa),v.sz≤N→wr v deep b = .ok e8→b.length+v.po≤e8.length
 | 0,v,_,_,_,h,_=>absurd (oz v) (by omega)
 | N+1,v,deep,b,e8,h7,h=>by
  have dK:=Mo N
  have UH:∀ (l:List JV),(∀ x∈l,x.sz≤N)→∀ (fst:Bool) (b e8:aa),hL l deep fst b = .ok e8→b.length+re l≤e8.length:=by
   intro l
   induction l with
   | nil=>
    intro _ fst b e8 h
    rw [hL] at h
    injection h with h
    subst h
    simp [re]
   | cons x r ae8=>
    intro ae fst b e8 h
    rw [k3] at h
    obtain⟨dn,h1,h⟩:=dt h
    obtain⟨eJ,aq,aU⟩:=dt h
    have afC:b.length≤dn.length:=by
     cases fst with
     | true=>injection h1 with h1;rw [h1];exact Nat.le_refl _
     | false=>obtain⟨rfl,_⟩:=fr h1;simp
    have O5:=dK x (deep+1) dn eJ (ae x (List.mem_cons_self ..)) aq
    have arQ:=ae8 (fun y aY=>ae y (List.mem_cons_of_mem _ aY)) false eJ e8 aU
    rw [re]
    omega
  have UI:∀ (m:List (aa×JV)),(∀ x∈m,x.2.sz≤N)→∀ (prev:Option aa) (b e8:aa),fk m deep prev b = .ok e8→b.length+ky m≤e8.length:=by
   intro m
   induction m with
   | nil=>
    intro _ prev b e8 h
    rw [fk] at h
    injection h with h
    subst h
    simp [ky]
   | cons x r ae9=>
    intro ae prev b e8 h
    obtain⟨_,eJ,aq,aU,_⟩:=uS h
    have O5:=dK x.2 (deep+1) _ eJ (ae x (List.mem_cons_self ..)) aq
    have arQ:=ae9 (fun y aY=>ae y (List.mem_cons_of_mem _ aY)) _ eJ e8 aU
    have arR:=H2 x.1
    simp only [List.length_append,cw,List.length_cons,List.length_nil] at O5
    rw [ky]
    omega
  have dk:=iv v
  have ap7:1≤(Lib.itoa v.num).length:=List.length_pos_iff.2 (QE _)
  rw [dM] at h
  split at h
  ·cases h
  rename_i aS
  obtain⟨MS,IX,Ll,Ie,F9⟩:=mZ (by simpa using aS)
  split at h
  ·rename_i rn
   obtain⟨rfl,_⟩:=fr h
   rw [dk,Ll.resolve_left (by omega),Ie.resolve_left (by omega),F9.resolve_left (by omega)]
   simp [re,ky]
  split at h
  ·rename_i rn
   obtain⟨rfl,_⟩:=fr h
   rw [dk,Ll.resolve_left (by omega),Ie.resolve_left (by omega),F9.resolve_left (by omega)]
   cases v.is <;> simp [re,ky]
  split at h
  ·rename_i rn
   obtain⟨rfl,_⟩:=fr h
   rw [dk,Ll.resolve_left (by omega),Ie.resolve_left (by omega),F9.resolve_left (by omega)]
   simp only [re,ky,List.length_append,List.length_nil]
   omega
  split at h
  ·rename_i rn
   obtain⟨t,rfl,rfl,_⟩:=AP h
   have arR:=H2 v.str
   rw [dk,Ie.resolve_left (by omega),F9.resolve_left (by omega)]
   simp only [re,ky,List.length_append,cw,List.length_cons,List.length_nil]
   omega
  split at h
  ·cases h
  split at h
  ·rename_i uo
   obtain⟨dn,h1,fh⟩:=dt h
   obtain⟨eJ,aq,OT⟩:=dt fh
   obtain⟨rfl,_⟩:=fr h1
   obtain⟨rfl,_⟩:=fr OT
   have:=UH v.list (fun x ae=>by have:=gN ae;omega) _ _ _ aq
   rw [dk,Ll.resolve_left (by omega),F9.resolve_left (by omega)]
   simp only [ky,List.length_append,List.length_cons,List.length_nil] at this ⊢
   omega
  rename_i uo
  have hk:=qQ (v:=v) (by simpa using aS)
  obtain⟨dn,h1,fh⟩:=dt h
  obtain⟨eJ,aq,OT⟩:=dt fh
  obtain⟨rfl,_⟩:=fr h1
  obtain⟨rfl,_⟩:=fr OT
  have:=UI v.map (fun x ae=>by have:=gp ae;omega) _ _ _ aq
  rw [dk,Ll.resolve_left (by omega),Ie.resolve_left uo]
  simp only [re,List.length_append,List.length_cons,List.length_nil] at this ⊢
  omega
theorem sy:∀ l:List JV,l.length≤re l
 | []=>by simp [re]
 | x::r=>by
  have:=sy r
  have:=iv x
  simp only [List.length_cons,re]
  omega
theorem o9:∀ m:List (aa×JV),m.length≤ky m
 | []=>by simp [ky]
 | x::r=>by
  have:=o9 r
  have:=iv x.2
  simp only [List.length_cons,ky]
  omega
theorem AW:∀ {l:List JV} {x:JV},x∈l→x.po≤re l
 | y::r,x,h=>by
  rw [re]
  rcases List.mem_cons.1 h with rfl | h
  ·omega
  have:=AW h;omega
theorem o':∀ {m:List (aa×JV)} {p:aa×JV},p∈m→p.1.length+p.2.po≤ky m
 | y::r,x,h=>by
  rw [ky]
  rcases List.mem_cons.1 h with rfl | h
  ·omega
  have:=o' h;omega
theorem KD:∀ (N:Nat) (v:JV),v.sz≤N→v.po≤65536→v.ok
 | 0,v,h,_=>absurd (oz v) (by omega)
 | N+1,v,h,bf=>by
  have e:=iv v
  have h1:=sy v.list
  have aq:=o9 v.map
  exact(ok_eq v).2 ⟨by omega,by omega,by omega,fun x ae=>KD N x (by have:=gN ae;omega) (by have:=AW ae;omega),fun p cp=>⟨by have:=o' cp;omega,KD N p.2 (by have:=gp cp;omega) (by have:=o' cp;omega)⟩⟩
theorem SQ {v:JV} {t:aa} (h:v.wr 0 [] = .ok t):v.po≤65536:=by
 have h1:=Mo v.sz v 0 [] t (Nat.le_refl _) h;have aq:t.length≤65536:=(fit h).elim fun t cf=>cf.2.1;simp only [List.length_nil] at h1;omega
end JV
theorem Yo {v:JV} {t:aa} (h:v.wr 0 [] = .ok t):(⟨v,false⟩:mF).fit:=by
 have h1:=JV.SQ h;have dk:=JV.iv v;have hm:=JV.o9 v.map;obtain⟨r1,_,afE⟩:=(JV.nb v).1 (JV.Hb h);refine⟨r1,(by omega:v.map.length≤1000000),fun p cp=>?_⟩;have bf:p.1.length+p.2.po≤JV.ky v.map:=JV.o' cp;have tu:=JV.iv p.2;have qm:=JV.sy p.2.list;have Re:=JV.o9 p.2.map;exact⟨by omega,((JV.nb p.2).1 (afE p cp)).1,by omega⟩
def e1 (v:JV):=dS ⟨v,false⟩ nC 5
def hX (v:JV):=JN (e1 v).2 hY
def iG (v:JV):=JN (hX v).2 hZ
def s' (v:JV):=dS (iG v).2 mm 3
def ta (v:JV):=dS (s' v).2 iu 3
def tb (v:JV):=dS (ta v).2 mn 3
def tc (v:JV):=dS (tb v).2 kh 2
def nB (v:JV):=dS (tc v).2 qz 2
def qy (v:JV):Bool:=((nB v).2.rest.get gm).isSome
def l2 (v:JV):JV×mF:=if qy v then dS (nB v).2 gm 3 else (JV.gQ,(nB v).2)
def cc (v:JV):=dS (l2 v).2 mo 5
def pZ (p:aa×JV):Bool:=decide (p.2.map.length=0)||p.2.map.any fun q=>decide (q.2.kind≠3)
def vp (v:JV):Bool:=(cc v).2.bad||(cc v).1.map.any pZ
def q3 (v:JV):=dS ⟨(cc v).2.rest,vp v⟩ gz 5
def vq (v:JV):=dS ⟨(q3 v).1,false⟩ kL 3
def fv (p:aa×JV):List dH:=p.2.map.map fun q=>⟨p.1,q.1,q.2.str⟩
def ch (m:List (aa×JV)):List dH:=(m.map fv).flatten
def h9 (v:JV):EV:=⟨(s' v).1.str,(ta v).1.str,(tb v).1.str,qy v,(l2 v).1.str,(e1 v).1,(hX v).1,(iG v).1,(tc v).1.num,(nB v).1.num,(vq v).1.str,ch (cc v).1.map⟩
def SL (v:JV):Bool:=(q3 v).2.bad||((vq v).2.bad||decide ((q3 v).2.rest.map.length+(vq v).2.rest.map.length > 0))
noncomputable def lO (v:JV):Int:=if e7 (v.wr 0 [])≠0∨v.kind≠5 then 21 else if SL v=true then 21 else (h9 v).q6
section
variable {v:JV} (h:(⟨v,false⟩:mF).fit)
include h
theorem aa1:(e1 v).2.fit:=mF.hA h _ _
theorem aa2:(hX v).2.fit:=mF.hA (aa1 h) hY 4
theorem aa3:(iG v).2.fit:=mF.hA (aa2 h) hZ 4
theorem aa4:(s' v).2.fit:=mF.hA (aa3 h) _ _
theorem aa5:(ta v).2.fit:=mF.hA (aa4 h) _ _
theorem aa6:(tb v).2.fit:=mF.hA (aa5 h) _ _
theorem aa7:(tc v).2.fit:=mF.hA (aa6 h) _ _
theorem Hi:(nB v).2.fit:=mF.hA (aa7 h) _ _
theorem SS:(l2 v).2.fit:=by
 unfold l2
 split
 ·exact mF.hA (Hi h) _ _
 exact Hi h
theorem aa0:(cc v).2.fit:=mF.hA (SS h) _ _
end
end Go.Proofs.YtnihidkbkhcfoaaGreatDoor.V
namespace Go.Proofs.YtnihidkbkhcfoaaGreatDoor.V
open Go
namespace JV
theorem xB (q:aa×JV→Bool):∀ m:List (aa×JV),ky (m.filter q)≤ky m
 | []=>by simp
 | x::r=>by
  have:=xB q r
  rw [List.filter_cons,ky]
  split
  ·rw [ky];omega
  omega
end JV
theorem jh {t:mF} (h:t.rest.po≤65536) (k:aa) (kind:Int):(dS t k kind).1.po≤65536∧(dS t k kind).2.rest.po≤65536:=by
 have ck:JV.gQ.po≤65536:=by rw [JV.iv];simp [JV.gQ,JV.str,JV.list,JV.map,JV.re,JV.ky]
 have bq:=JV.iv t.rest;cases dA:t.rest.get k with
 | none=>rw [qx dA];exact⟨ck,h⟩
 | some x=>
  by_cases hk:x.kind=kind
  ·rw [qw dA hk];have hm:=JV.o' (JV.wI dA);refine⟨by simp only at hm ⊢;omega,?_⟩;have dI:=JV.xB (fun q:aa×JV=>decide (q.1≠k)) t.rest.eT;have cf:JV.ky t.rest.eT≤JV.ky t.rest.map:=by
    unfold JV.eT
    split
    ·exact Nat.le_refl _
    simp [JV.ky]
   show(JV.obj (ow t.rest.eT k)).po≤65536;rw [JV.iv];simp only [JV.obj,JV.str,JV.list,JV.map,JV.re,List.length_nil];unfold ow;omega
  rw [qv dA hk];exact⟨ck,h⟩
theorem C6:JV.gQ.g':=(JV.nb _).2 ⟨List.Pairwise.nil,by simp [JV.gQ,JV.list],by simp [JV.gQ,JV.map]⟩
theorem hg {t:mF} (h:t.rest.g') (k:aa) (kind:Int):(dS t k kind).1.g'∧(dS t k kind).2.rest.g':=by
 obtain⟨r1,asn,afE⟩:=(JV.nb _).1 h;cases dA:t.rest.get k with
 | none=>rw [qx dA];exact⟨C6,h⟩
 | some x=>
  by_cases hk:x.kind=kind
  ·rw [qw dA hk];refine⟨afE _ (JV.wI dA),(JV.nb _).2 ⟨?_,by simp [JV.obj,JV.list],fun p cp=>?_⟩⟩
   ·show er (ow t.rest.eT k);refine List.Pairwise.filter _ ?_;unfold JV.eT
    split
    ·exact r1
    exact List.Pairwise.nil
   have ua:p∈t.rest.eT:=(List.mem_filter.1 (show p∈ow t.rest.eT k from cp)).1;unfold JV.eT at ua
   split at ua
   ·exact afE p ua
   cases ua
  rw [qv dA hk];exact⟨C6,h⟩
theorem CJ {x:JV} (b:Bool) (h:x.g') (bf:x.po≤65536):(⟨x,b⟩:mF).fit:=by
 obtain⟨r1,_,afE⟩:=(JV.nb x).1 h;have e:=JV.iv x;have hm:=JV.o9 x.map;refine⟨r1,(by omega:x.map.length≤1000000),fun p cp=>?_⟩;have bf:p.1.length+p.2.po≤JV.ky x.map:=JV.o' cp;have tu:=JV.iv p.2;have qm:=JV.sy p.2.list;have Re:=JV.o9 p.2.map;exact⟨by omega,((JV.nb p.2).1 (afE p cp)).1,by omega⟩
section
variable {v:JV} (h:v.g')
include h
theorem aop:(e1 v).1.g'∧(e1 v).2.rest.g':=hg h _ _
theorem aoq:(hX v).2.rest.g':=(hg (aop h).2 hY 4).2
theorem aor:(iG v).2.rest.g':=(hg (aoq h) hZ 4).2
theorem aos:(s' v).2.rest.g':=(hg (aor h) _ _).2
theorem aot:(ta v).2.rest.g':=(hg (aos h) _ _).2
theorem aou:(tb v).2.rest.g':=(hg (aot h) _ _).2
theorem aov:(tc v).2.rest.g':=(hg (aou h) _ _).2
theorem ajc:(nB v).2.rest.g':=(hg (aov h) _ _).2
theorem aow:(l2 v).2.rest.g':=by
 unfold l2
 split
 ·exact(hg (ajc h) _ _).2
 exact ajc h
theorem aox:(cc v).2.rest.g':=(hg (aow h) _ _).2
theorem aij:(q3 v).1.g'∧(q3 v).2.rest.g':=hg (t:=⟨(cc v).2.rest,vp v⟩) (aox h) _ _
end
theorem sY:∀ m:List (aa×JV),(ch m).length≤JV.ky m∧∀ s∈ch m,s.c8.length≤JV.ky m∧s.key.length≤JV.ky m∧s.sig.length≤JV.ky m
 | []=>by simp [ch,JV.ky]
 | p::r=>by
  obtain⟨h1,aq⟩:=sY r
  have e:ch (p::r)=fv p++ch r:=by simp [ch]
  have cp:=JV.iv p.2
  have cg:=JV.o9 p.2.map
  have bf:(fv p).length=p.2.map.length:=by simp [fv]
  rw [e,JV.ky,List.length_append,bf]
  refine⟨by omega,fun s bf=>?_⟩
  rcases List.mem_append.1 bf with bf | bf
  ·unfold fv at bf
   obtain⟨q,e5,rfl⟩:=List.mem_map.1 bf
   have:=JV.o' e5
   have:=JV.iv q.2
   simp only
   omega
  obtain⟨a,b,c⟩:=aq s bf
  omega
section
variable {v:JV} (h:v.po≤65536)
include h
theorem ajd:(e1 v).1.po≤65536∧(e1 v).2.rest.po≤65536:=jh h _ _
theorem aje:(dS (e1 v).2 hY 4).1.po≤65536∧(hX v).2.rest.po≤65536:=jh (ajd h).2 hY 4
theorem ajf:(dS (hX v).2 hZ 4).1.po≤65536∧(iG v).2.rest.po≤65536:=jh (aje h).2 hZ 4
theorem afa:(s' v).1.po≤65536∧(s' v).2.rest.po≤65536:=jh (ajf h).2 _ _
theorem afb:(ta v).1.po≤65536∧(ta v).2.rest.po≤65536:=jh (afa h).2 _ _
theorem ajg:(tb v).1.po≤65536∧(tb v).2.rest.po≤65536:=jh (afb h).2 _ _
theorem aoy:(tc v).1.po≤65536∧(tc v).2.rest.po≤65536:=jh (ajg h).2 _ _
theorem ajh:(nB v).1.po≤65536∧(nB v).2.rest.po≤65536:=jh (aoy h).2 _ _
theorem aji:(l2 v).1.po≤65536∧(l2 v).2.rest.po≤65536:=by
 unfold l2
 split
 ·exact jh (ajh h).2 _ _
 exact⟨by rw [JV.iv];simp [JV.gQ,JV.str,JV.list,JV.map,JV.re,JV.ky],(ajh h).2⟩
theorem aae:(cc v).1.po≤65536∧(cc v).2.rest.po≤65536:=jh (aji h).2 _ _
theorem adI:(q3 v).1.po≤65536∧(q3 v).2.rest.po≤65536:=jh (t:=⟨(cc v).2.rest,vp v⟩) (aae h).2 _ _
theorem aoz:(vq v).1.po≤65536∧(vq v).2.rest.po≤65536:=jh (t:=⟨(q3 v).1,false⟩) (adI h).1 _ _
omit h in
theorem rf (x:JV) (ae:x.po≤65536):x.str.length≤65536:=by have:=JV.iv x;omega
omit h in
theorem H3 (x:JV) (ae:x.po≤65536):(x.list.map JV.str).length≤65536∧∀ s∈x.list.map JV.str,s.length≤65536:=by
 have:=JV.iv x;have:=JV.sy x.list;refine⟨by rw [List.length_map];omega,fun s bf=>?_⟩;obtain⟨y,aY,rfl⟩:=List.mem_map.1 bf;have:=JV.AW aY;have:=JV.iv y;omega
theorem Om:(h9 v).lens:=by
 have dA:=JV.iv (cc v).1;have h1:=aae h;obtain⟨_,aq⟩:=sY (cc v).1.map;exact⟨Nat.lt_of_le_of_lt (rf _ (afa h).1) (by decide),Nat.lt_of_le_of_lt (rf _ (afb h).1) (by decide),fun s bf=>by have:=(aq s bf).1;omega⟩
theorem CK:(h9 v).sigs.length≤65536:=by
 have dA:=JV.iv (cc v).1;have h1:=aae h;have:=(sY (cc v).1.map).1;show(ch (cc v).1.map).length≤65536;omega
theorem Yy:(h9 v).ok:=by
 have b:∀ n:Nat,n≤65536→n≤140737488351232:=fun n ck=>by omega
 have dA:=JV.iv (cc v).1;have h1:=(aae h).1;obtain⟨aU,aq⟩:=sY (cc v).1.map;obtain⟨MS,IX⟩:=H3 _ (aje h).1;obtain⟨pb,a2⟩:=H3 _ (ajf h).1;exact⟨b _ (rf _ (afa h).1),b _ (rf _ (afb h).1),b _ (rf _ (ajg h).1),b _ (rf _ (aji h).1),JV.KD _ _ (Nat.le_refl _) (ajd h).1,fun s bf=>b _ (IX s bf),b _ MS,fun s bf=>b _ (a2 s bf),b _ pb,b _ (rf _ (aoz h).1),fun s bf=>by obtain⟨qL,p2,uq⟩:=aq s bf;exact⟨b _ (by omega),b _ (by omega),b _ (by omega)⟩,b _ (CK h)⟩
end
end Go.Proofs.YtnihidkbkhcfoaaGreatDoor.V
set_option maxRecDepth 10000
namespace Go.Proofs.YtnihidkbkhcfoaaGreatDoor.V
open Go Go.Proofs
theorem Sz:vT Tryz.prog 103 [(0,6),(6,1)]=true:=by kernel_rfl
theorem SH:hG Tryz.prog 103 ([.int .i64 0,.bool false,.int .i64 0,S [],.slice none 0 0,.slice none 0 0,.bool false]):=by unfold hG;kernel_rfl
theorem sl:NV Tryz.prog 25 3 3=true:=by kernel_rfl
theorem G1:NV Tryz.prog 25 2 2=true:=by kernel_rfl
theorem SI:NV Tryz.prog 25 5 5=true:=by kernel_rfl
theorem SJ:aQ Tryz.prog 91:=aQ.of Tryz.func91 (by kernel_rfl) (by kernel_rfl)
theorem aii:vT Tryz.prog 92 [(0,1),(1,1),(2,1)]=true:=by kernel_rfl
theorem Oa (a b:List (aa×JV)):ch (a++b)=ch a++ch b:=by simp [ch]
theorem SK {m:List (aa×JV)} {i:Nat} {x:aa×JV} (h:m[i]? = some x):ch (m.take (i+1))=ch (m.take i)++fv x∧(ch (m.take i)).length+x.2.map.length≤(ch m).length:=by
 have h1:m.take (i+1)=m.take i ++ [x]:=by
  have hi:=(List.getElem?_eq_some_iff.1 h);rw [List.take_succ_eq_append_getElem hi.1,hi.2]
 have aq:ch (m.take (i+1))=ch (m.take i)++fv x:=by rw [h1];simp [ch]
 refine⟨aq,?_⟩;have aU:m=m.take (i+1)++m.drop (i+1):=(List.take_append_drop _ _).symm;have bM:ch m=ch (m.take (i+1))++ch (m.drop (i+1)):=by rw [← Oa,List.take_append_drop]
 rw [bM,aq,List.length_append,List.length_append];have:(fv x).length=x.2.map.length:=by simp [fv]
 omega
theorem Ob {x:aa×JV} {j:Nat} {q:aa×JV} (h:x.2.map[j]? = some q):(fv x).take (j+1)=(fv x).take j ++ [⟨x.1,q.1,q.2.str⟩]:=by
 have d':=(List.getElem?_eq_some_iff.1 h);have cg:j<(fv x).length:=by simpa [fv] using d'.1
 rw [List.take_succ_eq_append_getElem cg];simp [fv,d'.2]
theorem Yj (v:JV):dS ⟨(cc v).2.rest,vp v⟩ gz 5=q3 v:=rfl
theorem Yk (v:JV):dS ⟨(q3 v).1,false⟩ kL 3=vq v:=rfl
theorem Yl (v:JV):SL v=((q3 v).2.bad||((vq v).2.bad||decide ((q3 v).2.rest.map.length+(vq v).2.rest.map.length > 0))):=rfl
theorem SM {v:JV} (h:(⟨v,false⟩:mF).fit):(q3 v).2.rest.map.length≤1000000:=(mF.hA (mF.G2 (aa0 h) (vp v)) gz 5).2.1
theorem SN {v:JV} (h:v.g') (bf:v.po≤65536):(vq v).2.rest.map.length≤1000000:=(mF.hA (CJ (x:=(q3 v).1) false (aij h).1 (adI bf).1) kL 3).2.1
theorem kt.SO {w w':World} {g b T:Nat} {cs:List Value} (N:kt w w' g T cs) (h:b<w.heap.size):b≠g:=fun e=>by have:=N.le (Mod.refl [] w);omega
theorem oV.grow {A:List Nat} {w w':World} {g EX T:Nat} {t:mF} {cs:List Value} (h:oV A w g t) (N:kt w w' EX T cs):oV (EX::A) w' g t:=by
 obtain⟨al,cl,am,cm,h1,aq,aU⟩:=h;have hm:∀ x∈EX::A,x∈A∨w.heap.size≤x:=fun x ae=>(List.mem_cons.1 ae).elim (fun e=>.inr (e▸N.le (Mod.refl [] w))) .inl;exact⟨al,cl,am,cm,h1.I N.mod,(aq.more hm).bB N.mod,(aU.more hm).bB N.mod⟩
theorem ba.grow {A:List Nat} {w w':World} {EX T:Nat} {d:D} {u:Value} {cs:List Value} (h:ba A w d u) (N:kt w w' EX T cs):ba (EX::A) w' d u:=
 (h.more (fun x ae=>(List.mem_cons.1 ae).elim (fun e=>.inr (e▸N.le (Mod.refl [] w))) .inl)).bB N.mod
theorem oV.e9 {A A':List Nat} {w:World} {g:Nat} {t:mF} (h:oV A w g t) (bf:∀ x∈A',x∈A):oV A' w g t:=by
 obtain⟨al,cl,am,cm,h1,aq,aU⟩:=h;exact⟨al,cl,am,cm,h1,aq.e9 bf,aU.e9 bf⟩
theorem Oc {w:World} {v:Value} {l:List dH} (h:Own w 92 3 v l.length ((l.map dH.cells).flatten)):ba [] w (flat 3 dH.cells l) v:=Own.flat h (fun _ _=>rfl) (fun x _ c bj=>by simp [dH.cells] at bj;rcases bj with rfl | rfl | rfl <;> rfl) rfl (by simp)
/-- what the reading of an event hands back -/
def nA (A:List Nat) (w0 w:World) (v:JV) (us:List Value):Prop:=
 (lO v=0∧∃ al cl am cm up EZ Ih,us = [S (h9 v).room,S (h9 v).snd,S (h9 v).ty,.bool (h9 v).st,S (h9 v).key,.int .i64 (h9 v).bd.kind,.bool (h9 v).bd.is,.int .i64 (h9 v).bd.num,S (h9 v).bd.str,.slice al (h9 v).bd.list.length cl,.slice am (h9 v).bd.map.length cm,up,EZ,.int .i64 (h9 v).dep,.int .i64 (h9 v).time,S (h9 v).hash,Ih]∧
  ao A w (h9 v).bd.D [.int .i64 (h9 v).bd.kind,.bool (h9 v).bd.is,.int .i64 (h9 v).bd.num,S (h9 v).bd.str,.slice al (h9 v).bd.list.length cl,.slice am (h9 v).bd.map.length cm]∧Own w 9 1 up (h9 v).prev.length (((h9 v).prev.map fun s=>[S s]).flatten)∧Own w 9 1 EZ (h9 v).bn.length (((h9 v).bn.map fun s=>[S s]).flatten)∧Own w 92 3 Ih (h9 v).sigs.length (((h9 v).sigs.map dH.cells).flatten)∧(∀ x∈a1 up,w0.heap.size≤x)∧(∀ x∈a1 EZ,w0.heap.size≤x)∧∀ x∈a1 Ih,w0.heap.size≤x)∨
 (lO v≠0∧us = [S [],S [],S [],.bool false,S [],.int .i64 0,.bool false,.int .i64 0,S [],.slice none 0 0,.slice none 0 0,.slice none 0 0,.slice none 0 0,.int .i64 0,.int .i64 0,S [],.slice none 0 0])
theorem nA.mk {A:List Nat} {w0 w:World} {v:JV} {al am Ym adJ adK:Option Addr} {cl cm pT qf cs:Nat} (h:lO v=0) (vR:ao A w (e1 v).1.D [.int .i64 (e1 v).1.kind,.bool (e1 v).1.is,.int .i64 (e1 v).1.num,S (e1 v).1.str,.slice al (e1 v).1.list.length cl,.slice am (e1 v).1.map.length cm]) (eS:Own w 9 1 (.slice Ym (hX v).1.length pT) (hX v).1.length (((hX v).1.map fun s=>[S s]).flatten)) (qE:Own w 9 1 (.slice adJ (iG v).1.length qf) (iG v).1.length (((iG v).1.map fun s=>[S s]).flatten)) (vO:Own w 92 3 (.slice adK (ch (cc v).1.map).length cs) (ch (cc v).1.map).length (((ch (cc v).1.map).map dH.cells).flatten)) (rN:∀ x∈a1 (.slice Ym (hX v).1.length pT),w0.heap.size≤x) (Ji:∀ x∈a1 (.slice adJ (iG v).1.length qf),w0.heap.size≤x) (NL:∀ x∈a1 (.slice adK (ch (cc v).1.map).length cs),w0.heap.size≤x) :
  nA A w0 w v [S (s' v).1.str,S (ta v).1.str,S (tb v).1.str,.bool (qy v),S (l2 v).1.str,.int .i64 (e1 v).1.kind,.bool (e1 v).1.is,.int .i64 (e1 v).1.num,S (e1 v).1.str,.slice al (e1 v).1.list.length cl,.slice am (e1 v).1.map.length cm,.slice Ym (hX v).1.length pT,.slice adJ (iG v).1.length qf,.int .i64 (tc v).1.num,.int .i64 (nB v).1.num,S (vq v).1.str,.slice adK (ch (cc v).1.map).length cs]:=
 .inl ⟨h,al,cl,am,cm,_,_,_,rfl,vR,eS,qE,vO,rN,Ji,NL⟩
set_option maxHeartbeats 4000000 in
theorem Yn (A:List Nat) (w:World) (v:JV) (us:List Value) (asp:ao A w v.D us) (dF:∀ a∈A,a<w.heap.size) (jG:nT w) (eY:iK w):Calls Tryz.prog 43 [.agg us.toArray].toArray w (bL fun u w'=>∃ gb,u = .tuple #[.agg gb.toArray,.int .i64 (lO v)]∧nA A w w' v gb∧Mod [] w w'):=by
 refine enter Tryz.func43 rfl rfl rfl (l:=[(0,_)]) ⟨rfl,trivial⟩ ?_;have E:=Mod.refl [] w;obtain⟨al,cl,am,cm,rfl,kW,jJ⟩:=JV.bb asp;have asp:=JV.cv kW jJ;refine ab fun aV=>dP rfl rfl rfl fun g1 aB bR=>?_;have bH:=bR.le E;replace E:=E.then bR.mod;have U:=bR.az;refine bt oY rfl fun g2 cN cK=>?_;have b4:=cK.le E;have bP:=cK.ne U;replace U:=U.I cK.mod;replace E:=E.then cK.mod;have ah:=cK.az;refine aT rfl (J aV (ax fun aL=>ab fun aW=>ag (a8 (vs:=[_,_,_,_,_,_]) aK rfl rfl (U.cs rfl)) (cP (bF JO rfl) (Ai _ v _ ((asp.e9 (by simp)).bB E) (jG.mod E (by simp))) fun fV R=>?_)));replace U:=U.I R;replace ah:=ah.I R;replace E:=E.then R;refine ak 5 rfl (J aW (ab fun br=>ak 2 rfl ?_));refine cT (fun ck:e7 (v.wr 0 [])≠0=>?_) (fun ck=>?_)
 ·refine ak 5 rfl (J br (aD rfl ?_));have ja:lO v=21:=by unfold lO;rw [if_pos (by first | exact .inl ck | exact .inr eA)]
  refine ab fun bI=>ag (a' (cs:=[_,_,_,_,_,_,_,_,_,_,_,_,_,_,_,_,_]) vr oY rfl rfl) (bo (vs:=[_,_,_,_,_,_,_,_,_,_,_,_,_,_,_,_,_]) fi ah rfl rfl rfl (by simp [Value.oneCell']) (by simp) fun ic kZ=>?_);replace U:=U.ne kZ.mod bP;replace E:=E.own kZ.mod b4;replace ah:aF ic g2 _ [_,_,_,_,_,_,_,_,_,_,_,_,_,_,_,_,_]:=kZ.az;exact aT rfl (J bI (aZ (aO (by simp) (js (vs:=[_,_,_,_,_,_,_,_,_,_,_,_,_,_,_,_,_]) rfl fi rfl rfl (ah.cs rfl) rfl ⟨_,by rw [ja],.inr ⟨by rw [ja];decide,rfl⟩,E⟩))))
 refine aG rfl (ar (av hC rfl) (ar (bc dE rfl (U.cell rfl)) (ar (eU rfl rfl) ?_)));refine cT (fun eA:v.kind≠5=>?_) (fun eA=>?_)
 ·refine ag (ji rfl rfl rfl) (J br (aD rfl ?_));have ja:lO v=21:=by unfold lO;rw [if_pos (by first | exact .inl ck | exact .inr eA)]
  refine ab fun bW=>ag (a' (cs:=[_,_,_,_,_,_,_,_,_,_,_,_,_,_,_,_,_]) vr oY rfl rfl) (bo (vs:=[_,_,_,_,_,_,_,_,_,_,_,_,_,_,_,_,_]) fi ah rfl rfl rfl (by simp [Value.oneCell']) (by simp) fun jn hx=>?_);replace U:=U.ne hx.mod bP;replace E:=E.own hx.mod b4;replace ah:aF jn g2 _ [_,_,_,_,_,_,_,_,_,_,_,_,_,_,_,_,_]:=hx.az;exact aT rfl (J bW (aZ (aO (by simp) (js (vs:=[_,_,_,_,_,_,_,_,_,_,_,_,_,_,_,_,_]) rfl fi rfl rfl (ah.cs rfl) rfl ⟨_,by rw [ja],.inr ⟨by rw [ja];decide,rfl⟩,E⟩))))
 refine ag (ji rfl rfl rfl) (J br (aE rfl ?_));obtain⟨t,adL⟩:=iU (Classical.not_not.1 ck);have lu:=Yo adL;have SP:=JV.SQ adL;have Yp:¬ (e7 (v.wr 0 [])≠0∨v.kind≠5):=fun h=>h.elim ck eA;refine ca (aw aL (ab fun cb=>ag (a8 (vs:=[_,_,_,_,_,_]) aK rfl rfl (U.cs rfl)) (ag ((a' (cs:=[_,_,_,_,_,_,_]) Sz SH rfl rfl)) (dP rfl rfl rfl fun g3 jC eQ=>?_))));have dJ:=eQ.le E;have eM:=eQ.ne U;have cJ:=eQ.ne ah;replace U:=U.I eQ.mod;replace ah:=ah.I eQ.mod;replace E:=E.then eQ.mod;have bz:=eQ.az;have aik:∀ a∈g3::g2::A,a∈A∨w.heap.size≤a:=fun a ay=>by simp at ay;rcases ay with rfl | rfl | ay;exact .inr dJ;exact .inr b4;exact .inl ay
 have ix:oV (g3::g2::A) _ g3 ⟨v,false⟩:=⟨_,_,_,_,bz,(kW.more aik).bB E,(jJ.more aik).bB E⟩;refine aT rfl (J cb (ab fun cx=>aG rfl (fA (bF oW rfl) (j5 (g3::g2::A) _ g3 ⟨v,false⟩ ix (by simp) (fun a ay=>by simp at ay;rcases ay with rfl | rfl | ay;exact ix.lt;exact ah.lt;exact Nat.lt_of_lt_of_le (dF a ay) E.size) lu nC 5) rfl fun cO iw aA=>?_)));obtain⟨arj,rfl,Rxc,ix,R⟩:=aA;replace U:=U.ne R eM;replace ah:=ah.ne R cJ;replace E:=E.own R dJ;obtain⟨Od,Oe,Og,Oh,rfl,adM,amI⟩:=JV.bb Rxc;replace adM:=adM;replace ix:=ix.e9 (A':=[g3]) (by simp);obtain⟨SR,Yq⟩:∃ x,x=iw:=⟨_,rfl⟩;subst Yq;have F:=Mod.refl [g3] SR;have aps:=ix.lt;have apt:=ah.lt;have Yq:=E.size;refine aG rfl ?_;have adN:=E.size;have aj7:=ah.lt;have aj8:=ix.lt;refine fA (bF SJ rfl) (Ah [g3] _ g3 (e1 v).2 ix (by simp) (fun a ay=>by simp at ay;subst ay;exact ix.lt) (aa1 lu) hY) rfl fun cO n' aA=>?_;obtain⟨cA,adO,ix,R⟩:=aA;replace U:=U.ne R eM;replace ah:=ah.ne R cJ;replace E:=E.own R dJ;replace F:=F.trans R;obtain⟨lP,q4,rfl,apu,apv⟩:=cA.form;have amJ:∀ y∈a1 (.slice lP _ q4),w.heap.size≤y:=fun y aY=>Nat.le_trans adN (adO y aY);have G3:∀ y∈a1 (.slice lP _ q4),y≠g2:=fun y aY e=>by have:=adO y aY;omega
 have oZ:∀ y∈a1 (.slice lP _ q4),y≠g3:=fun y aY e=>by have:=adO y aY;omega
 refine aG rfl ?_;have adP:=E.size;have aj9:=ah.lt;have aj':=ix.lt;refine fA (bF SJ rfl) (Ah [g3] _ g3 (hX v).2 ix (by simp) (fun a ay=>by simp at ay;subst ay;exact ix.lt) (aa2 lu) hZ) rfl fun cO lY aA=>?_;obtain⟨cD,adO,ix,R⟩:=aA;replace U:=U.ne R eM;replace ah:=ah.ne R cJ;replace E:=E.own R dJ;replace F:=F.trans R;replace cA:=cA.put R oZ;obtain⟨lQ,q5,rfl,apw,apx⟩:=cD.form;have amK:∀ y∈a1 (.slice lQ _ q5),w.heap.size≤y:=fun y aY=>Nat.le_trans adP (adO y aY);have G4:∀ y∈a1 (.slice lQ _ q5),y≠g2:=fun y aY e=>by have:=adO y aY;omega
 have pK:∀ y∈a1 (.slice lQ _ q5),y≠g3:=fun y aY e=>by have:=adO y aY;omega
 refine ag (a' (cs:=[_,_,_,_,_,_,_,_,_,_,_,_,_,_,_,_,_]) vr oY rfl rfl) ?_;have adQ:=ix;refine bt oY rfl fun g4 iy N4=>?_;have fO:=N4.le E;have oX:=N4.le F;have gE:=N4.ne U;have e2:=N4.ne ah;have dm:=N4.SO ix.lt;have kM:=N4.b8 cA;have kN:=N4.b8 cD;replace ix:=ix.I N4.mod;replace U:=U.I N4.mod;replace ah:=ah.I N4.mod;replace E:=E.then N4.mod;replace F:=F.then N4.mod;replace cA:=cA.I N4.mod;replace cD:=cD.I N4.mod;have bg:=N4.az;replace ix:=adQ.grow N4;refine bo (vs:=[_,_,_,_,_,_,_,_,_,_,_,_,_,_,_,_,_]) fi bg rfl rfl rfl (by simp [Value.oneCell']) (by simp) fun kr e'=>?_;replace U:=U.ne e'.mod gE;replace ah:=ah.ne e'.mod e2;replace E:=E.own e'.mod fO;replace F:=F.own e'.mod oX;replace cA:=cA.put e'.mod kM;replace cD:=cD.put e'.mod kN;replace bg:aF kr g4 _ [_,_,_,_,_,_,_,_,_,_,_,_,_,_,_,_,_]:=e'.az;replace ix:=ix.mod e'.mod (fun x ae=>by simp [List.mem_singleton.1 ae]) (fun h=>by have:=dm;simp at h;exact this h);refine J cx (ab fun cH=>aG rfl (fA (bF oW rfl) (j5 [g4,g3] _ g3 (iG v).2 ix (by simp) (fun a ay=>by simp at ay;rcases ay with rfl | rfl;exact bg.lt;exact ix.lt) (aa3 lu) mm 3) rfl fun cO qa aA=>?_));obtain⟨amL,rfl,adR,ix,R⟩:=aA;replace U:=U.ne R eM;replace ah:=ah.ne R cJ;replace bg:=bg.ne R (Ne.symm dm);replace E:=E.own R dJ;replace F:=F.trans R;replace cA:=cA.put R oZ;replace cD:=cD.put R pK;obtain⟨amM,amN,amO,amP,rfl,amQ,amR⟩:=JV.bb adR;refine ag ((q1 sl rfl rfl)) (aG rfl (fA (bF oW rfl) (j5 [g4,g3] _ g3 (s' v).2 ix (by simp) (fun a ay=>by simp at ay;rcases ay with rfl | rfl;exact bg.lt;exact ix.lt) (aa4 lu) iu 3) rfl fun cO oC aA=>?_));obtain⟨amS,rfl,adS,ix,R⟩:=aA;replace U:=U.ne R eM;replace ah:=ah.ne R cJ;replace bg:=bg.ne R (Ne.symm dm);replace E:=E.own R dJ;replace F:=F.trans R;replace cA:=cA.put R oZ;replace cD:=cD.put R pK;obtain⟨amT,amU,amV,amW,rfl,amX,amY⟩:=JV.bb adS;refine ag ((q1 sl rfl rfl)) (aG rfl (fA (bF oW rfl) (j5 [g4,g3] _ g3 (ta v).2 ix (by simp) (fun a ay=>by simp at ay;rcases ay with rfl | rfl;exact bg.lt;exact ix.lt) (aa5 lu) mn 3) rfl fun cO qJ aA=>?_));obtain⟨amZ,rfl,adT,ix,R⟩:=aA;replace U:=U.ne R eM;replace ah:=ah.ne R cJ;replace bg:=bg.ne R (Ne.symm dm);replace E:=E.own R dJ;replace F:=F.trans R;replace cA:=cA.put R oZ;replace cD:=cD.put R pK;obtain⟨am0,am1,am2,am3,rfl,am4,am5⟩:=JV.bb adT;refine ag ((q1 sl rfl rfl)) (ag (av mC rfl) (ea bs bg rfl rfl rfl (by simp) fun qd wy=>?_));replace U:=U.ne wy.mod gE;replace ah:=ah.ne wy.mod e2;replace E:=E.own wy.mod fO;replace F:=F.own wy.mod oX;replace cA:=cA.put wy.mod kM;replace cD:=cD.put wy.mod kN;replace bg:aF qd g4 _ [_,_,_,_,_,_,_,_,_,_,_,_,_,_,_,_,_]:=wy.az;replace ix:=ix.mod wy.mod (fun x ae=>by simp [List.mem_singleton.1 ae]) (fun h=>by have:=dm;simp at h;exact this h);refine ag (av mD rfl) (ea bs bg rfl rfl rfl (by simp) fun rz xQ=>?_);replace U:=U.ne xQ.mod gE;replace ah:=ah.ne xQ.mod e2;replace E:=E.own xQ.mod fO;replace F:=F.own xQ.mod oX;replace cA:=cA.put xQ.mod kM;replace cD:=cD.put xQ.mod kN;replace bg:aF rz g4 _ [_,_,_,_,_,_,_,_,_,_,_,_,_,_,_,_,_]:=xQ.az;replace ix:=ix.mod xQ.mod (fun x ae=>by simp [List.mem_singleton.1 ae]) (fun h=>by have:=dm;simp at h;exact this h);refine ag (av kR rfl) (ea bs bg rfl rfl rfl (by simp) fun uE G5=>?_);replace U:=U.ne G5.mod gE;replace ah:=ah.ne G5.mod e2;replace E:=E.own G5.mod fO;replace F:=F.own G5.mod oX;replace cA:=cA.put G5.mod kM;replace cD:=cD.put G5.mod kN;replace bg:aF uE g4 _ [_,_,_,_,_,_,_,_,_,_,_,_,_,_,_,_,_]:=G5.az;replace ix:=ix.mod G5.mod (fun x ae=>by simp [List.mem_singleton.1 ae]) (fun h=>by have:=dm;simp at h;exact this h);refine J cH (ab fun b5=>aG rfl (fA (bF oW rfl) (j5 [g4,g3] _ g3 (tb v).2 ix (by simp) (fun a ay=>by simp at ay;rcases ay with rfl | rfl;exact bg.lt;exact ix.lt) (aa6 lu) kh 2) rfl fun cO tD aA=>?_));obtain⟨am6,rfl,adU,ix,R⟩:=aA;replace U:=U.ne R eM;replace ah:=ah.ne R cJ;replace bg:=bg.ne R (Ne.symm dm);replace E:=E.own R dJ;replace F:=F.trans R;replace cA:=cA.put R oZ;replace cD:=cD.put R pK;obtain⟨am7,am8,am9,am',rfl,ana,anb⟩:=JV.bb adU;refine ag ((q1 G1 rfl rfl)) (aG rfl (fA (bF oW rfl) (j5 [g4,g3] _ g3 (tc v).2 ix (by simp) (fun a ay=>by simp at ay;rcases ay with rfl | rfl;exact bg.lt;exact ix.lt) (aa7 lu) qz 2) rfl fun cO tE aA=>?_));obtain⟨anc,rfl,adV,ix,R⟩:=aA;replace U:=U.ne R eM;replace ah:=ah.ne R cJ;replace bg:=bg.ne R (Ne.symm dm);replace E:=E.own R dJ;replace F:=F.trans R;replace cA:=cA.put R oZ;replace cD:=cD.put R pK;obtain⟨ane,anf,ang,anh,rfl,ani,anj⟩:=JV.bb adV;refine ag ((q1 G1 rfl rfl)) (ag (av mG rfl) (ea dE bg rfl rfl rfl (by simp) fun rZ qT=>?_));replace U:=U.ne qT.mod gE;replace ah:=ah.ne qT.mod e2;replace E:=E.own qT.mod fO;replace F:=F.own qT.mod oX;replace cA:=cA.put qT.mod kM;replace cD:=cD.put qT.mod kN;replace bg:aF rZ g4 _ [_,_,_,_,_,_,_,_,_,_,_,_,_,_,_,_,_]:=qT.az;replace ix:=ix.mod qT.mod (fun x ae=>by simp [List.mem_singleton.1 ae]) (fun h=>by have:=dm;simp at h;exact this h);refine ag (av mH rfl) (ea dE bg rfl rfl rfl (by simp) fun xG vt=>?_);replace U:=U.ne vt.mod gE;replace ah:=ah.ne vt.mod e2;replace E:=E.own vt.mod fO;replace F:=F.own vt.mod oX;replace cA:=cA.put vt.mod kM;replace cD:=cD.put vt.mod kN;replace bg:aF xG g4 _ [_,_,_,_,_,_,_,_,_,_,_,_,_,_,_,_,_]:=vt.az;replace ix:=ix.mod vt.mod (fun x ae=>by simp [List.mem_singleton.1 ae]) (fun h=>by have:=dm;simp at h;exact this h);refine J b5 (nm fun Iy bX=>?_);have pg:∀ (aB:World),oV [g4,g3] aB g3 (l2 v).2∧aF aB g4 29 [S (s' v).1.str,S (ta v).1.str,S (tb v).1.str,.bool (qy v),S (l2 v).1.str,.int .i64 (e1 v).1.kind,.bool (e1 v).1.is,.int .i64 (e1 v).1.num,S (e1 v).1.str,.slice Od (e1 v).1.list.length Oe,.slice Og (e1 v).1.map.length Oh,.slice lP (hX v).1.length q4,.slice lQ (iG v).1.length q5,.int .i64 (tc v).1.num,.int .i64 (nB v).1.num,S [],.slice none 0 0]∧Own aB 9 1 (.slice lP (hX v).1.length q4) (hX v).1.length (((hX v).1.map fun s=>[S s]).flatten)∧Own aB 9 1 (.slice lQ (iG v).1.length q5) (iG v).1.length (((iG v).1.map fun s=>[S s]).flatten)∧aF aB g2 29 [S [],S [],S [],.bool false,S [],.int .i64 0,.bool false,.int .i64 0,S [],.slice none 0 0,.slice none 0 0,.slice none 0 0,.slice none 0 0,.int .i64 0,.int .i64 0,S [],.slice none 0 0]∧Mod [g3] SR aB∧Mod [] w aB→∀ a,Has 173 [] [(2,.pointer (some ⟨g2,0,none⟩)),(3,.int .i64 0),(6,.pointer (some ⟨g3,0,none⟩)),(7,.pointer (some ⟨g4,0,none⟩))] a→Iy a aB:=by
  intro yQ oE;obtain⟨ix,bg,cA,cD,ah,F,E⟩:=oE;refine bX _ _ _ _ (ax fun cU=>ab fun b7=>aG rfl (fA (bF oW rfl) (j5 [g4,g3] _ g3 (l2 v).2 ix (by simp) (fun a ay=>by simp at ay;rcases ay with rfl | rfl;exact bg.lt;exact ix.lt) (SS lu) mo 5) rfl fun cO Fz aA=>?_));obtain⟨ank,rfl,adW,ix,R⟩:=aA;replace ah:=ah.ne R cJ;replace bg:=bg.ne R (Ne.symm dm);replace F:=F.trans R;replace E:=E.own R dJ;replace cA:=cA.put R oZ;replace cD:=cD.put R pK;obtain⟨anl,anm,adX,adY,rfl,ann,adZ⟩:=JV.bb adW;obtain⟨ail,G6,ano⟩:∃ a c,a=adX∧c=adY:=⟨_,_,rfl,rfl⟩;obtain⟨rfl,rfl⟩:=ano;obtain⟨asm,aim⟩:∃ x,x=Fz:=⟨_,rfl⟩;subst aim;obtain⟨G7,G8,G9,G',ep,anp,anq⟩:=ix;have ark:=ep.lt;have ahI:=bg.lt;have vW:=ah.lt;have apy:=F.size;have aim:=E.size;have Fl:=CK SP;have arl:(cc v).1.map.length≤1000000:=(mF.G0 (SS lu) mo 5).2.2;refine ag ((q1 SI rfl rfl)) (ag (bl Tryz.underlying23 rfl) (aG rfl (J b7 (eB (bU (σ:=Nat×Value) (fun⟨i,vs⟩=>[(2,.pointer (some ⟨g2,0,none⟩)),(3,.int .i64 0),(6,.pointer (some ⟨g3,0,none⟩)),(7,.pointer (some ⟨g4,0,none⟩)),(75,.slice ail (cc v).1.map.length G6),(76,.int .i64 (cc v).1.map.length),(77,.int .i64 (i:Int))]) (fun⟨i,vs⟩ aB=>i≤(cc v).1.map.length∧Own aB 92 3 vs (ch ((cc v).1.map.take i)).length (((ch ((cc v).1.map.take i)).map dH.cells).flatten)∧(∀ y∈a1 vs,SR.heap.size≤y∧y≠g4∧y∉a1 (.slice lP (hX v).1.length q4)∧y∉a1 (.slice lQ (iG v).1.length q5))∧ba ([g4,g3]++a1 vs) aB (.ie 7 ((cc v).1.map.map JV.hP)) (.slice ail (cc v).1.map.length G6)∧ba ([g4,g3]++a1 vs) aB (.ie 6 ((cc v).2.rest.list.map JV.D)) (.slice G7 (cc v).2.rest.list.length G8)∧ba ([g4,g3]++a1 vs) aB (.ie 7 ((cc v).2.rest.map.map JV.hP)) (.slice G9 (cc v).2.rest.map.length G')∧aF aB g3 103 [.int .i64 (cc v).2.rest.kind,.bool (cc v).2.rest.is,.int .i64 (cc v).2.rest.num,S (cc v).2.rest.str,.slice G7 (cc v).2.rest.list.length G8,.slice G9 (cc v).2.rest.map.length G',.bool ((cc v).2.bad||((cc v).1.map.take i).any pZ)]∧aF aB g4 29 [S (s' v).1.str,S (ta v).1.str,S (tb v).1.str,.bool (qy v),S (l2 v).1.str,.int .i64 (e1 v).1.kind,.bool (e1 v).1.is,.int .i64 (e1 v).1.num,S (e1 v).1.str,.slice Od (e1 v).1.list.length Oe,.slice Og (e1 v).1.map.length Oh,.slice lP (hX v).1.length q4,.slice lQ (iG v).1.length q5,.int .i64 (tc v).1.num,.int .i64 (nB v).1.num,S [],vs]∧Own aB 9 1 (.slice lP (hX v).1.length q4) (hX v).1.length (((hX v).1.map fun s=>[S s]).flatten)∧Own aB 9 1 (.slice lQ (iG v).1.length q5) (iG v).1.length (((iG v).1.map fun s=>[S s]).flatten)∧aF aB g2 29 [S [],S [],S [],.bool false,S [],.int .i64 0,.bool false,.int .i64 0,S [],.slice none 0 0,.slice none 0 0,.slice none 0 0,.slice none 0 0,.int .i64 0,.int .i64 0,S [],.slice none 0 0]∧Mod [g3] SR aB∧Mod [] w aB) (fun⟨i,vs⟩=>(cc v).1.map.length-i) (⟨0,.slice none 0 0⟩) ⟨rfl,rfl,rfl,rfl,rfl,rfl,rfl,trivial⟩ (⟨by omega,Own.nil _ _ _,by simp [a1],adZ,anp,anq,by rw [List.take_zero,List.any_nil,Bool.or_false];exact ep,bg,cA,cD,ah,F,E⟩) ?_)))));rintro⟨i,vs⟩ Bi ⟨hi,gT,vu,RG,la,lb,ep,bg,cA,cD,ah,F,E⟩;have Es:∀ y∈a1 vs,y≠g2:=fun y aY e=>by have:=(vu y aY).1;omega
  have Aj:∀ y∈a1 vs,y≠g3:=fun y aY e=>by have:=(vu y aY).1;omega
  have SU:∀ y∈a1 vs,y≠g4:=fun y aY=>(vu y aY).2.1;have e6:=Mod.refl [] Bi;refine ab fun cS=>ag (cI rfl rfl) (J cS (ax fun de=>?_));refine aI rfl (fun SV=>?_) (fun SV=>?_);rotate_left
  ·have anx:i=(cc v).1.map.length:=by omega
   subst anx;rw [List.take_length] at gT ep;obtain⟨ad6,anv,rfl,ais,ait⟩:=gT.form;obtain⟨Yu,S'⟩:∃ l,l = [g4,g3]++a1 (.slice ad6 (ch (cc v).1.map).length anv):=⟨_,rfl⟩;have ix:oV Yu _ g3 ⟨(cc v).2.rest,vp v⟩:=⟨_,_,_,_,ep,by rw [S'];exact la,by rw [S'];exact lb⟩;have RZ:g3∈Yu:=by rw [S'];simp
   have aiu:g4∈Yu:=by rw [S'];simp
   have aiv:∀ a∈Yu,a<Bi.heap.size:=fun a ay=>by
    rw [S'] at ay;rcases List.mem_append.1 ay with ay | ay
    ·simp at ay;rcases ay with rfl | rfl;exact bg.lt;exact ep.lt
    exact gT.lt a ay
   have aiw:=JV.Hb adL;refine bm (aO (by simp) (aO (by simp) (bS (aw cU (ab fun hD=>aG rfl (fA (bF oW rfl) (j5 Yu _ g3 ⟨(cc v).2.rest,vp v⟩ ix RZ aiv (mF.G2 (aa0 lu) _) gz 5) rfl fun cO agu aA=>?_))))));obtain⟨aro,rfl,anz,ix,R⟩:=aA;replace ah:=ah.ne R cJ;replace bg:=bg.ne R (Ne.symm dm);replace F:=F.trans R;replace E:=E.own R dJ;replace cA:=cA.put R oZ;replace cD:=cD.put R pK;replace gT:=gT.put R Aj;obtain⟨arp,arq,ars,art,rfl,anA,anB⟩:=JV.bb anz;have aix:∀ a∈Yu,a<agu.heap.size:=fun a ay=>Nat.lt_of_lt_of_le (aiv a ay) R.size;refine ag ((a' (cs:=[_,_,_,_,_,_,_]) Sz SH rfl rfl)) ?_;have adQ:=ix;refine dP rfl rfl rfl fun g8 agv um=>?_;have ad7:=um.le F;have Pw:=um.le E;have sU:=um.ne ah;have Yv:=um.SO ix.lt;have LV:=um.ne bg;have Ta:=um.b8 cA;have Tb:=um.b8 cD;have Yw:=um.b8 gT;replace ix:=ix.I um.mod;replace ah:=ah.I um.mod;replace bg:=bg.I um.mod;replace F:=F.then um.mod;replace E:=E.then um.mod;replace cA:=cA.I um.mod;replace cD:=cD.I um.mod;replace gT:=gT.I um.mod;have Dt:=um.az;replace ix:=adQ.grow um;have Vq:oV (g8::Yu) _ g8 ⟨(q3 v).1,false⟩:=⟨_,_,_,_,Dt,anA.grow um,anB.grow um⟩;have aiy:∀ a∈g8::Yu,a<agv.heap.size:=fun a ay=>by
    rcases List.mem_cons.1 ay with rfl | ay
    ·exact Dt.lt
    exact Nat.lt_of_lt_of_le (aix a ay) um.mod.size
   refine aT rfl (J hD (ab fun ho=>aG rfl (fA (bF oW rfl) (j5 (g8::Yu) _ g8 ⟨(q3 v).1,false⟩ Vq (by simp) aiy (CJ _ (aij aiw).1 (adI SP).1) kL 3) rfl fun cO akM aA=>?_)));obtain⟨aru,rfl,anC,Vq,R⟩:=aA;replace ah:=ah.ne R sU;replace bg:=bg.ne R LV;replace F:=F.own R ad7;replace E:=E.own R Pw;replace cA:=cA.put R Ta;replace cD:=cD.put R Tb;replace gT:=gT.put R Yw;obtain⟨Wf,Wg,Wh,Wi,rfl,af8,af9⟩:=JV.bb anC;replace ix:=ix.mod R (fun x ae=>by simp [List.mem_singleton.1 ae]) (fun h=>Yv (List.mem_singleton.1 h));refine ag ((q1 sl rfl rfl)) (ag (av jW rfl) (ea bs bg rfl rfl rfl (by simp) fun agw Eu=>?_));replace ah:=ah.ne Eu.mod e2;replace F:=F.own Eu.mod oX;replace E:=E.own Eu.mod fO;replace cA:=cA.put Eu.mod kM;replace cD:=cD.put Eu.mod kN;replace gT:=gT.put Eu.mod SU;replace bg:aF agw g4 _ [_,_,_,_,_,_,_,_,_,_,_,_,_,_,_,_,_]:=Eu.az;replace ix:=ix.mod Eu.mod (fun x ae=>by rw [List.mem_singleton.1 ae];exact List.mem_cons_of_mem _ aiu) (fun h=>dm (List.mem_singleton.1 h));replace Vq:=Vq.mod Eu.mod (fun x ae=>by rw [List.mem_singleton.1 ae];exact List.mem_cons_of_mem _ aiu) (fun h=>(Ne.symm LV) (List.mem_singleton.1 h));have wu:=SM lu;have qm:=SN aiw SP;have Oi:=Yl v;rw [Yj] at ix;rw [Yk] at Vq;generalize (q3 v).2=afD at ix wu Oi;generalize (vq v).2=TX at Vq qm Oi;refine J ho (ax fun hE=>ax fun ij=>?_)
   by_cases hj:afD.bad=true
   ·obtain⟨ad8,ad9,ad',aea,ep,aeb,aec⟩:=ix;obtain⟨aed,aee,aef,aeg,sM,aeh,aei⟩:=Vq;refine bT wide (by kernel_rfl) (f' 2 rfl rfl (ai (fun R=>(av e0 rfl)) (ai (fun R=>(bc jr rfl ((ep.I R).cell rfl))) (ai (fun R=>(ec rfl)) (eV rfl (hj) (eV rfl (hj) (eV rfl (hj) (eV rfl (hj) (ai (fun R=>(lU (hj) rfl rfl)) (f' 16 rfl rfl (bV rfl fun agx R=>?_)))))))))));replace ah:=ah.I R;replace ep:=ep.I R;replace bg:=bg.I R;replace sM:=sM.I R;replace F:=F.then R;replace E:=E.then R;replace cA:=cA.I R;replace cD:=cD.I R;replace gT:=gT.I R;refine aw ij (aD rfl ?_);have ja:lO v=21:=by unfold lO;rw [if_neg Yp,if_pos (by rw [Oi];first | (rw [hj];rfl) | (rw [dO hj,eZ];rfl) | (rw [dO hj,dO eZ,bh (show afD.rest.map.length+TX.rest.map.length > 0 by omega)];rfl))]
    refine ab fun jS=>ag (a' (cs:=[_,_,_,_,_,_,_,_,_,_,_,_,_,_,_,_,_]) vr oY rfl rfl) (bo (vs:=[_,_,_,_,_,_,_,_,_,_,_,_,_,_,_,_,_]) fi ah rfl rfl rfl (by simp [Value.oneCell']) (by simp) fun agy Hc=>?_);replace ep:=ep.ne Hc.mod (Ne.symm cJ);replace bg:=bg.ne Hc.mod (Ne.symm e2);replace sM:=sM.ne Hc.mod (Ne.symm sU);replace E:=E.own Hc.mod b4;replace cA:=cA.put Hc.mod G3;replace cD:=cD.put Hc.mod G4;replace gT:=gT.put Hc.mod Es;replace ah:aF agy g2 _ [_,_,_,_,_,_,_,_,_,_,_,_,_,_,_,_,_]:=Hc.az;exact aT rfl (J jS (aZ (aO (by simp) (js (vs:=[_,_,_,_,_,_,_,_,_,_,_,_,_,_,_,_,_]) rfl fi rfl rfl (ah.cs rfl) rfl ⟨_,by rw [ja],.inr ⟨by rw [ja];decide,rfl⟩,E⟩))))
   by_cases eZ:TX.bad=true
   ·obtain⟨ad8,ad9,ad',aea,ep,aeb,aec⟩:=ix;obtain⟨aed,aee,aef,aeg,sM,aeh,aei⟩:=Vq;refine bT wide (by kernel_rfl) (f' 2 rfl rfl (ai (fun R=>(av e0 rfl)) (ai (fun R=>(bc jr rfl ((ep.I R).cell rfl))) (ai (fun R=>(ec rfl)) (aM ((dO hj)) (fun R=>(ec rfl)) (aM ((dO hj)) (fun R=>(ee rfl)) (aM ((dO hj)) (fun R=>(av e0 rfl)) (aM ((dO hj)) (fun R=>(bc jr rfl ((sM.I R).cell rfl))) (ai (fun R=>(ji ((dO hj)) rfl rfl)) (ai (fun R=>(ec rfl)) (eV rfl (eZ) (eV rfl (eZ) (eV rfl (eZ) ?_)))))))))))));refine eV rfl (eZ) (eV rfl (eZ) (eV rfl (eZ) (eV rfl (eZ) (eV rfl (eZ) (eV rfl (eZ) (eV rfl (eZ) (eV rfl (eZ) (eV rfl (eZ) (eV rfl (eZ) (eV rfl (eZ) (ai (fun R=>(lU (eZ) rfl rfl)) (bV rfl fun akN R=>?_))))))))))));replace ah:=ah.I R;replace ep:=ep.I R;replace bg:=bg.I R;replace sM:=sM.I R;replace F:=F.then R;replace E:=E.then R;replace cA:=cA.I R;replace cD:=cD.I R;replace gT:=gT.I R;refine aw ij (aD rfl ?_);have ja:lO v=21:=by unfold lO;rw [if_neg Yp,if_pos (by rw [Oi];first | (rw [hj];rfl) | (rw [dO hj,eZ];rfl) | (rw [dO hj,dO eZ,bh (show afD.rest.map.length+TX.rest.map.length > 0 by omega)];rfl))]
    refine ab fun jT=>ag (a' (cs:=[_,_,_,_,_,_,_,_,_,_,_,_,_,_,_,_,_]) vr oY rfl rfl) (bo (vs:=[_,_,_,_,_,_,_,_,_,_,_,_,_,_,_,_,_]) fi ah rfl rfl rfl (by simp [Value.oneCell']) (by simp) fun agz Hd=>?_);replace ep:=ep.ne Hd.mod (Ne.symm cJ);replace bg:=bg.ne Hd.mod (Ne.symm e2);replace sM:=sM.ne Hd.mod (Ne.symm sU);replace E:=E.own Hd.mod b4;replace cA:=cA.put Hd.mod G3;replace cD:=cD.put Hd.mod G4;replace gT:=gT.put Hd.mod Es;replace ah:aF agz g2 _ [_,_,_,_,_,_,_,_,_,_,_,_,_,_,_,_,_]:=Hd.az;exact aT rfl (J jT (aZ (aO (by simp) (js (vs:=[_,_,_,_,_,_,_,_,_,_,_,_,_,_,_,_,_]) rfl fi rfl rfl (ah.cs rfl) rfl ⟨_,by rw [ja],.inr ⟨by rw [ja];decide,rfl⟩,E⟩))))
   by_cases aiz:((afD.rest.map.length:Int)+(TX.rest.map.length:Int)) > 0
   ·obtain⟨ad8,ad9,ad',aea,ep,aeb,aec⟩:=ix;obtain⟨aed,aee,aef,aeg,sM,aeh,aei⟩:=Vq;refine bT wide (by kernel_rfl) (f' 2 rfl rfl (ai (fun R=>(av e0 rfl)) (ai (fun R=>(bc jr rfl ((ep.I R).cell rfl))) (ai (fun R=>(ec rfl)) (aM ((dO hj)) (fun R=>(ec rfl)) (aM ((dO hj)) (fun R=>(ee rfl)) (aM ((dO hj)) (fun R=>(av e0 rfl)) (aM ((dO hj)) (fun R=>(bc jr rfl ((sM.I R).cell rfl))) (ai (fun R=>(ji ((dO hj)) rfl rfl)) (ai (fun R=>(ec rfl)) (aM ((dO eZ)) (fun R=>(ec rfl)) (aM ((dO eZ)) (fun R=>(ee rfl)) (aM ((dO eZ)) (fun R=>(av nf rfl)) ?_)))))))))))));refine aM ((dO eZ)) (fun R=>(av b9 rfl)) (aM ((dO eZ)) (fun R=>(bc dB rfl ((ep.I R).cell rfl))) (aM ((dO eZ)) (fun R=>(bl Tryz.underlying23 rfl)) (aM ((dO eZ)) (fun R=>(ec rfl)) (aM ((dO eZ)) (fun R=>(ee rfl)) (aM ((dO eZ)) (fun R=>(av nf rfl)) (aM ((dO eZ)) (fun R=>(av b9 rfl)) (aM ((dO eZ)) (fun R=>(bc dB rfl ((sM.I R).cell rfl))) (aM ((dO eZ)) (fun R=>(bl Tryz.underlying23 rfl)) (aM ((dO eZ)) (fun R=>(aN rfl rfl (by omega))) (aM ((dO eZ)) (fun R=>(gq rfl rfl)) (ai (fun R=>(ji ((dO eZ)) rfl rfl)) (bV rfl fun agA R=>?_))))))))))));replace ah:=ah.I R;replace ep:=ep.I R;replace bg:=bg.I R;replace sM:=sM.I R;replace F:=F.then R;replace E:=E.then R;replace cA:=cA.I R;replace cD:=cD.I R;replace gT:=gT.I R;refine aw ij ?_;refine aI rfl (fun He=>?_) (fun He=>absurd aiz He);have ja:lO v=21:=by unfold lO;rw [if_neg Yp,if_pos (by rw [Oi];first | (rw [hj];rfl) | (rw [dO hj,eZ];rfl) | (rw [dO hj,dO eZ,bh (show afD.rest.map.length+TX.rest.map.length > 0 by omega)];rfl))]
    refine ab fun lj=>ag (a' (cs:=[_,_,_,_,_,_,_,_,_,_,_,_,_,_,_,_,_]) vr oY rfl rfl) (bo (vs:=[_,_,_,_,_,_,_,_,_,_,_,_,_,_,_,_,_]) fi ah rfl rfl rfl (by simp [Value.oneCell']) (by simp) fun agB Hf=>?_);replace ep:=ep.ne Hf.mod (Ne.symm cJ);replace bg:=bg.ne Hf.mod (Ne.symm e2);replace sM:=sM.ne Hf.mod (Ne.symm sU);replace E:=E.own Hf.mod b4;replace cA:=cA.put Hf.mod G3;replace cD:=cD.put Hf.mod G4;replace gT:=gT.put Hf.mod Es;replace ah:aF agB g2 _ [_,_,_,_,_,_,_,_,_,_,_,_,_,_,_,_,_]:=Hf.az;exact aT rfl (J lj (aZ (aO (by simp) (js (vs:=[_,_,_,_,_,_,_,_,_,_,_,_,_,_,_,_,_]) rfl fi rfl rfl (ah.cs rfl) rfl ⟨_,by rw [ja],.inr ⟨by rw [ja];decide,rfl⟩,E⟩))))
   obtain⟨ad8,ad9,ad',aea,ep,aeb,aec⟩:=ix;obtain⟨aed,aee,aef,aeg,sM,aeh,aei⟩:=Vq;refine bT wide (by kernel_rfl) (f' 2 rfl rfl (ai (fun R=>(av e0 rfl)) (ai (fun R=>(bc jr rfl ((ep.I R).cell rfl))) (ai (fun R=>(ec rfl)) (aM ((dO hj)) (fun R=>(ec rfl)) (aM ((dO hj)) (fun R=>(ee rfl)) (aM ((dO hj)) (fun R=>(av e0 rfl)) (aM ((dO hj)) (fun R=>(bc jr rfl ((sM.I R).cell rfl))) (ai (fun R=>(ji ((dO hj)) rfl rfl)) (ai (fun R=>(ec rfl)) (aM ((dO eZ)) (fun R=>(ec rfl)) (aM ((dO eZ)) (fun R=>(ee rfl)) (aM ((dO eZ)) (fun R=>(av nf rfl)) ?_)))))))))))));refine aM ((dO eZ)) (fun R=>(av b9 rfl)) (aM ((dO eZ)) (fun R=>(bc dB rfl ((ep.I R).cell rfl))) (aM ((dO eZ)) (fun R=>(bl Tryz.underlying23 rfl)) (aM ((dO eZ)) (fun R=>(ec rfl)) (aM ((dO eZ)) (fun R=>(ee rfl)) (aM ((dO eZ)) (fun R=>(av nf rfl)) (aM ((dO eZ)) (fun R=>(av b9 rfl)) (aM ((dO eZ)) (fun R=>(bc dB rfl ((sM.I R).cell rfl))) (aM ((dO eZ)) (fun R=>(bl Tryz.underlying23 rfl)) (aM ((dO eZ)) (fun R=>(aN rfl rfl (by omega))) (aM ((dO eZ)) (fun R=>(gq rfl rfl)) (ai (fun R=>(ji ((dO eZ)) rfl rfl)) (bV rfl fun agC R=>?_))))))))))));replace ah:=ah.I R;replace ep:=ep.I R;replace bg:=bg.I R;replace sM:=sM.I R;replace F:=F.then R;replace E:=E.then R;replace cA:=cA.I R;replace cD:=cD.I R;replace gT:=gT.I R;refine aw ij (aI rfl (fun He=>absurd He aiz) (fun He=>?_));have aej:lO v=(h9 v).q6:=by unfold lO;rw [if_neg Yp,if_neg (by rw [Oi,dO hj,dO eZ,bN (show ¬ afD.rest.map.length+TX.rest.map.length > 0 by omega)];simp)]
   refine ca (aw hE (ax fun jd=>ax fun kC=>?_));have Yx:=Mod.refl [] agC;have Oj:=adM.toM F (by simp);have Ol:=amI.toM F (by simp);have RE:ao [] _ (h9 v).D [S (s' v).1.str,S (ta v).1.str,S (tb v).1.str,.bool (qy v),S (l2 v).1.str,.int .i64 (e1 v).1.kind,.bool (e1 v).1.is,.int .i64 (e1 v).1.num,S (e1 v).1.str,.slice Od (e1 v).1.list.length Oe,.slice Og (e1 v).1.map.length Oh,.slice lP (hX v).1.length q4,.slice lQ (iG v).1.length q5,.int .i64 (tc v).1.num,.int .i64 (nB v).1.num,S (vq v).1.str,.slice ad6 (ch (cc v).1.map).length anv]:=EV.cv (e:=h9 v) (JV.cv (v:=(e1 v).1) (Oj.e9 (by simp)) (Ol.e9 (by simp))) (Own.strs [] cA (by simp)) (Own.strs [] cD (by simp)) (Oc gT);refine bQ (ag (a8 (vs:=[_,_,_,_,_,_,_,_,_,_,_,_,_,_,_,_,_]) fi rfl rfl (bg.cs rfl)) (cP (bF Tc rfl) (Hg _ (h9 v) _ RE (Yy SP) (Om SP) (jG.mod E (by simp)) (eY.I E)) fun agD R=>?_));replace ah:=ah.I R;replace ep:=ep.I R;replace bg:=bg.I R;replace sM:=sM.I R;replace F:=F.then R;replace E:=E.then R;replace Yx:=Yx.then R;replace cA:=cA.I R;replace cD:=cD.I R;replace gT:=gT.I R;refine aT rfl (J kC (ab fun lk=>ak 2 rfl (J lk ?_)));refine aI rfl (fun Td=>?_) (fun Td=>?_)
   ·refine ab fun jU=>ag (a' (cs:=[_,_,_,_,_,_,_,_,_,_,_,_,_,_,_,_,_]) vr oY rfl rfl) (aG rfl (bo (vs:=[_,_,_,_,_,_,_,_,_,_,_,_,_,_,_,_,_]) fi ah rfl rfl rfl (by simp [Value.oneCell']) (by simp) fun agE Hh=>?_));replace ep:=ep.ne Hh.mod (Ne.symm cJ);replace bg:=bg.ne Hh.mod (Ne.symm e2);replace sM:=sM.ne Hh.mod (Ne.symm sU);replace E:=E.own Hh.mod b4;replace cA:=cA.put Hh.mod G3;replace cD:=cD.put Hh.mod G4;replace gT:=gT.put Hh.mod Es;replace ah:aF agE g2 _ [_,_,_,_,_,_,_,_,_,_,_,_,_,_,_,_,_]:=Hh.az;exact aT rfl (J jU (aZ (aO (by simp) (js (vs:=[_,_,_,_,_,_,_,_,_,_,_,_,_,_,_,_,_]) rfl fi rfl rfl (ah.cs rfl) rfl ⟨_,by rw [aej],.inr ⟨by rw [aej];exact Td,rfl⟩,E⟩))))
   refine ca (aw jd (ab fun mQ=>ag (a8 (vs:=[_,_,_,_,_,_,_,_,_,_,_,_,_,_,_,_,_]) fi rfl rfl (bg.cs rfl)) ?_));replace Oj:=Oj.bB Yx;replace Ol:=Ol.bB Yx;refine bo (vs:=[_,_,_,_,_,_,_,_,_,_,_,_,_,_,_,_,_]) fi ah rfl rfl rfl (by simp [Value.oneCell']) (by simp) fun anD BH=>?_;replace ep:=ep.ne BH.mod (Ne.symm cJ);replace bg:=bg.ne BH.mod (Ne.symm e2);replace sM:=sM.ne BH.mod (Ne.symm sU);replace E:=E.own BH.mod b4;replace cA:=cA.put BH.mod G3;replace cD:=cD.put BH.mod G4;replace gT:=gT.put BH.mod Es;replace ah:aF anD g2 _ [_,_,_,_,_,_,_,_,_,_,_,_,_,_,_,_,_]:=BH.az;have aiA:lO v=0:=aej.trans (Classical.not_not.1 Td);replace Oj:=Oj.toM BH.mod (fun a ay=>by simp [List.mem_singleton.1 ay]);replace Ol:=Ol.toM BH.mod (fun a ay=>by simp [List.mem_singleton.1 ay]);exact aT rfl (J mQ (aZ (js (vs:=[_,_,_,_,_,_,_,_,_,_,_,_,_,_,_,_,_]) rfl fi rfl rfl (ah.cs rfl) rfl ⟨_,by rw [aiA];rfl,nA.mk aiA (JV.cv (v:=(e1 v).1) (Oj.e9 (fun x ae=>by simp [ae])) (Ol.e9 (fun x ae=>by simp [ae]))) cA cD gT amJ amK (fun x ae=>Nat.le_trans Yq (vu x ae).1),E⟩)))
  obtain⟨x,bO⟩:∃ y,(cc v).1.map[i]? = some y:=⟨_,List.getElem?_eq_getElem (by omega)⟩;obtain⟨jD,lf,dv,ei,cj⟩:=JV.kl RG bO;obtain⟨jM,jN,jb,h3,rfl,lg,ly⟩:=JV.bb ei;obtain rfl:=dv;obtain⟨ain,apz⟩:=SK bO;have Fj:x.2.map.length≤65536:=by
   have e5:(ch (cc v).1.map).length≤65536:=Fl;omega
  refine ca (aw de (ax fun dG=>eB (ab fun eC=>ag (b6 cR rfl rfl (by omega)) (ag (a8 jP rfl rfl cj) (bt ey rfl fun g5 WO fC=>?_)))));have ad0:=fC.le F;have oB:=fC.le E;have sS:=fC.le e6;have pr:=fC.ne ah;have iO:=fC.ne ep;have ps:=fC.ne bg;have SX:=fC.b8 cA;have SY:=fC.b8 cD;have yi:=fC.b8 gT;replace ah:=ah.I fC.mod;replace ep:=ep.I fC.mod;replace bg:=bg.I fC.mod;replace F:=F.then fC.mod;replace E:=E.then fC.mod;replace e6:=e6.then fC.mod;replace cA:=cA.I fC.mod;replace cD:=cD.I fC.mod;replace gT:=gT.I fC.mod;have dL:=fC.az;refine bo (vs:=[_,_,_,_,_,_,_]) jP dL rfl rfl rfl (by simp [Value.oneCell']) (by simp) fun IF BF=>?_;replace ah:=ah.ne BF.mod pr;replace ep:=ep.ne BF.mod iO;replace bg:=bg.ne BF.mod ps;replace F:=F.own BF.mod ad0;replace E:=E.own BF.mod oB;replace e6:=e6.own BF.mod sS;replace cA:=cA.put BF.mod SX;replace cD:=cD.put BF.mod SY;replace gT:=gT.put BF.mod yi;replace dL:aF IF g5 _ [_,_,_,_,_,_,_]:=BF.az;refine J eC (nm fun anr eb=>?_);have ad1:∀ (aB:World),(∀ y∈a1 vs,y≠g5)∧Own aB 92 3 vs (ch ((cc v).1.map.take i)).length (((ch ((cc v).1.map.take i)).map dH.cells).flatten)∧(∀ y∈a1 vs,SR.heap.size≤y∧y≠g4∧y∉a1 (.slice lP (hX v).1.length q4)∧y∉a1 (.slice lQ (iG v).1.length q5))∧ba ([g4,g3]++a1 vs) aB (.ie 7 ((cc v).1.map.map JV.hP)) (.slice (some jD) (cc v).1.map.length G6)∧ba ([g4,g3]++a1 vs) aB (.ie 6 ((cc v).2.rest.list.map JV.D)) (.slice G7 (cc v).2.rest.list.length G8)∧ba ([g4,g3]++a1 vs) aB (.ie 7 ((cc v).2.rest.map.map JV.hP)) (.slice G9 (cc v).2.rest.map.length G')∧ba ([g4,g3]++a1 vs) aB (.ie 7 (x.2.map.map JV.hP)) (.slice jb x.2.map.length h3)∧aF aB g3 103 [.int .i64 (cc v).2.rest.kind,.bool (cc v).2.rest.is,.int .i64 (cc v).2.rest.num,S (cc v).2.rest.str,.slice G7 (cc v).2.rest.list.length G8,.slice G9 (cc v).2.rest.map.length G',.bool (((cc v).2.bad||((cc v).1.map.take i).any pZ)||(decide (x.2.map.length=0)||(x.2.map.take 0).any fun q=>decide (q.2.kind≠3)))]∧aF aB g5 51 [S x.1,.int .i64 x.2.kind,.bool x.2.is,.int .i64 x.2.num,S x.2.str,.slice jM x.2.list.length jN,.slice jb x.2.map.length h3]∧aF aB g4 29 [S (s' v).1.str,S (ta v).1.str,S (tb v).1.str,.bool (qy v),S (l2 v).1.str,.int .i64 (e1 v).1.kind,.bool (e1 v).1.is,.int .i64 (e1 v).1.num,S (e1 v).1.str,.slice Od (e1 v).1.list.length Oe,.slice Og (e1 v).1.map.length Oh,.slice lP (hX v).1.length q4,.slice lQ (iG v).1.length q5,.int .i64 (tc v).1.num,.int .i64 (nB v).1.num,S [],vs]∧Own aB 9 1 (.slice lP (hX v).1.length q4) (hX v).1.length (((hX v).1.map fun s=>[S s]).flatten)∧Own aB 9 1 (.slice lQ (iG v).1.length q5) (iG v).1.length (((iG v).1.map fun s=>[S s]).flatten)∧aF aB g2 29 [S [],S [],S [],.bool false,S [],.int .i64 0,.bool false,.int .i64 0,S [],.slice none 0 0,.slice none 0 0,.slice none 0 0,.slice none 0 0,.int .i64 0,.int .i64 0,S [],.slice none 0 0]∧Mod [g3] SR aB∧Mod [] w aB→∀ a,Has 173 [] [(2,.pointer (some ⟨g2,0,none⟩)),(3,.int .i64 0),(6,.pointer (some ⟨g3,0,none⟩)),(7,.pointer (some ⟨g4,0,none⟩)),(75,.slice (some jD) (cc v).1.map.length G6),(76,.int .i64 (cc v).1.map.length),(77,.int .i64 (i:Int)),(11,.pointer (some ⟨g5,0,none⟩))] a→anr a aB:=by
   intro WQ oE;obtain⟨Ha,gT,vu,RG,la,lb,ly,ep,dL,bg,cA,cD,ah,F,E⟩:=oE;have Es:∀ y∈a1 vs,y≠g2:=fun y aY e=>by have:=(vu y aY).1;omega
   have Aj:∀ y∈a1 vs,y≠g3:=fun y aY e=>by have:=(vu y aY).1;omega
   have SU:∀ y∈a1 vs,y≠g4:=fun y aY=>(vu y aY).2.1;have e6:=Mod.refl [] WQ;refine eb _ _ _ _ (ab fun fq=>ag (av h' rfl) (ag (xt b9 rfl) (ag (bc dB rfl (dL.cell rfl)) (ag (bl Tryz.underlying23 rfl) (aG rfl (J fq (eB (bU (σ:=Nat×Value) (fun⟨j,vs⟩=>[(2,.pointer (some ⟨g2,0,none⟩)),(3,.int .i64 0),(6,.pointer (some ⟨g3,0,none⟩)),(7,.pointer (some ⟨g4,0,none⟩)),(75,.slice (some jD) (cc v).1.map.length G6),(76,.int .i64 (cc v).1.map.length),(77,.int .i64 (i:Int)),(11,.pointer (some ⟨g5,0,none⟩)),(97,.slice jb x.2.map.length h3),(98,.int .i64 x.2.map.length),(99,.int .i64 (j:Int))]) (fun⟨j,vs⟩ aB=>j≤x.2.map.length∧(∀ y∈a1 vs,y≠g5)∧Own aB 92 3 vs ((ch ((cc v).1.map.take i)++(fv x).take j)).length ((((ch ((cc v).1.map.take i)++(fv x).take j)).map dH.cells).flatten)∧(∀ y∈a1 vs,SR.heap.size≤y∧y≠g4∧y∉a1 (.slice lP (hX v).1.length q4)∧y∉a1 (.slice lQ (iG v).1.length q5))∧ba ([g4,g3]++a1 vs) aB (.ie 7 ((cc v).1.map.map JV.hP)) (.slice (some jD) (cc v).1.map.length G6)∧ba ([g4,g3]++a1 vs) aB (.ie 6 ((cc v).2.rest.list.map JV.D)) (.slice G7 (cc v).2.rest.list.length G8)∧ba ([g4,g3]++a1 vs) aB (.ie 7 ((cc v).2.rest.map.map JV.hP)) (.slice G9 (cc v).2.rest.map.length G')∧ba ([g4,g3]++a1 vs) aB (.ie 7 (x.2.map.map JV.hP)) (.slice jb x.2.map.length h3)∧aF aB g3 103 [.int .i64 (cc v).2.rest.kind,.bool (cc v).2.rest.is,.int .i64 (cc v).2.rest.num,S (cc v).2.rest.str,.slice G7 (cc v).2.rest.list.length G8,.slice G9 (cc v).2.rest.map.length G',.bool (((cc v).2.bad||((cc v).1.map.take i).any pZ)||(decide (x.2.map.length=0)||(x.2.map.take j).any fun q=>decide (q.2.kind≠3)))]∧aF aB g5 51 [S x.1,.int .i64 x.2.kind,.bool x.2.is,.int .i64 x.2.num,S x.2.str,.slice jM x.2.list.length jN,.slice jb x.2.map.length h3]∧aF aB g4 29 [S (s' v).1.str,S (ta v).1.str,S (tb v).1.str,.bool (qy v),S (l2 v).1.str,.int .i64 (e1 v).1.kind,.bool (e1 v).1.is,.int .i64 (e1 v).1.num,S (e1 v).1.str,.slice Od (e1 v).1.list.length Oe,.slice Og (e1 v).1.map.length Oh,.slice lP (hX v).1.length q4,.slice lQ (iG v).1.length q5,.int .i64 (tc v).1.num,.int .i64 (nB v).1.num,S [],vs]∧Own aB 9 1 (.slice lP (hX v).1.length q4) (hX v).1.length (((hX v).1.map fun s=>[S s]).flatten)∧Own aB 9 1 (.slice lQ (iG v).1.length q5) (iG v).1.length (((iG v).1.map fun s=>[S s]).flatten)∧aF aB g2 29 [S [],S [],S [],.bool false,S [],.int .i64 0,.bool false,.int .i64 0,S [],.slice none 0 0,.slice none 0 0,.slice none 0 0,.slice none 0 0,.int .i64 0,.int .i64 0,S [],.slice none 0 0]∧Mod [g3] SR aB∧Mod [] w aB) (fun⟨j,vs⟩=>x.2.map.length-j) (⟨0,vs⟩) ⟨rfl,rfl,rfl,rfl,rfl,rfl,rfl,rfl,rfl,rfl,rfl,trivial⟩ (⟨by omega,Ha,by simpa using gT,vu,RG.bB e6,la.bB e6,lb.bB e6,ly.bB e6,ep,dL,bg,cA,cD,ah,F,E⟩) ?_))))))));rintro⟨j,vs⟩ ME ⟨d',Ha,gT,vu,RG,la,lb,ly,ep,dL,bg,cA,cD,ah,F,E⟩;have Es:∀ y∈a1 vs,y≠g2:=fun y aY e=>by have:=(vu y aY).1;omega
   have Aj:∀ y∈a1 vs,y≠g3:=fun y aY e=>by have:=(vu y aY).1;omega
   have SU:∀ y∈a1 vs,y≠g4:=fun y aY=>(vu y aY).2.1;have e6:=Mod.refl [] ME;refine ab fun fE=>ag (cI rfl rfl) (J fE (ax fun fa=>?_));refine aI rfl (fun aio=>?_) (fun aio=>?_);rotate_left
   ·have adH:j=x.2.map.length:=by omega
    subst adH;have anw:((cc v).2.bad||((cc v).1.map.take (i+1)).any pZ)=(((cc v).2.bad||((cc v).1.map.take i).any pZ)||(decide (x.2.map.length=0)||(x.2.map.take x.2.map.length).any fun q=>decide (q.2.kind≠3))):=by
     have h1:(cc v).1.map.take (i+1)=(cc v).1.map.take i ++ [x]:=by rw [List.take_succ_eq_append_getElem (by omega),(List.getElem?_eq_some_iff.1 bO).2]
     rw [h1,List.any_append,List.take_length,Bool.or_assoc,List.any_cons,List.any_nil,Bool.or_false];rfl
    rw [show(fv x).take x.2.map.length=fv x from List.take_of_length_le (by simp [fv])] at gT;exact bm (aO (by simp) (aO (by simp) (bS (bx (by simp) (aw dG (bQ (ag (aN rfl rfl (by omega)) (aG rfl (cF (fJ (σ:=Nat×Value) (s:=⟨i,vs⟩) (⟨i+1,vs⟩) ⟨rfl,rfl,rfl,rfl,rfl,rfl,rfl,trivial⟩ ⟨by omega,by rw [ain];exact gT,vu,RG.bB e6,la.bB e6,lb.bB e6,by rw [anw];exact ep,bg,cA,cD,ah,F,E⟩ (by dsimp only;omega)))))))))))
   obtain⟨q,jy⟩:∃ y,x.2.map[j]? = some y:=⟨_,List.getElem?_eq_getElem (by omega)⟩;obtain⟨IG,aau,uH,PE,iW⟩:=JV.kl ly jy;obtain⟨PF,PG,PH,PI,rfl,aav,arn⟩:=JV.bb PE;obtain rfl:=uH;have aip:=Ob jy;have ad2:x.2.map.take (j+1)=x.2.map.take j ++ [q]:=by rw [List.take_succ_eq_append_getElem (by omega),(List.getElem?_eq_some_iff.1 jy).2]
   have apA:(fv x).length=x.2.map.length:=by simp [fv]
   have apB:((ch ((cc v).1.map.take i)++(fv x).take j)).length≤65535:=by
    have e5:(ch (cc v).1.map).length≤65536:=Fl;rw [List.length_append,List.length_take];omega
   refine ca (aw fa (ax fun fL=>eB (ab fun gX=>ag (b6 cR rfl rfl (by omega)) (ag (a8 jP rfl rfl iW) (bt ey rfl fun g6 PA kc=>?_)))));have ad3:=kc.le F;have tB:=kc.le E;have Et:=kc.le e6;have yj:=kc.ne ah;have sT:=kc.ne ep;have Yr:=kc.ne bg;have KV:=kc.ne dL;have SZ:=kc.b8 cA;have S0:=kc.b8 cD;have Ys:=kc.b8 gT;replace ah:=ah.I kc.mod;replace ep:=ep.I kc.mod;replace bg:=bg.I kc.mod;replace dL:=dL.I kc.mod;replace F:=F.then kc.mod;replace E:=E.then kc.mod;replace e6:=e6.then kc.mod;replace cA:=cA.I kc.mod;replace cD:=cD.I kc.mod;replace gT:=gT.I kc.mod;have iP:=kc.az;refine bo (vs:=[_,_,_,_,_,_,_]) jP iP rfl rfl rfl (by simp [Value.oneCell']) (by simp) fun MF Ak=>?_;replace ah:=ah.ne Ak.mod yj;replace ep:=ep.ne Ak.mod sT;replace bg:=bg.ne Ak.mod Yr;replace dL:=dL.ne Ak.mod KV;replace F:=F.own Ak.mod ad3;replace E:=E.own Ak.mod tB;replace e6:=e6.own Ak.mod Et;replace cA:=cA.put Ak.mod SZ;replace cD:=cD.put Ak.mod S0;replace gT:=gT.put Ak.mod Ys;replace iP:aF MF g6 _ [_,_,_,_,_,_,_]:=Ak.az;refine J gX (nm fun ans hn=>?_);have ad4:∀ (aB:World),(∀ y∈a1 vs,y≠g5)∧Own aB 92 3 vs ((ch ((cc v).1.map.take i)++(fv x).take j)).length ((((ch ((cc v).1.map.take i)++(fv x).take j)).map dH.cells).flatten)∧(∀ y∈a1 vs,SR.heap.size≤y∧y≠g4∧y∉a1 (.slice lP (hX v).1.length q4)∧y∉a1 (.slice lQ (iG v).1.length q5))∧ba ([g4,g3]++a1 vs) aB (.ie 7 ((cc v).1.map.map JV.hP)) (.slice (some jD) (cc v).1.map.length G6)∧ba ([g4,g3]++a1 vs) aB (.ie 6 ((cc v).2.rest.list.map JV.D)) (.slice G7 (cc v).2.rest.list.length G8)∧ba ([g4,g3]++a1 vs) aB (.ie 7 ((cc v).2.rest.map.map JV.hP)) (.slice G9 (cc v).2.rest.map.length G')∧ba ([g4,g3]++a1 vs) aB (.ie 7 (x.2.map.map JV.hP)) (.slice (some IG) x.2.map.length h3)∧aF aB g3 103 [.int .i64 (cc v).2.rest.kind,.bool (cc v).2.rest.is,.int .i64 (cc v).2.rest.num,S (cc v).2.rest.str,.slice G7 (cc v).2.rest.list.length G8,.slice G9 (cc v).2.rest.map.length G',.bool (((cc v).2.bad||((cc v).1.map.take i).any pZ)||(decide (x.2.map.length=0)||(x.2.map.take (j+1)).any fun q=>decide (q.2.kind≠3)))]∧aF aB g5 51 [S x.1,.int .i64 x.2.kind,.bool x.2.is,.int .i64 x.2.num,S x.2.str,.slice jM x.2.list.length jN,.slice (some IG) x.2.map.length h3]∧aF aB g6 51 [S q.1,.int .i64 q.2.kind,.bool q.2.is,.int .i64 q.2.num,S q.2.str,.slice PF q.2.list.length PG,.slice PH q.2.map.length PI]∧aF aB g4 29 [S (s' v).1.str,S (ta v).1.str,S (tb v).1.str,.bool (qy v),S (l2 v).1.str,.int .i64 (e1 v).1.kind,.bool (e1 v).1.is,.int .i64 (e1 v).1.num,S (e1 v).1.str,.slice Od (e1 v).1.list.length Oe,.slice Og (e1 v).1.map.length Oh,.slice lP (hX v).1.length q4,.slice lQ (iG v).1.length q5,.int .i64 (tc v).1.num,.int .i64 (nB v).1.num,S [],vs]∧Own aB 9 1 (.slice lP (hX v).1.length q4) (hX v).1.length (((hX v).1.map fun s=>[S s]).flatten)∧Own aB 9 1 (.slice lQ (iG v).1.length q5) (iG v).1.length (((iG v).1.map fun s=>[S s]).flatten)∧aF aB g2 29 [S [],S [],S [],.bool false,S [],.int .i64 0,.bool false,.int .i64 0,S [],.slice none 0 0,.slice none 0 0,.slice none 0 0,.slice none 0 0,.int .i64 0,.int .i64 0,S [],.slice none 0 0]∧Mod [g3] SR aB∧Mod [] w aB→∀ a,Has 173 [] [(2,.pointer (some ⟨g2,0,none⟩)),(3,.int .i64 0),(6,.pointer (some ⟨g3,0,none⟩)),(7,.pointer (some ⟨g4,0,none⟩)),(75,.slice (some jD) (cc v).1.map.length G6),(76,.int .i64 (cc v).1.map.length),(77,.int .i64 (i:Int)),(11,.pointer (some ⟨g5,0,none⟩)),(13,.pointer (some ⟨g6,0,none⟩)),(97,.slice (some IG) x.2.map.length h3),(98,.int .i64 x.2.map.length),(99,.int .i64 (j:Int))] a→ans a aB:=by
    intro PB oE;obtain⟨Ha,gT,vu,RG,la,lb,ly,ep,dL,iP,bg,cA,cD,ah,F,E⟩:=oE;have Es:∀ y∈a1 vs,y≠g2:=fun y aY e=>by have:=(vu y aY).1;omega
    have Aj:∀ y∈a1 vs,y≠g3:=fun y aY e=>by have:=(vu y aY).1;omega
    have SU:∀ y∈a1 vs,y≠g4:=fun y aY=>(vu y aY).2.1;have e6:=Mod.refl [] PB;refine hn _ _ _ _ (bQ (ag (av cZ rfl) (ag (bc gj rfl (bg.cell rfl)) (ag (av eF rfl) (ag (bc bs rfl (dL.cell rfl)) (ag (av eF rfl) (ag (bc bs rfl (iP.cell rfl)) (ag (av h' rfl) (ag (xt ju rfl) (ag (bc bs rfl (iP.cell rfl)) (ag (a' (cs:=[_,_,_]) aii Al rfl rfl) (bD (cs:=[_,_,_]) gO Al rfl rfl rfl (by decide) rfl fun g7 PD pa=>?_))))))))))));have ant:=pa.le F;have Iz:=pa.le E;have LQ:=pa.le e6;have LR:=pa.ne ah;have LS:=pa.ne ep;have aka:=pa.ne bg;have akb:=pa.ne dL;have LU:=pa.ne iP;have aiq:=pa.b8 cA;have air:=pa.b8 cD;have akc:=pa.b8 gT;replace ah:=ah.I pa.mod;replace ep:=ep.I pa.mod;replace bg:=bg.I pa.mod;replace dL:=dL.I pa.mod;replace iP:=iP.I pa.mod;replace F:=F.then pa.mod;replace E:=E.then pa.mod;replace e6:=e6.then pa.mod;replace cA:=cA.I pa.mod;replace cD:=cD.I pa.mod;replace gT:=gT.I pa.mod;have xF:=pa.az;refine bu gO rfl rfl gT (Src.own Tryz.underlying27 (Own.all (cs:=[_,_,_]) xF rfl (by omega)) (by simp [Value.oneCell'])) (by decide) (by omega) (by omega) rfl fun ad5 FF eD=>?_;have qE:Own FF 92 3 ad5 ((ch ((cc v).1.map.take i)++(fv x).take (j+1))).length ((((ch ((cc v).1.map.take i)++(fv x).take (j+1))).map dH.cells).flatten):=eD.own.same (by rw [aip];simp [Nat.add_assoc]) (by rw [aip];simp [dH.cells]);have Ji:∀ y∈a1 ad5,SR.heap.size≤y∧y≠g4∧y∉a1 (.slice lP (hX v).1.length q4)∧y∉a1 (.slice lQ (iG v).1.length q5):=fun y aY=>(eD.lZ y aY).elim (vu y) (fun h=>⟨Nat.le_trans F.size h,fun e=>by have:=bg.lt;omega,fun hu=>by have:=cA.lt y hu;omega,fun hu=>by have:=cD.lt y hu;omega⟩);have anu:∀ y∈a1 ad5,y≠g5:=fun y aY=>(eD.lZ y aY).elim (Ha y) (fun h e=>by have:=dL.lt;omega);replace RG:=ru.tg eD (RG.bB e6);replace la:=ru.tg eD (la.bB e6);replace lb:=ru.tg eD (lb.bB e6);replace ly:=ru.tg eD (ly.bB e6);replace ep:=ep.mod eD.mod (fun h=>Aj _ h rfl);replace dL:=dL.mod eD.mod (fun h=>Ha _ h rfl);replace bg:=bg.mod eD.mod (fun h=>SU _ h rfl);replace ah:=ah.mod eD.mod (fun h=>Es _ h rfl);replace F:=F.trans' eD.mod (fun y aY=>.inr (vu y aY).1);replace E:=E.trans' eD.mod (fun y aY=>.inr (Nat.le_trans Yq (vu y aY).1));replace cA:=cA.mod eD.mod (fun y aY h=>(vu y h).2.2.1 aY);replace cD:=cD.mod eD.mod (fun y aY h=>(vu y h).2.2.2 aY);obtain⟨ad6,anv,rfl,ais,ait⟩:=qE.form;have e6:=Mod.refl [] FF;refine ag (av cZ rfl) (ea gj bg rfl rfl rfl (by simp) fun MG BG=>?_);replace ah:=ah.ne BG.mod e2;replace ep:=ep.ne BG.mod dm;replace dL:=dL.ne BG.mod (Ne.symm ps);replace F:=F.own BG.mod oX;replace E:=E.own BG.mod fO;replace cA:=cA.put BG.mod kM;replace cD:=cD.put BG.mod kN;replace bg:aF MG g4 _ [_,_,_,_,_,_,_,_,_,_,_,_,_,_,_,_,_]:=BG.az;replace qE:=qE.put BG.mod (fun y aY=>(Ji y aY).2.1);have Yt:=BG.mod;have akd:∀ (l:List Nat) (y:Nat),y∈[g4]→y∈[g4,g3]++l:=fun l y aY=>by simp [List.mem_singleton.1 aY]
    exact cF (bx (by simp) (aw fL (bQ (ag (aN rfl rfl (by omega)) (aG rfl (cF (fJ (σ:=Nat×Value) (s:=⟨j,vs⟩) (⟨j+1,_⟩) ⟨rfl,rfl,rfl,rfl,rfl,rfl,rfl,rfl,rfl,rfl,rfl,trivial⟩ ⟨by omega,anu,qE,Ji,RG.toM Yt (akd _),la.toM Yt (akd _),lb.toM Yt (akd _),ly.toM Yt (akd _),ep,dL,bg,cA,cD,ah,F,E⟩ (by dsimp only;omega))))))))
   replace RG:=RG.bB e6;replace la:=la.bB e6;replace lb:=lb.bB e6;replace ly:=ly.bB e6;refine bQ (ak 3 rfl (ag (av e0 rfl) (ag (bc jr rfl (ep.cell rfl)) ?_)));refine w8 (fun aS:((((cc v).2.bad||((cc v).1.map.take i).any pZ)||(decide (x.2.map.length=0)||(x.2.map.take j).any fun q=>decide (q.2.kind≠3))))=true=>?_) (fun aS=>?_)
   ·have wj:(((cc v).2.bad||((cc v).1.map.take i).any pZ)||(decide (x.2.map.length=0)||(x.2.map.take (j+1)).any fun q=>decide (q.2.kind≠3)))=true:=by rw [ad2,List.any_append,← Bool.or_assoc,← Bool.or_assoc,Bool.or_assoc ((cc v).2.bad||((cc v).1.map.take i).any pZ),aS];simp
    refine ak 7 rfl (ag (av e0 rfl) (ea jr ep rfl rfl rfl (by simp) fun MH vv=>?_));replace ah:=ah.ne vv.mod cJ;replace bg:=bg.ne vv.mod (Ne.symm dm);replace dL:=dL.ne vv.mod (Ne.symm iO);replace iP:=iP.ne vv.mod (Ne.symm sT);replace F:=F.trans vv.mod;replace E:=E.own vv.mod dJ;replace cA:=cA.put vv.mod oZ;replace cD:=cD.put vv.mod pK;replace gT:=gT.put vv.mod Aj;replace ep:aF MH g3 _ [_,_,_,_,_,_,_]:=vv.az;replace RG:=RG.toM vv.mod (fun a ay=>by simp [List.mem_singleton.1 ay]);replace la:=la.toM vv.mod (fun a ay=>by simp [List.mem_singleton.1 ay]);replace lb:=lb.toM vv.mod (fun a ay=>by simp [List.mem_singleton.1 ay]);replace ly:=ly.toM vv.mod (fun a ay=>by simp [List.mem_singleton.1 ay]);have e6:=Mod.refl [] MH;refine cF ?_;refine fI.sub (l':=[(2,_),(3,_),(6,_),(7,_),(75,_),(76,_),(77,_),(11,_),(13,_),(97,_),(98,_),(99,_)]) ⟨rfl,rfl,rfl,rfl,rfl,rfl,rfl,rfl,rfl,rfl,rfl,rfl,trivial⟩ (dU (ad4 MH ⟨Ha,gT,vu,RG,la,lb,ly,by rw [wj];exact ep,dL,iP,bg,cA,cD,ah,F,E⟩))
   refine aG rfl (ar (av h' rfl) (ar (xt hC rfl) (ar (bc dE rfl (iP.cell rfl)) (ar (eU rfl rfl) ?_))));refine cT (fun hk:q.2.kind≠3=>?_) (fun hk=>?_);rotate_left
   ·have wj:(((cc v).2.bad||((cc v).1.map.take i).any pZ)||(decide (x.2.map.length=0)||(x.2.map.take (j+1)).any fun q=>decide (q.2.kind≠3)))=false:=by rw [ad2,List.any_append,← Bool.or_assoc,← Bool.or_assoc,Bool.or_assoc ((cc v).2.bad||((cc v).1.map.take i).any pZ),aS];simp [Classical.not_not.1 hk]
    refine ak 2 rfl (ag (av e0 rfl) (ea jr ep rfl rfl rfl (by simp) fun WT vx=>?_));replace ah:=ah.ne vx.mod cJ;replace bg:=bg.ne vx.mod (Ne.symm dm);replace dL:=dL.ne vx.mod (Ne.symm iO);replace iP:=iP.ne vx.mod (Ne.symm sT);replace F:=F.trans vx.mod;replace E:=E.own vx.mod dJ;replace cA:=cA.put vx.mod oZ;replace cD:=cD.put vx.mod pK;replace gT:=gT.put vx.mod Aj;replace ep:aF WT g3 _ [_,_,_,_,_,_,_]:=vx.az;replace RG:=RG.toM vx.mod (fun a ay=>by simp [List.mem_singleton.1 ay]);replace la:=la.toM vx.mod (fun a ay=>by simp [List.mem_singleton.1 ay]);replace lb:=lb.toM vx.mod (fun a ay=>by simp [List.mem_singleton.1 ay]);replace ly:=ly.toM vx.mod (fun a ay=>by simp [List.mem_singleton.1 ay]);have e6:=Mod.refl [] WT;refine cF ?_;refine fI.sub (l':=[(2,_),(3,_),(6,_),(7,_),(75,_),(76,_),(77,_),(11,_),(13,_),(97,_),(98,_),(99,_)]) ⟨rfl,rfl,rfl,rfl,rfl,rfl,rfl,rfl,rfl,rfl,rfl,rfl,trivial⟩ (dU (ad4 WT ⟨Ha,gT,vu,RG,la,lb,ly,by rw [wj];exact ep,dL,iP,bg,cA,cD,ah,F,E⟩))
   have wj:(((cc v).2.bad||((cc v).1.map.take i).any pZ)||(decide (x.2.map.length=0)||(x.2.map.take (j+1)).any fun q=>decide (q.2.kind≠3)))=true:=by rw [ad2,List.any_append,← Bool.or_assoc,← Bool.or_assoc,Bool.or_assoc ((cc v).2.bad||((cc v).1.map.take i).any pZ),aS];simp [hk]
   refine ak 2 rfl (ag (av e0 rfl) (ea jr ep rfl rfl rfl (by simp) fun MI vw=>?_));replace ah:=ah.ne vw.mod cJ;replace bg:=bg.ne vw.mod (Ne.symm dm);replace dL:=dL.ne vw.mod (Ne.symm iO);replace iP:=iP.ne vw.mod (Ne.symm sT);replace F:=F.trans vw.mod;replace E:=E.own vw.mod dJ;replace cA:=cA.put vw.mod oZ;replace cD:=cD.put vw.mod pK;replace gT:=gT.put vw.mod Aj;replace ep:aF MI g3 _ [_,_,_,_,_,_,_]:=vw.az;replace RG:=RG.toM vw.mod (fun a ay=>by simp [List.mem_singleton.1 ay]);replace la:=la.toM vw.mod (fun a ay=>by simp [List.mem_singleton.1 ay]);replace lb:=lb.toM vw.mod (fun a ay=>by simp [List.mem_singleton.1 ay]);replace ly:=ly.toM vw.mod (fun a ay=>by simp [List.mem_singleton.1 ay]);have e6:=Mod.refl [] MI;refine cF ?_;refine fI.sub (l':=[(2,_),(3,_),(6,_),(7,_),(75,_),(76,_),(77,_),(11,_),(13,_),(97,_),(98,_),(99,_)]) ⟨rfl,rfl,rfl,rfl,rfl,rfl,rfl,rfl,rfl,rfl,rfl,rfl,trivial⟩ (dU (ad4 MI ⟨Ha,gT,vu,RG,la,lb,ly,by rw [wj];exact ep,dL,iP,bg,cA,cD,ah,F,E⟩))
  replace RG:=RG.bB e6;replace la:=la.bB e6;replace lb:=lb.bB e6;replace ly:=ly.bB e6;refine bQ (ak 3 rfl (ag (av e0 rfl) (ag (bc jr rfl (ep.cell rfl)) ?_)));refine w8 (fun aS:(((cc v).2.bad||((cc v).1.map.take i).any pZ))=true=>?_) (fun aS=>?_)
  ·have gS:(((cc v).2.bad||((cc v).1.map.take i).any pZ)||(decide (x.2.map.length=0)||(x.2.map.take 0).any fun q=>decide (q.2.kind≠3)))=true:=by rw [aS];rfl
   refine ak 8 rfl (ag (av e0 rfl) (ea jr ep rfl rfl rfl (by simp) fun WU wM=>?_));replace ah:=ah.ne wM.mod cJ;replace bg:=bg.ne wM.mod (Ne.symm dm);replace dL:=dL.ne wM.mod (Ne.symm iO);replace F:=F.trans wM.mod;replace E:=E.own wM.mod dJ;replace cA:=cA.put wM.mod oZ;replace cD:=cD.put wM.mod pK;replace gT:=gT.put wM.mod Aj;replace ep:aF WU g3 _ [_,_,_,_,_,_,_]:=wM.az;replace RG:=RG.toM wM.mod (fun a ay=>by simp [List.mem_singleton.1 ay]);replace la:=la.toM wM.mod (fun a ay=>by simp [List.mem_singleton.1 ay]);replace lb:=lb.toM wM.mod (fun a ay=>by simp [List.mem_singleton.1 ay]);replace ly:=ly.toM wM.mod (fun a ay=>by simp [List.mem_singleton.1 ay]);have e6:=Mod.refl [] WU;refine cF ?_;refine fI.sub (l':=[(2,_),(3,_),(6,_),(7,_),(75,_),(76,_),(77,_),(11,_)]) ⟨rfl,rfl,rfl,rfl,rfl,rfl,rfl,rfl,trivial⟩ (dU (ad1 WU ⟨yi,gT,vu,RG,la,lb,ly,by rw [gS];exact ep,dL,bg,cA,cD,ah,F,E⟩))
  refine aG rfl (ar (av h' rfl) (ar (xt b9 rfl) (ar (bc dB rfl (dL.cell rfl)) (ar (bl Tryz.underlying23 rfl) (ar (lT rfl rfl) ?_)))));refine cT (fun hk:(x.2.map.length:Int)=0=>?_) (fun hk=>?_);rotate_left
  ·have gS:(((cc v).2.bad||((cc v).1.map.take i).any pZ)||(decide (x.2.map.length=0)||(x.2.map.take 0).any fun q=>decide (q.2.kind≠3)))=false:=by rw [aS,bN (show ¬ x.2.map.length=0 by omega)];rfl
   refine ak 2 rfl (ag (av e0 rfl) (ea jr ep rfl rfl rfl (by simp) fun WV wO=>?_));replace ah:=ah.ne wO.mod cJ;replace bg:=bg.ne wO.mod (Ne.symm dm);replace dL:=dL.ne wO.mod (Ne.symm iO);replace F:=F.trans wO.mod;replace E:=E.own wO.mod dJ;replace cA:=cA.put wO.mod oZ;replace cD:=cD.put wO.mod pK;replace gT:=gT.put wO.mod Aj;replace ep:aF WV g3 _ [_,_,_,_,_,_,_]:=wO.az;replace RG:=RG.toM wO.mod (fun a ay=>by simp [List.mem_singleton.1 ay]);replace la:=la.toM wO.mod (fun a ay=>by simp [List.mem_singleton.1 ay]);replace lb:=lb.toM wO.mod (fun a ay=>by simp [List.mem_singleton.1 ay]);replace ly:=ly.toM wO.mod (fun a ay=>by simp [List.mem_singleton.1 ay]);have e6:=Mod.refl [] WV;refine cF ?_;refine fI.sub (l':=[(2,_),(3,_),(6,_),(7,_),(75,_),(76,_),(77,_),(11,_)]) ⟨rfl,rfl,rfl,rfl,rfl,rfl,rfl,rfl,trivial⟩ (dU (ad1 WV ⟨yi,gT,vu,RG,la,lb,ly,by rw [gS];exact ep,dL,bg,cA,cD,ah,F,E⟩))
  have gS:(((cc v).2.bad||((cc v).1.map.take i).any pZ)||(decide (x.2.map.length=0)||(x.2.map.take 0).any fun q=>decide (q.2.kind≠3)))=true:=by rw [aS,bh (show x.2.map.length=0 by omega)];rfl
  refine ak 2 rfl (ag (av e0 rfl) (ea jr ep rfl rfl rfl (by simp) fun PO wN=>?_));replace ah:=ah.ne wN.mod cJ;replace bg:=bg.ne wN.mod (Ne.symm dm);replace dL:=dL.ne wN.mod (Ne.symm iO);replace F:=F.trans wN.mod;replace E:=E.own wN.mod dJ;replace cA:=cA.put wN.mod oZ;replace cD:=cD.put wN.mod pK;replace gT:=gT.put wN.mod Aj;replace ep:aF PO g3 _ [_,_,_,_,_,_,_]:=wN.az;replace RG:=RG.toM wN.mod (fun a ay=>by simp [List.mem_singleton.1 ay]);replace la:=la.toM wN.mod (fun a ay=>by simp [List.mem_singleton.1 ay]);replace lb:=lb.toM wN.mod (fun a ay=>by simp [List.mem_singleton.1 ay]);replace ly:=ly.toM wN.mod (fun a ay=>by simp [List.mem_singleton.1 ay]);have e6:=Mod.refl [] PO;refine cF ?_;refine fI.sub (l':=[(2,_),(3,_),(6,_),(7,_),(75,_),(76,_),(77,_),(11,_)]) ⟨rfl,rfl,rfl,rfl,rfl,rfl,rfl,rfl,trivial⟩ (dU (ad1 PO ⟨yi,gT,vu,RG,la,lb,ly,by rw [gS];exact ep,dL,bg,cA,cD,ah,F,E⟩))
 refine ax fun kD=>?_;obtain⟨aiB,aiC,aiD,aiE,ep,Yz,YY⟩:=ix;have BI:=Mod.refl [] xG;refine bQ (ak 2 rfl (ag (av nf rfl) (ag (a8 (vs:=[_,_,_,_,_,_]) aK rfl rfl (ep.cs rfl)) (fA (bF Ix rfl) (Dh [g4,g3] _ _ BI (nB v).2.rest _ (JV.cv (v:=(nB v).2.rest) Yz YY) gm (Hi lu).1 (by have:=(Hi lu).2.1;omega)) rfl fun cO arv aA=>?_))));obtain⟨aiF,rfl,anE,R⟩:=aA;replace U:=U.I R;replace ah:=ah.I R;replace ep:=ep.I R;replace bg:=bg.I R;replace E:=E.then R;replace F:=F.then R;replace BI:=BI.then R;replace cA:=cA.I R;replace cD:=cD.I R;obtain⟨YZ,Y0,Y9,Y',rfl,Hj,Hk⟩:=JV.bb anE;refine ak 3 rfl (bt cB rfl fun g9 arw vQ=>?_);have vZ:=vQ.le E;have aek:=vQ.le F;have Te:=vQ.le BI;have Za:=vQ.ne U;have Zb:=vQ.ne ah;have LW:=vQ.ne ep;have Ev:=vQ.ne bg;have Tf:=vQ.b8 cA;have Tg:=vQ.b8 cD;replace U:=U.I vQ.mod;replace ah:=ah.I vQ.mod;replace ep:=ep.I vQ.mod;replace bg:=bg.I vQ.mod;replace E:=E.then vQ.mod;replace F:=F.then vQ.mod;replace BI:=BI.then vQ.mod;replace cA:=cA.I vQ.mod;replace cD:=cD.I vQ.mod;have lv:=vQ.az;refine bo (vs:=[_,_,_,_,_,_]) aK lv rfl rfl rfl (by simp [Value.oneCell']) (by simp) fun aiG BJ=>?_;replace U:=U.ne BJ.mod Za;replace ah:=ah.ne BJ.mod Zb;replace ep:=ep.ne BJ.mod LW;replace bg:=bg.ne BJ.mod Ev;replace E:=E.own BJ.mod vZ;replace F:=F.own BJ.mod aek;replace BI:=BI.own BJ.mod Te;replace cA:=cA.put BJ.mod Tf;replace cD:=cD.put BJ.mod Tg;replace lv:aF aiG g9 _ [_,_,_,_,_,_]:=BJ.az;refine aT rfl (J kD (ax fun ll=>?_));have ix:oV [g4,g3] _ g3 (nB v).2:=⟨_,_,_,_,ep,Yz.bB BI,YY.bB BI⟩;refine bQ (aG rfl (J ll ?_));refine a7 rfl (fun ael=>?_) (fun ael=>?_);rotate_left
 ·have Am:qy v=false:=ael;refine ca ?_;refine fI.sub (l':=[(2,_),(3,_),(6,_),(7,_)]) ⟨rfl,rfl,rfl,rfl,trivial⟩ (dU (pg aiG ⟨by rw [show(l2 v).2=(nB v).2 by unfold l2;rw [if_neg (by rw [Am];simp)]];exact ix,by rw [Am,show(l2 v).1=JV.gQ by unfold l2;rw [if_neg (by rw [Am];simp)]];exact bg,cA,cD,ah,F,E⟩))
 have Am:qy v=true:=ael;refine bQ (aG rfl (fA (bF oW rfl) (j5 [g4,g3] _ g3 (nB v).2 ix (by simp) (fun a ay=>by simp at ay;rcases ay with rfl | rfl;exact bg.lt;exact ix.lt) (Hi lu) gm 3) rfl fun cO arx aA=>?_));obtain⟨anF,rfl,aem,ix,R⟩:=aA;replace U:=U.ne R eM;replace ah:=ah.ne R cJ;replace bg:=bg.ne R (Ne.symm dm);replace lv:=lv.ne R (Ne.symm LW);replace E:=E.own R dJ;replace F:=F.trans R;replace cA:=cA.put R oZ;replace cD:=cD.put R pK;obtain⟨anG,anH,anI,anJ,rfl,anK,anL⟩:=JV.bb aem;refine ag ((q1 sl rfl rfl)) (ag (av n2 rfl) (ea jr bg rfl rfl rfl (by simp) fun anM Ew=>?_));replace U:=U.ne Ew.mod gE;replace ah:=ah.ne Ew.mod e2;replace lv:=lv.ne Ew.mod (Ne.symm Ev);replace E:=E.own Ew.mod fO;replace F:=F.own Ew.mod oX;replace cA:=cA.put Ew.mod kM;replace cD:=cD.put Ew.mod kN;replace bg:aF anM g4 _ [_,_,_,_,_,_,_,_,_,_,_,_,_,_,_,_,_]:=Ew.az;replace ix:=ix.mod Ew.mod (fun x ae=>by simp [List.mem_singleton.1 ae]) (fun h=>by have:=dm;simp at h;exact this h);refine ag (av kS rfl) (ea bs bg rfl rfl rfl (by simp) fun aiH Ex=>?_);replace U:=U.ne Ex.mod gE;replace ah:=ah.ne Ex.mod e2;replace lv:=lv.ne Ex.mod (Ne.symm Ev);replace E:=E.own Ex.mod fO;replace F:=F.own Ex.mod oX;replace cA:=cA.put Ex.mod kM;replace cD:=cD.put Ex.mod kN;replace bg:aF aiH g4 _ [_,_,_,_,_,_,_,_,_,_,_,_,_,_,_,_,_]:=Ex.az;replace ix:=ix.mod Ex.mod (fun x ae=>by simp [List.mem_singleton.1 ae]) (fun h=>by have:=dm;simp at h;exact this h);refine cF ?_;refine fI.sub (l':=[(2,_),(3,_),(6,_),(7,_)]) ⟨rfl,rfl,rfl,rfl,trivial⟩ (dU (pg aiH ⟨by rw [show(l2 v).2=(dS (nB v).2 gm 3).2 by unfold l2;rw [if_pos Am]];exact ix,by rw [Am,show(l2 v).1=(dS (nB v).2 gm 3).1 by unfold l2;rw [if_pos Am]];exact bg,cA,cD,ah,F,E⟩))
set_option maxRecDepth 10000
theorem aen:aQ Tryz.prog 43:=aQ.of Tryz.func43 (by kernel_rfl) (by kernel_rfl)
theorem nA.low {A:List Nat} {w0 aB w:World} {v:JV} {us:List Value} (E:Mod [] w0 aB) (h:nA A aB w v us):nA A w0 w v us:=by
 rcases h with⟨h,al,cl,am,cm,up,EZ,Ih,hu,asp,eS,qE,vO,rN,Ji,NL⟩ | h
 ·exact .inl ⟨h,al,cl,am,cm,up,EZ,Ih,hu,asp,eS,qE,vO,fun x ae=>Nat.le_trans E.size (rN x ae),fun x ae=>Nat.le_trans E.size (Ji x ae),fun x ae=>Nat.le_trans E.size (NL x ae)⟩
 exact .inr h
theorem nA.len {A:List Nat} {w0 w:World} {v:JV} {us:List Value} (h:nA A w0 w v us):∃ (pb a2 a3:aa) (a4:Bool) (a5:aa) (Zc:Int) (Zd:Bool) (Ze:Int) (a9:aa) (dn:Option Addr) (eJ lx:Nat) (c1:Option Addr) (c2 c3:Nat) (d1:Option Addr) (d2 d3:Nat) (bk:Option Addr) (b2 kV:Nat) (aeo aiI:Int) (aiJ:aa) (f1:Option Addr) (f2 f3:Nat),us = [S pb,S a2,S a3,.bool a4,S a5,.int .i64 Zc,.bool Zd,.int .i64 Ze,S a9,.slice dn eJ lx,.slice c1 c2 c3,.slice d1 d2 d3,.slice bk b2 kV,.int .i64 aeo,.int .i64 aiI,S aiJ,.slice f1 f2 f3]:=by
 rcases h with⟨h,al,cl,am,cm,up,EZ,Ih,hu,_,eS,qE,vO,_⟩ | h
 ·obtain⟨_,_,rfl,_⟩:=eS.form;obtain⟨_,_,rfl,_⟩:=qE.form;obtain⟨_,_,rfl,_⟩:=vO.form;exact⟨_,_,_,_,_,_,_,_,_,_,_,_,_,_,_,_,_,_,_,_,_,_,_,_,_,_,_,hu⟩
 exact⟨_,_,_,_,_,_,_,_,_,_,_,_,_,_,_,_,_,_,_,_,_,_,_,_,_,_,_,h.2⟩
theorem nA.tg {A:List Nat} {w0 w w':World} {g:Nat} {v:JV} {us:List Value} (h:nA A w0 w v us) (dA:g∈A) (bJ:g<w0.heap.size) (P:Mod [g] w w'):nA A w0 w' v us:=by
 rcases h with⟨h,al,cl,am,cm,up,EZ,Ih,hu,asp,eS,qE,vO,rN,Ji,NL⟩ | h
 ·exact .inl ⟨h,al,cl,am,cm,up,EZ,Ih,hu,asp.toM P (fun x ae=>by rw [List.mem_singleton.1 ae];exact dA),eS.put P (fun x ae e=>by have:=rN x ae;omega),qE.put P (fun x ae e=>by have:=Ji x ae;omega),vO.put P (fun x ae e=>by have:=NL x ae;omega),rN,Ji,NL⟩
 exact .inr h
theorem nA.e9 {A A':List Nat} {w0 w:World} {v:JV} {us:List Value} (h:nA A w0 w v us) (bf:∀ x∈A',x∈A):nA A' w0 w v us:=by
 rcases h with⟨h,al,cl,am,cm,up,EZ,Ih,hu,asp,r⟩ | h
 ·exact .inl ⟨h,al,cl,am,cm,up,EZ,Ih,hu,asp.e9 bf,r⟩
 exact .inr h
theorem nA.mod {A:List Nat} {w0 w w':World} {v:JV} {us:List Value} (h:nA A w0 w v us) (P:Mod [] w w'):nA A w0 w' v us:=by
 rcases h with⟨h,al,cl,am,cm,up,EZ,Ih,hu,asp,eS,qE,vO,r⟩ | h
 ·exact .inl ⟨h,al,cl,am,cm,up,EZ,Ih,hu,asp.bB P,eS.I P,qE.I P,vO.I P,r⟩
 exact .inr h
/-- what is wrong with a text of an event -/
noncomputable def rv (s:aa):Int:=if rq s≠0 then rq s else lO (pF s)
def aep (A:List Nat) (w0 w:World) (s:aa) (us:List Value):Prop:=(rq s=0∧nA A w0 w (pF s) us)∨(rq s≠0∧us = [S [],S [],S [],.bool false,S [],.int .i64 0,.bool false,.int .i64 0,S [],.slice none 0 0,.slice none 0 0,.slice none 0 0,.slice none 0 0,.int .i64 0,.int .i64 0,S [],.slice none 0 0])
theorem Th (A:List Nat) (w:World) (dF:∀ a∈A,a<w.heap.size) (s:aa) (e4:Env w) (eY:iK w):Calls Tryz.prog 46 [S s].toArray w (bL fun u w'=>∃ gb,u = .tuple #[.agg gb.toArray,.int .i64 (rv s)]∧aep A w w' s gb∧Mod [] w w'):=by
 refine enter Tryz.func46 rfl rfl rfl (l:=[(0,_)]) ⟨rfl,trivial⟩ ?_;have E:=Mod.refl [] w;have jG:=e4.xP;refine ab fun aV=>bt oY rfl fun g1 aB bR=>?_;have bH:=bR.le E;replace E:=E.then bR.mod;have U:=bR.az;refine aT rfl (J aV (ab fun aL=>aG rfl (fA (bF ac' rfl) (RX _ s (e4.I E)) rfl fun cO cN aA=>?_)));obtain⟨Qt,rfl,DV,R⟩:=aA;replace U:=U.I R;replace E:=E.then R;have aa8:=Mod.refl [] cN;replace DV:=DV.e9 (A':=g1::A) (fun x ae=>by rcases List.mem_cons.1 ae with rfl | ae;exact List.mem_range.2 bR.az.lt;exact List.mem_range.2 (Nat.lt_of_lt_of_le (dF x ae) bR.mod.size));obtain⟨ary,arz,arA,arB,rfl,anN,anO⟩:=JV.bb DV;replace DV:=JV.cv anN anO;refine ak 3 rfl (bt cB rfl fun g2 fV cK=>?_);have b4:=cK.le E;have Zf:=cK.le aa8;have bP:=cK.ne U;replace U:=U.I cK.mod;replace E:=E.then cK.mod;replace aa8:=aa8.then cK.mod;have ah:=cK.az;refine bo (vs:=[_,_,_,_,_,_]) aK ah rfl rfl rfl (by simp [Value.oneCell']) (by simp) fun ic kZ=>?_;replace U:=U.ne kZ.mod bP;replace E:=E.own kZ.mod b4;replace aa8:=aa8.own kZ.mod Zf;replace ah:aF ic g2 _ [_,_,_,_,_,_]:=kZ.az;refine aT rfl (J aL (ax fun aW=>ab fun br=>ak 2 rfl (J br ?_)));refine aI rfl (fun uF=>?_) (fun uF=>?_)
 ·refine ab fun bI=>ag (a' (cs:=[_,_,_,_,_,_,_,_,_,_,_,_,_,_,_,_,_]) vr oY rfl rfl) (aG rfl (bo (vs:=[_,_,_,_,_,_,_,_,_,_,_,_,_,_,_,_,_]) fi U rfl rfl rfl (by simp [Value.oneCell']) (by simp) fun jn hx=>?_));replace ah:=ah.ne hx.mod (Ne.symm bP);replace E:=E.own hx.mod bH;replace U:aF jn g1 _ [_,_,_,_,_,_,_,_,_,_,_,_,_,_,_,_,_]:=hx.az;exact aT rfl (J bI (aZ (aO (by simp) (js (vs:=[_,_,_,_,_,_,_,_,_,_,_,_,_,_,_,_,_]) rfl fi rfl rfl (U.cs rfl) rfl ⟨_,by rw [show rv s=rq s from if_pos uF];rfl,.inr ⟨uF,rfl⟩,E⟩))))
 refine ca (aw aW (ab fun bW=>ag (a8 (vs:=[_,_,_,_,_,_]) aK rfl rfl (ah.cs rfl)) ?_));have aaq:=E;have E0:=U.lt;refine fA (bF aen rfl) (Yn (g1::A) _ (pF s) _ (DV.bB aa8) (fun a ay=>by rcases List.mem_cons.1 ay with rfl | ay;exact U.lt;exact Nat.lt_of_lt_of_le (dF a ay) E.size) (jG.mod E (by simp)) (eY.I E)) rfl fun cO jC aA=>?_;obtain⟨af7,rfl,qE,R⟩:=aA;replace U:=U.I R;replace ah:=ah.I R;replace E:=E.then R;replace aa8:=aa8.then R;obtain⟨pb,a2,a3,a4,a5,Zc,Zd,Ze,a9,dn,eJ,lx,c1,c2,c3,d1,d2,d3,bk,b2,kV,aeo,aiI,aiJ,f1,f2,f3,rfl⟩:=qE.len;refine ak 2 rfl (bo (vs:=[_,_,_,_,_,_,_,_,_,_,_,_,_,_,_,_,_]) fi U rfl rfl rfl (by simp [Value.oneCell']) (by simp) fun iw pe=>?_);replace ah:=ah.ne pe.mod (Ne.symm bP);replace E:=E.own pe.mod bH;replace U:aF iw g1 _ [_,_,_,_,_,_,_,_,_,_,_,_,_,_,_,_,_]:=pe.az;have vO:=(qE.tg (List.mem_cons_self ..) E0 pe.mod).e9 (A':=A) (fun x ae=>List.mem_cons_of_mem _ ae);replace vO:=vO.low aaq;exact aT rfl (J bW (aZ (js (vs:=[_,_,_,_,_,_,_,_,_,_,_,_,_,_,_,_,_]) rfl fi rfl rfl (U.cs rfl) rfl ⟨_,by rw [show rv s=lO (pF s) from if_neg uF];rfl,.inl ⟨Classical.not_not.1 uF,vO⟩,E⟩)))
end Go.Proofs.YtnihidkbkhcfoaaGreatDoor.V
namespace Go.Proofs.YtnihidkbkhcfoaaGreatDoor.V
open Go
open JV
namespace EV
def left (e:EV):List (aa×JV):=(gz,obj [(kL,aP e.hash)])::(mo,obj (lB e.sigs e.sigs.length))::(if e.st then [(gm,aP e.key)] else [])
theorem aaf {e:EV} (h:e.bd.kind=5):(e1 e.val).1=e.bd∧(dS (e1 e.val).2 hY 4).1=cX (e.prev.map aP)∧(dS (hX e.val).2 hZ 4).1=cX (e.bn.map aP)∧(s' e.val).1=aP e.room∧(ta e.val).1=aP e.snd∧(tb e.val).1=aP e.ty∧(tc e.val).1=hp e.dep∧(nB e.val).1=hp e.time∧(dS (dS (dS (dS (dS (dS (dS (dS ⟨e.val,false⟩ nC 5).2 hY 4).2 hZ 4).2 mm 3).2 iu 3).2 mn 3).2 kh 2).2 qz 2).2=⟨obj e.left,false⟩:=by
 obtain⟨room,snd,ty,st,key,bd,prev,bn,dep,time,hash,sigs⟩:=e;obtain⟨k,b,n,s,l,m⟩:=bd;have h:k=5:=h;subst h;cases st <;> exact⟨by kernel_rfl,by kernel_rfl,by kernel_rfl,by kernel_rfl,by kernel_rfl,by kernel_rfl,by kernel_rfl,by kernel_rfl,by kernel_rfl⟩
theorem H4 (l:List aa):(cX (l.map aP)).list.any (fun x=>decide (x.kind≠3))=false:=by
 show(l.map aP).any _=false;rw [List.any_eq_false];intro x ae;obtain⟨s,_,rfl⟩:=List.mem_map.1 ae;simp [aP,JV.kind]
theorem H5 (l:List aa):(cX (l.map aP)).list.map JV.str=l:=by
 show(l.map aP).map JV.str=l;rw [List.map_map]
 conv=>rhs;rw [← List.map_id l]
 rfl
theorem C7 {e:EV} (h:e.bd.kind=5):(e1 e.val).1=e.bd∧(hX e.val).1=e.prev∧(iG e.val).1=e.bn∧(s' e.val).1=aP e.room∧(ta e.val).1=aP e.snd∧(tb e.val).1=aP e.ty∧(tc e.val).1=hp e.dep∧(nB e.val).1=hp e.time∧(nB e.val).2=⟨obj e.left,false⟩:=by
 obtain⟨h1,aq,aU,bM,cL,eW,kz,kq,k0⟩:=aaf h;have arS:(hX e.val).2=(dS (e1 e.val).2 hY 4).2:=by
  show(⟨_,_⟩:mF)=_;rw [aq,H4,Bool.or_false]
 have dF:(iG e.val).2=(dS (hX e.val).2 hZ 4).2:=by
  show(⟨_,_⟩:mF)=_;rw [aU,H4,Bool.or_false]
 refine⟨h1,?_,?_,bM,cL,eW,kz,kq,?_⟩
 ·show(dS (e1 e.val).2 hY 4).1.list.map JV.str=_;rw [aq,H5]
 ·show(dS (hX e.val).2 hZ 4).1.list.map JV.str=_;rw [aU,H5]
 show(dS (dS (dS (dS (dS (iG e.val).2 mm 3).2 iu 3).2 mn 3).2 kh 2).2 qz 2).2=_;rw [dF,arS];exact k0
theorem UM {e:EV} (h:e.bd.kind=5):qy e.val=e.st∧(l2 e.val).1=(if e.st then aP e.key else JV.gQ)∧(cc e.val).1=obj (lB e.sigs e.sigs.length)∧(cc e.val).2=⟨obj [(gz,obj [(kL,aP e.hash)])],false⟩:=by
 obtain⟨_,_,_,_,_,_,_,_,k0⟩:=C7 h;unfold cc l2 qy;rw [k0];obtain⟨room,snd,ty,st,key,bd,prev,bn,dep,time,hash,sigs⟩:=e;cases st <;> exact⟨by kernel_rfl,by kernel_rfl,by kernel_rfl,by kernel_rfl⟩
theorem H6 (l:List dH):∀ k,∀ p∈lB l k,p.2.map≠[]∧∀ q∈p.2.map,q.2.kind=3
 | 0=>by simp [vJ]
 | k+1=>by
  have dK:=H6 l k
  rcases Nat.lt_or_ge k l.length with h | h
  ·rw [vK (List.getElem?_eq_getElem h)]
   intro p cp
   rcases AR cp with cp | rfl
   ·exact dK p cp
   refine⟨?_,fun q e5=>?_⟩
   ·show dC _ _ _≠[]
    unfold dC
    simp
   rcases AR (show q∈dC _ _ _ from e5)with e5 | rfl
   ·unfold one at e5
    cases cg:look (lB l k) (l[k]).c8 with
    | none=>rw [cg] at e5;simp [JV.gQ,JV.map] at e5
    | some y=>rw [cg] at e5;exact(dK _ (k8 cg)).2 q e5
   rfl
  have e:lB l (k+1)=lB l k:=by unfold lB;rw [List.take_of_length_le (by omega),List.take_of_length_le h]
  rw [e]
  exact dK
theorem aag (l:List dH) (k:Nat):(lB l k).any pZ=false:=by
 rw [List.any_eq_false];intro p cp;obtain⟨h1,aq⟩:=H6 l k p cp;unfold pZ;simp only [Bool.or_eq_true,decide_eq_true_eq,List.any_eq_true,not_or,not_exists,not_and];exact⟨fun h=>h1 (List.eq_nil_of_length_eq_zero h),fun q e5 hk=>absurd (aq q e5) hk⟩
def again (e:EV):EV:={e with key:=if e.st then e.key else [],sigs:=ch (lB e.sigs e.sigs.length)}
theorem aah {e:EV} (h:e.bd.kind=5):h9 e.val=e.again∧SL e.val=false:=by
 obtain⟨h1,aq,aU,bM,cL,eW,kz,kq,k0⟩:=C7 h;obtain⟨dZ,j9,vS,uo⟩:=UM h;have aoA:vp e.val=false:=by
  unfold vp;rw [uo,vS];show(false||(lB e.sigs e.sigs.length).any pZ)=false;rw [aag];rfl
 have hH:q3 e.val=(obj [(kL,aP e.hash)],⟨obj [],false⟩):=by
  unfold q3;rw [aoA,uo]
  kernel_rfl
 have ap8:vq e.val=(aP e.hash,⟨obj [],false⟩):=by
  unfold vq;rw [hH]
  kernel_rfl
 constructor
 ·unfold h9 again;rw [h1,aq,aU,bM,cL,eW,kz,kq,dZ,j9,vS,ap8]
  congr 1
  ·cases e.st <;> rfl
 unfold SL;rw [hH,ap8];rfl
end EV
end Go.Proofs.YtnihidkbkhcfoaaGreatDoor.V
