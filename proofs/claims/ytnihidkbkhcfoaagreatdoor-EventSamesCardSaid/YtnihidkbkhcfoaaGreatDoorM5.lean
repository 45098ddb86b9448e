/-
  A part of the proof: names with a sign; keys; kinds of bytes, as the document tells them; the document's names: its answers in the words of the walk; words of 32 bits, and bytes, as UInt32 and UInt8: each operation in their own words; the digest in plain Lean; blocks taken in, one behind the other; what stands behind the bytes; the digest's bytes; the digest of bytes; the reference's digest is the digest; slices of arrays; a slice's type changed in name alone; one byte of a slice of the call's own is written; letters that stand for bytes: their numbers, whether they stand for bytes, in plain Lean; states put together slot by slot; pairs in order; insertion; doubled neighbours left out; the pairs that every event needs; a slice that is read, as the source of an append, in every later world alike; a member's value written in place; members put one by one; what stays of a content, as the program and as the document tell it: the same; lists of texts that are built; strings the other way round; the pairs by which an event is allowed: the program's way and the document's way are the same; what Select and Right answer, in plain Lean; events that can be, in plain Lean; the text of what stays of a content is no longer than the content's; what stays, stays; a drawn region's operations that look at two or three slots of which something is known; its tail behind two such slots; a list of structs of the call's own that grows, each with memory of its own behind it; a list of structs of the call's own that grows, each with memory of its own behind it; Content, told arm by arm; the document's Content, told member by member; the laws of Content, last steps; what stays of a content is no longer than memory; an event as a JSON value, in plain Lean. No condition of its own.
-/
import Derived.Test.YtnihidkbkhcfoaaGreatDoorM4
import Derived.Test.YtnihidkbkhcfoaaGreatDoorM2
import Derived.Test.YtnihidkbkhcfoaaGreatDoorM3
import Derived.Test.YtnihidkbkhcfoaaGreatDoorM1
set_option linter.unusedVariables false
set_option linter.unusedSimpArgs false
set_option maxRecDepth 10000
namespace Go.Proofs.YtnihidkbkhcfoaaGreatDoor.V
open Go Go.Proofs
theorem L1:aQ Tryz.prog 171:=aQ.of Tryz.func171 (by kernel_rfl) (by kernel_rfl)
theorem Zq:aQ Tryz.prog 190:=aQ.of Tryz.func190 (by kernel_rfl) (by kernel_rfl)
theorem x':aQ Tryz.prog 191:=aQ.of Tryz.func191 (by kernel_rfl) (by kernel_rfl)
theorem Zr (w:World) (s:aa) (bf:s.length≤65536):Calls Tryz.prog 159 [S s].toArray w (bL fun u w'=>u = .tuple #[S (if cn s then cw s else []),.bool (cn s)]∧Mod [] w w'):=by
 refine enter Tryz.func159 rfl rfl rfl (l:=[(0,_)]) ⟨rfl,trivial⟩ ?_;have E:=Mod.refl [] w;refine ab fun aV=>ak 2 rfl (J aV (ax fun aL=>ab fun aW=>aG rfl (cP (bF L1 rfl) (CQ _ s) fun aB R=>?_)));replace E:=E.then R;refine ag (ff rfl) (J aW ?_);refine a7 rfl (fun kb=>?_) (fun kb=>?_)
 ·have pk:cn s=false:=by simpa using kb
  exact ab fun br=>ak 2 rfl (J br (aZ (aO (by simp) (ct rfl rfl rfl ⟨by rw [pk];rfl,E⟩))))
 have pk:cn s=true:=by simpa using kb
 refine ca (aw aL (ab fun bI=>bD (cs:=[_]) cV kF rfl rfl rfl (by decide) rfl fun g1 cN bR=>?_));have bH:=bR.le E;replace E:=E.then bR.mod;have U:=bR.az;refine aT rfl (J bI (ax fun bW=>ab fun cb=>aG rfl (qn Tryz.underlying9 rfl rfl fun uW fV gu Rc O4=>?_)));have pn:w.heap.size≤uW:=by have:=E.size;omega
 have anT:g1≠uW:=by have:=U.lt;omega
 replace E:=E.then O4;replace U:=U.I O4;refine J cb (eB (bU (σ:=Nat×Value) (fun⟨p,v⟩=>[(0,S s),(4,v),(13,.pointer (some ⟨uW,0,none⟩))]) (fun⟨p,v⟩ aB=>p≤s.length∧cn (s.drop p)=true∧Bu aB uW s p∧hK aB v (34::db (s.take p))∧(∀ x∈a1 v,w.heap.size≤x)∧(∀ x∈a1 v,x≠uW)∧Mod [] w aB) (fun⟨p,v⟩=>s.length-p) (⟨0,.slice (some ⟨g1,0,none⟩) 1 1⟩) ⟨rfl,rfl,rfl,trivial⟩ (⟨by omega,by simpa using pk,gu,(Own.all (c:=1) U rfl (by omega)).same rfl rfl,by simp only [a1,List.mem_singleton];intro x ae;subst ae;exact bH,by simp only [a1,List.mem_singleton];intro x ae;subst ae;exact anT,E⟩) ?_));rintro⟨p,v⟩ ic ⟨cp,bK,gu,O,my,Ow,E⟩;refine ax fun cx=>?_
 by_cases fM:p<s.length
 rotate_left
 ·have lI:=fM;have kG:s.take p=s:=List.take_of_length_le (by omega);refine bQ (lr rfl gu lI rfl (ag (eH rfl rfl) (J cx (ax fun cS=>?_))));refine a7 rfl (fun ks=>?_) (fun ks=>?_)
  ·cases ks
  skip
  refine bm (aO (by simp) (aO (by simp) (bS (aw bW (ab fun de=>aG rfl (bD (cs:=[_]) cV kF rfl rfl rfl (by decide) rfl fun g4 oC N4=>?_))))));have fO:=N4.le E;have nQ:=N4.b8 O;replace gu:=gu.I N4.mod;replace E:=E.then N4.mod;replace O:=O.I N4.mod;have bg:=N4.az;have MC:=l7 s;have yH:(34::db (s.take p)).length=(db s).length+1:=by rw [kG];rfl
  refine bu cV rfl rfl O (Src.own Tryz.underlying65 (Own.all (cs:=[_]) bg rfl (by omega)) (by simp [Value.oneCell'])) (by decide) (by omega) (by omega) rfl fun v3 qJ Be=>?_;have WA:=Be.ne nQ bg;have Dm:=Be.ge my E;replace bg:=bg.mod Be.mod (fun ae=>nQ _ ae rfl);replace E:=E.trans' Be.mod (fun x ae=>.inr (my x ae));replace O:=Be.own;exact ag (oH (u:=cw s) Tryz.underlying65 Tryz.underlying5 Tryz.underlying9 rfl (O.same (by rw [kG];simp [cw]) (by rw [kG];simp [cw,j8,dj]))) (ak 2 rfl (J de (aZ (ct rfl rfl rfl ⟨by rw [pk];rfl,E⟩))))
 have dk:=zh (ib fM) bK;obtain⟨_,_,fH,gC⟩:=wm (ib fM) dk;have hle:=kd (s.drop p);have X8:(s.drop p).length=s.length-p:=List.length_drop ..;have MC:=l7 (s.take p);have Bf:(s.take p).length=p:=by rw [List.length_take];omega
 have yH:(34::db (s.take p)).length=(db (s.take p)).length+1:=rfl;refine bQ (mE rfl gu fM (x7 fM dk) rfl fun jn qS A3 DN=>?_);replace E:=E.trans' A3 (fun x ae=>.inr (by simp at ae;subst ae;exact pn));replace O:=O.mod A3 (fun x ae hm=>Ow x ae (by simpa using hm));clear gu;have gu:=qS;refine ag (eH rfl rfl) (J cx (ax fun cH=>?_));refine a7 rfl (fun ks=>?_) (fun ks=>?_);rotate_left
 ·cases ks
 skip
 refine ca (aw cH (eB (ab fun b5=>ak 2 rfl (J b5 (ab fun bX=>aG rfl (cP (bF Zq rfl) (Tx _ (aJ (s.drop p)).1 fH) fun jC R=>?_))))));replace gu:=gu.I R;replace E:=E.then R;replace O:=O.I R;refine aT rfl (J bX (eB (ab fun cU=>ak 3 rfl (J cU ?_))));refine aI rfl (fun xD=>?_) (fun xD=>?_)
 ·refine bQ (ak 2 rfl (bD (cs:=[_,_]) cV kF rfl rfl rfl (by decide) rfl fun g2 iw cK=>?_));have b4:=cK.le E;have mz:=cK.b8 O;replace gu:=gu.I cK.mod;replace E:=E.then cK.mod;replace O:=O.I cK.mod;have ah:=cK.az;refine bu cV rfl rfl O (Src.own Tryz.underlying65 (Own.all (cs:=[_,_]) ah rfl (by omega)) (by simp [Value.oneCell'])) (by decide) (by omega) (by omega) rfl fun v1 n' jj=>?_;have KU:=jj.ne mz ah;have tz:=jj.ge my E;replace ah:=ah.mod jj.mod (fun ae=>mz _ ae rfl);replace E:=E.trans' jj.mod (fun x ae=>.inr (my x ae));replace O:=jj.own;have aex:=jj.adz Ow gu;replace gu:=gu.mod jj.mod (fun ae=>Ow _ ae rfl);refine aT rfl (cF (bx (by simp) (bx (by simp) ?_)));have Ty:=wR fM dk bK;obtain⟨t,Ox,anU,anV⟩:=Zs fM dk xD;exact fJ (σ:=Nat×Value) (s:=⟨p,v⟩) (⟨p+(aJ (s.drop p)).2,v1⟩) ⟨rfl,rfl,rfl,trivial⟩ ⟨by omega,Ty,gu,Hr O Ox (by rw [anV]) (by rw [anU]),tz,aex,E⟩ (by dsimp only;omega)
 refine ab fun b7=>ak 3 rfl (J b7 ?_);refine aI rfl (fun xH=>?_) (fun xH=>?_);rotate_left
 ·refine bQ (ak 2 rfl (fA (bF x' rfl) (DP _ v (34::db (s.take p)) (aJ (s.drop p)).1 O fH gC (by omega)) rfl fun cO qa aA=>?_));obtain⟨abD,abc,yG⟩:=aA;have NL:∀ x∈a1 cO,w.heap.size≤x:=fun x ae=>(abc x ae).elim (my x) (Nat.le_trans E.size);have anX:∀ x∈a1 cO,x≠uW:=fun x ae=>(abc x ae).elim (Ow x) (fun h e=>by have:=gu.lt;omega);replace E:=E.trans' yG (fun x ae=>.inr (my x ae));replace gu:=gu.mod yG (fun ae=>Ow _ ae rfl);refine aT rfl (cF (bx (by simp) (bx (by simp) ?_)));have Ty:=wR fM dk bK;have Ox:=Zu fM dk xD xH;exact fJ (σ:=Nat×Value) (s:=⟨p,v⟩) (⟨p+(aJ (s.drop p)).2,cO⟩) ⟨rfl,rfl,rfl,trivial⟩ ⟨by omega,Ty,gu,abD.same (by rw [Ox];rfl) (by rw [Ox];rfl),NL,anX,E⟩ (by dsimp only;omega)
 refine jI [0] [1,2,3,4,5,6] 7 [8,9] wide (by kernel_rfl) (fun _ _ _ h=>h.2) (WB (fun _=>(ec rfl)) rfl rfl (iN (ai (fun R=>(ec rfl)) (ai (fun R=>(q7 4 16 rfl rfl (by decide) (by decide))) (ai (fun R=>(b' Tryz.underlying9 rfl rfl (by omega) (by rw [Int.toNat_natCast];exact x0 (by omega)))) (ai (fun R=>(ec rfl)) (ai (fun R=>(aey rfl rfl (by omega))) (ai (fun R=>(b' Tryz.underlying9 rfl rfl (by omega) (by rw [Int.toNat_natCast];exact x0 (by omega)))) (mJ rfl fun lY R=>?_)))))))));replace gu:=gu.I R;replace E:=E.then R;replace O:=O.I R;refine bD (cs:=[_,_,_,_,_,_]) cV kF rfl rfl rfl (by decide) rfl fun g3 iy eQ=>?_;have dJ:=eQ.le E;have nP:=eQ.b8 O;replace gu:=gu.I eQ.mod;replace E:=E.then eQ.mod;replace O:=O.I eQ.mod;have bz:=eQ.az;refine bu cV rfl rfl O (Src.own Tryz.underlying65 (Own.all (cs:=[_,_,_,_,_,_]) bz rfl (by omega)) (by simp [Value.oneCell'])) (by decide) (by omega) (by omega) rfl fun v2 kr Bd=>?_;have Wz:=Bd.ne nP bz;have yL:=Bd.ge my E;replace bz:=bz.mod Bd.mod (fun ae=>nP _ ae rfl);replace E:=E.trans' Bd.mod (fun x ae=>.inr (my x ae));replace O:=Bd.own;have anW:=Bd.adz Ow gu;replace gu:=gu.mod Bd.mod (fun ae=>Ow _ ae rfl);refine aT rfl (cF (bx (by simp) (bx (by simp) ?_)));have Ty:=wR fM dk bK;have Ox:=Zt fM dk xD xH;exact fJ (σ:=Nat×Value) (s:=⟨p,v⟩) (⟨p+(aJ (s.drop p)).2,v2⟩) ⟨rfl,rfl,rfl,trivial⟩ ⟨by omega,Ty,gu,Hr O Ox (by simp) (by simp [j8]),yL,anW,E⟩ (by dsimp only;omega)
set_option maxRecDepth 10000
theorem ZH:aQ Tryz.prog 228:=aQ.of Tryz.func228 (by kernel_rfl) (by kernel_rfl)
theorem sL:aQ Tryz.prog 111:=aQ.of Tryz.func111 (by kernel_rfl) (by kernel_rfl)
theorem DO:aQ Tryz.prog 196:=aQ.of Tryz.func196 (by kernel_rfl) (by kernel_rfl)
theorem yn:aQ Tryz.prog 166:=aQ.of Tryz.func166 (by kernel_rfl) (by kernel_rfl)
theorem vB:aQ Tryz.prog 168:=aQ.of Tryz.func168 (by kernel_rfl) (by kernel_rfl)
theorem ZI:aQ Tryz.prog 170:=aQ.of Tryz.func170 (by kernel_rfl) (by kernel_rfl)
theorem L7:aQ Tryz.prog 167:=aQ.of Tryz.func167 (by kernel_rfl) (by kernel_rfl)
theorem vC (w:World) (c:Nat):Calls Tryz.prog 166 [.int .i32 (c:Int)].toArray w (bL fun u w'=>u = .bool (wX c)∧Mod [] w w'):=by
 refine enter Tryz.func166 rfl rfl rfl (l:=[(0,_)]) ⟨rfl,trivial⟩ ?_;have E:=Mod.refl [] w;refine ab fun aV=>aT rfl (J aV (ab fun aL=>aG rfl (ag (dr rfl rfl) ?_)));refine cT (fun jO:(c:Int)≥97=>?_) (fun jO=>?_)
 ·refine ak 3 rfl ?_;refine cT (fun oA:(c:Int)≤122=>?_) (fun oA=>?_)
  ·exact ak 2 rfl (J aL (aZ (au rfl rfl ⟨congrArg Value.bool (by rw [Bool.eq_iff_iff];simp [wX];omega),E⟩)))
  exact ak 2 rfl (J aL (aZ (au rfl rfl ⟨congrArg Value.bool (by rw [Bool.eq_iff_iff];simp [wX];omega),E⟩)))
 exact ak 5 rfl (J aL (aZ (au rfl rfl ⟨congrArg Value.bool (by rw [Bool.eq_iff_iff];simp [wX];omega),E⟩)))
theorem CU (w:World) (c:Nat):Calls Tryz.prog 167 [.int .i32 (c:Int)].toArray w (bL fun u w'=>u = .bool (BK c)∧Mod [] w w'):=by
 refine enter Tryz.func167 rfl rfl rfl (l:=[(0,_)]) ⟨rfl,trivial⟩ ?_;have E:=Mod.refl [] w;refine ab fun aV=>aT rfl (J aV (ab fun aL=>aG rfl (ag (dr rfl rfl) ?_)));refine cT (fun jO:(c:Int)≥65=>?_) (fun jO=>?_)
 ·refine ak 3 rfl ?_;refine cT (fun oA:(c:Int)≤90=>?_) (fun oA=>?_)
  ·exact ak 2 rfl (J aL (aZ (au rfl rfl ⟨congrArg Value.bool (by rw [Bool.eq_iff_iff];simp [BK];omega),E⟩)))
  exact ak 2 rfl (J aL (aZ (au rfl rfl ⟨congrArg Value.bool (by rw [Bool.eq_iff_iff];simp [BK];omega),E⟩)))
 exact ak 5 rfl (J aL (aZ (au rfl rfl ⟨congrArg Value.bool (by rw [Bool.eq_iff_iff];simp [BK];omega),E⟩)))
theorem sr (w:World) (c:Nat):Calls Tryz.prog 168 [.int .i32 (c:Int)].toArray w (bL fun u w'=>u = .bool (sW c)∧Mod [] w w'):=by
 refine enter Tryz.func168 rfl rfl rfl (l:=[(0,_)]) ⟨rfl,trivial⟩ ?_;have E:=Mod.refl [] w;refine ab fun aV=>aT rfl (J aV (ab fun aL=>aG rfl (ag (dr rfl rfl) ?_)));refine cT (fun jO:(c:Int)≥48=>?_) (fun jO=>?_)
 ·refine ak 3 rfl ?_;refine cT (fun oA:(c:Int)≤57=>?_) (fun oA=>?_)
  ·exact ak 2 rfl (J aL (aZ (au rfl rfl ⟨congrArg Value.bool (by rw [Bool.eq_iff_iff];simp [sW];omega),E⟩)))
  exact ak 2 rfl (J aL (aZ (au rfl rfl ⟨congrArg Value.bool (by rw [Bool.eq_iff_iff];simp [sW];omega),E⟩)))
 exact ak 5 rfl (J aL (aZ (au rfl rfl ⟨congrArg Value.bool (by rw [Bool.eq_iff_iff];simp [sW];omega),E⟩)))
theorem OB (w:World) (c:Nat) (h1:c≤1114111) (aq:¬ (55296≤c∧c≤57343)):Calls Tryz.prog 228 [.int .i32 (c:Int)].toArray w (bL fun u w'=>u = .bool true∧Mod [] w w'):=by
 refine enter Tryz.func228 rfl rfl rfl (l:=[(0,_)]) ⟨rfl,trivial⟩ ?_;have E:=Mod.refl [] w;have Ge:(0:Int)≤(c:Int):=by omega
 refine ab fun aV=>aT rfl (J aV (ax fun aL=>eB (ab fun aW=>ak 2 rfl (jg (bh Ge) (ak 5 rfl (J aW ?_))))));refine aI rfl (fun aU=>?_) (fun aU=>?_)
 ·exact ab fun br=>aT rfl (J br (aZ (bx (by simp) (aO (by simp) (au rfl rfl ⟨rfl,E⟩)))))
 have nt:(57343:Int)<(c:Int):=by omega
 have hle:(c:Int)≤1114111:=by omega
 exact ab fun bI=>ak 2 rfl (jg (bh nt) (ak 3 rfl (jg (bh hle) (ak 2 rfl (J bI (aD rfl (ab fun bW=>aT rfl (J bW (aZ (bx (by simp) (aO (by simp) (au rfl rfl ⟨rfl,E⟩))))))))))))
theorem xo (w:World) (s:aa) (c:Nat) (bf:∀ x∈s,x.toNat<128) (cg:4≤s.length) (qm:s.length≤1000) (h1:c≤1114111) (aq:¬ (55296≤c∧c≤57343)) (h:128≤c):Calls Tryz.prog 196 [S s,.int .i32 (c:Int)].toArray w (bL fun u w'=>u = .int .i64 (-1)∧Mod [] w w'):=by
 refine enter Tryz.func196 rfl rfl rfl (l:=[(0,_),(1,_)]) ⟨rfl,rfl,trivial⟩ ?_;have E:=Mod.refl [] w;have Ge:(0:Int)≤(c:Int):=by omega
 have fH:¬ (c:Int)<128:=by omega
 obtain⟨rs,an',arF,alo,ap2,ai2,ai3⟩:=OC h1 aq h;obtain⟨dn,cC⟩:∃ dn,s[rs.length-1]? = some dn:=⟨_,List.getElem?_eq_getElem (by omega)⟩;have ap3:=bf dn (List.mem_of_getElem? cC);have aoa:Lib.indexByte (s.drop (rs.length-1+1)) ap2 = -1:=indexByte_none (fun x ae=>bf x (List.mem_of_mem_drop ae)) ai3;refine ab fun aV=>aT rfl (J aV (eB (ab fun aL=>ak 2 rfl (jg (bh Ge) (ak 3 rfl (jg (bN fH) (ak 2 rfl (J aL (aE rfl (ab fun aW=>ak 3 rfl ?_))))))))));refine J aW ?_;refine aI rfl (fun lp=>?_) (fun lp=>?_);rotate_left
 ·refine ab fun cU=>aG rfl (cP (bF ZH rfl) (OB _ c h1 aq) fun ic R=>?_);replace E:=E.then R;refine ak 2 rfl (J cU ?_);refine a7 rfl (fun abh=>?_) (fun abh=>?_)
  ·cases abh
  refine HB (ab fun b7=>aG rfl (ag ((aeN Tryz.underlying21 Tryz.underlying9 rfl).to (v':=S rs) (by rw [an'])) (aT rfl (J b7 (ab fun cS=>aG rfl (ag (bw Tryz.underlying9 rfl) (ag (ez (r:=((rs.length-1:Nat):Int)) rfl rfl (by rw [wrap64_in _ (by omega)];omega)) (aT rfl (J cS (ab fun de=>ak 2 rfl ?_))))))))));refine J de (ab fun dG=>aT rfl (J dG (ax fun eC=>eB (bU (σ:=Unit) (fun _=>[(0,S s),(7,S rs),(8,.int .i64 ((rs.length-1:Nat):Int)),(9,.int .i64 ((rs.length-1:Nat):Int))]) (fun _ aB=>Mod [] w aB) (fun _=>0) (()) ⟨rfl,rfl,rfl,rfl,trivial⟩ (E) ?_))));rintro _ jn E;refine ax fun eb=>ab fun fq=>ak 2 rfl (ag (bw Tryz.underlying9 rfl) (ag (cI rfl rfl) (J fq ?_)));refine aI rfl (fun jF=>?_) (fun jF=>?_)
  ·refine ca (aw eb (eB (HB (ax fun fE=>ax fun fa=>bT wide (by kernel_rfl) (f' 2 rfl rfl (ai (fun R=>(b' Tryz.underlying9 rfl rfl (by omega) (by rw [Int.toNat_natCast];exact cC))) (f' 2 rfl rfl (ai (fun R=>(b' Tryz.underlying9 rfl rfl (by omega) (by rw [Int.toNat_natCast];exact ai2))) (ai (fun R=>(eU rfl rfl)) (bV rfl fun jC R=>?_))))))))));replace E:=E.then R;refine aw fa ?_;refine aI rfl (fun sZ=>?_) (fun sZ=>?_)
   ·refine ax fun fL=>bT wide (by kernel_rfl) (f' 2 rfl rfl (ai (fun R=>(cW (r:=((rs.length-1+1:Nat):Int)) rfl rfl (by rw [wrap64_in _ (by omega)];omega))) (ai (fun R=>(cG Tryz.underlying9 rfl rfl (by omega))) (f' 2 rfl rfl (ai (fun R=>(b' Tryz.underlying9 rfl rfl (by omega) (by rw [Int.toNat_natCast];exact ai2))) (BQ (fun cQ R=>bF sL rfl) (fun cQ R=>B4 _ (s.drop (rs.length-1+1)) ap2) rfl rfl (ai (fun R=>(cr rfl)) (bV rfl fun iw R=>?_))))))));replace E:=E.then R;refine aw fL (ax fun gX=>ab fun hn=>ak 2 rfl (J hn ?_));refine aI rfl (fun ai4=>?_) (fun ai4=>?_)
    ·exact ab fun hD=>aT rfl (J hD (aZ (aO (by simp) (aO (by simp) (HC (by simp) (bx (by simp) (aO (by simp) (bx (by simp) (aO (by simp) (HC (by simp) (bx (by simp) (au rfl rfl ⟨rfl,E⟩))))))))))))
    exact absurd (by rw [aoa];decide) ai4
   exact absurd (by omega) sZ
  exact absurd (by omega) jF
 refine ax fun br=>ab fun bI=>aG rfl (qn Tryz.underlying9 rfl rfl fun uW aB gu Rc O4=>?_);have pn:w.heap.size≤uW:=by have:=E.size;omega
 replace E:=E.then O4;refine J bI (eB (bU (σ:=Nat) (fun p=>[(0,S s),(1,.int .i32 (c:Int)),(175,.pointer (some ⟨uW,0,none⟩))]) (fun p aB=>p≤s.length∧Bu aB uW s p∧Mod [] w aB) (fun p=>s.length-p) (0) ⟨rfl,rfl,rfl,trivial⟩ (⟨by omega,gu,E⟩) ?_));rintro p cN ⟨cp,gu,E⟩;refine ax fun bW=>?_
 by_cases fM:p<s.length
 ·obtain⟨b,aS⟩:∃ b,s[p]? = some b:=⟨_,List.getElem?_eq_getElem fM⟩;have nX:=bf b (List.mem_of_getElem? aS);refine bQ (mE rfl gu fM (dec_lt aS nX) rfl fun fV qS A3 DN=>?_);replace E:=E.trans' A3 (fun x ae=>.inr (by simp at ae;subst ae;exact pn));clear gu;have gu:=qS;refine ag (eH rfl rfl) (J bW (ax fun cb=>?_));refine a7 rfl (fun HA=>?_) (fun HA=>?_)
  ·skip
   refine ca (aw cb (eB (ab fun cx=>ak 4 rfl (J cx (ab fun cH=>ak 2 rfl (J cH ?_))))));refine aI rfl (fun abg=>?_) (fun abg=>?_)
   ·exact absurd abg (by omega)
   exact ca (bx (by simp) (fJ (σ:=Nat) (s:=p) (p+1) ⟨rfl,rfl,rfl,trivial⟩ ⟨by omega,gu,E⟩ (by omega)))
  cases HA
 have lI:=fM;refine bQ (lr rfl gu lI rfl (ag (eH rfl rfl) (J bW (ax fun b5=>?_))));refine a7 rfl (fun HA=>?_) (fun HA=>?_)
 ·cases HA
 skip
 exact bm (aO (by simp) (aO (by simp) (bS (aw br (ab fun bX=>aT rfl (J bX (aZ (bx (by simp) (au rfl rfl ⟨rfl,E⟩)))))))))
theorem HD (w:World) (s:aa) (c:Nat) (bf:∀ x∈s,x.toNat<128) (cg:4≤s.length) (qm:s.length≤1000) (h1:c≤1114111) (aq:¬ (55296≤c∧c≤57343)) (h:128≤c):Calls Tryz.prog 170 [S s,.int .i32 (c:Int)].toArray w (bL fun u w'=>u = .bool false∧Mod [] w w'):=by
 refine enter Tryz.func170 rfl rfl rfl (l:=[(0,_),(1,_)]) ⟨rfl,rfl,trivial⟩ ?_;have E:=Mod.refl [] w;refine ab fun aV=>aT rfl (J aV (ab fun aL=>ak 2 rfl (cP (bF DO rfl) (xo _ s c bf cg qm h1 aq h) fun aB R=>?_)));replace E:=E.then R;exact ag (dr rfl rfl) (aT rfl (J aL (aZ (au rfl rfl ⟨rfl,E⟩))))
theorem T1 (w:World) (c:Nat) (h1:c≤1114111) (aq:¬ (55296≤c∧c≤57343)):Calls Tryz.prog 170 [S q9,.int .i32 (c:Int)].toArray w (bL fun u w'=>u = .bool (q9.any fun b=>decide (b.toNat=c))∧Mod [] w w'):=by
 rcases Nat.lt_or_ge c 128 with h | h
 ·exact FN w q9 c h
 refine(HD w q9 c (by decide) (by decide) (by decide) h1 aq h).mono fun e w' he=>?_;cases e with
 | returned v=>
  obtain⟨rfl,k⟩:=he;refine⟨?_,k⟩
  congr 1
  symm
  rw [List.any_eq_false];intro b aS;have:b.toNat<128:=(by decide:∀ b∈q9,b.toNat<128) b aS;simp;omega
 | panicked c=>exact he.elim
 | outgrown=>exact he.elim
theorem Kf (w:World) (c:Nat) (h1:c≤1114111) (aq:¬ (55296≤c∧c≤57343)):Calls Tryz.prog 195 [.int .i32 (c:Int)].toArray w (bL fun u w'=>u = .bool (hc c)∧Mod [] w w'):=by
 refine enter Tryz.func195 rfl rfl rfl (l:=[(0,_)]) ⟨rfl,trivial⟩ ?_;have E:=Mod.refl [] w;refine ab fun aV=>aT rfl (J aV (ab fun aL=>aG rfl (cP (bF yn rfl) (vC _ c) fun aB R=>?_)));replace E:=E.then R;refine w8 (fun aR:(wX c)=true=>?_) (fun aR=>?_)
 ·exact ak 13 rfl (J aL (aZ (au rfl rfl ⟨by simp_all [hc],E⟩)))
 refine ak 2 rfl (fD (bF vB rfl) (sr _ c) fun cN R=>?_);replace E:=E.then R;refine w8 (fun bp:(sW c)=true=>?_) (fun bp=>?_)
 ·exact ak 10 rfl (J aL (aZ (au rfl rfl ⟨by simp_all [hc],E⟩)))
 refine ak 4 rfl ?_;refine cT (fun bE:(c:Int)=46=>?_) (fun bE=>?_)
 ·exact ak 6 rfl (J aL (aZ (au rfl rfl ⟨by simp_all [hc],E⟩)))
 refine ak 4 rfl ?_;refine cT (fun cE:(c:Int)=45=>?_) (fun cE=>?_)
 ·exact ak 2 rfl (J aL (aZ (au rfl rfl ⟨by simp_all [hc],E⟩)))
 exact ak 2 rfl (J aL (aZ (au rfl rfl ⟨by simp_all [hc],E⟩)))
theorem T2 (w:World) (c:Nat) (h1:c≤1114111) (aq:¬ (55296≤c∧c≤57343)):Calls Tryz.prog 169 [.int .i32 (c:Int)].toArray w (bL fun u w'=>u = .bool (iZ c)∧Mod [] w w'):=by
 refine enter Tryz.func169 rfl rfl rfl (l:=[(0,_)]) ⟨rfl,trivial⟩ ?_;have E:=Mod.refl [] w;refine ab fun aV=>aT rfl (J aV (ab fun aL=>aG rfl (cP (bF yn rfl) (vC _ c) fun aB R=>?_)));replace E:=E.then R;refine w8 (fun aR:(wX c)=true=>?_) (fun aR=>?_)
 ·exact ak 9 rfl (J aL (aZ (au rfl rfl ⟨by simp_all [iZ],E⟩)))
 refine ak 2 rfl (fD (bF vB rfl) (sr _ c) fun cN R=>?_);replace E:=E.then R;refine w8 (fun bp:(sW c)=true=>?_) (fun bp=>?_)
 ·exact ak 6 rfl (J aL (aZ (au rfl rfl ⟨by simp_all [iZ],E⟩)))
 refine ak 3 rfl (fD (bF ZI rfl) (T1 _ c h1 aq) fun fV R=>?_);replace E:=E.then R;refine w8 (fun bE:(q9.any fun b=>decide (b.toNat=c))=true=>?_) (fun bE=>?_)
 ·exact ak 2 rfl (J aL (aZ (au rfl rfl ⟨by simp_all [iZ],E⟩)))
 exact ak 2 rfl (J aL (aZ (au rfl rfl ⟨by simp_all [iZ],E⟩)))
theorem T3 (w:World) (c:Nat) (h1:c≤1114111) (aq:¬ (55296≤c∧c≤57343)):Calls Tryz.prog 165 [.int .i32 (c:Int)].toArray w (bL fun u w'=>u = .bool (h0 c)∧Mod [] w w'):=by
 refine enter Tryz.func165 rfl rfl rfl (l:=[(0,_)]) ⟨rfl,trivial⟩ ?_;have E:=Mod.refl [] w;refine ab fun aV=>aT rfl (J aV (ab fun aL=>aG rfl (cP (bF yn rfl) (vC _ c) fun aB R=>?_)));replace E:=E.then R;refine w8 (fun aR:(wX c)=true=>?_) (fun aR=>?_)
 ·exact ak 17 rfl (J aL (aZ (au rfl rfl ⟨by simp_all [h0],E⟩)))
 refine ak 2 rfl (fD (bF L7 rfl) (CU _ c) fun cN R=>?_);replace E:=E.then R;refine w8 (fun bp:(BK c)=true=>?_) (fun bp=>?_)
 ·exact ak 14 rfl (J aL (aZ (au rfl rfl ⟨by simp_all [h0],E⟩)))
 refine ak 3 rfl (fD (bF vB rfl) (sr _ c) fun fV R=>?_);replace E:=E.then R;refine w8 (fun bE:(sW c)=true=>?_) (fun bE=>?_)
 ·exact ak 10 rfl (J aL (aZ (au rfl rfl ⟨by simp_all [h0],E⟩)))
 refine ak 4 rfl ?_;refine cT (fun cE:(c:Int)=95=>?_) (fun cE=>?_)
 ·exact ak 6 rfl (J aL (aZ (au rfl rfl ⟨by simp_all [h0],E⟩)))
 refine ak 4 rfl ?_;refine cT (fun cY:(c:Int)=45=>?_) (fun cY=>?_)
 ·exact ak 2 rfl (J aL (aZ (au rfl rfl ⟨by simp_all [h0],E⟩)))
 exact ak 2 rfl (J aL (aZ (au rfl rfl ⟨by simp_all [h0],E⟩)))
theorem ZJ (w:World) (c:Nat) (h1:c≤1114111) (aq:¬ (55296≤c∧c≤57343)):Calls Tryz.prog 199 [.int .i32 (c:Int)].toArray w (bL fun u w'=>u = .bool (nI c)∧Mod [] w w'):=by
 refine enter Tryz.func199 rfl rfl rfl (l:=[(0,_)]) ⟨rfl,trivial⟩ ?_;have E:=Mod.refl [] w;refine ab fun aV=>aT rfl (J aV (ab fun aL=>aG rfl (cP (bF yn rfl) (vC _ c) fun aB R=>?_)));replace E:=E.then R;refine w8 (fun aR:(wX c)=true=>?_) (fun aR=>?_)
 ·exact ak 13 rfl (J aL (aZ (au rfl rfl ⟨by simp_all [nI],E⟩)))
 refine ak 2 rfl (fD (bF L7 rfl) (CU _ c) fun cN R=>?_);replace E:=E.then R;refine w8 (fun bp:(BK c)=true=>?_) (fun bp=>?_)
 ·exact ak 10 rfl (J aL (aZ (au rfl rfl ⟨by simp_all [nI],E⟩)))
 refine ak 3 rfl (fD (bF vB rfl) (sr _ c) fun fV R=>?_);replace E:=E.then R;refine w8 (fun bE:(sW c)=true=>?_) (fun bE=>?_)
 ·exact ak 6 rfl (J aL (aZ (au rfl rfl ⟨by simp_all [nI],E⟩)))
 refine ak 4 rfl ?_;refine cT (fun cE:(c:Int)=95=>?_) (fun cE=>?_)
 ·exact ak 2 rfl (J aL (aZ (au rfl rfl ⟨by simp_all [nI],E⟩)))
 exact ak 2 rfl (J aL (aZ (au rfl rfl ⟨by simp_all [nI],E⟩)))
theorem AF (w:World) (s:aa) (k:FuncId) (q:Nat→Bool) (he:aQ Tryz.prog k) (hk:∀ (w:World) (c:Nat),c≤1114111→¬ (55296≤c∧c≤57343)→Calls Tryz.prog k [.int .i32 (c:Int)].toArray w (bL fun u w'=>u = .bool (q c)∧Mod [] w w')) (e5:∀ c,q c=true→c<128):Calls Tryz.prog 164 [S s,.func (.func k) #[] #[]].toArray w (bL fun u w'=>u = .bool (gn q s)∧Mod [] w w'):=by
 refine enter Tryz.func164 rfl rfl rfl (l:=[(0,_),(1,_)]) ⟨rfl,rfl,trivial⟩ ?_;have E:=Mod.refl [] w;refine ab fun aV=>aT rfl (J aV (ax fun aL=>ab fun aW=>aG rfl (qn Tryz.underlying9 rfl rfl fun uW aB gu Rc O4=>?_)));have pn:w.heap.size≤uW:=by have:=E.size;omega
 replace E:=E.then O4;refine J aW (eB (bU (σ:=Nat) (fun p=>[(0,S s),(1,.func (.func k) #[] #[]),(8,.pointer (some ⟨uW,0,none⟩))]) (fun p aB=>p≤s.length∧(s.take p).all (fun b=>q b.toNat)=true∧Bu aB uW s p∧Mod [] w aB) (fun p=>s.length-p) (0) ⟨rfl,rfl,rfl,trivial⟩ (⟨by omega,by simp,gu,E⟩) ?_));rintro p cN ⟨cp,ay,gu,E⟩;refine ax fun br=>?_
 by_cases fM:p<s.length
 rotate_left
 ·have lI:=fM;have iQ:=CV (q:=q) (by omega) ay;refine bQ (lr rfl gu lI rfl (ag (eH rfl rfl) (J br (ax fun b7=>?_))));refine a7 rfl (fun kb=>?_) (fun kb=>?_)
  ·cases kb
  skip
  exact bm (aO (by simp) (aO (by simp) (bS (aw aL (ab fun cS=>aG rfl (ag (eu rfl rfl) (aT rfl (J cS (aZ (au rfl rfl ⟨by rw [iQ],E⟩))))))))))
 obtain⟨b,aS⟩:∃ b,s[p]? = some b:=⟨_,List.getElem?_eq_getElem fM⟩;have HE:=b.toNat_lt
 by_cases nX:b.toNat<128
 rotate_left
 ·obtain⟨c,m,zq,T4,fH,gC⟩:=L8 aS (by omega);refine bQ (mE rfl gu fM (zq) rfl fun jn qS A3 DN=>?_);replace E:=E.trans' A3 (fun x ae=>.inr (by simp at ae;subst ae;exact pn));clear gu;have gu:=qS;refine ag (eH rfl rfl) (J br (ax fun cH=>?_));refine a7 rfl (fun kb=>?_) (fun kb=>?_)
  ·skip
   refine ca (aw cH (eB (ab fun b5=>ak 2 rfl (J b5 (ab fun bX=>ak 2 rfl (cP (uv he rfl rfl) (hk _ c (by omega) (by omega)) fun jC R=>?_))))));replace gu:=gu.I R;replace E:=E.then R;refine ag (ff rfl) (J bX ?_);refine a7 rfl (fun ks=>?_) (fun ks=>?_)
   ·have iQ:gn q s=false:=AG aS (dO fun h=>by have:=e5 _ h;omega);exact ab fun cU=>aT rfl (J cU (aZ (bx (by simp) (aO (by simp) (bx (by simp) (aO (by simp) (au rfl rfl ⟨by rw [iQ],E⟩)))))))
   exact absurd (e5 c (by simpa using ks)) (by omega)
  cases kb
 skip
 refine bQ (mE rfl gu fM (dec_lt aS nX) rfl fun fV qS A3 DN=>?_);replace E:=E.trans' A3 (fun x ae=>.inr (by simp at ae;subst ae;exact pn));clear gu;have gu:=qS;refine ag (eH rfl rfl) (J br (ax fun bI=>?_));refine a7 rfl (fun kb=>?_) (fun kb=>?_)
 ·skip
  refine ca (aw bI (eB (ab fun bW=>ak 2 rfl (J bW (ab fun cb=>ak 2 rfl (cP (uv he rfl rfl) (hk _ b.toNat (by omega) (by omega)) fun ic R=>?_))))));replace gu:=gu.I R;replace E:=E.then R;refine ag (ff rfl) (J cb ?_);refine a7 rfl (fun ks=>?_) (fun ks=>?_)
  ·have iQ:gn q s=false:=AG aS (by simpa using ks);exact ab fun cx=>aT rfl (J cx (aZ (bx (by simp) (aO (by simp) (bx (by simp) (aO (by simp) (au rfl rfl ⟨by rw [iQ],E⟩)))))))
  have o3:=all_succ aS ay (by simpa using ks);exact ca (bx (by simp) (fJ (σ:=Nat) (s:=p) (p+1) ⟨rfl,rfl,rfl,trivial⟩ ⟨by omega,o3,gu,E⟩ (by omega)))
 cases kb
end Go.Proofs.YtnihidkbkhcfoaaGreatDoor.V
namespace Go.Proofs.YtnihidkbkhcfoaaGreatDoor.V
open Go
theorem HF (s:aa):Lib.cut s [58]=(s.take (aH s),s.drop (aH s+1),decide (aH s<s.length)):=by
 rw [Kv];have:=jm s
 by_cases h:aH s<s.length
 ·rw [if_pos h,decide_eq_true h]
 rw [if_neg h,decide_eq_false h,List.take_of_length_le (by omega),List.drop_eq_nil_of_le (by omega)]
theorem mu (s:aa):decide (aH s=s.length) = !decide (aH s<s.length):=by
 have:=jm s
 by_cases h:aH s<s.length
 ·rw [decide_eq_true h,decide_eq_false (by omega)];rfl
 rw [decide_eq_false h,decide_eq_true (by omega)];rfl
theorem mv (s:aa):decide (s.length-aH s≤6)=decide (((s.drop (aH s+1)).length:Int)≤5):=by
 rw [List.length_drop,decide_eq_decide];omega
theorem ki (s:aa):decide (s.length≤255)=decide ((s.length:Int)≤255):=by
 rw [decide_eq_decide];omega
def nD (sign:UInt8) (s:aa):Bool:=decide (s.head? = some sign)&&decide ((s.length:Int)≤255)
theorem j6 {sign:UInt8} (Dw:sign≠58) (q:Nat→Bool) (s:aa) :
  fw sign q s=(nD sign s&&decide (aH (s.drop 1)<(s.drop 1).length)&&dx ((s.drop 1).drop (aH (s.drop 1)+1))&&gn q ((s.drop 1).take (aH (s.drop 1)))):=by
 cases s with
 | nil=>simp [fw,nD]
 | cons b r=>
  by_cases aS:b=sign
  ·subst aS
   have bj:aH (b::r)=aH r+1:=by
    have:(b == 58)=false:=by simpa using Dw
    simp [aH,List.findIdx_cons,this]
   simp only [fw,nD,bj,List.drop_succ_cons,List.drop_zero,List.length_cons,List.head?_cons,List.take_succ_cons,decide_true]
   rw [show decide (r.length+1≤255)=decide (((r.length+1:Nat):Int)≤255)by rw [decide_eq_decide];omega,show decide (aH r+1<r.length+1)=decide (aH r<r.length)by rw [decide_eq_decide];omega]
   generalize decide (((r.length+1:Nat):Int)≤255)=pb
   generalize decide (aH r<r.length)=a2
   generalize gn q (r.take (aH r))=a3
   generalize dx (r.drop (aH r+1))=a4
   cases pb <;> cases a2 <;> cases a3 <;> cases a4 <;> rfl
  have:decide ((b::r).head? = some sign)=false:=by simp [aS]
  rw [fw,nD,this]
  simp
theorem Kw {sign:UInt8} {s:aa} (Dw:sign≠58) (iq:s.head? = some sign):0<aH s:=by
 cases s with
 | nil=>cases iq
 | cons b r=>
  obtain rfl:b=sign:=by simpa using iq
  have:(b == 58)=false:=by simpa using Dw
  simp [aH,List.findIdx_cons,this]
theorem Kx (s p:aa):Lib.hasPrefix s p=decide (s.take p.length=p):=by
 unfold Lib.hasPrefix;rw [Bool.eq_iff_iff];simp only [decide_eq_true_eq,List.isPrefixOf_iff_prefix];rw [List.prefix_iff_eq_take];exact eq_comm
theorem vE (s:aa):nJ s=(Lib.hasPrefix s BL&&decide ((s.length:Int)≤255)&&gn nI (Lib.trimPrefix s BL)):=by
 have kq:BL.length=8:=rfl;unfold nJ Lib.trimPrefix;rw [Kx,kq,ki]
 by_cases h:s.take 8=BL
 ·rw [decide_eq_true h,if_pos rfl];generalize decide ((s.length:Int)≤255)=pb;generalize gn nI (s.drop 8)=a2;cases pb <;> cases a2 <;> rfl
 rw [decide_eq_false h];simp
/-! ### the document's kinds -/
def fN (c:Nat) (k:UInt8):Bool:=(decide ((k.toNat:Int)=97)&&decide ((c:Int)≥97)&&decide ((c:Int)≤122))||(decide ((k.toNat:Int)=65)&&decide ((c:Int)≥65)&&decide ((c:Int)≤90))||(decide ((k.toNat:Int)=48)&&decide ((c:Int)≥48)&&decide ((c:Int)≤57))
def wZ (kinds fR:aa) (c:Nat):Bool:=kinds.any (fN c)||fR.any (fun g=>decide ((g.toNat:Int)=(c:Int)))
theorem fx {α:Type} {l:List α} {j:Nat} {x:α} (f:α→Bool) (h:l[j]? = some x):(l.take (j+1)).any f=((l.take j).any f||f x):=by
 have bJ:=(List.getElem?_eq_some_iff.1 h).1;rw [List.take_succ_eq_append_getElem bJ,(List.getElem?_eq_some_iff.1 h).2,List.any_append];simp
theorem vG {q r:Nat→Bool} (h:∀ i:Fin 256,q i.val=r i.val) (b:UInt8):q b.toNat=r b.toNat:=h ⟨b.toNat,b.toNat_lt⟩
theorem OG (b:UInt8):hc b.toNat=wZ [97,48] [46,45] b.toNat:=vG (by decide +kernel) b
theorem ZQ (b:UInt8):iZ b.toNat=wZ [97,48] q9 b.toNat:=vG (by decide +kernel) b
theorem ZR (b:UInt8):h0 b.toNat=wZ [97,65,48] [95,45] b.toNat:=vG (by decide +kernel) b
theorem aeR (b:UInt8):nI b.toNat=wZ [97,65,48] [95] b.toNat:=vG (by decide +kernel) b
theorem T7 (b:UInt8):sW b.toNat=wZ [48] [] b.toNat:=vG (by decide +kernel) b
theorem OF {s:aa} {i:Nat} {b:UInt8} (h:s[i]? = some b) (ay:∀ j b,j<i→s[j]? = some b→b≠58) (aS:b=58):aH s=i:=by
 have bJ:=(List.getElem?_eq_some_iff.1 h).1;unfold aH;rw [List.findIdx_eq bJ];refine⟨by rw [(List.getElem?_eq_some_iff.1 h).2];simpa using aS,fun j d'=>?_⟩;have:=ay j _ d' (List.getElem?_eq_getElem (by omega));simpa using this
theorem HJ {s:aa} (ay:∀ j b,j<s.length→s[j]? = some b→b≠58):aH s=s.length:=by
 have:=jm s;rcases Nat.lt_or_ge (aH s) s.length with h | h
 ·exfalso;have h1:(s[aH s] == 58)=true:=List.findIdx_getElem (p:=fun b=>b == 58) (w:=h);exact ay _ _ h (List.getElem?_eq_getElem h) (by simpa using h1)
 omega
section
variable {P:Program} {l:List (Nat×Value)} {w:World} {ty:TypeId} {pos:String} {af:Array Edge} {dd:Option Nat} {gg:Option (Nat×Bool)} {x y z hi:Operand} {t:TypeId}
theorem T8 {u:List UInt8} {m n:Nat} (cf:P.underlying t=some .string) (ae:a6 l x=some (S u)) (cg:a6 l y=some (.int .i64 (m:Int))) (iq:a6 l hi=some (.int .i64 (n:Int))) (aS:m≤n∧n≤u.length):bG P l ⟨dd,.slice t x (some y) (some hi) none,ty,pos,af,gg⟩ w (S ((u.take n).drop m)) w:=
 (y' (pl:=some (.i64,(m:Int))) (ph:=some (.i64,(n:Int))) cf ae (by simp [tK,cg]) (by simp [tK,iq]) (by simp only [hU,iB];omega)).to (by
  simp only [hU,iB,Int.toNat_natCast]
  rw [List.drop_take])
end
theorem q' (s:aa):decide (aH s=s.length)=decide ((aH s:Int)=(s.length:Int)):=by rw [decide_eq_decide];omega
theorem ra (s:aa):decide (s.length-aH s≤6)=decide (((s.length-aH s:Nat):Int)≤6):=by rw [decide_eq_decide];omega
theorem j7 (sign:UInt8) (q:Nat→Bool) (s:aa):fw sign q s=(decide ((s.length:Int)≤255)&&decide ((aH s:Int)<(s.length:Int))&&decide (s.head? = some sign)&&gn q ((s.take (aH s)).drop 1)&&dx (s.drop (aH s+1))):=by
 rw [fw,ki,show decide (aH s<s.length)=decide ((aH s:Int)<(s.length:Int))by rw [decide_eq_decide];omega]
theorem OH {s:aa} {b0 sign:UInt8} (h:s[0]? = some b0):decide (s.head? = some sign)=decide ((b0.toNat:Int)=(sign.toNat:Int)):=by
 rw [List.head?_eq_getElem?,h,decide_eq_decide];constructor
 ·intro e;injection e with e;rw [e]
 intro e;rw [du e]
theorem T9 {s:aa} {sign:UInt8} (Dw:sign≠58) (h:¬ (aH s:Int) > 0):decide (s.head? = some sign)=false:=by
 refine decide_eq_false fun e=>?_;have:=Kw Dw e;omega
def W4 (x:UInt32):Value:=.int .u32 x.toNat
section
variable {P:Program} {l:List (Nat×Value)} {w:World} {ty:TypeId} {pos:String} {af:Array Edge}
variable {dd:Option Nat} {gg:Option (Nat×Bool)} {x y:Operand} {t t' ads:TypeId} {a b:UInt32}
end
abbrev sN (c:UInt8):List Value:=[j8 c]
abbrev ahK (b:List UInt8):D:=flat 1 sN b
abbrev D9 (x:UInt32):List Value:=[W4 x]
abbrev al1 (b:List UInt32):D:=flat 1 D9 b
def Vp (x:UInt32) (k:Nat):UInt32:=x >>> UInt32.ofNat k ||| x <<< UInt32.ofNat (32-k)
def XQ (b:List UInt8):UInt32:=b.foldl (fun n c=>n <<< UInt32.ofNat 8 ||| c.toUInt32) 0
structure S8 where
 a:UInt32
 b:UInt32
 c:UInt32
 d:UInt32
 e:UInt32
 f:UInt32
 g:UInt32
 h:UInt32
abbrev S8.cells (s:S8):List Value:=[W4 s.a,W4 s.b,W4 s.c,W4 s.d,W4 s.e,W4 s.f,W4 s.g,W4 s.h]
def Pd:List UInt32:=[
 0x428a2f98,0x71374491,0xb5c0fbcf,0xe9b5dba5,0x3956c25b,0x59f111f1,0x923f82a4,0xab1c5ed5,
 0xd807aa98,0x12835b01,0x243185be,0x550c7dc3,0x72be5d74,0x80deb1fe,0x9bdc06a7,0xc19bf174,
 0xe49b69c1,0xefbe4786,0x0fc19dc6,0x240ca1cc,0x2de92c6f,0x4a7484aa,0x5cb0a9dc,0x76f988da,
 0x983e5152,0xa831c66d,0xb00327c8,0xbf597fc7,0xc6e00bf3,0xd5a79147,0x06ca6351,0x14292967,
 0x27b70a85,0x2e1b2138,0x4d2c6dfc,0x53380d13,0x650a7354,0x766a0abb,0x81c2c92e,0x92722c85,
 0xa2bfe8a1,0xa81a664b,0xc24b8b70,0xc76c51a3,0xd192e819,0xd6990624,0xf40e3585,0x106aa070,
 0x19a4c116,0x1e376c08,0x2748774c,0x34b0bcb5,0x391c0cb3,0x4ed8aa4a,0x5b9cca4f,0x682e6ff3,
 0x748f82ee,0x78a5636f,0x84c87814,0x8cc70208,0x90befffa,0xa4506ceb,0xbef9a3f7,0xc67178f2]
def al2 (x:UInt32):UInt32:=Vp x 7 ^^^ Vp x 18 ^^^ x >>> UInt32.ofNat 3
def al3 (y:UInt32):UInt32:=Vp y 17 ^^^ Vp y 19 ^^^ y >>> UInt32.ofNat 10
def Cr (w:List UInt32) (i:Nat):UInt32:=w.getD i 0
def ada (w:List UInt32) (i:Nat):UInt32:=Cr w (i-16)+al2 (Cr w (i-15))+Cr w (i-7)+al3 (Cr w (i-2))
def adb (b:List UInt8):Nat→List UInt32
 | 0=>[]
 | i+1=>adb b i ++ [if i<16 then XQ ((b.drop (4*i)).take 4)else ada (adb b i) i]
def aaN (k w:UInt32) (s:S8):UInt32:=s.h+(Vp s.e 6 ^^^ Vp s.e 11 ^^^ Vp s.e 25)+(s.e &&& s.f ^^^ ~~~s.e &&& s.g)+k+w
def ahM (s:S8):UInt32:=Vp s.a 2 ^^^ Vp s.a 13 ^^^ Vp s.a 22
def ahN (s:S8):UInt32:=s.a &&& s.b ^^^ s.a &&& s.c ^^^ s.b &&& s.c
def al4 (k w:UInt32) (s:S8):S8:=⟨aaN k w s+(ahM s+ahN s),s.a,s.b,s.c,s.d+aaN k w s,s.e,s.f,s.g⟩
def aaO (afw ws:List UInt32) (s:S8):Nat→S8
 | 0=>s
 | i+1=>al4 (Cr afw i) (Cr ws i) (aaO afw ws s i)
def S8.add (s t:S8):S8:=⟨s.a+t.a,s.b+t.b,s.c+t.c,s.d+t.d,s.e+t.e,s.f+t.f,s.g+t.g,s.h+t.h⟩
def comp (s:S8) (b:List UInt8):S8:=s.add (aaO Pd (adb b 64) s 64)
abbrev S8.list (s:S8):List UInt32:=[s.a,s.b,s.c,s.d,s.e,s.f,s.g,s.h]
theorem Jl {xs:List UInt32}:∀ x∈xs,∀ c∈D9 x,c.oneCell'=true:=by
 intro x _ c bj;simp at bj;subst bj;rfl
theorem Own.words {w:World} {e n:Nat} {v:Value} {xs:List UInt32} (h:Own w e 1 v n ((xs.map D9).flatten)) (ck:xs.length=n):ba [] w (al1 xs) v:=Own.flat h (fun _ _=>rfl) Jl ck (by simp)
theorem aF.c1 {w:World} {g T i:Nat} {cs:List Value} {v:Value} (h:aF w g T cs) (hi:cs[i]? = some v):w.cell? ⟨g,0+i*1,none⟩=some v:=by
 rw [Nat.zero_add,Nat.mul_one];exact h.cell hi
theorem ri.c1 {w:World} {g i:Nat} {cs:List Value} {v:Value} (h:ri w ⟨g,0,none⟩ cs) (hi:cs[i]? = some v):w.cell? ⟨g,0+i*1,none⟩=some v:=by
 have:=h i v hi;rw [Addr.add_lit] at this;rw [Nat.mul_one];exact this
section
variable {P:Program} {ops:Array Oper} {Q:Exit→Act→World→Prop} {n:Nat} {ds:List Deferred} {l:List (Nat×Value)} {w w':World}
variable {rest:List Oper} {ty:TypeId} {pos:String} {af:Array Edge} {x y:Operand} {t:TypeId}
end
theorem Jm {b:List UInt8}:∀ x∈b,∀ c∈sN x,c.oneCell'=true:=by
 intro x _ c bj;simp at bj;subst bj;rfl
theorem Own.ahL {w:World} {e n:Nat} {v:Value} {b:List UInt8} (A:List Nat) (h:Own w e 1 v n ((b.map sN).flatten)) (ck:b.length=n) (dF:∀ x∈a1 v,x∉A):ba A w (ahK b) v:=Own.flat h (fun _ _=>rfl) Jm ck dF
theorem Own.as {w:World} {e sz m n:Nat} {v:Value} {us vs:List Value} (h:Own w e sz v n vs) (hm:n=m) (bK:vs=us):Own w e sz v m us:=by
 subst hm;subst bK;exact h
def ahO (n i:Nat):UInt8:=UInt8.ofNat (n*8 / 256 ^ i)
def lens (n k:Nat):List UInt8:=(List.range k).map fun i=>ahO n (7-i)
def s9 (x:UInt32) (j:Nat):UInt8:=(x >>> UInt32.ofNat (8*j)).toUInt8
section
variable {P:Program} {l:List (Nat×Value)} {w:World} {ty:TypeId} {pos:String} {af:Array Edge}
variable {dd:Option Nat} {gg:Option (Nat×Bool)} {x y:Operand} {t:TypeId}
theorem Vu {ad:Option Addr} {c c' e sz fZ lo hi:Nat} {h fh:Operand} (cf:lC P t e sz fZ=true) (ae:a6 l x=some (.slice ad c c')) (cg:a6 l h=some (.int .i64 (lo:Int))) (iq:a6 l fh=some (.int .i64 (hi:Int))) (aS:lo≤hi∧hi≤c') (bj:c≤c') :
  bG P l ⟨dd,.slice t x (some h) (some fh) none,ty,pos,af,gg⟩ w (.slice (l1 ad c' lo sz) (hi-lo) (c'-lo)) w:=by
 have:=Gl (P:=P) (w:=w) (dd:=dd) (ty:=ty) (pos:=pos) (af:=af) (gg:=gg) cf ae (lo:=some h) (pl:=some (.i64,(lo:Int))) (hi:=some fh) (ph:=some (.i64,(hi:Int))) (by simp [tK,cg]) (by simp [tK,iq]) (by simp only [hU,iB];omega) bj
 refine this.to ?_
 simp [hU,iB]
end
theorem Own.block {w:World} {e c i:Nat} {ad:Option Addr} {t:List UInt8} (h:Own w e 1 (.slice ad t.length c) t.length ((t.map sN).flatten)) (hi:64*i+64≤t.length):ba [] w (ahK ((t.drop (64*i)).take 64)) (.slice (l1 ad c (64*i) 1) (64*i+64-64*i) (c-64*i)):=by
 have h1:=h.cut (lo:=64*i) (hi:=64*i+64) (by omega) hi;have aq:=Gx (cells:=sN) (sz:=1) (xs:=t) (fun _=>rfl) (64*i);have aU:=Gy (cells:=sN) (sz:=1) (xs:=t.drop (64*i)) (fun _=>rfl) (64*i+64-64*i);rw [aq,aU] at h1;have bM:64*i+64-64*i=64:=by omega
 rw [bM] at h1 ⊢;exact Own.ahL [] h1 (by rw [List.length_take,List.length_drop];omega) (by simp)
section
variable {P:Program} {l:List (Nat×Value)} {w:World} {ty:TypeId} {pos:String} {af:Array Edge}
variable {dd:Option Nat} {gg:Option (Nat×Bool)} {x y:Operand} {t t':TypeId}
variable {ops:Array Oper} {Q:Exit→Act→World→Prop} {n:Nat} {ds:List Deferred} {rest:List Oper} {d:Nat}
end
section
variable {P:Program} {ops:Array Oper} {Q:Exit→Act→World→Prop} {n:Nat} {ds:List Deferred} {l:List (Nat×Value)} {w w':World}
variable {rest:List Oper} {ty:TypeId} {pos:String} {af:Array Edge} {x y:Operand}
theorem Cq {e N c i:Nat} {ad:Addr} {vs:List Value} {u:Value} {T:TypeId} (cf:nM P T=true) (O:Own w e 1 (.slice (some ad) N c) N vs) (ae:a6 l x=some (.pointer (some (ad.add (i*1))))) (aY:a6 l y=some u) (wF:u.oneCell'=true) (hi:i<N)
  (h:∀ w',Own w' e 1 (.slice (some ad) N c) N (vs.set i u)→Mod [ad.block] w w'→w'.heap.size=w.heap.size→ga P ops Q rest n ds l w') :
  ga P ops Q (⟨none,.store T x y,ty,pos,af,none⟩::rest) n ds l w:=by
 rcases O.2 with⟨b3,_⟩ | ⟨g,o,cap,cs,bK,eh,fH,gC,r7,pW⟩
 ·cases b3
 injection bK with bk b2 kV
 injection bk with bk
 subst bk;subst kV
 have nr:=O.1
 rw [Addr.add_lit,Nat.mul_one] at ae
 refine ea cf eh ae aY wF (by omega) fun w' cp=>?_
 refine h w' ⟨by simp [nr],.inr ⟨g,o,c,_,rfl,cp.az,fH,gC,by simp;omega,?_⟩⟩ cp.mod cp.size
 subst pW
 apply List.ext_getElem?
 intro j
 simp only [List.getElem?_take,List.getElem?_drop,List.getElem?_set,List.length_take,List.length_drop]
 repeat' split
 all_goals first
  | omega
  | rfl
  | skip
end
def OJ (url:Bool) (c:Nat):Bool:=(decide ((c:Int)=43) && !url)||(decide ((c:Int)=45)&&url)
def OK (url:Bool) (c:Nat):Bool:=(decide ((c:Int)=47) && !url)||(decide ((c:Int)=95)&&url)
def n9 (url:Bool) (c:Nat):Option Nat:=
 if BK c=true then some (c-65)else if wX c=true then some (c-97+26)else if sW c=true then some (c-48+52)else if OJ url c=true then some 62 else if OK url c=true then some 63 else none
def pP (url:Bool) (n:Nat):Nat:=if n<26 then 65+n else if n<52 then 97+(n-26)else if n<62 then 48+(n-52)else if url=true then (if n=62 then 45 else 95)else if n=62 then 43 else 47
theorem Kl (url:Bool) (c:Nat) (h:128≤c):n9 url c=none:=by
 unfold n9 BK wX sW OJ OK;simp only [Bool.or_eq_true,Bool.and_eq_true,decide_eq_true_eq];rw [if_neg (by omega),if_neg (by omega),if_neg (by omega),if_neg (by omega),if_neg (by omega)]
theorem AI {url:Bool} {c x:Nat} (h:n9 url c=some x):x<64:=by
 unfold n9 BK wX sW at h;simp only [Bool.and_eq_true,decide_eq_true_eq] at h
 split at h
 ·injection h with h;omega
 split at h
 ·injection h with h;omega
 split at h
 ·injection h with h;omega
 split at h
 ·injection h with h;omega
 split at h
 ·injection h with h;omega
 cases h
theorem Ux:∀ url:Bool,∀ b:Fin 128,∀ x,n9 url b.val=some x→pP url x=b.val:=by
 have:∀ url:Bool,∀ b:Fin 128,(match n9 url b.val with | some x=>pP url x == b.val | none=>true)=true:=by decide +kernel
 intro url b x h;have:=this url b;rw [h] at this;simpa using this
theorem Uy:∀ url:Bool,∀ x:Fin 64,n9 url (pP url x.val)=some x.val:=by decide +kernel
theorem Uf {url:Bool} {b n:Nat} (ck:n<64) (h:pP url n=b):n9 url b=some n:=by
 rw [← h];exact Uy url ⟨n,ck⟩
theorem EL {url:Bool} {b:Nat} (h:∀ y,y<64→pP url y≠b):n9 url b=none:=by
 cases ae:n9 url b with
 | none=>rfl
 | some x=>
  exfalso;have aS:b<128:=by
   rcases Nat.lt_or_ge b 128 with h1 | h1
   ·exact h1
   rw [Kl url b h1] at ae;cases ae
  exact h x (AI ae) (Ux url ⟨b,aS⟩ x ae)
def lz (k:Nat):Nat:=if k % 4=0 then 1 else if k % 4=1 then 64 else if k % 4=2 then 16 else 4
def rest (url:Bool) (s:aa) (k:Nat):Nat:=match k with
 | 0=>0
 | k+1=>((n9 url ((s.getD k 0).toNat)).getD 0) % lz (k+1)
def fS (url:Bool) (s:aa):Bool:=s.all (fun b=>(n9 url b.toNat).isSome) && !decide (((6*s.length % 8:Nat):Int)≥6) && !decide ((rest url s s.length:Int)≠0)
theorem rb {url:Bool} {s:aa} {k x:Nat} {b:UInt8} (h:s[k]? = some b) (ae:n9 url b.toNat=some x):rest url s (k+1)=x % lz (k+1):=by
 show((n9 url ((s.getD k 0).toNat)).getD 0) % lz (k+1)=_;rw [List.getD_eq_getElem?_getD,h];simp [ae]
theorem Me (k:Nat):0<lz k:=by
 unfold lz
 repeat' split
 all_goals omega
theorem Ud (k:Nat):lz k≤64:=by
 unfold lz
 repeat' split
 all_goals omega
theorem Uc (url:Bool) (s:aa) (k:Nat):rest url s k<64:=by
 cases k with
 | zero=>show 0<64;omega
 | succ k=>
  have h1:rest url s (k+1)<lz (k+1):=Nat.mod_lt _ (Me _);have:=Ud (k+1);omega
theorem Kk {url:Bool} {s:aa} {k:Nat} (h:k % 4=0):rest url s k=0:=by
 cases k with
 | zero=>rfl
 | succ k=>
  show _ % lz (k+1)=0;have:lz (k+1)=1:=by unfold lz;rw [if_pos h]
  rw [this,Nat.mod_one]
theorem yq {url:Bool} {s:aa} {k:Nat} {b:UInt8} (h:s[k]? = some b) (aS:n9 url b.toNat=none):fS url s=false:=by
 unfold fS;have:s.all (fun b=>(n9 url b.toNat).isSome)=false:=by
  rw [List.all_eq_false];exact⟨b,List.mem_of_getElem? h,by simp [aS]⟩
 rw [this];rfl
/-! ### the words -/
theorem ai7 {h x:Nat} (iq:h<64) (ae:x<64):IntKind.u64.wrap (BitVec.ofInt IntKind.u64.bits ((h*64:Nat):Int) ||| BitVec.ofInt IntKind.u64.bits (x:Int)).toNat=((h*64+x:Nat):Int):=by
 have:∀ h x:Fin 64,IntKind.u64.wrap (BitVec.ofInt IntKind.u64.bits ((h.val*64:Nat):Int) ||| BitVec.ofInt IntKind.u64.bits (x.val:Int)).toNat=((h.val*64+x.val:Nat):Int):=by decide +kernel
 exact this ⟨h,iq⟩ ⟨x,ae⟩
theorem aeU {m:Nat} (hm:m<4096) {q:Nat} (e5:q=1∨q=4∨q=16∨q=64):IntKind.u64.wrap (BitVec.ofInt IntKind.u64.bits (m:Int) &&& BitVec.ofInt IntKind.u64.bits ((q-1:Nat):Int)).toNat=((m % q:Nat):Int):=by
 have bk:∀ z:Nat,z<4096→BitVec.ofInt IntKind.u64.bits (z:Int)=BitVec.ofNat 64 z:=fun z _=>rfl;rw [bk m hm,bk (q-1) (by omega)];have aq:((BitVec.ofNat 64 m &&& BitVec.ofNat 64 (q-1)).toNat)=m % q:=by
  rw [BitVec.toNat_and,BitVec.toNat_ofNat,BitVec.toNat_ofNat,Nat.mod_eq_of_lt (by omega),Nat.mod_eq_of_lt (by omega)];rcases e5 with rfl | rfl | rfl | rfl
  ·simp [Nat.mod_one]
  ·exact Nat.and_two_pow_sub_one_eq_mod m 2
  ·exact Nat.and_two_pow_sub_one_eq_mod m 4
  exact Nat.and_two_pow_sub_one_eq_mod m 6
 have:m % q≤m:=Nat.mod_le _ _;refine(congrArg (fun n:Nat=>IntKind.u64.wrap (n:Int)) aq).trans ?_;show((m % q:Nat):Int) % 18446744073709551616=_;exact Int.emod_eq_of_lt (by omega) (by omega)
theorem Ue (k:Nat):lz k=1∨lz k=4∨lz k=16∨lz k=64:=by
 unfold lz
 repeat' split
 all_goals simp
theorem ZV (h x k:Nat):(h*64+x) % lz k=x % lz k:=by
 rcases Ue k with e | e | e | e <;> rw [e] <;> omega
theorem su (z:Int) (h : -2147483648≤z∧z≤2147483647):IntKind.i32.wrap z=z:=by
 rw [IntKind.wrap_i32 z];omega
theorem ai6 {h:Nat} (iq:h<64):IntKind.u64.wrap ((h:Int)*2 ^ (min (6:Int).toNat IntKind.u64.bits))=((h*64:Nat):Int):=by
 have:(2:Int) ^ (min (6:Int).toNat IntKind.u64.bits)=64:=by decide
 rw [this,fF _ (by omega)];omega
theorem ZU {k m:Nat} (hm:m=6*k % 8):IntKind.u64.wrap ((1:Int)*2 ^ (min (m:Int).toNat IntKind.u64.bits))=(lz k:Int):=by
 have bM:k % 4=0∨k % 4=1∨k % 4=2∨k % 4=3:=by omega
 rcases bM with h | h | h | h
 ·obtain rfl:m=0:=by omega
  unfold lz;rw [if_pos h];decide
 ·obtain rfl:m=6:=by omega
  unfold lz;rw [if_neg (by omega),if_pos h];decide
 ·obtain rfl:m=4:=by omega
  unfold lz;rw [if_neg (by omega),if_neg (by omega),if_pos h];decide
 obtain rfl:m=2:=by omega
 unfold lz;rw [if_neg (by omega),if_neg (by omega),if_neg (by omega)];decide
theorem Uz (z:Int):∃ c:UInt8,IntKind.u8.wrap z=(c.toNat:Int):=by
 have h1:IntKind.u8.wrap z=z % 256:=rfl;refine⟨UInt8.ofNat (z % 256).toNat,?_⟩;rw [h1,UInt8.toNat_ofNat_of_lt' (by have:(z % 256).toNat<256:=(by omega);exact this)];omega
theorem OL {w:World} {v:Value} {nF:aa} {n:Nat} {z:Int} (h:Own w 5 1 v n ((nF.map uD).flatten ++ [.int .u8 (IntKind.u8.wrap z)])) (ck:n=nF.length+1):∃ ZT,hK w v (nF ++ [ZT]):=by
 obtain⟨c,bj⟩:=Uz z;refine⟨c,h.same (by rw [ck];simp) ?_⟩;rw [bj];simp [dj,j8]
theorem HO {w:World} {v:Value} {nF:aa} {n i:Nat} {z:Int} (h:Own w 5 1 v n (((nF.map uD).flatten).set i (.int .u8 (IntKind.u8.wrap z)))):∃ ZT,Own w 5 1 v n (((nF.set i ZT).map uD).flatten):=by
 obtain⟨c,bj⟩:=Uz z;refine⟨c,h.same rfl ?_⟩;rw [bj,dj,dj,List.map_set];rfl
theorem Mg {w:World} {ad:Addr} {nF:aa} {n m i:Nat} {b:UInt8} (h:Own w 5 1 (.slice (some ad) n m) n ((nF.map uD).flatten)) (aS:nF[i]? = some b):w.cell? (ad.add (i*1))=some (.int .u8 (b.toNat:Int)):=by
 rw [Nat.mul_one];refine h.cs i _ ?_;rw [dj,List.getElem?_map,aS];rfl
theorem abj {m:Nat} (h:m<64):IntKind.i64.wrap (BitVec.ofInt IntKind.i64.bits (m:Int) &&& BitVec.ofInt IntKind.i64.bits 1).toNat=((m % 2:Nat):Int):=by
 have:∀ m:Fin 64,IntKind.i64.wrap (BitVec.ofInt IntKind.i64.bits (m.val:Int) &&& BitVec.ofInt IntKind.i64.bits 1).toNat=((m.val % 2:Nat):Int):=by decide +kernel
 exact this ⟨m,h⟩
theorem Ug {n e:Nat} (he:e≤63):(n:Int).fdiv (2 ^ (min (e:Int).toNat IntKind.i64.bits))=((n / 2 ^ e:Nat):Int):=by
 have h1:min (e:Int).toNat IntKind.i64.bits=e:=by
  show min e 64=e;omega
 rw [h1,Int.fdiv_eq_ediv_of_nonneg _ (by exact_mod_cast Nat.zero_le (2 ^ e)),Int.natCast_ediv]
 norm_cast
theorem Ky {n q:Nat} (ck:n<64):∀ k,k % 4=q→(∀ j,j<6*k % 8→n / 2 ^ j % 2=0)→n % lz k=0:=by
 intro k hk h;have bM:k % 4=0∨k % 4=1∨k % 4=2∨k % 4=3:=by omega
 unfold lz;rcases bM with cL | cL | cL | cL
 ·rw [if_pos cL,Nat.mod_one]
 ·rw [if_neg (by omega),if_pos cL];have a0:=h 0 (by omega);have pb:=h 1 (by omega);have a2:=h 2 (by omega);have a3:=h 3 (by omega);have a4:=h 4 (by omega);have a5:=h 5 (by omega);simp only [Nat.pow_zero,Nat.pow_succ,Nat.pow_one,Nat.div_one,Nat.one_mul,Nat.reduceMul] at a0 pb a2 a3 a4 a5;omega
 ·rw [if_neg (by omega),if_neg (by omega),if_pos cL];have a0:=h 0 (by omega);have pb:=h 1 (by omega);have a2:=h 2 (by omega);have a3:=h 3 (by omega);simp only [Nat.pow_zero,Nat.pow_succ,Nat.pow_one,Nat.div_one,Nat.one_mul,Nat.reduceMul] at a0 pb a2 a3;omega
 rw [if_neg (by omega),if_neg (by omega),if_neg (by omega)];have a0:=h 0 (by omega);have pb:=h 1 (by omega);simp only [Nat.pow_zero,Nat.pow_succ,Nat.pow_one,Nat.div_one,Nat.one_mul,Nat.reduceMul] at a0 pb;omega
theorem UD {n k j:Nat} (d':j<6*k % 8) (h:n / 2 ^ j % 2≠0):n % lz k≠0:=by
 intro dk;have bM:k % 4=0∨k % 4=1∨k % 4=2∨k % 4=3:=by omega
 have arL:j<6:=by omega
 unfold lz at dk;rcases bM with cL | cL | cL | cL
 ·omega
 ·rw [if_neg (by omega),if_pos cL] at dk;have:j=0∨j=1∨j=2∨j=3∨j=4∨j=5:=by omega
  rcases this with rfl | rfl | rfl | rfl | rfl | rfl <;> simp only [Nat.pow_zero,Nat.pow_succ,Nat.pow_one,Nat.div_one,Nat.one_mul,Nat.reduceMul] at h <;> omega
 ·rw [if_neg (by omega),if_neg (by omega),if_pos cL] at dk;have:j=0∨j=1∨j=2∨j=3:=by omega
  rcases this with rfl | rfl | rfl | rfl <;> simp only [Nat.pow_zero,Nat.pow_succ,Nat.pow_one,Nat.div_one,Nat.one_mul,Nat.reduceMul] at h <;> omega
 rw [if_neg (by omega),if_neg (by omega),if_neg (by omega)] at dk;have:j=0∨j=1:=by omega
 rcases this with rfl | rfl <;> simp only [Nat.pow_zero,Nat.pow_succ,Nat.pow_one,Nat.div_one,Nat.one_mul,Nat.reduceMul] at h <;> omega
theorem OQ {url:Bool} {s:aa} (h:rest url s s.length≠0):fS url s=false:=by
 unfold fS;rw [show decide ((rest url s s.length:Int)≠0)=true from decide_eq_true (by omega)];simp
theorem AL {url:Bool} {s:aa} {i n:Nat} {b:UInt8} (aS:s[i]? = some b) (ck:n9 url b.toNat=some n) (dk:∀ k,k<6→8*(s.length*6 / 8)≤6*i+k→n / 2 ^ (5-k) % 2=0):i+1=s.length→rest url s (i+1)=0:=by
 intro hi;rw [rb aS ck];refine Ky (AI ck) (i+1) rfl fun j d'=>?_;have:=dk (5-j) (by omega) (by omega)
 rwa [show 5-(5-j)=j by omega] at this
theorem CY {url:Bool} {s:aa} {i n k:Nat} {b:UInt8} (aS:s[i]? = some b) (ck:n9 url b.toNat=some n) (hk:k<6) (kq:s.length*6 / 8≤(6*i+k) / 8) (dk:n / 2 ^ (5-k) % 2≠0):fS url s=false:=by
 have bJ:=(List.getElem?_eq_some_iff.1 aS).1;have hi:i+1=s.length:=by omega
 refine OQ ?_;rw [← hi,rb aS ck];exact UD (j:=5-k) (by omega) dk
def nh (w w':World) (url:Bool) (s:aa) (u:Value):Prop:=∃ v nF o,u = .tuple #[v,.bool o]∧o=fS url s∧hK w' v nF∧nF.length=(if fS url s=true then s.length*6 / 8 else 0)∧∀ x∈a1 v,w.heap.size≤x
theorem nh.no {w w':World} {url:Bool} {s:aa} (h:fS url s=false):nh w w' url s (.tuple #[.slice none 0 0,.bool false]):=⟨_,[],_,rfl,h.symm,Own.nil _ 5 1,by rw [h];rfl,by simp [a1]⟩
theorem nh.yes {w w':World} {url:Bool} {s nF:aa} {v:Value} (h:fS url s=true) (O:hK w' v nF) (cg:nF.length=s.length*6 / 8) (L:∀ x∈a1 v,w.heap.size≤x):nh w w' url s (.tuple #[v,.bool true]):=⟨_,nF,_,rfl,h.symm,O,by rw [h,cg];rfl,L⟩
def dq (s:aa):Bool:=decide (s.head? = some 36)&&fS true (s.drop 1)&&decide ((s.drop 1).length*6 / 8=32)
def eP (s:aa) (n:Nat):Bool:=fS false s&&decide (s.length*6 / 8=n)
theorem Jk {xs:List fG}:∀ x∈xs,∀ c∈fG.cells x,c.oneCell'=true:=by
 intro x _ c bj;simp at bj;rcases bj with rfl | rfl <;> rfl
theorem Own.pairs {w:World} {e:Nat} {v:Value} {xs:List fG} (A:List Nat) (h:Own w e 2 v xs.length ((xs.map fG.cells).flatten)) (dF:∀ x∈a1 v,x∉A):ba A w (Le xs) v:=Own.flat h (fun _ _=>rfl) Jk rfl dF
def ahJ (x:fG) (S:List fG):List fG:=S.filter (fun y=>!Qu x y) ++ [x]++S.filter (fun y=>Qu x y)
def W9 (xs:List fG) (k:Nat):List fG:=(xs.take k).foldl (fun S x=>ahJ x S) []
def W8:aa:=[109,46,114,111,111,109,46,99,114,101,97,116,101]
def al0:aa:=[109,46,114,111,111,109,46,112,111,119,101,114,95,108,101,118,101,108,115]
def W7:aa:=[109,46,114,111,111,109,46,109,101,109,98,101,114]
def ala (snd:aa):List fG:=[⟨W8,[]⟩,⟨al0,[]⟩,⟨W7,snd⟩]
section
variable {P:Program} {A:List Nat} {w:World}
theorem c7.bb {sz:Nat} {ad:Addr}:∀ (i:Nat) (rws:List (List D)),c7 A w sz ad i rws→∃ vs,ao A w rws.flatten vs∧vs.length=rws.length*sz∧∀ j u,vs[j]? = some u→w.cell? (ad.add (i*sz+j))=some u
 | _,[],_=>⟨[],rfl,by simp,fun j u hu=>by simp at hu⟩
 | i,r::rs,iq=>by
  simp only [c7] at iq
  obtain⟨cg,xq,ha⟩:=iq
  obtain⟨us,Jo,jt⟩:=xq.cells
  obtain⟨vs,yF,D',Jp⟩:=c7.bb (i+1) rs ha
  refine⟨us++vs,by simp only [List.flatten_cons];exact Jo.append yF,by simp [Jo.length,cg,D',Nat.add_mul];omega,fun j u d'=>?_⟩
  rw [List.getElem?_append] at d'
  have zF:us.length=sz:=by rw [Jo.length,cg]
  split at d'
  ·have:=jt j u d'
   rwa [Nat.zero_add,Addr.add_add] at this
  rename_i eI
  have:=Jp _ u d'
  rwa [show(i+1)*sz+(j-us.length)=i*sz+j by rw [Nat.add_mul,zF];rw [zF] at eI;omega] at this
theorem Src.aar {qY xe sz:Nat} {rows:List (List D)} {v:Value} (hk:P.underlying qY=some (.slice xe)) (h:ba A w (.ie sz rows) v):∃ vs,ao A w rows.flatten vs∧vs.length=rows.length*sz∧∀ w',Mod [] w w'→Src P sz qY v rows.length vs w':=by
 cases ub:rows with
 | nil=>
  subst ub;simp only [ba] at h;obtain⟨ad,c,rfl,aq,aU,bM⟩:=h;refine⟨[],rfl,by simp,fun w' _=>?_⟩;cases ad with
  | none=>exact Src.ofNil w' hk c
  | some ad=>exact Src.ofSlice w' hk ad 0 c [] (by simp) (fun j u hu=>by simp at hu) (fun u hu=>by cases hu)
 | cons aax rs=>
  rw [← ub];simp only [ba] at h;obtain⟨ad,c,rfl,aq,aU,bM⟩:=h;obtain⟨ad,rfl,dF,aS,bq⟩:=bM (by simp [ub]);obtain⟨vs,yF,D',Jp⟩:=c7.bb 0 rows bq;have h4:ri w ad vs:=fun j u hu=>by have:=Jp j u hu;rwa [Nat.zero_mul,Nat.zero_add] at this
  exact⟨vs,yF,D',fun w' k=>Src.ofSlice w' hk ad _ c vs D' (h4.I k) yF.one⟩
end
theorem JV.Iu {A:List Nat} {w:World} {m:List (aa×JV)} {y:aa×JV} {x:JV} {vs us:List Value} {i:Nat} (h:ao A w (m.map JV.hP).flatten vs) (aY:m[i]? = some y) (ae:ao A w x.D us) :
  ao A w ((m.set i (y.1,x)).map JV.hP).flatten (vs.take (i*7+1)++us++vs.drop (i*7+1+6)):=by
 have hi:=(List.getElem?_eq_some_iff.1 aY).1
 have h1:=JV.NP (p:=(y.1,x)) h hi (JV.dw (p:=(y.1,x)) ae)
 have aq:=ao.qZ (JV.qX m) h i (JV.hP y) (by simp [aY])
 obtain⟨u,gb,he,aU,_⟩:=aq
 obtain rfl:=aU.l4
 have bM:vs[i*7]? = some (S y.1):=by
  have:=congrArg (fun l=>l[0]?) he
  simpa [List.getElem?_take,List.getElem?_drop] using this
 have cL:vs.take (i*7+1)=vs.take (i*7) ++ [S y.1]:=by rw [List.take_add_one,bM];rfl
 rw [cL,show i*7+1+6=(i+1)*7 by omega]
 simpa using h1
theorem JV.kX {A:List Nat} {w:World} {m:List (aa×JV)} {am:Option Addr} {cm n:Nat} (ck:m.length=n) (asp:ba A w (.ie 7 (m.map JV.hP)) (.slice am n cm)):ao A w (JV.obj m).D [.int .i64 5,.bool false,.int .i64 0,S [],.slice none 0 0,.slice am n cm]:=by
 subst ck;exact JV.sG asp
theorem JV.qb (m:List (aa×JV)):(JV.obj m).eT=m:=by simp [JV.eT,JV.obj,JV.kind,JV.map]
theorem wG {β:Type} {m:List (aa×β)} {k:aa} {x:β} (h:er m):(dC m k x).length≤m.length+1:=by
 have key:∀ {r:List (aa×β)},(r.filter fun p=>eR p.1 k).length+(r.filter fun p=>eR k p.1).length≤r.length:=by
  intro r
  induction r with
  | nil=>simp
  | cons p r dK=>
   by_cases h1:eR p.1 k=true
   ·have aq:=jk h1;simp [h1,aq];omega
   by_cases aq:eR k p.1=true
   ·simp [h1,aq];omega
   simp [h1,aq];omega
 have:=key (r:=m);simp only [dC,List.length_append,List.length_singleton];omega
def e3 (m:List (aa×JV)) (k:Nat):List (aa×JV):=(m.take k).foldl (fun a p=>dC a p.1 p.2) []
theorem uy (m:List (aa×JV)):e3 m 0 = []:=by simp [e3]
theorem qG {m:List (aa×JV)} {k:Nat} {p:aa×JV} (h:m[k]? = some p):e3 m (k+1)=dC (e3 m k) p.1 p.2:=by
 have bJ:=(List.getElem?_eq_some_iff.1 h).1;rw [e3,List.take_succ_eq_append_getElem bJ,(List.getElem?_eq_some_iff.1 h).2,List.foldl_append];rfl
theorem xa (m:List (aa×JV)) (k:Nat):er (e3 m k):=by
 unfold e3;generalize m.take k=l;suffices ∀ (l a:List (aa×JV)),er a→er (l.foldl (fun a p=>dC a p.1 p.2) a) from this l [] List.Pairwise.nil;intro l
 induction l with
 | nil=>intro a h;exact h
 | cons p r dK=>intro a h;exact dK _ (qk h)
theorem Fs (m:List (aa×JV)) (k:Nat):(e3 m k).length≤k:=by
 induction k with
 | zero=>simp [e3]
 | succ k dK=>
  rcases Nat.lt_or_ge k m.length with h | h
  ·rw [qG (List.getElem?_eq_getElem h)];have:=wG (k:=(m[k]).1) (x:=(m[k]).2) (xa m k);omega
  have:e3 m (k+1)=e3 m k:=by rw [e3,e3,List.take_of_length_le h,List.take_of_length_le (by omega)]
  rw [this];omega
abbrev R7:aa:=[109,46,114,111,111,109,46,99,114,101,97,116,101]
abbrev Ea:aa:=[116,104,105,114,100,95,112,97,114,116,121,95,105,110,118,105,116,101]
abbrev u7:aa:=[115,105,103,110,101,100]
abbrev wH:aa:=[109,46,114,111,111,109,46,109,101,109,98,101,114]
abbrev NQ:List aa:=[[106,111,105,110,95,97,117,116,104,111,114,105,115,101,100,95,118,105,97,95,117,115,101,114,115,95,115,101,114,118,101,114],[109,101,109,98,101,114,115,104,105,112]]
abbrev By:aa:=[109,46,114,111,111,109,46,106,111,105,110,95,114,117,108,101,115]
abbrev Bz:List aa:=[[97,108,108,111,119],[106,111,105,110,95,114,117,108,101]]
abbrev xS:aa:=[109,46,114,111,111,109,46,112,111,119,101,114,95,108,101,118,101,108,115]
abbrev xT:List aa:=[[98,97,110],[101,118,101,110,116,115],[101,118,101,110,116,115,95,100,101,102,97,117,108,116],[105,110,118,105,116,101],[107,105,99,107],[114,101,100,97,99,116],[115,116,97,116,101,95,100,101,102,97,117,108,116],[117,115,101,114,115],[117,115,101,114,115,95,100,101,102,97,117,108,116]]
abbrev rE:aa:=[109,46,114,111,111,109,46,104,105,115,116,111,114,121,95,118,105,115,105,98,105,108,105,116,121]
abbrev rF:List aa:=[[104,105,115,116,111,114,121,95,118,105,115,105,98,105,108,105,116,121]]
abbrev Eb:aa:=[109,46,114,111,111,109,46,114,101,100,97,99,116,105,111,110]
abbrev Ec:List aa:=[[114,101,100,97,99,116,115]]
def Ed (kind:aa):List aa:=
 if kind=wH then NQ else
 if kind=By then Bz else
 if kind=xS then xT else
 if kind=rE then rF else
 if kind=Eb then Ec else
 []
namespace JV
def ahP (v:JV) (acc:List (aa×JV)) (k:aa):List (aa×JV):=match v.get k with
 | some x=>dC acc k x
 | none=>acc
def tg (v:JV) (K:List aa):List (aa×JV):=K.foldl (ahP v) []
def adf (v:JV):JV:=(v.get Ea).getD gQ
def NR (kind:aa) (v:JV):List (aa×JV):=match v.adf.get u7 with
 | some y=>if kind=wH then dC (v.tg (Ed kind)) Ea (obj [(u7,y)])else v.tg (Ed kind)
 | none=>v.tg (Ed kind)
def content (kind:aa) (v:JV):JV:=if kind=R7 then v else obj (NR kind v)
def R8 (kind:aa) (p:aa×JV):Option (aa×JV):=if p.1∈Ed kind then some p else none
def stay (kind:aa) (p:aa×JV):Option (aa×JV):=
 if p.1=Ea∧kind=wH∧p.2.kind=5 then match look p.2.map u7 with
  | some y=>some (p.1,obj [(u7,y)])
  | none=>R8 kind p
 else R8 kind p
end JV
section
variable {β:Type}
end
namespace JV
end JV
theorem NS {A:List Nat} {w:World} {g e:Nat} {xs:List aa} (B:aF w g e (xs.map S)) (cg:xs.length≤1000) (dF:g∉A):ba A w (lG xs) (.slice (some ⟨g,0,none⟩) xs.length xs.length):=by
 have dI:∀ yd:List aa,(yd.map fun s=>[S s]).flatten=yd.map S:=fun yd=>by
  induction yd with
  | nil=>rfl
  | cons a r dK=>simp [dK]
 have O:Own w e 1 (.slice (some ⟨g,0,none⟩) xs.length xs.length) xs.length ((xs.map fun s=>[S s]).flatten):=by
  rw [dI];exact Own.all B (by simp) (by omega)
 exact Own.flat O (fun _ _=>rfl) (fun x _ c bj=>by simp at bj;subst bj;rfl) rfl (by simpa [a1] using dF)
theorem abH (a b:aa):(!(eR a b||a == b))=eR b a:=by
 rcases ma a b with h | h | h
 ·rw [h,jk h];rfl
 ·subst h;simp [df]
 rw [h,jk h];have b1:(a == b)=false:=by
  cases he:a == b with
  | false=>rfl
  | true=>have:=eq_of_beq he;subst this;rw [df] at h;cases h
 simp [b1]
theorem uz {β:Type} {k:aa}:∀ {r:List (aa×β)},(r.filter fun p=>eR p.1 k).length+(r.filter fun p=>eR k p.1).length≤r.length
 | []=>by simp
 | p::r=>by
  have dK:=uz (k:=k) (r:=r)
  by_cases h1:eR p.1 k=true
  ·have aq:=jk h1
   simp [h1,aq]
   omega
  by_cases aq:eR k p.1=true
  ·simp [h1,aq]
   omega
  simp [h1,aq]
  omega
theorem oa {β:Type} {q:aa×β→Bool} {m:List (aa×β)} {k:Nat}:((m.take k).filter q).length≤(m.filter q).length:=((List.take_sublist k m).filter q).length_le
def ab8:aa:=[109,46,114,111,111,109,46,106,111,105,110,95,114,117,108,101,115]
def ak5:aa:=[109,46,114,111,111,109,46,116,104,105,114,100,95,112,97,114,116,121,95,105,110,118,105,116,101]
def agN:aa:=[109,101,109,98,101,114,115,104,105,112]
def ak6:aa:=[106,111,105,110]
def ak7:aa:=[105,110,118,105,116,101]
def ak8:aa:=[107,110,111,99,107]
def agO:aa:=[116,104,105,114,100,95,112,97,114,116,121,95,105,110,118,105,116,101]
def agP:aa:=[115,105,103,110,101,100]
def agQ:aa:=[116,111,107,101,110]
def ak9:aa:=[106,111,105,110,95,97,117,116,104,111,114,105,115,101,100,95,118,105,97,95,117,115,101,114,115,95,115,101,114,118,101,114]
namespace JV
def sub (v:JV) (k:aa):JV:=(v.get k).getD gQ
def l0 (v:JV):aa:=if v.kind=3 then v.str else []
def text (v:JV) (afw:List aa):aa:=(afw.foldl sub v).l0
end JV
namespace JV
def step (v:JV) (afw:List aa) (k:Nat):JV:=(afw.take k).foldl sub v
end JV
/-! ### pairs in order, each once -/
/-- what the document's with answers -/
def pU (l:List fG) (p:fG):List fG:=l.filter (fun x=>Qu x p) ++ [p]++l.filter (fun x=>Qu p x)
theorem FW {m:List fG} {p:fG}:(m ++ [p]).foldl pU []=pU (m.foldl pU []) p:=by rw [List.foldl_append];rfl
theorem Own.cQ {w:World} {e:Nat} {v:Value} {m gr:List fG} {p:fG} (h:Own w e 2 v (pU (m.foldl pU []) p).length (((pU (m.foldl pU []) p).map fG.cells).flatten)) (hm:m ++ [p]=gr):Own w e 2 v (gr.foldl pU []).length (((gr.foldl pU []).map fG.cells).flatten):=by
 subst hm;rw [FW];exact h
theorem Own.aB {w:World} {e:Nat} {v:Value} {p:fG} (h:Own w e 2 v 1 p.cells):ba [] w (Le ([p].foldl pU [])) v:=Own.pairs (xs:=[p]) [] h (by simp)
/-- doubled neighbours left out, behind p -/
def ak':fG→List fG→List fG
 | _,[]=>[]
 | p,x::r=>if x=p then ak' x r else x::ak' x r
def dd:List fG→List fG
 | []=>[]
 | a::r=>a::ak' a r
namespace EV
def hw (e:EV):aa:=e.bd.text [agN]
def tok (e:EV):aa:=e.bd.text [agO,agP,agQ]
def agR (e:EV):aa:=e.bd.text [ak9]
/-- what a member event needs besides -/
def more (e:EV):List fG:=
 if e.hw=ak6 then ⟨ab8,[]⟩::if e.agR = [] then [] else [⟨W7,e.agR⟩]
 else if e.hw=ak7 then ⟨ab8,[]⟩::if e.tok = [] then [] else [⟨ak5,e.tok⟩]
 else if e.hw=ak8 then [⟨ab8,[]⟩]
 else []
def needs (e:EV):List fG:=ala e.snd++if e.ty=W7 then ⟨W7,e.key⟩::e.more else []
def Qv (e:EV):List fG:=if e.ty=W8 then [] else dd (W9 e.needs e.needs.length)
end EV
theorem Own.strs {w:World} {e:Nat} {v:Value} {l:List aa} (A:List Nat) (h:Own w e 1 v l.length ((l.map fun s=>[S s]).flatten)) (dF:∀ x∈a1 v,x∉A):ba A w (lG l) v:=Own.flat h (fun _ _=>rfl) (fun x _ c bj=>by simp at bj;subst bj;rfl) rfl dF
namespace EV
abbrev ao' (e:EV):fG:=⟨e.ty,e.key⟩
/-- each state, each needed, no pair twice -/
def aqU (Qv:List fG) (l:List EV):Prop:=(∀ x∈l,x.st=true∧x.ao'∈Qv)∧(l.map ao').Nodup
open Classical in
/-- may an event name these? -/
noncomputable def right (e:EV) (l:List EV):Bool:=decide (aqU e.Qv l∧(e.ty=W8∨∃ x∈l,x.ty=W8))
end EV
def fe (s:aa):Bool:=decide ((s.length:Int)≤255)&&cn s
def ni (n:Int):Bool:=decide (0≤n)&&decide (n≤9007199254740991)
def l5 (s:dH):Bool:=dx s.c8&&nJ s.key&&eP s.sig 64
def gM (p s:dH):Bool:=!(eR p.c8 s.c8||p.c8 == s.c8)||(decide (p.c8=s.c8) && !eR p.key s.key)
def UE (p:Option dH) (s:dH):Bool:=match p with
 | none=>true
 | some q=>!gM q s
def eg:Option dH→List dH→Bool
 | _,[]=>true
 | p,s::r=>l5 s&&UE p s&&eg (some s) r
def kx (l:List dH) (k:Nat):Option dH:=if k=0 then none else l[k-1]?
theorem fB {l:List dH} {k:Nat} {s:dH} (h:l[k]? = some s):eg (kx l k) (l.drop k)=(l5 s&&UE (kx l k) s&&eg (kx l (k+1)) (l.drop (k+1))):=by
 obtain⟨hk,rfl⟩:=List.getElem?_eq_some_iff.1 h;have aq:kx l (k+1)=some l[k]:=by simp [kx,hk]
 rw [List.drop_eq_getElem_cons hk,aq,eg]
theorem AO {l:List dH} {k:Nat} (h:l.length≤k) (p:Option dH):eg p (l.drop k)=true:=by
 rw [List.drop_eq_nil_of_le h,eg]
theorem Uo {l:List dH} {k:Nat} {s:dH} (h:k=0):UE (kx l k) s=true:=by subst h;rfl
theorem pQ {l:List dH} {k:Nat} {s q:dH} (e5:l[k-1]? = some q) (h:0<k):UE (kx l k) s = !gM q s:=by
 unfold kx;rw [if_neg (by omega),e5];rfl
def EV.lens (e:EV):Prop:=e.room.length<4294967281∧e.snd.length<4294967281∧∀ s∈e.sigs,s.c8.length<4294967281
namespace EV
def h2 (e:EV):Bool:=fw 33 h0 e.room&&fw 64 iZ e.snd&&decide (e.ty≠[])&&fe e.ty&&fe e.key&&(e.st||decide (e.key = []))
noncomputable def hv (e:EV):Bool:=e.h2&&decide (e.bd.kind=5)&&decide (e7 (e.bd.wr 0 [])=0)&&ni e.dep&&ni e.time&&eP e.hash 32&&eg none e.sigs
noncomputable def hd (e:EV):Bool:=e.hv&&(e.prev++e.bn).all dq
noncomputable def q6 (e:EV):Int:=if 20<e.prev.length∨10<e.bn.length then 22 else if e.hd=true then 0 else 21
theorem sX {e:EV} (h:20<e.prev.length∨10<e.bn.length):e.q6=22:=if_pos h
theorem hM {e:EV} (h:¬ (20<e.prev.length∨10<e.bn.length)) (dI:e.hd=false):e.q6=21:=by unfold q6;rw [if_neg h,if_neg (by simp [dI])]
theorem vF {e:EV} (h:¬ (20<e.prev.length∨10<e.bn.length)) (dI:e.hd=true):e.q6=0:=by unfold q6;rw [if_neg h,if_pos dI]
theorem nk:∀ (l:List Nat) (n most:Nat),n≤kn l n most
 | [],n,_=>Nat.le_refl n
 | x::r,n,most=>by
  unfold kn
  split
  ·exact Nat.le_trans (Nat.le_add_right n x) (nk r (n+x) most)
  exact Nat.le_refl n
theorem C2:∀ (l:List Nat) (n most:Nat),kn l n most≤most→∀ x∈l,x≤most
 | y::r,n,most,h,x,ae=>by
  unfold kn at h
  split at h
  ·have h1:=nk r (n+y) most
   rcases List.mem_cons.1 ae with rfl | ae
   ·omega
   exact C2 r (n+y) most h x ae
  omega
theorem Hp {e:EV} (h:e.great 8192=false):e.lens:=by
 unfold great at h;simp only [Bool.or_eq_false_iff,decide_eq_false_iff_not] at h;have aU:e.n3 8192≤8192:=by omega
 have aq:e.nn 8192≤e.n3 8192:=nk _ _ _;have h1:e.rI 8192≤e.nn 8192:=nk _ _ _;have b3:e.Ib≤e.rI 8192:=nk _ _ _;have bq:e.room.length+e.snd.length≤e.Ib:=by unfold Ib;omega
 refine⟨by omega,by omega,fun s bf=>?_⟩;have:=C2 _ _ _ aU _ (List.mem_map_of_mem bf);omega
def names (e:EV):Bool:=fw 33 h0 e.room&&fw 64 iZ e.snd&&decide (e.ty≠[])&&fe e.ty&&fe e.key
def nK (e:EV):Bool:=ni e.dep&&ni e.time
theorem hf (e:EV):e.hd=(e.names&&e.nK&&(e.st||decide (e.key = []))&&decide (e.bd.kind=5)&&decide (e7 (e.bd.wr 0 [])=0)&&eP e.hash 32&&eg none e.sigs&&e.prev.all dq&&e.bn.all dq):=by
 unfold hd hv h2 names nK;rw [List.all_append];generalize fw 33 h0 e.room=pb;generalize fw 64 iZ e.snd=a2;generalize decide (e.ty≠[])=a3;generalize fe e.ty=a4;generalize fe e.key=a5;generalize (e.st||decide (e.key = []))=Zc;generalize decide (e.bd.kind=5)=Zd;generalize decide (e7 (e.bd.wr 0 [])=0)=Ze;generalize ni e.dep=a9;generalize ni e.time=arM;generalize eP e.hash 32=arN;generalize eg none e.sigs=a12;generalize e.prev.all dq=arO;generalize e.bn.all dq=aeo
 ac_rfl
theorem Ks {e:EV} (h:e.prev.all dq=false):e.hd=false:=by rw [hf,h];simp
theorem Kt {e:EV} (h:e.bn.all dq=false):e.hd=false:=by rw [hf,h];simp
theorem o7 {e:EV} (h:eg none e.sigs=false):e.hd=false:=by rw [hf,h];simp
end EV
theorem o6 {α:Type} {l:List α} {k:Nat} {y:α} (f:α→Bool) (h:l[k]? = some y):(l.take (k+1)).all f=((l.take k).all f&&f y):=by
 have bJ:=(List.getElem?_eq_some_iff.1 h).1;rw [List.take_succ_eq_append_getElem bJ,(List.getElem?_eq_some_iff.1 h).2,List.all_append];simp
theorem HT {α:Type} {l:List α} {k:Nat} {y:α} (f:α→Bool) (h:l[k]? = some y) (dI:f y=false):l.all f=false:=by
 rw [List.all_eq_false];exact⟨y,List.mem_of_getElem? h,by simp [dI]⟩
theorem ba.I {A:List Nat} {w w':World} {d:D} {u:Value} (asp:ba A w d u) (k:Mod [] w w'):ba A w' d u:=asp.bB k
theorem fy {b:aa} (h:b.length≤65536):cu b = .ok b:=if_neg (by omega)
theorem dt {r:Except Int aa} {f:aa→Except Int aa} {e8:aa} (h:r.bind f = .ok e8):∃ b,r = .ok b∧f b = .ok e8:=by
 cases r with
 | ok b=>exact⟨b,rfl,h⟩
 | error e=>cases h
namespace JV
def Fit (v:JV) (deep:Nat) (t:aa):Prop:=∀ b,(b++t).length≤65536→wr v deep b = .ok (b++t)
def aja (l:List JV) (deep:Nat) (fst:Bool) (t:aa):Prop:=∀ b,(b++t).length≤65536→hL l deep fst b = .ok (b++t)
def tq (m:List (aa×JV)) (deep:Nat) (prev:Option aa) (t:aa):Prop:=∀ b,(b++t).length≤65536→fk m deep prev b = .ok (b++t)
theorem AP {b s e8:aa} (h:fb b s = .ok e8):∃ t,e8=b++t∧t=cw s∧e8.length≤65536∧∀ c,(c++t).length≤65536→fb c s = .ok (c++t):=by
 unfold fb at h
 split at h
 ·cases h
 rename_i h1
 split at h
 ·rename_i aq
  obtain⟨rfl,aU⟩:=fr h;exact⟨cw s,rfl,rfl,aU,fun c bj=>by rw [fb,if_neg h1,if_pos aq,fy bj]⟩
 cases h
def KA (prev:Option aa) (k b:aa):Except Int aa:=match prev with
 | none=>Except.ok b
 | some q=>(cu (b ++ [44])).bind fun b=>if eR q k then .ok b else .error 1
theorem AQ (p:aa×JV) (r:List (aa×JV)) (deep:Nat) (prev:Option aa) (b:aa) :
  fk (p::r) deep prev b=(KA prev p.1 b).bind fun b=>(fb b p.1).bind fun b=>(cu (b ++ [58])).bind fun b=>(wr p.2 (deep+1) b).bind fun b=>fk r deep (some p.1) b:=by
 rw [fk.eq_def]
 rfl
theorem k3 (v:JV) (r:List JV) (deep:Nat) (fst:Bool) (b:aa) :
  hL (v::r) deep fst b=(if fst then Except.ok b else cu (b ++ [44])).bind fun b=>(wr v (deep+1) b).bind fun b=>hL r deep false b:=by
 rw [hL]
def comma:Option aa→aa
 | none=>[]
 | some _=>[44]
theorem uS {p:aa×JV} {r:List (aa×JV)} {deep:Nat} {prev:Option aa} {b e8:aa} (h:fk (p::r) deep prev b = .ok e8) :
  (∀ q,prev=some q→eR q p.1=true)∧∃ eJ,wr p.2 (deep+1) (b++comma prev++cw p.1 ++ [58]) = .ok eJ∧fk r deep (some p.1) eJ = .ok e8∧(∀ c,(c++cw p.1).length≤65536→fb c p.1 = .ok (c++cw p.1))∧(b++comma prev++cw p.1 ++ [58]).length≤65536:=by
 rw [AQ] at h
 obtain⟨dn,h1,h⟩:=dt h
 have bj:dn=b++comma prev∧∀ q,prev=some q→eR q p.1=true:=by
  cases prev with
  | none=>injection h1 with h1;subst h1;exact⟨by simp [comma],fun q e5=>by cases e5⟩
  | some q=>
   obtain⟨b0,b3,h1⟩:=dt h1
   obtain⟨rfl,_⟩:=fr b3
   split at h1
   ·rename_i e5
    injection h1 with h1
    subst h1
    exact⟨rfl,fun alL e=>by injection e with e;subst e;exact e5⟩
   cases h1
 obtain⟨rfl,e5⟩:=bj
 obtain⟨eJ,aq,h⟩:=dt h
 obtain⟨t,rfl,rfl,_,cf⟩:=AP aq
 obtain⟨lx,aU,h⟩:=dt h
 obtain⟨rfl,aol⟩:=fr aU
 obtain⟨EU,bM,cL⟩:=dt h
 exact⟨e5,EU,bM,cL,cf,aol⟩
theorem HU {p:aa×JV} {r:List (aa×JV)} {deep:Nat} {prev:Option aa} {t1 t2:aa} (e5:∀ q,prev=some q→eR q p.1=true) (cf:∀ c,(c++cw p.1).length≤65536→fb c p.1 = .ok (c++cw p.1)) (h1:Fit p.2 (deep+1) t1) (aq:tq r deep (some p.1) t2) :
  tq (p::r) deep prev (comma prev++cw p.1 ++ [58]++t1++t2):=by
 intro b aS
 simp only [List.length_append] at aS
 rw [AQ]
 have bk:KA prev p.1 b = .ok (b++comma prev):=by
  cases prev with
  | none=>simp [comma,KA]
  | some q=>
   have:(b ++ [44]).length≤65536:=by simp only [comma,List.length_append] at aS ⊢;omega
   show((cu (b ++ [44])).bind fun b=>if eR q p.1 then .ok b else .error 1)=_
   rw [fy this]
   show(if eR q p.1 then Except.ok (b ++ [44])else .error 1)=_
   rw [if_pos (e5 q rfl)]
   rfl
 rw [bk]
 show(fb (b++comma prev) p.1).bind _=_
 rw [cf _ (by simp only [List.length_append];omega)]
 show(cu (b++comma prev++cw p.1 ++ [58])).bind _=_
 rw [fy (by simp only [List.length_append];omega)]
 show(wr p.2 (deep+1) (b++comma prev++cw p.1 ++ [58])).bind _=_
 rw [h1 _ (by simp only [List.length_append];omega)]
 show fk r deep (some p.1) (b++comma prev++cw p.1 ++ [58]++t1)=_
 rw [aq _ (by simp only [List.length_append];omega)]
 simp
theorem HV:∀ N:Nat,∀ (v:JV) (deep:Nat) (b e8:aa),v.sz≤N→wr v deep b = .ok e8→∃ t,e8=b++t∧e8.length≤65536∧Fit v deep t
 | 0,v,_,_,_,h,_=>absurd (oz v) (by omega)
 | N+1,v,deep,b,e8,h7,h=>by
  have dK:=HV N
  have UH:∀ (l:List JV),(∀ x∈l,x.sz≤N)→∀ (fst:Bool) (b e8:aa),hL l deep fst b = .ok e8→∃ t,e8=b++t∧aja l deep fst t:=by
   intro l
   induction l with
   | nil=>
    intro _ fst b e8 h
    rw [hL] at h
    injection h with h
    subst h
    exact⟨[],by simp,fun b _=>by rw [hL];simp⟩
   | cons x r ae8=>
    intro ae fst b e8 h
    rw [k3] at h
    obtain⟨dn,h1,h⟩:=dt h
    obtain⟨eJ,aq,aU⟩:=dt h
    obtain⟨t1,rfl,_,Fq⟩:=dK x (deep+1) dn eJ (ae x (by simp)) aq
    obtain⟨t2,rfl,Bc⟩:=ae8 (fun y aY=>ae y (by simp [aY])) false _ _ aU
    cases fst with
    | true=>
     injection h1 with h1
     subst h1
     refine⟨t1++t2,by simp,fun c bj=>?_⟩
     simp only [List.length_append] at bj
     rw [k3]
     show(wr x (deep+1) c).bind _=_
     rw [Fq c (by simp only [List.length_append];omega)]
     show hL r deep false (c++t1)=_
     rw [Bc _ (by simp only [List.length_append];omega)]
     simp
    | false=>
     obtain⟨rfl,_⟩:=fr h1
     refine⟨[44]++t1++t2,by simp,fun c bj=>?_⟩
     simp only [List.length_append] at bj
     rw [k3]
     show(cu (c ++ [44])).bind _=_
     rw [fy (by simp only [List.length_append];omega)]
     show(wr x (deep+1) (c ++ [44])).bind _=_
     rw [Fq _ (by simp only [List.length_append];omega)]
     show hL r deep false (c ++ [44]++t1)=_
     rw [Bc _ (by simp only [List.length_append];omega)]
     simp
  have UI:∀ (m:List (aa×JV)),(∀ p∈m,p.2.sz≤N)→∀ (prev:Option aa) (b e8:aa),fk m deep prev b = .ok e8→∃ t,e8=b++t∧tq m deep prev t:=by
   intro m
   induction m with
   | nil=>
    intro _ prev b e8 h
    rw [fk] at h
    injection h with h
    subst h
    exact⟨[],by simp,fun b _=>by rw [fk];simp⟩
   | cons p r ae9=>
    intro ae prev b e8 h
    obtain⟨e5,eJ,aq,aU,cf,_⟩:=uS h
    obtain⟨t1,rfl,_,Fq⟩:=dK p.2 (deep+1) _ eJ (ae p (by simp)) aq
    obtain⟨t2,rfl,Bc⟩:=ae9 (fun y aY=>ae y (by simp [aY])) (some p.1) _ _ aU
    exact⟨_,by simp,HU e5 cf Fq Bc⟩
  rw [dM] at h
  by_cases aS:bare v=false
  ·rw [if_pos aS] at h;cases h
  rw [if_neg aS] at h
  by_cases rn:v.kind=0
  ·rw [if_pos rn] at h
   obtain⟨rfl,cg⟩:=fr h
   exact⟨_,rfl,cg,fun c bj=>by rw [dM,if_neg aS,if_pos rn,fy bj]⟩
  rw [if_neg rn] at h
  by_cases dZ:v.kind=1
  ·rw [if_pos dZ] at h
   obtain⟨rfl,cg⟩:=fr h
   exact⟨_,rfl,cg,fun c bj=>by rw [dM,if_neg aS,if_neg rn,if_pos dZ,fy bj]⟩
  rw [if_neg dZ] at h
  by_cases j9:v.kind=2
  ·rw [if_pos j9] at h
   obtain⟨rfl,cg⟩:=fr h
   exact⟨_,rfl,cg,fun c bj=>by rw [dM,if_neg aS,if_neg rn,if_neg dZ,if_pos j9,fy bj]⟩
  rw [if_neg j9] at h
  by_cases vS:v.kind=3
  ·rw [if_pos vS] at h
   obtain⟨t,rfl,_,cg,cf⟩:=AP h
   exact⟨t,rfl,cg,fun c bj=>by rw [dM,if_neg aS,if_neg rn,if_neg dZ,if_neg j9,if_pos vS,cf c bj]⟩
  rw [if_neg vS] at h
  by_cases bY:deep=32
  ·rw [if_pos bY] at h;cases h
  rw [if_neg bY] at h
  by_cases uo:v.kind=4
  ·rw [if_pos uo] at h
   obtain⟨dn,h1,h⟩:=dt h
   obtain⟨rfl,_⟩:=fr h1
   obtain⟨eJ,aq,aU⟩:=dt h
   obtain⟨t,rfl,cf⟩:=UH v.list (fun x ae=>by have:=gN ae;omega) true _ _ aq
   obtain⟨rfl,cg⟩:=fr aU
   refine⟨[91]++t ++ [93],by simp,cg,fun c bj=>?_⟩
   simp only [List.length_append] at bj
   rw [dM,if_neg aS,if_neg rn,if_neg dZ,if_neg j9,if_neg vS,if_neg bY,if_pos uo,fy (by simp only [List.length_append];omega)]
   show(hL v.list deep true (c ++ [91])).bind _=_
   rw [cf _ (by simp only [List.length_append];omega)]
   show cu (c ++ [91]++t ++ [93])=_
   rw [fy (by simp only [List.length_append];omega)]
   simp
  rw [if_neg uo] at h
  obtain⟨dn,h1,h⟩:=dt h
  obtain⟨rfl,_⟩:=fr h1
  obtain⟨eJ,aq,aU⟩:=dt h
  obtain⟨t,rfl,cf⟩:=UI v.map (fun x ae=>by have:=gp ae;omega) none _ _ aq
  obtain⟨rfl,cg⟩:=fr aU
  refine⟨[123]++t ++ [125],by simp,cg,fun c bj=>?_⟩
  simp only [List.length_append] at bj
  rw [dM,if_neg aS,if_neg rn,if_neg dZ,if_neg j9,if_neg vS,if_neg bY,if_neg uo,fy (by simp only [List.length_append];omega)]
  show(fk v.map deep none (c ++ [123])).bind _=_
  rw [cf _ (by simp only [List.length_append];omega)]
  show cu (c ++ [123]++t ++ [125])=_
  rw [fy (by simp only [List.length_append];omega)]
  simp
theorem fit {v:JV} {deep:Nat} {b e8:aa} (h:wr v deep b = .ok e8):∃ t,e8=b++t∧e8.length≤65536∧Fit v deep t:=HV v.sz v deep b e8 (Nat.le_refl _) h
theorem uT:∀ (m:List (aa×JV)) (deep:Nat) (prev:Option aa) (b e8:aa),fk m deep prev b = .ok e8→er m∧∀ q,prev=some q→∀ p∈m,eR q p.1=true
 | [],_,_,_,_,_=>⟨List.Pairwise.nil,fun _ _ _ h=>by cases h⟩
 | p::r,deep,prev,b,e8,h=>by
  obtain⟨e5,eJ,_,aU,_,_⟩:=uS h
  obtain⟨bM,cL⟩:=uT r deep (some p.1) _ _ aU
  refine⟨List.Pairwise.cons (fun y aY=>cL p.1 rfl y aY) bM,fun q e y aY=>?_⟩
  rcases List.mem_cons.1 aY with rfl | aY
  ·exact e5 q e
  exact gh (e5 q e) (cL p.1 rfl y aY)
theorem vI {m:List (aa×JV)} {deep:Nat} {t:aa} (h:tq m deep none t) (bY:deep≠32):Fit (obj m) deep ([123]++t ++ [125]):=fun c bj=>by
 simp only [List.length_append] at bj;have aS:¬ bare (obj m)=false:=by simp [bare,obj,kind,is,num,str,list]
 have A2:(obj m).kind=5:=rfl;rw [dM,if_neg aS,if_neg (by rw [A2];decide),if_neg (by rw [A2];decide),if_neg (by rw [A2];decide),if_neg (by rw [A2];decide),if_neg bY,if_neg (by rw [A2];decide),fy (by simp only [List.length_append];omega)];show(fk m deep none (c ++ [123])).bind _=_;rw [h _ (by simp only [List.length_append];omega)];show cu (c ++ [123]++t ++ [125])=_;rw [fy (by simp only [List.length_append];omega)];simp
theorem Mm {v:JV} {deep:Nat} {b e8:aa} (A2:v.kind=5) (h:wr v deep b = .ok e8):deep≠32∧∃ eJ,fk v.map deep none (b ++ [123]) = .ok eJ∧e8=eJ ++ [125]∧e8.length≤65536:=by
 rw [dM] at h
 split at h
 ·cases h
 rw [if_neg (by rw [A2];decide),if_neg (by rw [A2];decide),if_neg (by rw [A2];decide),if_neg (by rw [A2];decide)] at h
 split at h
 ·cases h
 rename_i bY
 rw [if_neg (by rw [A2];decide)] at h;obtain⟨dn,h1,h⟩:=dt h;obtain⟨rfl,_⟩:=fr h1;obtain⟨eJ,aq,aU⟩:=dt h;obtain⟨rfl,cg⟩:=fr aU;exact⟨bY,eJ,aq,rfl,cg⟩
end JV
section
variable {P:Program} {ops:Array Oper} {Q:Exit→Act→World→Prop} {n:Nat} {ds:List Deferred} {l:List (Nat×Value)} {M:List (Nat×(Value→World→Prop))} {w:World} {Fin:kf→Prop} {rest:List Oper} {d:Nat} {ty:TypeId} {pos:String} {af:Array Edge} {op:Op}
theorem amn (V:Value→World→Prop) (pk:∀ v aB cN,Mod [] aB cN→V v aB→V v cN) (t s:Nat) {asq N2:Value→World→Prop} (cf:i' t l=none) (eY:n1 t M=some asq) (ae:∃ x∈op.operands.toList,x = .tmp t) (jX:i' s l=none) (JE:n1 s M=some N2) (JF:∃ x∈op.operands.toList,x = .tmp s)
  (bq:∀ aB u mU,Mod [] w aB→asq u aB→N2 mU aB→∃ v cN,bG P ((t,u)::(s,mU)::l) ⟨some d,op,ty,pos,af,none⟩ aB v cN∧Mod [] aB cN∧V v cN) (bY:Nat.blt d n=true) (bf:fu op=true) (cg:i' d l=none)
  (h:gw P ops w n Fin rest l ((d,V)::M)):gw P ops w n Fin (⟨some d,op,ty,pos,af,none⟩::rest) l M:=by
 refine⟨V,adw cf eY ae jX JE JF pk bY bf fun ρ aB u mU h4 je adA h1=>?_,?_⟩
 ·obtain⟨v,cN,e,hm,bK⟩:=bq aB u mU h4 je adA
  rw [e ρ h1]
  exact⟨hm,bK⟩
 rw [ml rfl cg];exact h
theorem adB {V:Value→World→Prop} {t s r:Nat} {asq N2 U2:Value→World→Prop} (cf:i' t l=none) (eY:n1 t M=some asq) (ae:∃ x∈op.operands.toList,x = .tmp t) (jX:i' s l=none) (JE:n1 s M=some N2) (JF:∃ x∈op.operands.toList,x = .tmp s) (oK:i' r l=none) (adC:n1 r M=some U2) (Xa:∃ x∈op.operands.toList,x = .tmp r) (pk:∀ v aB cN,Mod [] aB cN→V v aB→V v cN) (bY:Nat.blt d n=true) (bf:fu op=true)
  (bq:∀ (ρ:Operand→Value) aB u mU jx,Mod [] w aB→asq u aB→N2 mU aB→U2 jx aB→(∀ x v,a6 ((t,u)::(s,mU)::(r,jx)::l) x=some v→ρ x=v)→oo P (Mod []) aB V ((execOp ρ ⟨some d,op,ty,pos,af,none⟩).run P aB)) :
  ass P ops (Mod []) (Mod [] w) n (rH l M) ⟨some d,op,ty,pos,af,none⟩ V:=by
 refine tj pk bY bf fun ρ aB h4 h1 aq=>bq ρ aB (ρ (.tmp t)) (ρ (.tmp s)) (ρ (.tmp r)) h4 (aq t asq cf eY ae) (aq s N2 jX JE JF) (aq r U2 oK adC Xa) fun x v bK=>?_
 cases x with
 | tmp q=>
  simp only [a6,i'] at bK
  cases aS:Nat.beq t q with
  | true=>
   rw [aS] at bK
   have:=Nat.eq_of_beq_eq_true aS
   subst this
   injection bK
  | false=>
   rw [aS] at bK
   cases tO:Nat.beq s q with
   | true=>
    rw [tO] at bK
    have:=Nat.eq_of_beq_eq_true tO
    subst this
    injection bK
   | false=>
    rw [tO] at bK
    cases gS:Nat.beq r q with
    | true=>
     rw [gS] at bK
     have:=Nat.eq_of_beq_eq_true gS
     subst this
     injection bK
    | false=>rw [gS] at bK;exact h1 _ _ bK
 | const c=>exact h1 _ _ bK
 | global g=>exact h1 _ _ bK
 | func f=>exact h1 _ _ bK
theorem amo (V:Value→World→Prop) (pk:∀ v aB cN,Mod [] aB cN→V v aB→V v cN) (t s r:Nat) {asq N2 U2:Value→World→Prop} (cf:i' t l=none) (eY:n1 t M=some asq) (ae:∃ x∈op.operands.toList,x = .tmp t) (jX:i' s l=none) (JE:n1 s M=some N2) (JF:∃ x∈op.operands.toList,x = .tmp s) (oK:i' r l=none) (adC:n1 r M=some U2) (Xa:∃ x∈op.operands.toList,x = .tmp r)
  (bq:∀ aB u mU jx,Mod [] w aB→asq u aB→N2 mU aB→U2 jx aB→∃ v cN,bG P ((t,u)::(s,mU)::(r,jx)::l) ⟨some d,op,ty,pos,af,none⟩ aB v cN∧Mod [] aB cN∧V v cN) (bY:Nat.blt d n=true) (bf:fu op=true) (cg:i' d l=none)
  (h:gw P ops w n Fin rest l ((d,V)::M)):gw P ops w n Fin (⟨some d,op,ty,pos,af,none⟩::rest) l M:=by
 refine⟨V,adB cf eY ae jX JE JF oK adC Xa pk bY bf fun ρ aB u mU jx h4 je adA amp h1=>?_,?_⟩
 ·obtain⟨v,cN,e,hm,bK⟩:=bq aB u mU jx h4 je adA amp
  rw [e ρ h1]
  exact⟨hm,bK⟩
 rw [ml rfl cg];exact h
theorem N5 {sf:List Oper} {t r:Nat} {V asq:Value→World→Prop} (dI:xw n l=true) (cf:i' t l=none) (eY:n1 t M=some V) (bq:i' r l=none) (h7:n1 r M=some asq) (Sh:Nat.blt t n=true) (amq:Nat.blt r n=true)
  (h:∀ w' v u,Mod [] w w'→V v w'→asq u w'→ga P ops Q sf n ds ((t,v)::(r,u)::l) w') :
  gw P ops w n (fun N=>∀ a w',a.defers=ds→Mod [] w w'→N.all n a w'→wpList P ops Q sf a w') [] l M:=by
 intro a w' bY h4 Sn
 have h1:=vf bY Sn
 rw [kg dI] at h1
 have xx:t<a.tmps.size:=by rw [Sn.1];simpa [Nat.blt_eq] using Sh
 have aaW:r<a.tmps.size:=by rw [Sn.1];simpa [Nat.blt_eq] using amq
 have aq:=Sn.2 t V (by simp [rH,cf,eY])
 have bM:=Sn.2 r asq (by simp [rH,bq,h7])
 have aU:a.tmps.getD t undef=a.tmps[t]:=by simp [xx]
 have cL:a.tmps.getD r undef=a.tmps[r]:=by simp [aaW]
 rw [aU] at aq
 rw [cL] at bM
 refine h w' _ _ h4 aq bM a ⟨h1.size,h1.defers,fun s v bK=>?_⟩
 simp only [i'] at bK
 cases aS:Nat.beq t s with
 | true=>
  rw [aS] at bK
  have:=Nat.eq_of_beq_eq_true aS
  subst this
  injection bK with bK
  subst bK
  simp [xx]
 | false=>
  rw [aS] at bK
  cases gS:Nat.beq r s with
  | true=>
   rw [gS] at bK
   have:=Nat.eq_of_beq_eq_true gS
   subst this
   injection bK with bK
   subst bK
   simp [aaW]
  | false=>rw [gS] at bK;exact h1.get s v bK
theorem Sp {t:TypeId} {gD:List Value} (dk:hG P t gD) (bY:Nat.blt d n=true) (cg:i' d l=none)
  (h:gw P ops w n Fin rest l ((d,fun u cN=>∃ g,u = .pointer (some ⟨g,0,none⟩)∧w.heap.size≤g∧aF cN g t gD)::M)):gw P ops w n Fin (⟨some d,.alloc t,ty,pos,af,none⟩::rest) l M:=
 ajX _ (fun v aB cN k h=>by obtain⟨g,h1,aq,aU⟩:=h;exact⟨g,h1,aq,aU.I k⟩) (fun aB k=>by
  have aq:=kt.mk' aB t gD
  exact⟨_,_,GF dk,aq.mod,_,rfl,k.size,aq.az⟩) bY rfl cg h
end
theorem ba.ah8 {A:List Nat} {w:World} {sz g T:Nat} {x:Value} {gD:List Value} {r:List D} {rows:List (List D)} {ad:Option Addr} {n c:Nat} (asp:ba A w (.ie sz ((.v x::r)::rows)) (.slice ad n c)) (dA:aF w g T gD) (ae:x∉gD):∃ a,ad=some a∧a.block≠g:=by
 obtain⟨a,us,rfl,aq,aU,bM,_⟩:=asp.at_ (i:=0) rfl;refine⟨a,rfl,fun e=>ae ?_⟩;obtain⟨u,gb,rfl,cL,_⟩:=aq;have hu:=cL.l4;subst hu;have bj:=bM 0 _ rfl;rw [Nat.zero_mul] at bj;unfold World.cell? at bj;rw [show(a.add 0).add 0=a by simp [Addr.add],e,dA] at bj
 dsimp only at bj
 split at bj
 ·cases bj
 have:gD[a.off]? = some u:=by simpa using bj
 exact List.mem_of_getElem? this
structure ru (A:List Nat) (w0 w:World) (e sz:Nat) (ew:Value) (n:Nat) (rows:List (List D)) (vs:List Value):Prop where
 own:Own w e sz ew n vs
 rd:ao (A++a1 ew) w rows.flatten vs
 te:∀ y∈a1 ew,w0.heap.size≤y
 xk:∀ y∈a1 ew,y∉A
 al:∀ a∈A,a<w.heap.size
section
variable {A:List Nat} {w0 w w':World} {e sz n:Nat} {ew k4:Value} {rows:List (List D)} {vs us:List Value} {row:List D}
theorem ru.nil (dF:∀ a∈A,a<w.heap.size):ru A w0 w e sz (.slice none 0 0) 0 [] []:=⟨Own.nil _ _ _,ao.mO,by simp [a1],by simp [a1],dF⟩
theorem ru.I (G:ru A w0 w e sz ew n rows vs) (k:Mod [] w w'):ru A w0 w' e sz ew n rows vs:=⟨G.own.I k,G.rd.bB k,G.te,G.xk,fun a ay=>Nat.lt_of_lt_of_le (G.al a ay) k.size⟩
theorem ru.lt (G:ru A w0 w e sz ew n rows vs):∀ a∈A++a1 ew,a<w.heap.size:=fun a ay=>(List.mem_append.1 ay).elim (G.al a) (G.own.lt a)
theorem ru.z8 (eD:App w w' e sz ew k4 n vs):∀ y∈A++a1 k4,y∈A++a1 ew∨w.heap.size≤y:=fun y aY=>(List.mem_append.1 aY).elim (fun h=>.inl (by simp [h])) (fun h=>(eD.lZ y h).imp (fun h=>by simp [h]) id)
theorem ru.app {k:Nat} (G:ru A w0 w e sz ew n rows vs) (E:Mod [] w0 w) (eD:App w w' e sz ew k4 k (vs++us)) (hk:k=n+1) (abF:ao (A++a1 ew) w row us):ru A w0 w' e sz k4 (n+1) (rows ++ [row]) (vs++us):=by
 subst hk;refine⟨eD.own,?_,fun y aY=>(eD.lZ y aY).elim (G.te y) (Nat.le_trans E.size),fun y aY ay=>(eD.lZ y aY).elim (fun h=>G.xk y h ay) (fun h=>by have:=G.al y ay;omega),fun a ay=>Nat.lt_of_lt_of_le (G.al a ay) eD.mod.size⟩;rw [List.flatten_append];refine ao.to eD.mod (fun y aY=>by simp [aY]) (ru.z8 eD) _ _ (ao.append G.rd ?_);simpa using abF
theorem ru.tg {k:Nat} {d:D} {u:Value} (eD:App w w' e sz ew k4 k vs) (asp:ba (A++a1 ew) w d u):ba (A++a1 k4) w' d u:=ba.to eD.mod (fun y aY=>by simp [aY]) (ru.z8 eD) _ _ asp
theorem ru.rep (G:ru A w0 w e sz ew n rows vs) (cg:∀ r∈rows,r.length=sz) (ck:rows.length=n):ba A w (.ie sz rows) ew:=Own.rep G.own (G.rd.e9 (fun x ae=>by simp [ae])) cg ck G.xk
theorem ru.same {m:Nat} {Sr:List (List D)} (G:ru A w0 w e sz ew n rows vs) (h1:n=m) (aq:rows=Sr):ru A w0 w e sz ew m Sr vs:=by subst h1;subst aq;exact G
end
theorem sj {α β:Type} {l:List α} {k:Nat} {x:α} (f:α→β) (h:l[k]? = some x):(l.take (k+1)).map f=(l.take k).map f ++ [f x]:=by
 have bJ:=(List.getElem?_eq_some_iff.1 h).1;rw [List.take_succ_eq_append_getElem bJ,(List.getElem?_eq_some_iff.1 h).2];simp
end Go.Proofs.YtnihidkbkhcfoaaGreatDoor.V
namespace Go.Proofs.YtnihidkbkhcfoaaGreatDoor.V
open Go
namespace JV
variable {kind:aa} {v:JV}
theorem wI {k:aa} {x:JV} (h:v.get k=some x):(k,x)∈v.map:=by
 unfold JV.get at h
 split at h
 ·exact k8 h
 cases h
end JV
end Go.Proofs.YtnihidkbkhcfoaaGreatDoor.V
namespace Go.Proofs.YtnihidkbkhcfoaaGreatDoor.V
open Go
namespace JV
variable {kind:aa} {v:JV} {p:aa×JV}
end JV
end Go.Proofs.YtnihidkbkhcfoaaGreatDoor.V
namespace Go.Proofs.YtnihidkbkhcfoaaGreatDoor.V
open Go
namespace JV
def aP (s:aa):JV:=.mk 3 false 0 s [] []
theorem NT {A:List Nat} {w:World} {s:aa}:ao A w (aP s).D [.int .i64 3,.bool false,.int .i64 0,S s,.slice none 0 0,.slice none 0 0]:=by
 have:=cv (A:=A) (w:=w) (v:=aP s) (al:=none) (am:=none) (cl:=0) (cm:=0) ba.en ba.en;exact this
end JV
end Go.Proofs.YtnihidkbkhcfoaaGreatDoor.V
namespace Go.Proofs.YtnihidkbkhcfoaaGreatDoor.V
open Go
namespace JV
end JV
namespace EV
end EV
end Go.Proofs.YtnihidkbkhcfoaaGreatDoor.V
namespace Go.Proofs.YtnihidkbkhcfoaaGreatDoor.V
open Go
namespace JV
def hp (n:Int):JV:=.mk 2 false n [] [] []
def cX (l:List JV):JV:=.mk 4 false 0 [] l []
theorem od {A:List Nat} {w:World} {n:Int}:ao A w (hp n).D [.int .i64 2,.bool false,.int .i64 n,S [],.slice none 0 0,.slice none 0 0]:=by
 have:=cv (A:=A) (w:=w) (v:=hp n) (al:=none) (am:=none) (cl:=0) (cm:=0) ba.en ba.en;exact this
theorem C3 {A:List Nat} {w:World} {l:List JV} {al:Option Addr} {cl:Nat} (asp:ba A w (.ie 6 (l.map D)) (.slice al l.length cl)):ao A w (cX l).D [.int .i64 4,.bool false,.int .i64 0,S [],.slice al l.length cl,.slice none 0 0]:=
 cv (v:=cX l) (am:=none) (cm:=0) asp ba.en
theorem fz {A:List Nat} {w:World} {s:aa}:ao A w (aP s).D [.int .i64 3,.bool false,.int .i64 0,S s,.slice none 0 0,.slice none 0 0]:=NT
theorem AR {m:List (aa×JV)} {k:aa} {x:JV} {p:aa×JV} (h:p∈dC m k x):p∈m∨p=(k,x):=by
 unfold dC at h;simp only [List.mem_append,List.mem_filter,List.mem_singleton] at h;rcases h with(h | h) | h
 ·exact .inl h.1
 ·exact .inr h
 exact .inl h.1
end JV
abbrev hZ:aa:=[97,117,116,104,95,101,118,101,110,116,115]
abbrev nC:aa:=[99,111,110,116,101,110,116]
abbrev kh:aa:=[100,101,112,116,104]
abbrev gz:aa:=[104,97,115,104,101,115]
abbrev kL:aa:=[115,104,97,50,53,54]
abbrev qz:aa:=[111,114,105,103,105,110,95,115,101,114,118,101,114,95,116,115]
abbrev hY:aa:=[112,114,101,118,95,101,118,101,110,116,115]
abbrev mm:aa:=[114,111,111,109,95,105,100]
abbrev iu:aa:=[115,101,110,100,101,114]
abbrev mo:aa:=[115,105,103,110,97,116,117,114,101,115]
abbrev mn:aa:=[116,121,112,101]
abbrev gm:aa:=[115,116,97,116,101,95,107,101,121]
namespace EV
open JV
def one (m:List (aa×JV)) (k:aa):JV:=(look m k).getD JV.gQ
def mI (m:List (aa×JV)) (s:dH):List (aa×JV):=dC m s.c8 (obj (dC (one m s.c8).map s.key (aP s.sig)))
def lB (l:List dH) (k:Nat):List (aa×JV):=(l.take k).foldl mI []
theorem vJ (l:List dH):lB l 0 = []:=by simp [lB]
theorem vK {l:List dH} {k:Nat} {s:dH} (h:l[k]? = some s):lB l (k+1)=mI (lB l k) s:=by
 have bJ:=(List.getElem?_eq_some_iff.1 h).1;rw [lB,List.take_succ_eq_append_getElem bJ,(List.getElem?_eq_some_iff.1 h).2,List.foldl_append];rfl
structure OR (m:List (aa×JV)) (n:Nat):Prop where
 NM:er m
 len:m.length≤n
 each:∀ p∈m,∃ gr,p.2=obj gr∧er gr∧gr.length≤n
theorem OR.UJ {m:List (aa×JV)} {n:Nat} (h:OR m n) (k:aa):(one m k).eT=(one m k).map∧er (one m k).map∧(one m k).map.length≤n:=by
 unfold one;cases cg:look m k with
 | none=>exact⟨by simp [JV.gQ,JV.eT,JV.map,JV.kind],by simp [JV.gQ,JV.map,er],by simp [JV.gQ,JV.map]⟩
 | some y=>
  obtain⟨gr,h1,aq,aU⟩:=h.each _ (k8 cg);have ae':y=obj gr:=h1;subst ae';exact⟨by simp [obj,eT,map,kind],aq,aU⟩
theorem OR.step {m:List (aa×JV)} {n:Nat} {s:dH} (h:OR m n):OR (mI m s) (n+1):=by
 obtain⟨_,aq,aU⟩:=h.UJ s.c8;refine⟨qk h.NM,Nat.le_trans (wG h.NM) (by have:=h.len;omega),fun p cp=>?_⟩;rcases AR cp with cp | rfl
 ·obtain⟨gr,bM,cL,eW⟩:=h.each p cp;exact⟨gr,bM,cL,by omega⟩
 exact⟨_,rfl,qk aq,Nat.le_trans (wG aq) (by omega)⟩
theorem yr (l:List dH):∀ k,OR (lB l k) k
 | 0=>by rw [vJ];exact⟨by simp [er],by simp,by simp⟩
 | k+1=>by
  rcases Nat.lt_or_ge k l.length with h | h
  ·rw [vK (List.getElem?_eq_getElem h)]
   exact(yr l k).step
  have e:lB l (k+1)=lB l k:=by unfold lB;rw [List.take_of_length_le (by omega),List.take_of_length_le h]
  rw [e]
  obtain⟨h1,aq,aU⟩:=yr l k
  exact⟨h1,by omega,fun p cp=>by obtain⟨gr,bM,cL,eW⟩:=aU p cp;exact⟨gr,bM,cL,by omega⟩⟩
def gy (e:EV):List (aa×JV):=[(hZ,cX (e.bn.map aP)),(nC,e.bd),(kh,hp e.dep),(gz,obj [(kL,aP e.hash)]),(qz,hp e.time),(hY,cX (e.prev.map aP)),(mm,aP e.room),(iu,aP e.snd),(mo,obj (lB e.sigs e.sigs.length)),(mn,aP e.ty)]
def tr (e:EV):List (aa×JV):=e.gy++(if e.st then [(gm,aP e.key)] else [])
def HW (e:EV):List (aa×JV):=if e.st then dC e.gy gm (aP e.key)else e.gy
def val (e:EV):JV:=obj e.HW
theorem UK (e:EV):e3 e.gy 10=e.gy:=by kernel_rfl
theorem abk (e:EV):e3 e.tr e.tr.length=e.HW:=by
 unfold tr HW;cases e.st with
 | false=>rw [if_neg (by simp),if_neg (by simp),List.append_nil];exact e.UK
 | true=>
  rw [if_pos rfl,if_pos rfl];have h1:(e.gy ++ [(gm,aP e.key)])[10]? = some (gm,aP e.key):=rfl;have aq:=qG h1;have aU:e3 (e.gy ++ [(gm,aP e.key)]) 10=e3 e.gy 10:=by rw [e3,e3];rfl
  rw [aU,UK] at aq;exact aq
noncomputable def e7 (e:EV):Int:=if e.q6≠0 then e.q6 else Go.Proofs.YtnihidkbkhcfoaaGreatDoor.V.e7 (e.val.wr 0 [])
noncomputable def l0 (e:EV):aa:=if e.q6≠0 then [] else iA (e.val.wr 0 [])
end EV
end Go.Proofs.YtnihidkbkhcfoaaGreatDoor.V
