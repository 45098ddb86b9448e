/-
  A part of the proof: names with a sign; keys; kinds of bytes, as the document tells them; the document's names: its answers in the words of the walk; words of 32 bits, and bytes, as UInt32 and UInt8: each operation in their own words; the digest in plain Lean; blocks taken in, one behind the other; what stands behind the bytes; the digest's bytes; the digest of bytes; the reference's digest is the digest; slices of arrays; a slice's type changed in name alone; one byte of a slice of the call's own is written; letters that stand for bytes: their numbers, whether they stand for bytes, in plain Lean; states put together slot by slot; pairs in order; insertion; doubled neighbours left out; the pairs that every event needs; a slice that is read, as the source of an append, in every later world alike; a member's value written in place; members put one by one; what stays of a content, as the program and as the document tell it: the same; lists of texts that are built; strings the other way round; the pairs by which an event is allowed: the program's way and the document's way are the same; what Select and Right answer, in plain Lean; events that can be, in plain Lean; the text of what stays of a content is no longer than the content's; what stays, stays; a drawn region's operations that look at two or three slots of which something is known; its tail behind two such slots; a list of structs of the call's own that grows, each with memory of its own behind it; a list of structs of the call's own that grows, each with memory of its own behind it; Content, told arm by arm; the document's Content, told member by member; the laws of Content, last steps; what stays of a content is no longer than memory; an event as a JSON value, in plain Lean. No condition of its own.
-/
import Derived.Test.YtnihidkbkhcfoaaGreatDoorM4
import Derived.Test.YtnihidkbkhcfoaaGreatDoorM2
import Derived.Test.YtnihidkbkhcfoaaGreatDoorM3
import Derived.Test.YtnihidkbkhcfoaaGreatDoorM1
set_option linter.unusedVariables false
set_option linter.unusedSimpArgs false
set_option maxRecDepth 10000
namespace Go.Proofs.YtnihidkbkhcfoaaGreatDoor.V
open Go Go.Proofs
theorem Ln:aP Tryz.prog 171:=aP.of Tryz.func171 (by kernel_rfl) (by kernel_rfl)
theorem Yt:aP Tryz.prog 190:=aP.of Tryz.func190 (by kernel_rfl) (by kernel_rfl)
theorem x4:aP Tryz.prog 191:=aP.of Tryz.func191 (by kernel_rfl) (by kernel_rfl)
theorem Yu (w:World) (s:aa) (bb:s.length≤65536):Calls Tryz.prog 159 [S s].toArray w (bM fun u w'=>u = .tuple #[S (if ck s then cv s else []),.bool (ck s)]∧Mod [] w w'):=by
 refine enter Tryz.func159 rfl rfl rfl (l:=[(0,_)]) ⟨rfl,trivial⟩ ?_;have E:=Mod.refl [] w;refine ab fun aV=>ak 2 rfl (J aV (ax fun aL=>ab fun aX=>aG rfl (cQ (bE Ln rfl) (Cx _ s) fun aB R=>?_)));replace E:=E.then R;refine ag (e4 rfl) (J aX ?_);refine a1 rfl (fun km=>?_) (fun km=>?_)
 ·have pa:ck s=false:=by simpa using km
  exact ab fun bt=>ak 2 rfl (J bt (ba (aR (by simp) (cr rfl rfl rfl ⟨by rw [pa];rfl,E⟩))))
 have pa:ck s=true:=by simpa using km
 refine b8 (au aL (ab fun bN=>bC (cs:=[_]) cR kA rfl rfl rfl (by decide) rfl fun g1 cO bT=>?_));have bI:=bT.le E;replace E:=E.then bT.mod;have U:=bT.aA;refine aU rfl (J bN (ax fun b2=>ab fun cd=>aG rfl (qg Tryz.underlying9 rfl rfl fun uN gb gu Qw Ov=>?_)));have pb:w.heap.size≤uN:=by have:=E.size;omega
 have anl:g1≠uN:=by have:=U.lt;omega
 replace E:=E.then Ov;replace U:=U.I Ov;refine J cd (eE (bX (σ:=Nat×Value) (fun⟨p,v⟩=>[(0,S s),(4,v),(13,.pointer (some ⟨uN,0,none⟩))]) (fun⟨p,v⟩ aB=>p≤s.length∧ck (s.drop p)=true∧A9 aB uN s p∧hI aB v (34::c7 (s.take p))∧(∀ x∈aY v,w.heap.size≤x)∧(∀ x∈aY v,x≠uN)∧Mod [] w aB) (fun⟨p,v⟩=>s.length-p) (⟨0,.slice (some ⟨g1,0,none⟩) 1 1⟩) ⟨rfl,rfl,rfl,trivial⟩ (⟨by omega,by simpa using pa,gu,(Own.all (c:=1) U rfl (by omega)).same rfl rfl,by simp only [aY,List.mem_singleton];intro x ae;subst ae;exact bI,by simp only [aY,List.mem_singleton];intro x ae;subst ae;exact anl,E⟩) ?_));rintro⟨p,v⟩ iu ⟨cn,bK,gu,O,mw,NR,E⟩;refine ax fun cD=>?_
 by_cases fH:p<s.length
 rotate_left
 ·have lG:=fH;have mP:s.take p=s:=List.take_of_length_le (by omega);refine bP (lk rfl gu lG rfl (ag (eD rfl rfl) (J cD (ax fun cU=>?_))));refine a1 rfl (fun kn=>?_) (fun kn=>?_)
  ·cases kn
  skip
  refine bo (aR (by simp) (aR (by simp) (bU (au b2 (ab fun dj=>aG rfl (bC (cs:=[_]) cR kA rfl rfl rfl (by decide) rfl fun g4 ov N4=>?_))))));have fL:=N4.le E;have nP:=N4.b4 O;replace gu:=gu.I N4.mod;replace E:=E.then N4.mod;replace O:=O.I N4.mod;have bf:=N4.aA;have L6:=l8 s;have yB:(34::c7 (s.take p)).length=(c7 s).length+1:=by rw [mP];rfl
  refine bq cR rfl rfl O (Src.own Tryz.underlying65 (Own.all (cs:=[_]) bf rfl (by omega)) (by simp [Value.oneCell'])) (by decide) (by omega) (by omega) rfl fun v3 qB AS=>?_;have Vz:=AS.ne nP bf;have C3:=AS.ge mw E;replace bf:=bf.mod AS.mod (fun ae=>nP _ ae rfl);replace E:=E.trans' AS.mod (fun x ae=>.inr (mw x ae));replace O:=AS.own;exact ag (oA (u:=cv s) Tryz.underlying65 Tryz.underlying5 Tryz.underlying9 rfl (O.same (by rw [mP];simp [cv]) (by rw [mP];simp [cv,j2,dh]))) (ak 2 rfl (J dj (ba (cr rfl rfl rfl ⟨by rw [pa];rfl,E⟩))))
 have di:=y' (h' fH) bK;obtain⟨_,_,fA,gB⟩:=we (h' fH) di;have hle:=j8 (s.drop p);have Xq:(s.drop p).length=s.length-p:=List.length_drop ..;have L6:=l8 (s.take p);have AT:(s.take p).length=p:=by rw [List.length_take];omega
 have yB:(34::c7 (s.take p)).length=(c7 (s.take p)).length+1:=rfl;refine bP (mD rfl gu fH (x1 fH di) rfl fun js qK AM Dw=>?_);replace E:=E.trans' AM (fun x ae=>.inr (by simp at ae;subst ae;exact pb));replace O:=O.mod AM (fun x ae hm=>NR x ae (by simpa using hm));clear gu;have gu:=qK;refine ag (eD rfl rfl) (J cD (ax fun cJ=>?_));refine a1 rfl (fun kn=>?_) (fun kn=>?_);rotate_left
 ·cases kn
 skip
 refine b8 (au cJ (eE (ab fun cf=>ak 2 rfl (J cf (ab fun b1=>aG rfl (cQ (bE Yt rfl) (SO _ (aI (s.drop p)).1 fA) fun jD R=>?_))))));replace gu:=gu.I R;replace E:=E.then R;replace O:=O.I R;refine aU rfl (J b1 (eE (ab fun cX=>ak 3 rfl (J cX ?_))));refine aK rfl (fun xy=>?_) (fun xy=>?_)
 ·refine bP (ak 2 rfl (bC (cs:=[_,_]) cR kA rfl rfl rfl (by decide) rfl fun g2 iv cW=>?_));have b9:=cW.le E;have my:=cW.b4 O;replace gu:=gu.I cW.mod;replace E:=E.then cW.mod;replace O:=O.I cW.mod;have ah:=cW.aA;refine bq cR rfl rfl O (Src.own Tryz.underlying65 (Own.all (cs:=[_,_]) ah rfl (by omega)) (by simp [Value.oneCell'])) (by decide) (by omega) (by omega) rfl fun v1 oj jh=>?_;have Ki:=jh.ne my ah;have tt:=jh.ge mw E;replace ah:=ah.mod jh.mod (fun ae=>my _ ae rfl);replace E:=E.trans' jh.mod (fun x ae=>.inr (mw x ae));replace O:=jh.own;have ad2:=jh.ac5 NR gu;replace gu:=gu.mod jh.mod (fun ae=>NR _ ae rfl);refine aU rfl (cF (bz (by simp) (bz (by simp) ?_)));have SP:=wL fH di bK;obtain⟨t,NS,anm,ann⟩:=Yv fH di xy;exact fK (σ:=Nat×Value) (s:=⟨p,v⟩) (⟨p+(aI (s.drop p)).2,v1⟩) ⟨rfl,rfl,rfl,trivial⟩ ⟨by omega,SP,gu,G4 O NS (by rw [ann]) (by rw [anm]),tt,ad2,E⟩ (by dsimp only;omega)
 refine ab fun cb=>ak 3 rfl (J cb ?_);refine aK rfl (fun xC=>?_) (fun xC=>?_);rotate_left
 ·refine bP (ak 2 rfl (fv (bE x4 rfl) (Dy _ v (34::c7 (s.take p)) (aI (s.drop p)).1 O fA gB (by omega)) rfl fun cK p3 az=>?_));obtain⟨abb,aaK,yA⟩:=az;have M':∀ x∈aY cK,w.heap.size≤x:=fun x ae=>(aaK x ae).elim (mw x) (Nat.le_trans E.size);have anp:∀ x∈aY cK,x≠uN:=fun x ae=>(aaK x ae).elim (NR x) (fun h e=>by have:=gu.lt;omega);replace E:=E.trans' yA (fun x ae=>.inr (mw x ae));replace gu:=gu.mod yA (fun ae=>NR _ ae rfl);refine aU rfl (cF (bz (by simp) (bz (by simp) ?_)));have SP:=wL fH di bK;have NS:=Yx fH di xy xC;exact fK (σ:=Nat×Value) (s:=⟨p,v⟩) (⟨p+(aI (s.drop p)).2,cK⟩) ⟨rfl,rfl,rfl,trivial⟩ ⟨by omega,SP,gu,abb.same (by rw [NS];rfl) (by rw [NS];rfl),M',anp,E⟩ (by dsimp only;omega)
 refine jE [0] [1,2,3,4,5,6] 7 [8,9] wide (by kernel_rfl) (fun _ _ _ h=>h.2) (VO (fun _=>(d' rfl)) rfl rfl (iN (aj (fun R=>(d' rfl)) (aj (fun R=>(qZ 4 16 rfl rfl (by decide) (by decide))) (aj (fun R=>(b6 Tryz.underlying9 rfl rfl (by omega) (by rw [Int.toNat_natCast];exact xT (by omega)))) (aj (fun R=>(d' rfl)) (aj (fun R=>(ad3 rfl rfl (by omega))) (aj (fun R=>(b6 Tryz.underlying9 rfl rfl (by omega) (by rw [Int.toNat_natCast];exact xT (by omega)))) (mG rfl fun l1 R=>?_)))))))));replace gu:=gu.I R;replace E:=E.then R;replace O:=O.I R;refine bC (cs:=[_,_,_,_,_,_]) cR kA rfl rfl rfl (by decide) rfl fun g3 iw eP=>?_;have dE:=eP.le E;have nO:=eP.b4 O;replace gu:=gu.I eP.mod;replace E:=E.then eP.mod;replace O:=O.I eP.mod;have bu:=eP.aA;refine bq cR rfl rfl O (Src.own Tryz.underlying65 (Own.all (cs:=[_,_,_,_,_,_]) bu rfl (by omega)) (by simp [Value.oneCell'])) (by decide) (by omega) (by omega) rfl fun v2 kl AR=>?_;have Vy:=AR.ne nO bu;have yF:=AR.ge mw E;replace bu:=bu.mod AR.mod (fun ae=>nO _ ae rfl);replace E:=E.trans' AR.mod (fun x ae=>.inr (mw x ae));replace O:=AR.own;have ano:=AR.ac5 NR gu;replace gu:=gu.mod AR.mod (fun ae=>NR _ ae rfl);refine aU rfl (cF (bz (by simp) (bz (by simp) ?_)));have SP:=wL fH di bK;have NS:=Yw fH di xy xC;exact fK (σ:=Nat×Value) (s:=⟨p,v⟩) (⟨p+(aI (s.drop p)).2,v2⟩) ⟨rfl,rfl,rfl,trivial⟩ ⟨by omega,SP,gu,G4 O NS (by simp) (by simp [j2]),yF,ano,E⟩ (by dsimp only;omega)
set_option maxRecDepth 10000
theorem Zb:aP Tryz.prog 228:=aP.of Tryz.func228 (by kernel_rfl) (by kernel_rfl)
theorem sC:aP Tryz.prog 111:=aP.of Tryz.func111 (by kernel_rfl) (by kernel_rfl)
theorem Dx:aP Tryz.prog 196:=aP.of Tryz.func196 (by kernel_rfl) (by kernel_rfl)
theorem yh:aP Tryz.prog 166:=aP.of Tryz.func166 (by kernel_rfl) (by kernel_rfl)
theorem vt:aP Tryz.prog 168:=aP.of Tryz.func168 (by kernel_rfl) (by kernel_rfl)
theorem Zc:aP Tryz.prog 170:=aP.of Tryz.func170 (by kernel_rfl) (by kernel_rfl)
theorem Lt:aP Tryz.prog 167:=aP.of Tryz.func167 (by kernel_rfl) (by kernel_rfl)
theorem vu (w:World) (c:Nat):Calls Tryz.prog 166 [.int .i32 (c:Int)].toArray w (bM fun u w'=>u = .bool (wR c)∧Mod [] w w'):=by
 refine enter Tryz.func166 rfl rfl rfl (l:=[(0,_)]) ⟨rfl,trivial⟩ ?_;have E:=Mod.refl [] w;refine ab fun aV=>aU rfl (J aV (ab fun aL=>aG rfl (ag (dq rfl rfl) ?_)));refine da (fun jL:(c:Int)≥97=>?_) (fun jL=>?_)
 ·refine ak 3 rfl ?_;refine da (fun ot:(c:Int)≤122=>?_) (fun ot=>?_)
  ·exact ak 2 rfl (J aL (ba (ar rfl rfl ⟨congrArg Value.bool (by rw [Bool.eq_iff_iff];simp [wR];omega),E⟩)))
  exact ak 2 rfl (J aL (ba (ar rfl rfl ⟨congrArg Value.bool (by rw [Bool.eq_iff_iff];simp [wR];omega),E⟩)))
 exact ak 5 rfl (J aL (ba (ar rfl rfl ⟨congrArg Value.bool (by rw [Bool.eq_iff_iff];simp [wR];omega),E⟩)))
theorem CB (w:World) (c:Nat):Calls Tryz.prog 167 [.int .i32 (c:Int)].toArray w (bM fun u w'=>u = .bool (Bp c)∧Mod [] w w'):=by
 refine enter Tryz.func167 rfl rfl rfl (l:=[(0,_)]) ⟨rfl,trivial⟩ ?_;have E:=Mod.refl [] w;refine ab fun aV=>aU rfl (J aV (ab fun aL=>aG rfl (ag (dq rfl rfl) ?_)));refine da (fun jL:(c:Int)≥65=>?_) (fun jL=>?_)
 ·refine ak 3 rfl ?_;refine da (fun ot:(c:Int)≤90=>?_) (fun ot=>?_)
  ·exact ak 2 rfl (J aL (ba (ar rfl rfl ⟨congrArg Value.bool (by rw [Bool.eq_iff_iff];simp [Bp];omega),E⟩)))
  exact ak 2 rfl (J aL (ba (ar rfl rfl ⟨congrArg Value.bool (by rw [Bool.eq_iff_iff];simp [Bp];omega),E⟩)))
 exact ak 5 rfl (J aL (ba (ar rfl rfl ⟨congrArg Value.bool (by rw [Bool.eq_iff_iff];simp [Bp];omega),E⟩)))
theorem sf (w:World) (c:Nat):Calls Tryz.prog 168 [.int .i32 (c:Int)].toArray w (bM fun u w'=>u = .bool (sO c)∧Mod [] w w'):=by
 refine enter Tryz.func168 rfl rfl rfl (l:=[(0,_)]) ⟨rfl,trivial⟩ ?_;have E:=Mod.refl [] w;refine ab fun aV=>aU rfl (J aV (ab fun aL=>aG rfl (ag (dq rfl rfl) ?_)));refine da (fun jL:(c:Int)≥48=>?_) (fun jL=>?_)
 ·refine ak 3 rfl ?_;refine da (fun ot:(c:Int)≤57=>?_) (fun ot=>?_)
  ·exact ak 2 rfl (J aL (ba (ar rfl rfl ⟨congrArg Value.bool (by rw [Bool.eq_iff_iff];simp [sO];omega),E⟩)))
  exact ak 2 rfl (J aL (ba (ar rfl rfl ⟨congrArg Value.bool (by rw [Bool.eq_iff_iff];simp [sO];omega),E⟩)))
 exact ak 5 rfl (J aL (ba (ar rfl rfl ⟨congrArg Value.bool (by rw [Bool.eq_iff_iff];simp [sO];omega),E⟩)))
theorem NW (w:World) (c:Nat) (h1:c≤1114111) (aq:¬ (55296≤c∧c≤57343)):Calls Tryz.prog 228 [.int .i32 (c:Int)].toArray w (bM fun u w'=>u = .bool true∧Mod [] w w'):=by
 refine enter Tryz.func228 rfl rfl rfl (l:=[(0,_)]) ⟨rfl,trivial⟩ ?_;have E:=Mod.refl [] w;have FR:(0:Int)≤(c:Int):=by omega
 refine ab fun aV=>aU rfl (J aV (ax fun aL=>eE (ab fun aX=>ak 2 rfl (iD (bd FR) (ak 5 rfl (J aX ?_))))));refine aK rfl (fun aT=>?_) (fun aT=>?_)
 ·exact ab fun bt=>aU rfl (J bt (ba (bz (by simp) (aR (by simp) (ar rfl rfl ⟨rfl,E⟩)))))
 have ns:(57343:Int)<(c:Int):=by omega
 have hle:(c:Int)≤1114111:=by omega
 exact ab fun bN=>ak 2 rfl (iD (bd ns) (ak 3 rfl (iD (bd hle) (ak 2 rfl (J bN (aF rfl (ab fun b2=>aU rfl (J b2 (ba (bz (by simp) (aR (by simp) (ar rfl rfl ⟨rfl,E⟩))))))))))))
theorem xg (w:World) (s:aa) (c:Nat) (bb:∀ x∈s,x.toNat<128) (cg:4≤s.length) (qf:s.length≤1000) (h1:c≤1114111) (aq:¬ (55296≤c∧c≤57343)) (h:128≤c):Calls Tryz.prog 196 [S s,.int .i32 (c:Int)].toArray w (bM fun u w'=>u = .int .i64 (-1)∧Mod [] w w'):=by
 refine enter Tryz.func196 rfl rfl rfl (l:=[(0,_),(1,_)]) ⟨rfl,rfl,trivial⟩ ?_;have E:=Mod.refl [] w;have FR:(0:Int)≤(c:Int):=by omega
 have fA:¬ (c:Int)<128:=by omega
 obtain⟨rs,anD,ara,akT,apy,aiv,aiw⟩:=NX h1 aq h;obtain⟨dm,cI⟩:∃ dm,s[rs.length-1]? = some dm:=⟨_,List.getElem?_eq_getElem (by omega)⟩;have apz:=bb dm (List.mem_of_getElem? cI);have anE:Lib.indexByte (s.drop (rs.length-1+1)) apy = -1:=indexByte_none (fun x ae=>bb x (List.mem_of_mem_drop ae)) aiw;refine ab fun aV=>aU rfl (J aV (eE (ab fun aL=>ak 2 rfl (iD (bd FR) (ak 3 rfl (iD (bJ fA) (ak 2 rfl (J aL (aD rfl (ab fun aX=>ak 3 rfl ?_))))))))));refine J aX ?_;refine aK rfl (fun lh=>?_) (fun lh=>?_);rotate_left
 ·refine ab fun cX=>aG rfl (cQ (bE Zb rfl) (NW _ c h1 aq) fun iu R=>?_);replace E:=E.then R;refine ak 2 rfl (J cX ?_);refine a1 rfl (fun aaP=>?_) (fun aaP=>?_)
  ·cases aaP
  refine Hd (ab fun cb=>aG rfl (ag ((aeh Tryz.underlying21 Tryz.underlying9 rfl).to (v':=S rs) (by rw [anD])) (aU rfl (J cb (ab fun cU=>aG rfl (ag (br Tryz.underlying9 rfl) (ag (ew (r:=((rs.length-1:Nat):Int)) rfl rfl (by rw [wrap64_in _ (by omega)];omega)) (aU rfl (J cU (ab fun dj=>ak 2 rfl ?_))))))))));refine J dj (ab fun dO=>aU rfl (J dO (ax fun eH=>eE (bX (σ:=Unit) (fun _=>[(0,S s),(7,S rs),(8,.int .i64 ((rs.length-1:Nat):Int)),(9,.int .i64 ((rs.length-1:Nat):Int))]) (fun _ aB=>Mod [] w aB) (fun _=>0) (()) ⟨rfl,rfl,rfl,rfl,trivial⟩ (E) ?_))));rintro _ js E;refine ax fun ee=>ab fun fE=>ak 2 rfl (ag (br Tryz.underlying9 rfl) (ag (cL rfl rfl) (J fE ?_)));refine aK rfl (fun jC=>?_) (fun jC=>?_)
  ·refine b8 (au ee (eE (Hd (ax fun fT=>ax fun fF=>bQ wide (by kernel_rfl) (f' 2 rfl rfl (aj (fun R=>(b6 Tryz.underlying9 rfl rfl (by omega) (by rw [Int.toNat_natCast];exact cI))) (f' 2 rfl rfl (aj (fun R=>(b6 Tryz.underlying9 rfl rfl (by omega) (by rw [Int.toNat_natCast];exact aiv))) (aj (fun R=>(fj rfl rfl)) (bS rfl fun jD R=>?_))))))))));replace E:=E.then R;refine au fF ?_;refine aK rfl (fun sR=>?_) (fun sR=>?_)
   ·refine ax fun fG=>bQ wide (by kernel_rfl) (f' 2 rfl rfl (aj (fun R=>(cS (r:=((rs.length-1+1:Nat):Int)) rfl rfl (by rw [wrap64_in _ (by omega)];omega))) (aj (fun R=>(cE Tryz.underlying9 rfl rfl (by omega))) (f' 2 rfl rfl (aj (fun R=>(b6 Tryz.underlying9 rfl rfl (by omega) (by rw [Int.toNat_natCast];exact aiv))) (AI (fun cH R=>bE sC rfl) (fun cH R=>BJ _ (s.drop (rs.length-1+1)) apy) rfl rfl (aj (fun R=>(cq rfl)) (bS rfl fun iv R=>?_))))))));replace E:=E.then R;refine au fG (ax fun gU=>ab fun hg=>ak 2 rfl (J hg ?_));refine aK rfl (fun aix=>?_) (fun aix=>?_)
    ·exact ab fun hA=>aU rfl (J hA (ba (aR (by simp) (aR (by simp) (He (by simp) (bz (by simp) (aR (by simp) (bz (by simp) (aR (by simp) (He (by simp) (bz (by simp) (ar rfl rfl ⟨rfl,E⟩))))))))))))
    exact absurd (by rw [anE];decide) aix
   exact absurd (by omega) sR
  exact absurd (by omega) jC
 refine ax fun bt=>ab fun bN=>aG rfl (qg Tryz.underlying9 rfl rfl fun uN aB gu Qw Ov=>?_);have pb:w.heap.size≤uN:=by have:=E.size;omega
 replace E:=E.then Ov;refine J bN (eE (bX (σ:=Nat) (fun p=>[(0,S s),(1,.int .i32 (c:Int)),(175,.pointer (some ⟨uN,0,none⟩))]) (fun p aB=>p≤s.length∧A9 aB uN s p∧Mod [] w aB) (fun p=>s.length-p) (0) ⟨rfl,rfl,rfl,trivial⟩ (⟨by omega,gu,E⟩) ?_));rintro p cO ⟨cn,gu,E⟩;refine ax fun b2=>?_
 by_cases fH:p<s.length
 ·obtain⟨b,aQ⟩:∃ b,s[p]? = some b:=⟨_,List.getElem?_eq_getElem fH⟩;have nV:=bb b (List.mem_of_getElem? aQ);refine bP (mD rfl gu fH (dec_lt aQ nV) rfl fun gb qK AM Dw=>?_);replace E:=E.trans' AM (fun x ae=>.inr (by simp at ae;subst ae;exact pb));clear gu;have gu:=qK;refine ag (eD rfl rfl) (J b2 (ax fun cd=>?_));refine a1 rfl (fun Hc=>?_) (fun Hc=>?_)
  ·skip
   refine b8 (au cd (eE (ab fun cD=>ak 4 rfl (J cD (ab fun cJ=>ak 2 rfl (J cJ ?_))))));refine aK rfl (fun aaO=>?_) (fun aaO=>?_)
   ·exact absurd aaO (by omega)
   exact b8 (bz (by simp) (fK (σ:=Nat) (s:=p) (p+1) ⟨rfl,rfl,rfl,trivial⟩ ⟨by omega,gu,E⟩ (by omega)))
  cases Hc
 have lG:=fH;refine bP (lk rfl gu lG rfl (ag (eD rfl rfl) (J b2 (ax fun cf=>?_))));refine a1 rfl (fun Hc=>?_) (fun Hc=>?_)
 ·cases Hc
 skip
 exact bo (aR (by simp) (aR (by simp) (bU (au bt (ab fun b1=>aU rfl (J b1 (ba (bz (by simp) (ar rfl rfl ⟨rfl,E⟩)))))))))
theorem Hf (w:World) (s:aa) (c:Nat) (bb:∀ x∈s,x.toNat<128) (cg:4≤s.length) (qf:s.length≤1000) (h1:c≤1114111) (aq:¬ (55296≤c∧c≤57343)) (h:128≤c):Calls Tryz.prog 170 [S s,.int .i32 (c:Int)].toArray w (bM fun u w'=>u = .bool false∧Mod [] w w'):=by
 refine enter Tryz.func170 rfl rfl rfl (l:=[(0,_),(1,_)]) ⟨rfl,rfl,trivial⟩ ?_;have E:=Mod.refl [] w;refine ab fun aV=>aU rfl (J aV (ab fun aL=>ak 2 rfl (cQ (bE Dx rfl) (xg _ s c bb cg qf h1 aq h) fun aB R=>?_)));replace E:=E.then R;exact ag (dq rfl rfl) (aU rfl (J aL (ba (ar rfl rfl ⟨rfl,E⟩))))
theorem Tg (w:World) (c:Nat) (h1:c≤1114111) (aq:¬ (55296≤c∧c≤57343)):Calls Tryz.prog 170 [S q1,.int .i32 (c:Int)].toArray w (bM fun u w'=>u = .bool (q1.any fun b=>decide (b.toNat=c))∧Mod [] w w'):=by
 rcases Nat.lt_or_ge c 128 with h | h
 ·exact Fp w q1 c h
 refine(Hf w q1 c (by decide) (by decide) (by decide) h1 aq h).mono fun e w' he=>?_;cases e with
 | returned v=>
  obtain⟨rfl,k⟩:=he;refine⟨?_,k⟩
  congr 1
  symm
  rw [List.any_eq_false];intro b aQ;have:b.toNat<128:=(by decide:∀ b∈q1,b.toNat<128) b aQ;simp;omega
 | panicked c=>exact he.elim
 | outgrown=>exact he.elim
theorem Jw (w:World) (c:Nat) (h1:c≤1114111) (aq:¬ (55296≤c∧c≤57343)):Calls Tryz.prog 195 [.int .i32 (c:Int)].toArray w (bM fun u w'=>u = .bool (g' c)∧Mod [] w w'):=by
 refine enter Tryz.func195 rfl rfl rfl (l:=[(0,_)]) ⟨rfl,trivial⟩ ?_;have E:=Mod.refl [] w;refine ab fun aV=>aU rfl (J aV (ab fun aL=>aG rfl (cQ (bE yh rfl) (vu _ c) fun aB R=>?_)));replace E:=E.then R;refine AJ (fun aS:(wR c)=true=>?_) (fun aS=>?_)
 ·exact ak 13 rfl (J aL (ba (ar rfl rfl ⟨by simp_all [g'],E⟩)))
 refine ak 2 rfl (fC (bE vt rfl) (sf _ c) fun cO R=>?_);replace E:=E.then R;refine AJ (fun bn:(sO c)=true=>?_) (fun bn=>?_)
 ·exact ak 10 rfl (J aL (ba (ar rfl rfl ⟨by simp_all [g'],E⟩)))
 refine ak 4 rfl ?_;refine da (fun bD:(c:Int)=46=>?_) (fun bD=>?_)
 ·exact ak 6 rfl (J aL (ba (ar rfl rfl ⟨by simp_all [g'],E⟩)))
 refine ak 4 rfl ?_;refine da (fun cC:(c:Int)=45=>?_) (fun cC=>?_)
 ·exact ak 2 rfl (J aL (ba (ar rfl rfl ⟨by simp_all [g'],E⟩)))
 exact ak 2 rfl (J aL (ba (ar rfl rfl ⟨by simp_all [g'],E⟩)))
theorem Th (w:World) (c:Nat) (h1:c≤1114111) (aq:¬ (55296≤c∧c≤57343)):Calls Tryz.prog 169 [.int .i32 (c:Int)].toArray w (bM fun u w'=>u = .bool (iZ c)∧Mod [] w w'):=by
 refine enter Tryz.func169 rfl rfl rfl (l:=[(0,_)]) ⟨rfl,trivial⟩ ?_;have E:=Mod.refl [] w;refine ab fun aV=>aU rfl (J aV (ab fun aL=>aG rfl (cQ (bE yh rfl) (vu _ c) fun aB R=>?_)));replace E:=E.then R;refine AJ (fun aS:(wR c)=true=>?_) (fun aS=>?_)
 ·exact ak 9 rfl (J aL (ba (ar rfl rfl ⟨by simp_all [iZ],E⟩)))
 refine ak 2 rfl (fC (bE vt rfl) (sf _ c) fun cO R=>?_);replace E:=E.then R;refine AJ (fun bn:(sO c)=true=>?_) (fun bn=>?_)
 ·exact ak 6 rfl (J aL (ba (ar rfl rfl ⟨by simp_all [iZ],E⟩)))
 refine ak 3 rfl (fC (bE Zc rfl) (Tg _ c h1 aq) fun gb R=>?_);replace E:=E.then R;refine AJ (fun bD:(q1.any fun b=>decide (b.toNat=c))=true=>?_) (fun bD=>?_)
 ·exact ak 2 rfl (J aL (ba (ar rfl rfl ⟨by simp_all [iZ],E⟩)))
 exact ak 2 rfl (J aL (ba (ar rfl rfl ⟨by simp_all [iZ],E⟩)))
theorem Ti (w:World) (c:Nat) (h1:c≤1114111) (aq:¬ (55296≤c∧c≤57343)):Calls Tryz.prog 165 [.int .i32 (c:Int)].toArray w (bM fun u w'=>u = .bool (h0 c)∧Mod [] w w'):=by
 refine enter Tryz.func165 rfl rfl rfl (l:=[(0,_)]) ⟨rfl,trivial⟩ ?_;have E:=Mod.refl [] w;refine ab fun aV=>aU rfl (J aV (ab fun aL=>aG rfl (cQ (bE yh rfl) (vu _ c) fun aB R=>?_)));replace E:=E.then R;refine AJ (fun aS:(wR c)=true=>?_) (fun aS=>?_)
 ·exact ak 17 rfl (J aL (ba (ar rfl rfl ⟨by simp_all [h0],E⟩)))
 refine ak 2 rfl (fC (bE Lt rfl) (CB _ c) fun cO R=>?_);replace E:=E.then R;refine AJ (fun bn:(Bp c)=true=>?_) (fun bn=>?_)
 ·exact ak 14 rfl (J aL (ba (ar rfl rfl ⟨by simp_all [h0],E⟩)))
 refine ak 3 rfl (fC (bE vt rfl) (sf _ c) fun gb R=>?_);replace E:=E.then R;refine AJ (fun bD:(sO c)=true=>?_) (fun bD=>?_)
 ·exact ak 10 rfl (J aL (ba (ar rfl rfl ⟨by simp_all [h0],E⟩)))
 refine ak 4 rfl ?_;refine da (fun cC:(c:Int)=95=>?_) (fun cC=>?_)
 ·exact ak 6 rfl (J aL (ba (ar rfl rfl ⟨by simp_all [h0],E⟩)))
 refine ak 4 rfl ?_;refine da (fun cV:(c:Int)=45=>?_) (fun cV=>?_)
 ·exact ak 2 rfl (J aL (ba (ar rfl rfl ⟨by simp_all [h0],E⟩)))
 exact ak 2 rfl (J aL (ba (ar rfl rfl ⟨by simp_all [h0],E⟩)))
theorem Zd (w:World) (c:Nat) (h1:c≤1114111) (aq:¬ (55296≤c∧c≤57343)):Calls Tryz.prog 199 [.int .i32 (c:Int)].toArray w (bM fun u w'=>u = .bool (nH c)∧Mod [] w w'):=by
 refine enter Tryz.func199 rfl rfl rfl (l:=[(0,_)]) ⟨rfl,trivial⟩ ?_;have E:=Mod.refl [] w;refine ab fun aV=>aU rfl (J aV (ab fun aL=>aG rfl (cQ (bE yh rfl) (vu _ c) fun aB R=>?_)));replace E:=E.then R;refine AJ (fun aS:(wR c)=true=>?_) (fun aS=>?_)
 ·exact ak 13 rfl (J aL (ba (ar rfl rfl ⟨by simp_all [nH],E⟩)))
 refine ak 2 rfl (fC (bE Lt rfl) (CB _ c) fun cO R=>?_);replace E:=E.then R;refine AJ (fun bn:(Bp c)=true=>?_) (fun bn=>?_)
 ·exact ak 10 rfl (J aL (ba (ar rfl rfl ⟨by simp_all [nH],E⟩)))
 refine ak 3 rfl (fC (bE vt rfl) (sf _ c) fun gb R=>?_);replace E:=E.then R;refine AJ (fun bD:(sO c)=true=>?_) (fun bD=>?_)
 ·exact ak 6 rfl (J aL (ba (ar rfl rfl ⟨by simp_all [nH],E⟩)))
 refine ak 4 rfl ?_;refine da (fun cC:(c:Int)=95=>?_) (fun cC=>?_)
 ·exact ak 2 rfl (J aL (ba (ar rfl rfl ⟨by simp_all [nH],E⟩)))
 exact ak 2 rfl (J aL (ba (ar rfl rfl ⟨by simp_all [nH],E⟩)))
theorem Ak (w:World) (s:aa) (k:FuncId) (q:Nat→Bool) (he:aP Tryz.prog k) (hk:∀ (w:World) (c:Nat),c≤1114111→¬ (55296≤c∧c≤57343)→Calls Tryz.prog k [.int .i32 (c:Int)].toArray w (bM fun u w'=>u = .bool (q c)∧Mod [] w w')) (e2:∀ c,q c=true→c<128):Calls Tryz.prog 164 [S s,.func (.func k) #[] #[]].toArray w (bM fun u w'=>u = .bool (gn q s)∧Mod [] w w'):=by
 refine enter Tryz.func164 rfl rfl rfl (l:=[(0,_),(1,_)]) ⟨rfl,rfl,trivial⟩ ?_;have E:=Mod.refl [] w;refine ab fun aV=>aU rfl (J aV (ax fun aL=>ab fun aX=>aG rfl (qg Tryz.underlying9 rfl rfl fun uN aB gu Qw Ov=>?_)));have pb:w.heap.size≤uN:=by have:=E.size;omega
 replace E:=E.then Ov;refine J aX (eE (bX (σ:=Nat) (fun p=>[(0,S s),(1,.func (.func k) #[] #[]),(8,.pointer (some ⟨uN,0,none⟩))]) (fun p aB=>p≤s.length∧(s.take p).all (fun b=>q b.toNat)=true∧A9 aB uN s p∧Mod [] w aB) (fun p=>s.length-p) (0) ⟨rfl,rfl,rfl,trivial⟩ (⟨by omega,by simp,gu,E⟩) ?_));rintro p cO ⟨cn,ay,gu,E⟩;refine ax fun bt=>?_
 by_cases fH:p<s.length
 rotate_left
 ·have lG:=fH;have iQ:=CC (q:=q) (by omega) ay;refine bP (lk rfl gu lG rfl (ag (eD rfl rfl) (J bt (ax fun cb=>?_))));refine a1 rfl (fun km=>?_) (fun km=>?_)
  ·cases km
  skip
  exact bo (aR (by simp) (aR (by simp) (bU (au aL (ab fun cU=>aG rfl (ag (e3 rfl rfl) (aU rfl (J cU (ba (ar rfl rfl ⟨by rw [iQ],E⟩))))))))))
 obtain⟨b,aQ⟩:∃ b,s[p]? = some b:=⟨_,List.getElem?_eq_getElem fH⟩;have Hg:=b.toNat_lt
 by_cases nV:b.toNat<128
 rotate_left
 ·obtain⟨c,m,zi,Tj,fA,gB⟩:=Lu aQ (by omega);refine bP (mD rfl gu fH (zi) rfl fun js qK AM Dw=>?_);replace E:=E.trans' AM (fun x ae=>.inr (by simp at ae;subst ae;exact pb));clear gu;have gu:=qK;refine ag (eD rfl rfl) (J bt (ax fun cJ=>?_));refine a1 rfl (fun km=>?_) (fun km=>?_)
  ·skip
   refine b8 (au cJ (eE (ab fun cf=>ak 2 rfl (J cf (ab fun b1=>ak 2 rfl (cQ (uk he rfl rfl) (hk _ c (by omega) (by omega)) fun jD R=>?_))))));replace gu:=gu.I R;replace E:=E.then R;refine ag (e4 rfl) (J b1 ?_);refine a1 rfl (fun kn=>?_) (fun kn=>?_)
   ·have iQ:gn q s=false:=Al aQ (dM fun h=>by have:=e2 _ h;omega);exact ab fun cX=>aU rfl (J cX (ba (bz (by simp) (aR (by simp) (bz (by simp) (aR (by simp) (ar rfl rfl ⟨by rw [iQ],E⟩)))))))
   exact absurd (e2 c (by simpa using kn)) (by omega)
  cases km
 skip
 refine bP (mD rfl gu fH (dec_lt aQ nV) rfl fun gb qK AM Dw=>?_);replace E:=E.trans' AM (fun x ae=>.inr (by simp at ae;subst ae;exact pb));clear gu;have gu:=qK;refine ag (eD rfl rfl) (J bt (ax fun bN=>?_));refine a1 rfl (fun km=>?_) (fun km=>?_)
 ·skip
  refine b8 (au bN (eE (ab fun b2=>ak 2 rfl (J b2 (ab fun cd=>ak 2 rfl (cQ (uk he rfl rfl) (hk _ b.toNat (by omega) (by omega)) fun iu R=>?_))))));replace gu:=gu.I R;replace E:=E.then R;refine ag (e4 rfl) (J cd ?_);refine a1 rfl (fun kn=>?_) (fun kn=>?_)
  ·have iQ:gn q s=false:=Al aQ (by simpa using kn);exact ab fun cD=>aU rfl (J cD (ba (bz (by simp) (aR (by simp) (bz (by simp) (aR (by simp) (ar rfl rfl ⟨by rw [iQ],E⟩)))))))
  have oY:=all_succ aQ ay (by simpa using kn);exact b8 (bz (by simp) (fK (σ:=Nat) (s:=p) (p+1) ⟨rfl,rfl,rfl,trivial⟩ ⟨by omega,oY,gu,E⟩ (by omega)))
 cases km
end Go.Proofs.YtnihidkbkhcfoaaGreatDoor.V
namespace Go.Proofs.YtnihidkbkhcfoaaGreatDoor.V
open Go
theorem Hh (s:aa):Lib.cut s [58]=(s.take (aH s),s.drop (aH s+1),decide (aH s<s.length)):=by
 rw [JO];have:=jk s
 by_cases h:aH s<s.length
 ·rw [if_pos h,decide_eq_true h]
 rw [if_neg h,decide_eq_false h,List.take_of_length_le (by omega),List.drop_eq_nil_of_le (by omega)]
theorem mr (s:aa):decide (aH s=s.length) = !decide (aH s<s.length):=by
 have:=jk s
 by_cases h:aH s<s.length
 ·rw [decide_eq_true h,decide_eq_false (by omega)];rfl
 rw [decide_eq_false h,decide_eq_true (by omega)];rfl
theorem mu (s:aa):decide (s.length-aH s≤6)=decide (((s.drop (aH s+1)).length:Int)≤5):=by
 rw [List.length_drop,decide_eq_decide];omega
theorem kc (s:aa):decide (s.length≤255)=decide ((s.length:Int)≤255):=by
 rw [decide_eq_decide];omega
def nC (sign:UInt8) (s:aa):Bool:=decide (s.head? = some sign)&&decide ((s.length:Int)≤255)
theorem j0 {sign:UInt8} (Dc:sign≠58) (q:Nat→Bool) (s:aa) :
  fr sign q s=(nC sign s&&decide (aH (s.drop 1)<(s.drop 1).length)&&dw ((s.drop 1).drop (aH (s.drop 1)+1))&&gn q ((s.drop 1).take (aH (s.drop 1)))):=by
 cases s with
 | nil=>simp [fr,nC]
 | cons b r=>
  by_cases aQ:b=sign
  ·subst aQ
   have bh:aH (b::r)=aH r+1:=by
    have:(b == 58)=false:=by simpa using Dc
    simp [aH,List.findIdx_cons,this]
   simp only [fr,nC,bh,List.drop_succ_cons,List.drop_zero,List.length_cons,List.head?_cons,List.take_succ_cons,decide_true]
   rw [show decide (r.length+1≤255)=decide (((r.length+1:Nat):Int)≤255)by rw [decide_eq_decide];omega,show decide (aH r+1<r.length+1)=decide (aH r<r.length)by rw [decide_eq_decide];omega]
   generalize decide (((r.length+1:Nat):Int)≤255)=p8
   generalize decide (aH r<r.length)=a2
   generalize gn q (r.take (aH r))=a3
   generalize dw (r.drop (aH r+1))=a4
   cases p8 <;> cases a2 <;> cases a3 <;> cases a4 <;> rfl
  have:decide ((b::r).head? = some sign)=false:=by simp [aQ]
  rw [fr,nC,this]
  simp
theorem JP {sign:UInt8} {s:aa} (Dc:sign≠58) (ik:s.head? = some sign):0<aH s:=by
 cases s with
 | nil=>cases ik
 | cons b r=>
  obtain rfl:b=sign:=by simpa using ik
  have:(b == 58)=false:=by simpa using Dc
  simp [aH,List.findIdx_cons,this]
theorem JQ (s p:aa):Lib.hasPrefix s p=decide (s.take p.length=p):=by
 unfold Lib.hasPrefix;rw [Bool.eq_iff_iff];simp only [decide_eq_true_eq,List.isPrefixOf_iff_prefix];rw [List.prefix_iff_eq_take];exact eq_comm
theorem vw (s:aa):nI s=(Lib.hasPrefix s Bq&&decide ((s.length:Int)≤255)&&gn nH (Lib.trimPrefix s Bq)):=by
 have kt:Bq.length=8:=rfl;unfold nI Lib.trimPrefix;rw [JQ,kt,kc]
 by_cases h:s.take 8=Bq
 ·rw [decide_eq_true h,if_pos rfl];generalize decide ((s.length:Int)≤255)=p8;generalize gn nH (s.drop 8)=a2;cases p8 <;> cases a2 <;> rfl
 rw [decide_eq_false h];simp
/-! ### the document's kinds -/
def fJ (c:Nat) (k:UInt8):Bool:=(decide ((k.toNat:Int)=97)&&decide ((c:Int)≥97)&&decide ((c:Int)≤122))||(decide ((k.toNat:Int)=65)&&decide ((c:Int)≥65)&&decide ((c:Int)≤90))||(decide ((k.toNat:Int)=48)&&decide ((c:Int)≥48)&&decide ((c:Int)≤57))
def wT (kinds fR:aa) (c:Nat):Bool:=kinds.any (fJ c)||fR.any (fun g=>decide ((g.toNat:Int)=(c:Int)))
theorem fs {α:Type} {l:List α} {j:Nat} {x:α} (f:α→Bool) (h:l[j]? = some x):(l.take (j+1)).any f=((l.take j).any f||f x):=by
 have bH:=(List.getElem?_eq_some_iff.1 h).1;rw [List.take_succ_eq_append_getElem bH,(List.getElem?_eq_some_iff.1 h).2,List.any_append];simp
theorem vA {q r:Nat→Bool} (h:∀ i:Fin 256,q i.val=r i.val) (b:UInt8):q b.toNat=r b.toNat:=h ⟨b.toNat,b.toNat_lt⟩
theorem N2 (b:UInt8):g' b.toNat=wT [97,48] [46,45] b.toNat:=vA (by decide +kernel) b
theorem Zk (b:UInt8):iZ b.toNat=wT [97,48] q1 b.toNat:=vA (by decide +kernel) b
theorem Zl (b:UInt8):h0 b.toNat=wT [97,65,48] [95,45] b.toNat:=vA (by decide +kernel) b
theorem aen (b:UInt8):nH b.toNat=wT [97,65,48] [95] b.toNat:=vA (by decide +kernel) b
theorem Tm (b:UInt8):sO b.toNat=wT [48] [] b.toNat:=vA (by decide +kernel) b
theorem N1 {s:aa} {i:Nat} {b:UInt8} (h:s[i]? = some b) (ay:∀ j b,j<i→s[j]? = some b→b≠58) (aQ:b=58):aH s=i:=by
 have bH:=(List.getElem?_eq_some_iff.1 h).1;unfold aH;rw [List.findIdx_eq bH];refine⟨by rw [(List.getElem?_eq_some_iff.1 h).2];simpa using aQ,fun j dY=>?_⟩;have:=ay j _ dY (List.getElem?_eq_getElem (by omega));simpa using this
theorem Hl {s:aa} (ay:∀ j b,j<s.length→s[j]? = some b→b≠58):aH s=s.length:=by
 have:=jk s;rcases Nat.lt_or_ge (aH s) s.length with h | h
 ·exfalso;have h1:(s[aH s] == 58)=true:=List.findIdx_getElem (p:=fun b=>b == 58) (w:=h);exact ay _ _ h (List.getElem?_eq_getElem h) (by simpa using h1)
 omega
section
variable {P:Program} {l:List (Nat×Value)} {w:World} {ty:TypeId} {pos:String} {af:Array Edge} {dd:Option Nat} {gg:Option (Nat×Bool)} {x y z hi:Operand} {t:TypeId}
theorem Tn {u:List UInt8} {m n:Nat} (cc:P.underlying t=some .string) (ae:a6 l x=some (S u)) (cg:a6 l y=some (.int .i64 (m:Int))) (ik:a6 l hi=some (.int .i64 (n:Int))) (aQ:m≤n∧n≤u.length):bF P l ⟨dd,.slice t x (some y) (some hi) none,ty,pos,af,gg⟩ w (S ((u.take n).drop m)) w:=
 (yZ (pl:=some (.i64,(m:Int))) (ph:=some (.i64,(n:Int))) cc ae (by simp [tE,cg]) (by simp [tE,ik]) (by simp only [hU,iz];omega)).to (by
  simp only [hU,iz,Int.toNat_natCast]
  rw [List.drop_take])
end
theorem q2 (s:aa):decide (aH s=s.length)=decide ((aH s:Int)=(s.length:Int)):=by rw [decide_eq_decide];omega
theorem q3 (s:aa):decide (s.length-aH s≤6)=decide (((s.length-aH s:Nat):Int)≤6):=by rw [decide_eq_decide];omega
theorem j1 (sign:UInt8) (q:Nat→Bool) (s:aa):fr sign q s=(decide ((s.length:Int)≤255)&&decide ((aH s:Int)<(s.length:Int))&&decide (s.head? = some sign)&&gn q ((s.take (aH s)).drop 1)&&dw (s.drop (aH s+1))):=by
 rw [fr,kc,show decide (aH s<s.length)=decide ((aH s:Int)<(s.length:Int))by rw [decide_eq_decide];omega]
theorem N3 {s:aa} {b0 sign:UInt8} (h:s[0]? = some b0):decide (s.head? = some sign)=decide ((b0.toNat:Int)=(sign.toNat:Int)):=by
 rw [List.head?_eq_getElem?,h,decide_eq_decide];constructor
 ·intro e;injection e with e;rw [e]
 intro e;rw [dt e]
theorem To {s:aa} {sign:UInt8} (Dc:sign≠58) (h:¬ (aH s:Int) > 0):decide (s.head? = some sign)=false:=by
 refine decide_eq_false fun e=>?_;have:=JP Dc e;omega
def W4 (x:UInt32):Value:=.int .u32 x.toNat
section
variable {P:Program} {l:List (Nat×Value)} {w:World} {ty:TypeId} {pos:String} {af:Array Edge}
variable {dd:Option Nat} {gg:Option (Nat×Bool)} {x y:Operand} {t t' acZ:TypeId} {a b:UInt32}
end
abbrev sF (c:UInt8):List Value:=[j2 c]
abbrev ahc (b:List UInt8):D:=flat 1 sF b
abbrev DK (x:UInt32):List Value:=[W4 x]
abbrev alw (b:List UInt32):D:=flat 1 DK b
def UK (x:UInt32) (k:Nat):UInt32:=x >>> UInt32.ofNat k ||| x <<< UInt32.ofNat (32-k)
def Xh (b:List UInt8):UInt32:=b.foldl (fun n c=>n <<< UInt32.ofNat 8 ||| c.toUInt32) 0
structure S8 where
 a:UInt32
 b:UInt32
 c:UInt32
 d:UInt32
 e:UInt32
 f:UInt32
 g:UInt32
 h:UInt32
abbrev S8.cells (s:S8):List Value:=[W4 s.a,W4 s.b,W4 s.c,W4 s.d,W4 s.e,W4 s.f,W4 s.g,W4 s.h]
def OE:List UInt32:=[
 0x428a2f98,0x71374491,0xb5c0fbcf,0xe9b5dba5,0x3956c25b,0x59f111f1,0x923f82a4,0xab1c5ed5,
 0xd807aa98,0x12835b01,0x243185be,0x550c7dc3,0x72be5d74,0x80deb1fe,0x9bdc06a7,0xc19bf174,
 0xe49b69c1,0xefbe4786,0x0fc19dc6,0x240ca1cc,0x2de92c6f,0x4a7484aa,0x5cb0a9dc,0x76f988da,
 0x983e5152,0xa831c66d,0xb00327c8,0xbf597fc7,0xc6e00bf3,0xd5a79147,0x06ca6351,0x14292967,
 0x27b70a85,0x2e1b2138,0x4d2c6dfc,0x53380d13,0x650a7354,0x766a0abb,0x81c2c92e,0x92722c85,
 0xa2bfe8a1,0xa81a664b,0xc24b8b70,0xc76c51a3,0xd192e819,0xd6990624,0xf40e3585,0x106aa070,
 0x19a4c116,0x1e376c08,0x2748774c,0x34b0bcb5,0x391c0cb3,0x4ed8aa4a,0x5b9cca4f,0x682e6ff3,
 0x748f82ee,0x78a5636f,0x84c87814,0x8cc70208,0x90befffa,0xa4506ceb,0xbef9a3f7,0xc67178f2]
def alx (x:UInt32):UInt32:=UK x 7 ^^^ UK x 18 ^^^ x >>> UInt32.ofNat 3
def aly (y:UInt32):UInt32:=UK y 17 ^^^ UK y 19 ^^^ y >>> UInt32.ofNat 10
def B8 (w:List UInt32) (i:Nat):UInt32:=w.getD i 0
def acJ (w:List UInt32) (i:Nat):UInt32:=B8 w (i-16)+alx (B8 w (i-15))+B8 w (i-7)+aly (B8 w (i-2))
def acK (b:List UInt8):Nat→List UInt32
 | 0=>[]
 | i+1=>acK b i ++ [if i<16 then Xh ((b.drop (4*i)).take 4)else acJ (acK b i) i]
def aao (k w:UInt32) (s:S8):UInt32:=s.h+(UK s.e 6 ^^^ UK s.e 11 ^^^ UK s.e 25)+(s.e &&& s.f ^^^ ~~~s.e &&& s.g)+k+w
def ahe (s:S8):UInt32:=UK s.a 2 ^^^ UK s.a 13 ^^^ UK s.a 22
def ahf (s:S8):UInt32:=s.a &&& s.b ^^^ s.a &&& s.c ^^^ s.b &&& s.c
def alz (k w:UInt32) (s:S8):S8:=⟨aao k w s+(ahe s+ahf s),s.a,s.b,s.c,s.d+aao k w s,s.e,s.f,s.g⟩
def aap (ae1 ws:List UInt32) (s:S8):Nat→S8
 | 0=>s
 | i+1=>alz (B8 ae1 i) (B8 ws i) (aap ae1 ws s i)
def S8.add (s t:S8):S8:=⟨s.a+t.a,s.b+t.b,s.c+t.c,s.d+t.d,s.e+t.e,s.f+t.f,s.g+t.g,s.h+t.h⟩
def comp (s:S8) (b:List UInt8):S8:=s.add (aap OE (acK b 64) s 64)
abbrev S8.list (s:S8):List UInt32:=[s.a,s.b,s.c,s.d,s.e,s.f,s.g,s.h]
theorem IZ {xs:List UInt32}:∀ x∈xs,∀ c∈DK x,c.oneCell'=true:=by
 intro x _ c bh;simp at bh;subst bh;rfl
theorem Own.words {w:World} {e n:Nat} {v:Value} {xs:List UInt32} (h:Own w e 1 v n ((xs.map DK).flatten)) (cj:xs.length=n):a8 [] w (alw xs) v:=Own.flat h (fun _ _=>rfl) IZ cj (by simp)
theorem aE.c1 {w:World} {g T i:Nat} {cs:List Value} {v:Value} (h:aE w g T cs) (hi:cs[i]? = some v):w.cell? ⟨g,0+i*1,none⟩=some v:=by
 rw [Nat.zero_add,Nat.mul_one];exact h.cell hi
theorem q7.c1 {w:World} {g i:Nat} {cs:List Value} {v:Value} (h:q7 w ⟨g,0,none⟩ cs) (hi:cs[i]? = some v):w.cell? ⟨g,0+i*1,none⟩=some v:=by
 have:=h i v hi;rw [Addr.add_lit] at this;rw [Nat.mul_one];exact this
section
variable {P:Program} {ops:Array Oper} {Q:Exit→Act→World→Prop} {n:Nat} {ds:List Deferred} {l:List (Nat×Value)} {w w':World}
variable {rest:List Oper} {ty:TypeId} {pos:String} {af:Array Edge} {x y:Operand} {t:TypeId}
end
theorem I0 {b:List UInt8}:∀ x∈b,∀ c∈sF x,c.oneCell'=true:=by
 intro x _ c bh;simp at bh;subst bh;rfl
theorem Own.ahd {w:World} {e n:Nat} {v:Value} {b:List UInt8} (A:List Nat) (h:Own w e 1 v n ((b.map sF).flatten)) (cj:b.length=n) (dD:∀ x∈aY v,x∉A):a8 A w (ahc b) v:=Own.flat h (fun _ _=>rfl) I0 cj dD
theorem Own.as {w:World} {e sz m n:Nat} {v:Value} {us vs:List Value} (h:Own w e sz v n vs) (hm:n=m) (bK:vs=us):Own w e sz v m us:=by
 subst hm;subst bK;exact h
def ahg (n i:Nat):UInt8:=UInt8.ofNat (n*8 / 256 ^ i)
def lens (n k:Nat):List UInt8:=(List.range k).map fun i=>ahg n (7-i)
def s5 (x:UInt32) (j:Nat):UInt8:=(x >>> UInt32.ofNat (8*j)).toUInt8
section
variable {P:Program} {l:List (Nat×Value)} {w:World} {ty:TypeId} {pos:String} {af:Array Edge}
variable {dd:Option Nat} {gg:Option (Nat×Bool)} {x y:Operand} {t:TypeId}
theorem UP {ad:Option Addr} {c c' e sz fZ lo hi:Nat} {h fh:Operand} (cc:ly P t e sz fZ=true) (ae:a6 l x=some (.slice ad c c')) (cg:a6 l h=some (.int .i64 (lo:Int))) (ik:a6 l fh=some (.int .i64 (hi:Int))) (aQ:lo≤hi∧hi≤c') (bh:c≤c') :
  bF P l ⟨dd,.slice t x (some h) (some fh) none,ty,pos,af,gg⟩ w (.slice (lY ad c' lo sz) (hi-lo) (c'-lo)) w:=by
 have:=FZ (P:=P) (w:=w) (dd:=dd) (ty:=ty) (pos:=pos) (af:=af) (gg:=gg) cc ae (lo:=some h) (pl:=some (.i64,(lo:Int))) (hi:=some fh) (ph:=some (.i64,(hi:Int))) (by simp [tE,cg]) (by simp [tE,ik]) (by simp only [hU,iz];omega) bh
 refine this.to ?_
 simp [hU,iz]
end
theorem Own.block {w:World} {e c i:Nat} {ad:Option Addr} {t:List UInt8} (h:Own w e 1 (.slice ad t.length c) t.length ((t.map sF).flatten)) (hi:64*i+64≤t.length):a8 [] w (ahc ((t.drop (64*i)).take 64)) (.slice (lY ad c (64*i) 1) (64*i+64-64*i) (c-64*i)):=by
 have h1:=h.cut (lo:=64*i) (hi:=64*i+64) (by omega) hi;have aq:=F' (cells:=sF) (sz:=1) (xs:=t) (fun _=>rfl) (64*i);have aT:=Ga (cells:=sF) (sz:=1) (xs:=t.drop (64*i)) (fun _=>rfl) (64*i+64-64*i);rw [aq,aT] at h1;have bL:64*i+64-64*i=64:=by omega
 rw [bL] at h1 ⊢;exact Own.ahd [] h1 (by rw [List.length_take,List.length_drop];omega) (by simp)
section
variable {P:Program} {l:List (Nat×Value)} {w:World} {ty:TypeId} {pos:String} {af:Array Edge}
variable {dd:Option Nat} {gg:Option (Nat×Bool)} {x y:Operand} {t t':TypeId}
variable {ops:Array Oper} {Q:Exit→Act→World→Prop} {n:Nat} {ds:List Deferred} {rest:List Oper} {d:Nat}
end
section
variable {P:Program} {ops:Array Oper} {Q:Exit→Act→World→Prop} {n:Nat} {ds:List Deferred} {l:List (Nat×Value)} {w w':World}
variable {rest:List Oper} {ty:TypeId} {pos:String} {af:Array Edge} {x y:Operand}
theorem B7 {e N c i:Nat} {ad:Addr} {vs:List Value} {u:Value} {T:TypeId} (cc:nL P T=true) (O:Own w e 1 (.slice (some ad) N c) N vs) (ae:a6 l x=some (.pointer (some (ad.add (i*1))))) (aZ:a6 l y=some u) (wz:u.oneCell'=true) (hi:i<N)
  (h:∀ w',Own w' e 1 (.slice (some ad) N c) N (vs.set i u)→Mod [ad.block] w w'→w'.heap.size=w.heap.size→ga P ops Q rest n ds l w') :
  ga P ops Q (⟨none,.store T x y,ty,pos,af,none⟩::rest) n ds l w:=by
 rcases O.2 with⟨b3,_⟩ | ⟨g,o,cap,cs,bK,ef,fA,gB,rY,pQ⟩
 ·cases b3
 injection bK with bk bZ kO
 injection bk with bk
 subst bk;subst kO
 have nq:=O.1
 rw [Addr.add_lit,Nat.mul_one] at ae
 refine dZ cc ef ae aZ wz (by omega) fun w' cn=>?_
 refine h w' ⟨by simp [nq],.inr ⟨g,o,c,_,rfl,cn.aA,fA,gB,by simp;omega,?_⟩⟩ cn.mod cn.size
 subst pQ
 apply List.ext_getElem?
 intro j
 simp only [List.getElem?_take,List.getElem?_drop,List.getElem?_set,List.length_take,List.length_drop]
 repeat' split
 all_goals first
  | omega
  | rfl
  | skip
end
def N6 (url:Bool) (c:Nat):Bool:=(decide ((c:Int)=43) && !url)||(decide ((c:Int)=45)&&url)
def N7 (url:Bool) (c:Nat):Bool:=(decide ((c:Int)=47) && !url)||(decide ((c:Int)=95)&&url)
def nZ (url:Bool) (c:Nat):Option Nat:=
 if Bp c=true then some (c-65)else if wR c=true then some (c-97+26)else if sO c=true then some (c-48+52)else if N6 url c=true then some 62 else if N7 url c=true then some 63 else none
def pK (url:Bool) (n:Nat):Nat:=if n<26 then 65+n else if n<52 then 97+(n-26)else if n<62 then 48+(n-52)else if url=true then (if n=62 then 45 else 95)else if n=62 then 43 else 47
theorem JE (url:Bool) (c:Nat) (h:128≤c):nZ url c=none:=by
 unfold nZ Bp wR sO N6 N7;simp only [Bool.or_eq_true,Bool.and_eq_true,decide_eq_true_eq];rw [if_neg (by omega),if_neg (by omega),if_neg (by omega),if_neg (by omega),if_neg (by omega)]
theorem An {url:Bool} {c x:Nat} (h:nZ url c=some x):x<64:=by
 unfold nZ Bp wR sO at h;simp only [Bool.and_eq_true,decide_eq_true_eq] at h
 split at h
 ·injection h with h;omega
 split at h
 ·injection h with h;omega
 split at h
 ·injection h with h;omega
 split at h
 ·injection h with h;omega
 split at h
 ·injection h with h;omega
 cases h
theorem TR:∀ url:Bool,∀ b:Fin 128,∀ x,nZ url b.val=some x→pK url x=b.val:=by
 have:∀ url:Bool,∀ b:Fin 128,(match nZ url b.val with | some x=>pK url x == b.val | none=>true)=true:=by decide +kernel
 intro url b x h;have:=this url b;rw [h] at this;simpa using this
theorem TT:∀ url:Bool,∀ x:Fin 64,nZ url (pK url x.val)=some x.val:=by decide +kernel
theorem Tv {url:Bool} {b n:Nat} (cj:n<64) (h:pK url n=b):nZ url b=some n:=by
 rw [← h];exact TT url ⟨n,cj⟩
theorem Es {url:Bool} {b:Nat} (h:∀ y,y<64→pK url y≠b):nZ url b=none:=by
 cases ae:nZ url b with
 | none=>rfl
 | some x=>
  exfalso;have aQ:b<128:=by
   rcases Nat.lt_or_ge b 128 with h1 | h1
   ·exact h1
   rw [JE url b h1] at ae;cases ae
  exact h x (An ae) (TR url ⟨b,aQ⟩ x ae)
def lu (k:Nat):Nat:=if k % 4=0 then 1 else if k % 4=1 then 64 else if k % 4=2 then 16 else 4
def rest (url:Bool) (s:aa) (k:Nat):Nat:=match k with
 | 0=>0
 | k+1=>((nZ url ((s.getD k 0).toNat)).getD 0) % lu (k+1)
def fS (url:Bool) (s:aa):Bool:=s.all (fun b=>(nZ url b.toNat).isSome) && !decide (((6*s.length % 8:Nat):Int)≥6) && !decide ((rest url s s.length:Int)≠0)
theorem q4 {url:Bool} {s:aa} {k x:Nat} {b:UInt8} (h:s[k]? = some b) (ae:nZ url b.toNat=some x):rest url s (k+1)=x % lu (k+1):=by
 show((nZ url ((s.getD k 0).toNat)).getD 0) % lu (k+1)=_;rw [List.getD_eq_getElem?_getD,h];simp [ae]
theorem LB (k:Nat):0<lu k:=by
 unfold lu
 repeat' split
 all_goals omega
theorem Tt (k:Nat):lu k≤64:=by
 unfold lu
 repeat' split
 all_goals omega
theorem Ts (url:Bool) (s:aa) (k:Nat):rest url s k<64:=by
 cases k with
 | zero=>show 0<64;omega
 | succ k=>
  have h1:rest url s (k+1)<lu (k+1):=Nat.mod_lt _ (LB _);have:=Tt (k+1);omega
theorem JD {url:Bool} {s:aa} {k:Nat} (h:k % 4=0):rest url s k=0:=by
 cases k with
 | zero=>rfl
 | succ k=>
  show _ % lu (k+1)=0;have:lu (k+1)=1:=by unfold lu;rw [if_pos h]
  rw [this,Nat.mod_one]
theorem yk {url:Bool} {s:aa} {k:Nat} {b:UInt8} (h:s[k]? = some b) (aQ:nZ url b.toNat=none):fS url s=false:=by
 unfold fS;have:s.all (fun b=>(nZ url b.toNat).isSome)=false:=by
  rw [List.all_eq_false];exact⟨b,List.mem_of_getElem? h,by simp [aQ]⟩
 rw [this];rfl
/-! ### the words -/
theorem aiA {h x:Nat} (ik:h<64) (ae:x<64):IntKind.u64.wrap (BitVec.ofInt IntKind.u64.bits ((h*64:Nat):Int) ||| BitVec.ofInt IntKind.u64.bits (x:Int)).toNat=((h*64+x:Nat):Int):=by
 have:∀ h x:Fin 64,IntKind.u64.wrap (BitVec.ofInt IntKind.u64.bits ((h.val*64:Nat):Int) ||| BitVec.ofInt IntKind.u64.bits (x.val:Int)).toNat=((h.val*64+x.val:Nat):Int):=by decide +kernel
 exact this ⟨h,ik⟩ ⟨x,ae⟩
theorem aeq {m:Nat} (hm:m<4096) {q:Nat} (e2:q=1∨q=4∨q=16∨q=64):IntKind.u64.wrap (BitVec.ofInt IntKind.u64.bits (m:Int) &&& BitVec.ofInt IntKind.u64.bits ((q-1:Nat):Int)).toNat=((m % q:Nat):Int):=by
 have bk:∀ z:Nat,z<4096→BitVec.ofInt IntKind.u64.bits (z:Int)=BitVec.ofNat 64 z:=fun z _=>rfl;rw [bk m hm,bk (q-1) (by omega)];have aq:((BitVec.ofNat 64 m &&& BitVec.ofNat 64 (q-1)).toNat)=m % q:=by
  rw [BitVec.toNat_and,BitVec.toNat_ofNat,BitVec.toNat_ofNat,Nat.mod_eq_of_lt (by omega),Nat.mod_eq_of_lt (by omega)];rcases e2 with rfl | rfl | rfl | rfl
  ·simp [Nat.mod_one]
  ·exact Nat.and_two_pow_sub_one_eq_mod m 2
  ·exact Nat.and_two_pow_sub_one_eq_mod m 4
  exact Nat.and_two_pow_sub_one_eq_mod m 6
 have:m % q≤m:=Nat.mod_le _ _;refine(congrArg (fun n:Nat=>IntKind.u64.wrap (n:Int)) aq).trans ?_;show((m % q:Nat):Int) % 18446744073709551616=_;exact Int.emod_eq_of_lt (by omega) (by omega)
theorem Tu (k:Nat):lu k=1∨lu k=4∨lu k=16∨lu k=64:=by
 unfold lu
 repeat' split
 all_goals simp
theorem Zp (h x k:Nat):(h*64+x) % lu k=x % lu k:=by
 rcases Tu k with e | e | e | e <;> rw [e] <;> omega
theorem sh (z:Int) (h : -2147483648≤z∧z≤2147483647):IntKind.i32.wrap z=z:=by
 rw [IntKind.wrap_i32 z];omega
theorem aiz {h:Nat} (ik:h<64):IntKind.u64.wrap ((h:Int)*2 ^ (min (6:Int).toNat IntKind.u64.bits))=((h*64:Nat):Int):=by
 have:(2:Int) ^ (min (6:Int).toNat IntKind.u64.bits)=64:=by decide
 rw [this,fy _ (by omega)];omega
theorem Zo {k m:Nat} (hm:m=6*k % 8):IntKind.u64.wrap ((1:Int)*2 ^ (min (m:Int).toNat IntKind.u64.bits))=(lu k:Int):=by
 have bL:k % 4=0∨k % 4=1∨k % 4=2∨k % 4=3:=by omega
 rcases bL with h | h | h | h
 ·obtain rfl:m=0:=by omega
  unfold lu;rw [if_pos h];decide
 ·obtain rfl:m=6:=by omega
  unfold lu;rw [if_neg (by omega),if_pos h];decide
 ·obtain rfl:m=4:=by omega
  unfold lu;rw [if_neg (by omega),if_neg (by omega),if_pos h];decide
 obtain rfl:m=2:=by omega
 unfold lu;rw [if_neg (by omega),if_neg (by omega),if_neg (by omega)];decide
theorem T1 (z:Int):∃ c:UInt8,IntKind.u8.wrap z=(c.toNat:Int):=by
 have h1:IntKind.u8.wrap z=z % 256:=rfl;refine⟨UInt8.ofNat (z % 256).toNat,?_⟩;rw [h1,UInt8.toNat_ofNat_of_lt' (by have:(z % 256).toNat<256:=(by omega);exact this)];omega
theorem N8 {w:World} {v:Value} {nE:aa} {n:Nat} {z:Int} (h:Own w 5 1 v n ((nE.map uw).flatten ++ [.int .u8 (IntKind.u8.wrap z)])) (cj:n=nE.length+1):∃ Zn,hI w v (nE ++ [Zn]):=by
 obtain⟨c,bh⟩:=T1 z;refine⟨c,h.same (by rw [cj];simp) ?_⟩;rw [bh];simp [dh,j2]
theorem Hq {w:World} {v:Value} {nE:aa} {n i:Nat} {z:Int} (h:Own w 5 1 v n (((nE.map uw).flatten).set i (.int .u8 (IntKind.u8.wrap z)))):∃ Zn,Own w 5 1 v n (((nE.set i Zn).map uw).flatten):=by
 obtain⟨c,bh⟩:=T1 z;refine⟨c,h.same rfl ?_⟩;rw [bh,dh,dh,List.map_set];rfl
theorem LD {w:World} {ad:Addr} {nE:aa} {n m i:Nat} {b:UInt8} (h:Own w 5 1 (.slice (some ad) n m) n ((nE.map uw).flatten)) (aQ:nE[i]? = some b):w.cell? (ad.add (i*1))=some (.int .u8 (b.toNat:Int)):=by
 rw [Nat.mul_one];refine h.cs i _ ?_;rw [dh,List.getElem?_map,aQ];rfl
theorem aaR {m:Nat} (h:m<64):IntKind.i64.wrap (BitVec.ofInt IntKind.i64.bits (m:Int) &&& BitVec.ofInt IntKind.i64.bits 1).toNat=((m % 2:Nat):Int):=by
 have:∀ m:Fin 64,IntKind.i64.wrap (BitVec.ofInt IntKind.i64.bits (m.val:Int) &&& BitVec.ofInt IntKind.i64.bits 1).toNat=((m.val % 2:Nat):Int):=by decide +kernel
 exact this ⟨m,h⟩
theorem Tw {n e:Nat} (he:e≤63):(n:Int).fdiv (2 ^ (min (e:Int).toNat IntKind.i64.bits))=((n / 2 ^ e:Nat):Int):=by
 have h1:min (e:Int).toNat IntKind.i64.bits=e:=by
  show min e 64=e;omega
 rw [h1,Int.fdiv_eq_ediv_of_nonneg _ (by exact_mod_cast Nat.zero_le (2 ^ e)),Int.natCast_ediv]
 norm_cast
theorem JR {n q:Nat} (cj:n<64):∀ k,k % 4=q→(∀ j,j<6*k % 8→n / 2 ^ j % 2=0)→n % lu k=0:=by
 intro k hk h;have bL:k % 4=0∨k % 4=1∨k % 4=2∨k % 4=3:=by omega
 unfold lu;rcases bL with cN | cN | cN | cN
 ·rw [if_pos cN,Nat.mod_one]
 ·rw [if_neg (by omega),if_pos cN];have a0:=h 0 (by omega);have p8:=h 1 (by omega);have a2:=h 2 (by omega);have a3:=h 3 (by omega);have a4:=h 4 (by omega);have a5:=h 5 (by omega);simp only [Nat.pow_zero,Nat.pow_succ,Nat.pow_one,Nat.div_one,Nat.one_mul,Nat.reduceMul] at a0 p8 a2 a3 a4 a5;omega
 ·rw [if_neg (by omega),if_neg (by omega),if_pos cN];have a0:=h 0 (by omega);have p8:=h 1 (by omega);have a2:=h 2 (by omega);have a3:=h 3 (by omega);simp only [Nat.pow_zero,Nat.pow_succ,Nat.pow_one,Nat.div_one,Nat.one_mul,Nat.reduceMul] at a0 p8 a2 a3;omega
 rw [if_neg (by omega),if_neg (by omega),if_neg (by omega)];have a0:=h 0 (by omega);have p8:=h 1 (by omega);simp only [Nat.pow_zero,Nat.pow_succ,Nat.pow_one,Nat.div_one,Nat.one_mul,Nat.reduceMul] at a0 p8;omega
theorem T2 {n k j:Nat} (dY:j<6*k % 8) (h:n / 2 ^ j % 2≠0):n % lu k≠0:=by
 intro di;have bL:k % 4=0∨k % 4=1∨k % 4=2∨k % 4=3:=by omega
 have ari:j<6:=by omega
 unfold lu at di;rcases bL with cN | cN | cN | cN
 ·omega
 ·rw [if_neg (by omega),if_pos cN] at di;have:j=0∨j=1∨j=2∨j=3∨j=4∨j=5:=by omega
  rcases this with rfl | rfl | rfl | rfl | rfl | rfl <;> simp only [Nat.pow_zero,Nat.pow_succ,Nat.pow_one,Nat.div_one,Nat.one_mul,Nat.reduceMul] at h <;> omega
 ·rw [if_neg (by omega),if_neg (by omega),if_pos cN] at di;have:j=0∨j=1∨j=2∨j=3:=by omega
  rcases this with rfl | rfl | rfl | rfl <;> simp only [Nat.pow_zero,Nat.pow_succ,Nat.pow_one,Nat.div_one,Nat.one_mul,Nat.reduceMul] at h <;> omega
 rw [if_neg (by omega),if_neg (by omega),if_neg (by omega)] at di;have:j=0∨j=1:=by omega
 rcases this with rfl | rfl <;> simp only [Nat.pow_zero,Nat.pow_succ,Nat.pow_one,Nat.div_one,Nat.one_mul,Nat.reduceMul] at h <;> omega
theorem Oc {url:Bool} {s:aa} (h:rest url s s.length≠0):fS url s=false:=by
 unfold fS;rw [show decide ((rest url s s.length:Int)≠0)=true from decide_eq_true (by omega)];simp
theorem Aq {url:Bool} {s:aa} {i n:Nat} {b:UInt8} (aQ:s[i]? = some b) (cj:nZ url b.toNat=some n) (di:∀ k,k<6→8*(s.length*6 / 8)≤6*i+k→n / 2 ^ (5-k) % 2=0):i+1=s.length→rest url s (i+1)=0:=by
 intro hi;rw [q4 aQ cj];refine JR (An cj) (i+1) rfl fun j dY=>?_;have:=di (5-j) (by omega) (by omega)
 rwa [show 5-(5-j)=j by omega] at this
theorem CF {url:Bool} {s:aa} {i n k:Nat} {b:UInt8} (aQ:s[i]? = some b) (cj:nZ url b.toNat=some n) (hk:k<6) (kt:s.length*6 / 8≤(6*i+k) / 8) (di:n / 2 ^ (5-k) % 2≠0):fS url s=false:=by
 have bH:=(List.getElem?_eq_some_iff.1 aQ).1;have hi:i+1=s.length:=by omega
 refine Oc ?_;rw [← hi,q4 aQ cj];exact T2 (j:=5-k) (by omega) di
def nf (w w':World) (url:Bool) (s:aa) (u:Value):Prop:=∃ v nE o,u = .tuple #[v,.bool o]∧o=fS url s∧hI w' v nE∧nE.length=(if fS url s=true then s.length*6 / 8 else 0)∧∀ x∈aY v,w.heap.size≤x
theorem nf.no {w w':World} {url:Bool} {s:aa} (h:fS url s=false):nf w w' url s (.tuple #[.slice none 0 0,.bool false]):=⟨_,[],_,rfl,h.symm,Own.nil _ 5 1,by rw [h];rfl,by simp [aY]⟩
theorem nf.yes {w w':World} {url:Bool} {s nE:aa} {v:Value} (h:fS url s=true) (O:hI w' v nE) (cg:nE.length=s.length*6 / 8) (L:∀ x∈aY v,w.heap.size≤x):nf w w' url s (.tuple #[v,.bool true]):=⟨_,nE,_,rfl,h.symm,O,by rw [h,cg];rfl,L⟩
def dn (s:aa):Bool:=decide (s.head? = some 36)&&fS true (s.drop 1)&&decide ((s.drop 1).length*6 / 8=32)
def eO (s:aa) (n:Nat):Bool:=fS false s&&decide (s.length*6 / 8=n)
theorem IY {xs:List fz}:∀ x∈xs,∀ c∈fz.cells x,c.oneCell'=true:=by
 intro x _ c bh;simp at bh;rcases bh with rfl | rfl <;> rfl
theorem Own.pairs {w:World} {e:Nat} {v:Value} {xs:List fz} (A:List Nat) (h:Own w e 2 v xs.length ((xs.map fz.cells).flatten)) (dD:∀ x∈aY v,x∉A):a8 A w (Kw xs) v:=Own.flat h (fun _ _=>rfl) IY rfl dD
def ahb (x:fz) (S:List fz):List fz:=S.filter (fun y=>!PU x y) ++ [x]++S.filter (fun y=>PU x y)
def Wz (xs:List fz) (k:Nat):List fz:=(xs.take k).foldl (fun S x=>ahb x S) []
def Wy:aa:=[109,46,114,111,111,109,46,99,114,101,97,116,101]
def alv:aa:=[109,46,114,111,111,109,46,112,111,119,101,114,95,108,101,118,101,108,115]
def Wx:aa:=[109,46,114,111,111,109,46,109,101,109,98,101,114]
def akG (snd:aa):List fz:=[⟨Wy,[]⟩,⟨alv,[]⟩,⟨Wx,snd⟩]
section
variable {P:Program} {A:List Nat} {w:World}
theorem cZ.a' {sz:Nat} {ad:Addr}:∀ (i:Nat) (rws:List (List D)),cZ A w sz ad i rws→∃ vs,ao A w rws.flatten vs∧vs.length=rws.length*sz∧∀ j u,vs[j]? = some u→w.cell? (ad.add (i*sz+j))=some u
 | _,[],_=>⟨[],rfl,by simp,fun j u hu=>by simp at hu⟩
 | i,r::rs,ik=>by
  simp only [cZ] at ik
  obtain⟨cg,xk,gY⟩:=ik
  obtain⟨us,I2,jo⟩:=xk.cells
  obtain⟨vs,yz,DL,I3⟩:=cZ.a' (i+1) rs gY
  refine⟨us++vs,by simp only [List.flatten_cons];exact I2.append yz,by simp [I2.length,cg,DL,Nat.add_mul];omega,fun j u dY=>?_⟩
  rw [List.getElem?_append] at dY
  have zw:us.length=sz:=by rw [I2.length,cg]
  split at dY
  ·have:=jo j u dY
   rwa [Nat.zero_add,Addr.add_add] at this
  rename_i eG
  have:=I3 _ u dY
  rwa [show(i+1)*sz+(j-us.length)=i*sz+j by rw [Nat.add_mul,zw];rw [zw] at eG;omega] at this
theorem Src.ZU {qQ w6 sz:Nat} {rows:List (List D)} {v:Value} (hk:P.underlying qQ=some (.slice w6)) (h:a8 A w (.ia sz rows) v):∃ vs,ao A w rows.flatten vs∧vs.length=rows.length*sz∧∀ w',Mod [] w w'→Src P sz qQ v rows.length vs w':=by
 cases tV:rows with
 | nil=>
  subst tV;simp only [a8] at h;obtain⟨ad,c,rfl,aq,aT,bL⟩:=h;refine⟨[],rfl,by simp,fun w' _=>?_⟩;cases ad with
  | none=>exact Src.ofNil w' hk c
  | some ad=>exact Src.ofSlice w' hk ad 0 c [] (by simp) (fun j u hu=>by simp at hu) (fun u hu=>by cases hu)
 | cons Z0 rs=>
  rw [← tV];simp only [a8] at h;obtain⟨ad,c,rfl,aq,aT,bL⟩:=h;obtain⟨ad,rfl,dD,aQ,bl⟩:=bL (by simp [tV]);obtain⟨vs,yz,DL,I3⟩:=cZ.a' 0 rows bl;have hF:q7 w ad vs:=fun j u hu=>by have:=I3 j u hu;rwa [Nat.zero_mul,Nat.zero_add] at this
  exact⟨vs,yz,DL,fun w' k=>Src.ofSlice w' hk ad _ c vs DL (hF.I k) yz.one⟩
end
theorem JV.H2 {A:List Nat} {w:World} {m:List (aa×JV)} {y:aa×JV} {x:JV} {vs us:List Value} {i:Nat} (h:ao A w (m.map JV.hP).flatten vs) (aZ:m[i]? = some y) (ae:ao A w x.D us) :
  ao A w ((m.set i (y.1,x)).map JV.hP).flatten (vs.take (i*7+1)++us++vs.drop (i*7+1+6)):=by
 have hi:=(List.getElem?_eq_some_iff.1 aZ).1
 have h1:=JV.Nd (p:=(y.1,x)) h hi (JV.du (p:=(y.1,x)) ae)
 have aq:=ao.qR (JV.qP m) h i (JV.hP y) (by simp [aZ])
 obtain⟨u,gd,he,aT,_⟩:=aq
 obtain rfl:=aT.l3
 have bL:vs[i*7]? = some (S y.1):=by
  have:=congrArg (fun l=>l[0]?) he
  simpa [List.getElem?_take,List.getElem?_drop] using this
 have cN:vs.take (i*7+1)=vs.take (i*7) ++ [S y.1]:=by rw [List.take_add_one,bL];rfl
 rw [cN,show i*7+1+6=(i+1)*7 by omega]
 simpa using h1
theorem JV.kQ {A:List Nat} {w:World} {m:List (aa×JV)} {am:Option Addr} {cm n:Nat} (cj:m.length=n) (arZ:a8 A w (.ia 7 (m.map JV.hP)) (.slice am n cm)):ao A w (JV.obj m).D [.int .i64 5,.bool false,.int .i64 0,S [],.slice none 0 0,.slice am n cm]:=by
 subst cj;exact JV.sx arZ
theorem JV.p4 (m:List (aa×JV)):(JV.obj m).eS=m:=by simp [JV.eS,JV.obj,JV.kind,JV.map]
theorem wA {β:Type} {m:List (aa×β)} {k:aa} {x:β} (h:en m):(dA m k x).length≤m.length+1:=by
 have key:∀ {r:List (aa×β)},(r.filter fun p=>eQ p.1 k).length+(r.filter fun p=>eQ k p.1).length≤r.length:=by
  intro r
  induction r with
  | nil=>simp
  | cons p r dF=>
   by_cases h1:eQ p.1 k=true
   ·have aq:=ji h1;simp [h1,aq];omega
   by_cases aq:eQ k p.1=true
   ·simp [h1,aq];omega
   simp [h1,aq];omega
 have:=key (r:=m);simp only [dA,List.length_append,List.length_singleton];omega
def e0 (m:List (aa×JV)) (k:Nat):List (aa×JV):=(m.take k).foldl (fun a p=>dA a p.1 p.2) []
theorem uo (m:List (aa×JV)):e0 m 0 = []:=by simp [e0]
theorem qy {m:List (aa×JV)} {k:Nat} {p:aa×JV} (h:m[k]? = some p):e0 m (k+1)=dA (e0 m k) p.1 p.2:=by
 have bH:=(List.getElem?_eq_some_iff.1 h).1;rw [e0,List.take_succ_eq_append_getElem bH,(List.getElem?_eq_some_iff.1 h).2,List.foldl_append];rfl
theorem w3 (m:List (aa×JV)) (k:Nat):en (e0 m k):=by
 unfold e0;generalize m.take k=l;suffices ∀ (l a:List (aa×JV)),en a→en (l.foldl (fun a p=>dA a p.1 p.2) a) from this l [] List.Pairwise.nil;intro l
 induction l with
 | nil=>intro a h;exact h
 | cons p r dF=>intro a h;exact dF _ (qd h)
theorem EY (m:List (aa×JV)) (k:Nat):(e0 m k).length≤k:=by
 induction k with
 | zero=>simp [e0]
 | succ k dF=>
  rcases Nat.lt_or_ge k m.length with h | h
  ·rw [qy (List.getElem?_eq_getElem h)];have:=wA (k:=(m[k]).1) (x:=(m[k]).2) (w3 m k);omega
  have:e0 m (k+1)=e0 m k:=by rw [e0,e0,List.take_of_length_le h,List.take_of_length_le (by omega)]
  rw [this];omega
abbrev Ri:aa:=[109,46,114,111,111,109,46,99,114,101,97,116,101]
abbrev DM:aa:=[116,104,105,114,100,95,112,97,114,116,121,95,105,110,118,105,116,101]
abbrev uY:aa:=[115,105,103,110,101,100]
abbrev wB:aa:=[109,46,114,111,111,109,46,109,101,109,98,101,114]
abbrev Nf:List aa:=[[106,111,105,110,95,97,117,116,104,111,114,105,115,101,100,95,118,105,97,95,117,115,101,114,115,95,115,101,114,118,101,114],[109,101,109,98,101,114,115,104,105,112]]
abbrev Bd:aa:=[109,46,114,111,111,109,46,106,111,105,110,95,114,117,108,101,115]
abbrev Be:List aa:=[[97,108,108,111,119],[106,111,105,110,95,114,117,108,101]]
abbrev xL:aa:=[109,46,114,111,111,109,46,112,111,119,101,114,95,108,101,118,101,108,115]
abbrev xM:List aa:=[[98,97,110],[101,118,101,110,116,115],[101,118,101,110,116,115,95,100,101,102,97,117,108,116],[105,110,118,105,116,101],[107,105,99,107],[114,101,100,97,99,116],[115,116,97,116,101,95,100,101,102,97,117,108,116],[117,115,101,114,115],[117,115,101,114,115,95,100,101,102,97,117,108,116]]
abbrev rv:aa:=[109,46,114,111,111,109,46,104,105,115,116,111,114,121,95,118,105,115,105,98,105,108,105,116,121]
abbrev ry:List aa:=[[104,105,115,116,111,114,121,95,118,105,115,105,98,105,108,105,116,121]]
abbrev DN:aa:=[109,46,114,111,111,109,46,114,101,100,97,99,116,105,111,110]
abbrev DO:List aa:=[[114,101,100,97,99,116,115]]
def DP (kind:aa):List aa:=
 if kind=wB then Nf else
 if kind=Bd then Be else
 if kind=xL then xM else
 if kind=rv then ry else
 if kind=DN then DO else
 []
namespace JV
def ahh (v:JV) (acc:List (aa×JV)) (k:aa):List (aa×JV):=match v.get k with
 | some x=>dA acc k x
 | none=>acc
def tc (v:JV) (K:List aa):List (aa×JV):=K.foldl (ahh v) []
def acL (v:JV):JV:=(v.get DM).getD gN
def Ng (kind:aa) (v:JV):List (aa×JV):=match v.acL.get uY with
 | some y=>if kind=wB then dA (v.tc (DP kind)) DM (obj [(uY,y)])else v.tc (DP kind)
 | none=>v.tc (DP kind)
def content (kind:aa) (v:JV):JV:=if kind=Ri then v else obj (Ng kind v)
def Rj (kind:aa) (p:aa×JV):Option (aa×JV):=if p.1∈DP kind then some p else none
def stay (kind:aa) (p:aa×JV):Option (aa×JV):=
 if p.1=DM∧kind=wB∧p.2.kind=5 then match look p.2.map uY with
  | some y=>some (p.1,obj [(uY,y)])
  | none=>Rj kind p
 else Rj kind p
end JV
section
variable {β:Type}
end
namespace JV
end JV
theorem Nh {A:List Nat} {w:World} {g e:Nat} {xs:List aa} (B:aE w g e (xs.map S)) (cg:xs.length≤1000) (dD:g∉A):a8 A w (mQ xs) (.slice (some ⟨g,0,none⟩) xs.length xs.length):=by
 have dK:∀ I4:List aa,(I4.map fun s=>[S s]).flatten=I4.map S:=fun I4=>by
  induction I4 with
  | nil=>rfl
  | cons a r dF=>simp [dF]
 have O:Own w e 1 (.slice (some ⟨g,0,none⟩) xs.length xs.length) xs.length ((xs.map fun s=>[S s]).flatten):=by
  rw [dK];exact Own.all B (by simp) (by omega)
 exact Own.flat O (fun _ _=>rfl) (fun x _ c bh=>by simp at bh;subst bh;rfl) rfl (by simpa [aY] using dD)
theorem abf (a b:aa):(!(eQ a b||a == b))=eQ b a:=by
 rcases mb a b with h | h | h
 ·rw [h,ji h];rfl
 ·subst h;simp [dc]
 rw [h,ji h];have bY:(a == b)=false:=by
  cases he:a == b with
  | false=>rfl
  | true=>have:=eq_of_beq he;subst this;rw [dc] at h;cases h
 simp [bY]
theorem uq {β:Type} {k:aa}:∀ {r:List (aa×β)},(r.filter fun p=>eQ p.1 k).length+(r.filter fun p=>eQ k p.1).length≤r.length
 | []=>by simp
 | p::r=>by
  have dF:=uq (k:=k) (r:=r)
  by_cases h1:eQ p.1 k=true
  ·have aq:=ji h1
   simp [h1,aq]
   omega
  by_cases aq:eQ k p.1=true
  ·simp [h1,aq]
   omega
  simp [h1,aq]
  omega
theorem n0 {β:Type} {q:aa×β→Bool} {m:List (aa×β)} {k:Nat}:((m.take k).filter q).length≤(m.filter q).length:=((List.take_sublist k m).filter q).length_le
def abG:aa:=[109,46,114,111,111,109,46,106,111,105,110,95,114,117,108,101,115]
def akA:aa:=[109,46,114,111,111,109,46,116,104,105,114,100,95,112,97,114,116,121,95,105,110,118,105,116,101]
def agf:aa:=[109,101,109,98,101,114,115,104,105,112]
def akB:aa:=[106,111,105,110]
def akC:aa:=[105,110,118,105,116,101]
def akD:aa:=[107,110,111,99,107]
def agh:aa:=[116,104,105,114,100,95,112,97,114,116,121,95,105,110,118,105,116,101]
def agi:aa:=[115,105,103,110,101,100]
def agj:aa:=[116,111,107,101,110]
def akE:aa:=[106,111,105,110,95,97,117,116,104,111,114,105,115,101,100,95,118,105,97,95,117,115,101,114,115,95,115,101,114,118,101,114]
namespace JV
def sub (v:JV) (k:aa):JV:=(v.get k).getD gN
def sY (v:JV):aa:=if v.kind=3 then v.str else []
def text (v:JV) (ae1:List aa):aa:=(ae1.foldl sub v).sY
end JV
namespace JV
def step (v:JV) (ae1:List aa) (k:Nat):JV:=(ae1.take k).foldl sub v
end JV
/-! ### pairs in order, each once -/
/-- what the document's with answers -/
def pO (l:List fz) (p:fz):List fz:=l.filter (fun x=>PU x p) ++ [p]++l.filter (fun x=>PU p x)
theorem Fy {m:List fz} {p:fz}:(m ++ [p]).foldl pO []=pO (m.foldl pO []) p:=by rw [List.foldl_append];rfl
theorem Own.cH {w:World} {e:Nat} {v:Value} {m gr:List fz} {p:fz} (h:Own w e 2 v (pO (m.foldl pO []) p).length (((pO (m.foldl pO []) p).map fz.cells).flatten)) (hm:m ++ [p]=gr):Own w e 2 v (gr.foldl pO []).length (((gr.foldl pO []).map fz.cells).flatten):=by
 subst hm;rw [Fy];exact h
theorem Own.aB {w:World} {e:Nat} {v:Value} {p:fz} (h:Own w e 2 v 1 p.cells):a8 [] w (Kw ([p].foldl pO [])) v:=Own.pairs (xs:=[p]) [] h (by simp)
/-- doubled neighbours left out, behind p -/
def akF:fz→List fz→List fz
 | _,[]=>[]
 | p,x::r=>if x=p then akF x r else x::akF x r
def dd:List fz→List fz
 | []=>[]
 | a::r=>a::akF a r
namespace EV
def hw (e:EV):aa:=e.bj.text [agf]
def tok (e:EV):aa:=e.bj.text [agh,agi,agj]
def agk (e:EV):aa:=e.bj.text [akE]
/-- what a member event needs besides -/
def more (e:EV):List fz:=
 if e.hw=akB then ⟨abG,[]⟩::if e.agk = [] then [] else [⟨Wx,e.agk⟩]
 else if e.hw=akC then ⟨abG,[]⟩::if e.tok = [] then [] else [⟨akA,e.tok⟩]
 else if e.hw=akD then [⟨abG,[]⟩]
 else []
def needs (e:EV):List fz:=akG e.snd++if e.ty=Wx then ⟨Wx,e.key⟩::e.more else []
def PV (e:EV):List fz:=if e.ty=Wy then [] else dd (Wz e.needs e.needs.length)
end EV
theorem Own.strs {w:World} {e:Nat} {v:Value} {l:List aa} (A:List Nat) (h:Own w e 1 v l.length ((l.map fun s=>[S s]).flatten)) (dD:∀ x∈aY v,x∉A):a8 A w (mQ l) v:=Own.flat h (fun _ _=>rfl) (fun x _ c bh=>by simp at bh;subst bh;rfl) rfl dD
namespace EV
abbrev aoI (e:EV):fz:=⟨e.ty,e.key⟩
/-- each state, each needed, no pair twice -/
def aqq (PV:List fz) (l:List EV):Prop:=(∀ x∈l,x.st=true∧x.aoI∈PV)∧(l.map aoI).Nodup
open Classical in
/-- may an event name these? -/
noncomputable def right (e:EV) (l:List EV):Bool:=decide (aqq e.PV l∧(e.ty=Wy∨∃ x∈l,x.ty=Wy))
end EV
def fa (s:aa):Bool:=decide ((s.length:Int)≤255)&&ck s
def ng (n:Int):Bool:=decide (0≤n)&&decide (n≤9007199254740991)
def l5 (s:dQ):Bool:=dw s.db&&nI s.key&&eO s.sig 64
def gK (p s:dQ):Bool:=!(eQ p.db s.db||p.db == s.db)||(decide (p.db=s.db) && !eQ p.key s.key)
def T3 (p:Option dQ) (s:dQ):Bool:=match p with
 | none=>true
 | some q=>!gK q s
def ed:Option dQ→List dQ→Bool
 | _,[]=>true
 | p,s::r=>l5 s&&T3 p s&&ed (some s) r
def kr (l:List dQ) (k:Nat):Option dQ:=if k=0 then none else l[k-1]?
theorem fw {l:List dQ} {k:Nat} {s:dQ} (h:l[k]? = some s):ed (kr l k) (l.drop k)=(l5 s&&T3 (kr l k) s&&ed (kr l (k+1)) (l.drop (k+1))):=by
 obtain⟨hk,rfl⟩:=List.getElem?_eq_some_iff.1 h;have aq:kr l (k+1)=some l[k]:=by simp [kr,hk]
 rw [List.drop_eq_getElem_cons hk,aq,ed]
theorem Au {l:List dQ} {k:Nat} (h:l.length≤k) (p:Option dQ):ed p (l.drop k)=true:=by
 rw [List.drop_eq_nil_of_le h,ed]
theorem TI {l:List dQ} {k:Nat} {s:dQ} (h:k=0):T3 (kr l k) s=true:=by subst h;rfl
theorem pL {l:List dQ} {k:Nat} {s q:dQ} (e2:l[k-1]? = some q) (h:0<k):T3 (kr l k) s = !gK q s:=by
 unfold kr;rw [if_neg (by omega),e2];rfl
def EV.lens (e:EV):Prop:=e.room.length<4294967281∧e.snd.length<4294967281∧∀ s∈e.sigs,s.db.length<4294967281
namespace EV
def h2 (e:EV):Bool:=fr 33 h0 e.room&&fr 64 iZ e.snd&&decide (e.ty≠[])&&fa e.ty&&fa e.key&&(e.st||decide (e.key = []))
noncomputable def hr (e:EV):Bool:=e.h2&&decide (e.bj.kind=5)&&decide (fM (e.bj.wr 0 [])=0)&&ng e.dep&&ng e.time&&eO e.hash 32&&ed none e.sigs
noncomputable def ha (e:EV):Bool:=e.hr&&(e.prev++e.bw).all dn
noncomputable def qt (e:EV):Int:=if 20<e.prev.length∨10<e.bw.length then 22 else if e.ha=true then 0 else 21
theorem sP {e:EV} (h:20<e.prev.length∨10<e.bw.length):e.qt=22:=if_pos h
theorem hM {e:EV} (h:¬ (20<e.prev.length∨10<e.bw.length)) (dK:e.ha=false):e.qt=21:=by unfold qt;rw [if_neg h,if_neg (by simp [dK])]
theorem vx {e:EV} (h:¬ (20<e.prev.length∨10<e.bw.length)) (dK:e.ha=true):e.qt=0:=by unfold qt;rw [if_neg h,if_pos dK]
theorem ni:∀ (l:List Nat) (n most:Nat),n≤ki l n most
 | [],n,_=>Nat.le_refl n
 | x::r,n,most=>by
  unfold ki
  split
  ·exact Nat.le_trans (Nat.le_add_right n x) (ni r (n+x) most)
  exact Nat.le_refl n
theorem CJ:∀ (l:List Nat) (n most:Nat),ki l n most≤most→∀ x∈l,x≤most
 | y::r,n,most,h,x,ae=>by
  unfold ki at h
  split at h
  ·have h1:=ni r (n+y) most
   rcases List.mem_cons.1 ae with rfl | ae
   ·omega
   exact CJ r (n+y) most h x ae
  omega
theorem SK {e:EV} (h:e.great 8192=false):e.lens:=by
 unfold great at h;simp only [Bool.or_eq_false_iff,decide_eq_false_iff_not] at h;have aT:e.n3 8192≤8192:=by omega
 have aq:e.nm 8192≤e.n3 8192:=ni _ _ _;have h1:e.rB 8192≤e.nm 8192:=ni _ _ _;have b3:e.HM≤e.rB 8192:=ni _ _ _;have bl:e.room.length+e.snd.length≤e.HM:=by unfold HM;omega
 refine⟨by omega,by omega,fun s bb=>?_⟩;have:=CJ _ _ _ aT _ (List.mem_map_of_mem bb);omega
def names (e:EV):Bool:=fr 33 h0 e.room&&fr 64 iZ e.snd&&decide (e.ty≠[])&&fa e.ty&&fa e.key
def nJ (e:EV):Bool:=ng e.dep&&ng e.time
theorem hb (e:EV):e.ha=(e.names&&e.nJ&&(e.st||decide (e.key = []))&&decide (e.bj.kind=5)&&decide (fM (e.bj.wr 0 [])=0)&&eO e.hash 32&&ed none e.sigs&&e.prev.all dn&&e.bw.all dn):=by
 unfold ha hr h2 names nJ;rw [List.all_append];generalize fr 33 h0 e.room=p8;generalize fr 64 iZ e.snd=a2;generalize decide (e.ty≠[])=a3;generalize fa e.ty=a4;generalize fa e.key=a5;generalize (e.st||decide (e.key = []))=Yd;generalize decide (e.bj.kind=5)=Ye;generalize decide (fM (e.bj.wr 0 [])=0)=Yf;generalize ng e.dep=a9;generalize ng e.time=arj;generalize eO e.hash 32=ark;generalize ed none e.sigs=a12;generalize e.prev.all dn=arl;generalize e.bw.all dn=adV
 ac_rfl
theorem JL {e:EV} (h:e.prev.all dn=false):e.ha=false:=by rw [hb,h];simp
theorem JM {e:EV} (h:e.bw.all dn=false):e.ha=false:=by rw [hb,h];simp
theorem o2 {e:EV} (h:ed none e.sigs=false):e.ha=false:=by rw [hb,h];simp
end EV
theorem o1 {α:Type} {l:List α} {k:Nat} {y:α} (f:α→Bool) (h:l[k]? = some y):(l.take (k+1)).all f=((l.take k).all f&&f y):=by
 have bH:=(List.getElem?_eq_some_iff.1 h).1;rw [List.take_succ_eq_append_getElem bH,(List.getElem?_eq_some_iff.1 h).2,List.all_append];simp
theorem Hu {α:Type} {l:List α} {k:Nat} {y:α} (f:α→Bool) (h:l[k]? = some y) (dK:f y=false):l.all f=false:=by
 rw [List.all_eq_false];exact⟨y,List.mem_of_getElem? h,by simp [dK]⟩
theorem a8.I {A:List Nat} {w w':World} {d:D} {u:Value} (arZ:a8 A w d u) (k:Mod [] w w'):a8 A w' d u:=arZ.bG k
theorem ft {b:aa} (h:b.length≤65536):ct b = .ok b:=if_neg (by omega)
theorem dr {r:Except Int aa} {f:aa→Except Int aa} {fb:aa} (h:r.bind f = .ok fb):∃ b,r = .ok b∧f b = .ok fb:=by
 cases r with
 | ok b=>exact⟨b,rfl,h⟩
 | error e=>cases h
namespace JV
def Fit (v:JV) (deep:Nat) (t:aa):Prop:=∀ b,(b++t).length≤65536→wr v deep b = .ok (b++t)
def aiE (l:List JV) (deep:Nat) (fst:Bool) (t:aa):Prop:=∀ b,(b++t).length≤65536→hJ l deep fst b = .ok (b++t)
def tl (m:List (aa×JV)) (deep:Nat) (prev:Option aa) (t:aa):Prop:=∀ b,(b++t).length≤65536→ff m deep prev b = .ok (b++t)
theorem Av {b s fb:aa} (h:e8 b s = .ok fb):∃ t,fb=b++t∧t=cv s∧fb.length≤65536∧∀ c,(c++t).length≤65536→e8 c s = .ok (c++t):=by
 unfold e8 at h
 split at h
 ·cases h
 rename_i h1
 split at h
 ·rename_i aq
  obtain⟨rfl,aT⟩:=fk h;exact⟨cv s,rfl,rfl,aT,fun c bh=>by rw [e8,if_neg h1,if_pos aq,ft bh]⟩
 cases h
def JT (prev:Option aa) (k b:aa):Except Int aa:=match prev with
 | none=>Except.ok b
 | some q=>(ct (b ++ [44])).bind fun b=>if eQ q k then .ok b else .error 1
theorem Aw (p:aa×JV) (r:List (aa×JV)) (deep:Nat) (prev:Option aa) (b:aa) :
  ff (p::r) deep prev b=(JT prev p.1 b).bind fun b=>(e8 b p.1).bind fun b=>(ct (b ++ [58])).bind fun b=>(wr p.2 (deep+1) b).bind fun b=>ff r deep (some p.1) b:=by
 rw [ff.eq_def]
 rfl
theorem kX (v:JV) (r:List JV) (deep:Nat) (fst:Bool) (b:aa) :
  hJ (v::r) deep fst b=(if fst then Except.ok b else ct (b ++ [44])).bind fun b=>(wr v (deep+1) b).bind fun b=>hJ r deep false b:=by
 rw [hJ]
def comma:Option aa→aa
 | none=>[]
 | some _=>[44]
theorem uJ {p:aa×JV} {r:List (aa×JV)} {deep:Nat} {prev:Option aa} {b fb:aa} (h:ff (p::r) deep prev b = .ok fb) :
  (∀ q,prev=some q→eQ q p.1=true)∧∃ eI,wr p.2 (deep+1) (b++comma prev++cv p.1 ++ [58]) = .ok eI∧ff r deep (some p.1) eI = .ok fb∧(∀ c,(c++cv p.1).length≤65536→e8 c p.1 = .ok (c++cv p.1))∧(b++comma prev++cv p.1 ++ [58]).length≤65536:=by
 rw [Aw] at h
 obtain⟨dm,h1,h⟩:=dr h
 have bh:dm=b++comma prev∧∀ q,prev=some q→eQ q p.1=true:=by
  cases prev with
  | none=>injection h1 with h1;subst h1;exact⟨by simp [comma],fun q e2=>by cases e2⟩
  | some q=>
   obtain⟨b0,b3,h1⟩:=dr h1
   obtain⟨rfl,_⟩:=fk b3
   split at h1
   ·rename_i e2
    injection h1 with h1
    subst h1
    exact⟨rfl,fun ale e=>by injection e with e;subst e;exact e2⟩
   cases h1
 obtain⟨rfl,e2⟩:=bh
 obtain⟨eI,aq,h⟩:=dr h
 obtain⟨t,rfl,rfl,_,cc⟩:=Av aq
 obtain⟨lq,aT,h⟩:=dr h
 obtain⟨rfl,anP⟩:=fk aT
 obtain⟨Ez,bL,cN⟩:=dr h
 exact⟨e2,Ez,bL,cN,cc,anP⟩
theorem Hv {p:aa×JV} {r:List (aa×JV)} {deep:Nat} {prev:Option aa} {t1 t2:aa} (e2:∀ q,prev=some q→eQ q p.1=true) (cc:∀ c,(c++cv p.1).length≤65536→e8 c p.1 = .ok (c++cv p.1)) (h1:Fit p.2 (deep+1) t1) (aq:tl r deep (some p.1) t2) :
  tl (p::r) deep prev (comma prev++cv p.1 ++ [58]++t1++t2):=by
 intro b aQ
 simp only [List.length_append] at aQ
 rw [Aw]
 have bk:JT prev p.1 b = .ok (b++comma prev):=by
  cases prev with
  | none=>simp [comma,JT]
  | some q=>
   have:(b ++ [44]).length≤65536:=by simp only [comma,List.length_append] at aQ ⊢;omega
   show((ct (b ++ [44])).bind fun b=>if eQ q p.1 then .ok b else .error 1)=_
   rw [ft this]
   show(if eQ q p.1 then Except.ok (b ++ [44])else .error 1)=_
   rw [if_pos (e2 q rfl)]
   rfl
 rw [bk]
 show(e8 (b++comma prev) p.1).bind _=_
 rw [cc _ (by simp only [List.length_append];omega)]
 show(ct (b++comma prev++cv p.1 ++ [58])).bind _=_
 rw [ft (by simp only [List.length_append];omega)]
 show(wr p.2 (deep+1) (b++comma prev++cv p.1 ++ [58])).bind _=_
 rw [h1 _ (by simp only [List.length_append];omega)]
 show ff r deep (some p.1) (b++comma prev++cv p.1 ++ [58]++t1)=_
 rw [aq _ (by simp only [List.length_append];omega)]
 simp
theorem Hw:∀ N:Nat,∀ (v:JV) (deep:Nat) (b fb:aa),v.sz≤N→wr v deep b = .ok fb→∃ t,fb=b++t∧fb.length≤65536∧Fit v deep t
 | 0,v,_,_,_,h,_=>absurd (oq v) (by omega)
 | N+1,v,deep,b,fb,h5,h=>by
  have dF:=Hw N
  have T6:∀ (l:List JV),(∀ x∈l,x.sz≤N)→∀ (fst:Bool) (b fb:aa),hJ l deep fst b = .ok fb→∃ t,fb=b++t∧aiE l deep fst t:=by
   intro l
   induction l with
   | nil=>
    intro _ fst b fb h
    rw [hJ] at h
    injection h with h
    subst h
    exact⟨[],by simp,fun b _=>by rw [hJ];simp⟩
   | cons x r aeE=>
    intro ae fst b fb h
    rw [kX] at h
    obtain⟨dm,h1,h⟩:=dr h
    obtain⟨eI,aq,aT⟩:=dr h
    obtain⟨t1,rfl,_,EW⟩:=dF x (deep+1) dm eI (ae x (by simp)) aq
    obtain⟨t2,rfl,EX⟩:=aeE (fun y aZ=>ae y (by simp [aZ])) false _ _ aT
    cases fst with
    | true=>
     injection h1 with h1
     subst h1
     refine⟨t1++t2,by simp,fun c bh=>?_⟩
     simp only [List.length_append] at bh
     rw [kX]
     show(wr x (deep+1) c).bind _=_
     rw [EW c (by simp only [List.length_append];omega)]
     show hJ r deep false (c++t1)=_
     rw [EX _ (by simp only [List.length_append];omega)]
     simp
    | false=>
     obtain⟨rfl,_⟩:=fk h1
     refine⟨[44]++t1++t2,by simp,fun c bh=>?_⟩
     simp only [List.length_append] at bh
     rw [kX]
     show(ct (c ++ [44])).bind _=_
     rw [ft (by simp only [List.length_append];omega)]
     show(wr x (deep+1) (c ++ [44])).bind _=_
     rw [EW _ (by simp only [List.length_append];omega)]
     show hJ r deep false (c ++ [44]++t1)=_
     rw [EX _ (by simp only [List.length_append];omega)]
     simp
  have T7:∀ (m:List (aa×JV)),(∀ p∈m,p.2.sz≤N)→∀ (prev:Option aa) (b fb:aa),ff m deep prev b = .ok fb→∃ t,fb=b++t∧tl m deep prev t:=by
   intro m
   induction m with
   | nil=>
    intro _ prev b fb h
    rw [ff] at h
    injection h with h
    subst h
    exact⟨[],by simp,fun b _=>by rw [ff];simp⟩
   | cons p r aeF=>
    intro ae prev b fb h
    obtain⟨e2,eI,aq,aT,cc,_⟩:=uJ h
    obtain⟨t1,rfl,_,EW⟩:=dF p.2 (deep+1) _ eI (ae p (by simp)) aq
    obtain⟨t2,rfl,EX⟩:=aeF (fun y aZ=>ae y (by simp [aZ])) (some p.1) _ _ aT
    exact⟨_,by simp,Hv e2 cc EW EX⟩
  rw [dI] at h
  by_cases aQ:bare v=false
  ·rw [if_pos aQ] at h;cases h
  rw [if_neg aQ] at h
  by_cases rb:v.kind=0
  ·rw [if_pos rb] at h
   obtain⟨rfl,cg⟩:=fk h
   exact⟨_,rfl,cg,fun c bh=>by rw [dI,if_neg aQ,if_pos rb,ft bh]⟩
  rw [if_neg rb] at h
  by_cases dX:v.kind=1
  ·rw [if_pos dX] at h
   obtain⟨rfl,cg⟩:=fk h
   exact⟨_,rfl,cg,fun c bh=>by rw [dI,if_neg aQ,if_neg rb,if_pos dX,ft bh]⟩
  rw [if_neg dX] at h
  by_cases j3:v.kind=2
  ·rw [if_pos j3] at h
   obtain⟨rfl,cg⟩:=fk h
   exact⟨_,rfl,cg,fun c bh=>by rw [dI,if_neg aQ,if_neg rb,if_neg dX,if_pos j3,ft bh]⟩
  rw [if_neg j3] at h
  by_cases vL:v.kind=3
  ·rw [if_pos vL] at h
   obtain⟨t,rfl,_,cg,cc⟩:=Av h
   exact⟨t,rfl,cg,fun c bh=>by rw [dI,if_neg aQ,if_neg rb,if_neg dX,if_neg j3,if_pos vL,cc c bh]⟩
  rw [if_neg vL] at h
  by_cases bV:deep=32
  ·rw [if_pos bV] at h;cases h
  rw [if_neg bV] at h
  by_cases ug:v.kind=4
  ·rw [if_pos ug] at h
   obtain⟨dm,h1,h⟩:=dr h
   obtain⟨rfl,_⟩:=fk h1
   obtain⟨eI,aq,aT⟩:=dr h
   obtain⟨t,rfl,cc⟩:=T6 v.list (fun x ae=>by have:=gL ae;omega) true _ _ aq
   obtain⟨rfl,cg⟩:=fk aT
   refine⟨[91]++t ++ [93],by simp,cg,fun c bh=>?_⟩
   simp only [List.length_append] at bh
   rw [dI,if_neg aQ,if_neg rb,if_neg dX,if_neg j3,if_neg vL,if_neg bV,if_pos ug,ft (by simp only [List.length_append];omega)]
   show(hJ v.list deep true (c ++ [91])).bind _=_
   rw [cc _ (by simp only [List.length_append];omega)]
   show ct (c ++ [91]++t ++ [93])=_
   rw [ft (by simp only [List.length_append];omega)]
   simp
  rw [if_neg ug] at h
  obtain⟨dm,h1,h⟩:=dr h
  obtain⟨rfl,_⟩:=fk h1
  obtain⟨eI,aq,aT⟩:=dr h
  obtain⟨t,rfl,cc⟩:=T7 v.map (fun x ae=>by have:=gp ae;omega) none _ _ aq
  obtain⟨rfl,cg⟩:=fk aT
  refine⟨[123]++t ++ [125],by simp,cg,fun c bh=>?_⟩
  simp only [List.length_append] at bh
  rw [dI,if_neg aQ,if_neg rb,if_neg dX,if_neg j3,if_neg vL,if_neg bV,if_neg ug,ft (by simp only [List.length_append];omega)]
  show(ff v.map deep none (c ++ [123])).bind _=_
  rw [cc _ (by simp only [List.length_append];omega)]
  show ct (c ++ [123]++t ++ [125])=_
  rw [ft (by simp only [List.length_append];omega)]
  simp
theorem fit {v:JV} {deep:Nat} {b fb:aa} (h:wr v deep b = .ok fb):∃ t,fb=b++t∧fb.length≤65536∧Fit v deep t:=Hw v.sz v deep b fb (Nat.le_refl _) h
theorem uK:∀ (m:List (aa×JV)) (deep:Nat) (prev:Option aa) (b fb:aa),ff m deep prev b = .ok fb→en m∧∀ q,prev=some q→∀ p∈m,eQ q p.1=true
 | [],_,_,_,_,_=>⟨List.Pairwise.nil,fun _ _ _ h=>by cases h⟩
 | p::r,deep,prev,b,fb,h=>by
  obtain⟨e2,eI,_,aT,_,_⟩:=uJ h
  obtain⟨bL,cN⟩:=uK r deep (some p.1) _ _ aT
  refine⟨List.Pairwise.cons (fun y aZ=>cN p.1 rfl y aZ) bL,fun q e y aZ=>?_⟩
  rcases List.mem_cons.1 aZ with rfl | aZ
  ·exact e2 q e
  exact gi (e2 q e) (cN p.1 rfl y aZ)
theorem vC {m:List (aa×JV)} {deep:Nat} {t:aa} (h:tl m deep none t) (bV:deep≠32):Fit (obj m) deep ([123]++t ++ [125]):=fun c bh=>by
 simp only [List.length_append] at bh;have aQ:¬ bare (obj m)=false:=by simp [bare,obj,kind,is,num,str,list]
 have AL:(obj m).kind=5:=rfl;rw [dI,if_neg aQ,if_neg (by rw [AL];decide),if_neg (by rw [AL];decide),if_neg (by rw [AL];decide),if_neg (by rw [AL];decide),if_neg bV,if_neg (by rw [AL];decide),ft (by simp only [List.length_append];omega)];show(ff m deep none (c ++ [123])).bind _=_;rw [h _ (by simp only [List.length_append];omega)];show ct (c ++ [123]++t ++ [125])=_;rw [ft (by simp only [List.length_append];omega)];simp
theorem LK {v:JV} {deep:Nat} {b fb:aa} (AL:v.kind=5) (h:wr v deep b = .ok fb):deep≠32∧∃ eI,ff v.map deep none (b ++ [123]) = .ok eI∧fb=eI ++ [125]∧fb.length≤65536:=by
 rw [dI] at h
 split at h
 ·cases h
 rw [if_neg (by rw [AL];decide),if_neg (by rw [AL];decide),if_neg (by rw [AL];decide),if_neg (by rw [AL];decide)] at h
 split at h
 ·cases h
 rename_i bV
 rw [if_neg (by rw [AL];decide)] at h;obtain⟨dm,h1,h⟩:=dr h;obtain⟨rfl,_⟩:=fk h1;obtain⟨eI,aq,aT⟩:=dr h;obtain⟨rfl,cg⟩:=fk aT;exact⟨bV,eI,aq,rfl,cg⟩
end JV
section
variable {P:Program} {ops:Array Oper} {Q:Exit→Act→World→Prop} {n:Nat} {ds:List Deferred} {l:List (Nat×Value)} {M:List (Nat×(Value→World→Prop))} {w:World} {Fin:j'→Prop} {rest:List Oper} {d:Nat} {ty:TypeId} {pos:String} {af:Array Edge} {op:Op}
theorem alV (V:Value→World→Prop) (pa:∀ v aB cO,Mod [] aB cO→V v aB→V v cO) (t s:Nat) {ar0 Gx:Value→World→Prop} (cc:iM t l=none) (eW:nb t M=some ar0) (ae:∃ x∈op.operands.toList,x = .tmp t) (jr:iM s l=none) (DZ:nb s M=some Gx) (D0:∃ x∈op.operands.toList,x = .tmp s)
  (bl:∀ aB u kV,Mod [] w aB→ar0 u aB→Gx kV aB→∃ v cO,bF P ((t,u)::(s,kV)::l) ⟨some d,op,ty,pos,af,none⟩ aB v cO∧Mod [] aB cO∧V v cO) (bV:Nat.blt d n=true) (bb:e' op=true) (cg:iM d l=none)
  (h:gh P ops w n Fin rest l ((d,V)::M)):gh P ops w n Fin (⟨some d,op,ty,pos,af,none⟩::rest) l M:=by
 refine⟨V,RO cc eW ae jr DZ D0 pa bV bb fun ρ aB u kV hF iJ Ns h1=>?_,?_⟩
 ·obtain⟨v,cO,e,hm,bK⟩:=bl aB u kV hF iJ Ns
  rw [e ρ h1]
  exact⟨hm,bK⟩
 rw [mj rfl cg];exact h
theorem ac6 {V:Value→World→Prop} {t s r:Nat} {ar0 Gx U2:Value→World→Prop} (cc:iM t l=none) (eW:nb t M=some ar0) (ae:∃ x∈op.operands.toList,x = .tmp t) (jr:iM s l=none) (DZ:nb s M=some Gx) (D0:∃ x∈op.operands.toList,x = .tmp s) (oE:iM r l=none) (ac7:nb r M=some U2) (WB:∃ x∈op.operands.toList,x = .tmp r) (pa:∀ v aB cO,Mod [] aB cO→V v aB→V v cO) (bV:Nat.blt d n=true) (bb:e' op=true)
  (bl:∀ (ρ:Operand→Value) aB u kV jw,Mod [] w aB→ar0 u aB→Gx kV aB→U2 jw aB→(∀ x v,a6 ((t,u)::(s,kV)::(r,jw)::l) x=some v→ρ x=v)→od P (Mod []) aB V ((execOp ρ ⟨some d,op,ty,pos,af,none⟩).run P aB)) :
  ar2 P ops (Mod []) (Mod [] w) n (rA l M) ⟨some d,op,ty,pos,af,none⟩ V:=by
 refine tf pa bV bb fun ρ aB hF h1 aq=>bl ρ aB (ρ (.tmp t)) (ρ (.tmp s)) (ρ (.tmp r)) hF (aq t ar0 cc eW ae) (aq s Gx jr DZ D0) (aq r U2 oE ac7 WB) fun x v bK=>?_
 cases x with
 | tmp q=>
  simp only [a6,iM] at bK
  cases aQ:Nat.beq t q with
  | true=>
   rw [aQ] at bK
   have:=Nat.eq_of_beq_eq_true aQ
   subst this
   injection bK
  | false=>
   rw [aQ] at bK
   cases tI:Nat.beq s q with
   | true=>
    rw [tI] at bK
    have:=Nat.eq_of_beq_eq_true tI
    subst this
    injection bK
   | false=>
    rw [tI] at bK
    cases gP:Nat.beq r q with
    | true=>
     rw [gP] at bK
     have:=Nat.eq_of_beq_eq_true gP
     subst this
     injection bK
    | false=>rw [gP] at bK;exact h1 _ _ bK
 | const c=>exact h1 _ _ bK
 | global g=>exact h1 _ _ bK
 | func f=>exact h1 _ _ bK
theorem alW (V:Value→World→Prop) (pa:∀ v aB cO,Mod [] aB cO→V v aB→V v cO) (t s r:Nat) {ar0 Gx U2:Value→World→Prop} (cc:iM t l=none) (eW:nb t M=some ar0) (ae:∃ x∈op.operands.toList,x = .tmp t) (jr:iM s l=none) (DZ:nb s M=some Gx) (D0:∃ x∈op.operands.toList,x = .tmp s) (oE:iM r l=none) (ac7:nb r M=some U2) (WB:∃ x∈op.operands.toList,x = .tmp r)
  (bl:∀ aB u kV jw,Mod [] w aB→ar0 u aB→Gx kV aB→U2 jw aB→∃ v cO,bF P ((t,u)::(s,kV)::(r,jw)::l) ⟨some d,op,ty,pos,af,none⟩ aB v cO∧Mod [] aB cO∧V v cO) (bV:Nat.blt d n=true) (bb:e' op=true) (cg:iM d l=none)
  (h:gh P ops w n Fin rest l ((d,V)::M)):gh P ops w n Fin (⟨some d,op,ty,pos,af,none⟩::rest) l M:=by
 refine⟨V,ac6 cc eW ae jr DZ D0 oE ac7 WB pa bV bb fun ρ aB u kV jw hF iJ Ns alX h1=>?_,?_⟩
 ·obtain⟨v,cO,e,hm,bK⟩:=bl aB u kV jw hF iJ Ns alX
  rw [e ρ h1]
  exact⟨hm,bK⟩
 rw [mj rfl cg];exact h
theorem Nu {r8:List Oper} {t r:Nat} {V ar0:Value→World→Prop} (dK:xp n l=true) (cc:iM t l=none) (eW:nb t M=some V) (bl:iM r l=none) (h5:nb r M=some ar0) (Rt:Nat.blt t n=true) (alY:Nat.blt r n=true)
  (h:∀ w' v u,Mod [] w w'→V v w'→ar0 u w'→ga P ops Q r8 n ds ((t,v)::(r,u)::l) w') :
  gh P ops w n (fun N=>∀ a w',a.defers=ds→Mod [] w w'→N.all n a w'→wpList P ops Q r8 a w') [] l M:=by
 intro a w' bV hF RQ
 have h1:=u6 bV RQ
 rw [ka dK] at h1
 have xq:t<a.tmps.size:=by rw [RQ.1];simpa [Nat.blt_eq] using Rt
 have aax:r<a.tmps.size:=by rw [RQ.1];simpa [Nat.blt_eq] using alY
 have aq:=RQ.2 t V (by simp [rA,cc,eW])
 have bL:=RQ.2 r ar0 (by simp [rA,bl,h5])
 have aT:a.tmps.getD t undef=a.tmps[t]:=by simp [xq]
 have cN:a.tmps.getD r undef=a.tmps[r]:=by simp [aax]
 rw [aT] at aq
 rw [cN] at bL
 refine h w' _ _ hF aq bL a ⟨h1.size,h1.defers,fun s v bK=>?_⟩
 simp only [iM] at bK
 cases aQ:Nat.beq t s with
 | true=>
  rw [aQ] at bK
  have:=Nat.eq_of_beq_eq_true aQ
  subst this
  injection bK with bK
  subst bK
  simp [xq]
 | false=>
  rw [aQ] at bK
  cases gP:Nat.beq r s with
  | true=>
   rw [gP] at bK
   have:=Nat.eq_of_beq_eq_true gP
   subst this
   injection bK with bK
   subst bK
   simp [aax]
  | false=>rw [gP] at bK;exact h1.get s v bK
theorem RR {t:TypeId} {gC:List Value} (di:hD P t gC) (bV:Nat.blt d n=true) (cg:iM d l=none)
  (h:gh P ops w n Fin rest l ((d,fun u cO=>∃ g,u = .pointer (some ⟨g,0,none⟩)∧w.heap.size≤g∧aE cO g t gC)::M)):gh P ops w n Fin (⟨some d,.alloc t,ty,pos,af,none⟩::rest) l M:=
 aju _ (fun v aB cO k h=>by obtain⟨g,h1,aq,aT⟩:=h;exact⟨g,h1,aq,aT.I k⟩) (fun aB k=>by
  have aq:=ko.mk' aB t gC
  exact⟨_,_,Gg di,aq.mod,_,rfl,k.size,aq.aA⟩) bV rfl cg h
end
theorem a8.ahA {A:List Nat} {w:World} {sz g T:Nat} {x:Value} {gC:List Value} {r:List D} {rows:List (List D)} {ad:Option Addr} {n c:Nat} (arZ:a8 A w (.ia sz ((.v x::r)::rows)) (.slice ad n c)) (dv:aE w g T gC) (ae:x∉gC):∃ a,ad=some a∧a.block≠g:=by
 obtain⟨a,us,rfl,aq,aT,bL,_⟩:=arZ.at_ (i:=0) rfl;refine⟨a,rfl,fun e=>ae ?_⟩;obtain⟨u,gd,rfl,cN,_⟩:=aq;have hu:=cN.l3;subst hu;have bh:=bL 0 _ rfl;rw [Nat.zero_mul] at bh;unfold World.cell? at bh;rw [show(a.add 0).add 0=a by simp [Addr.add],e,dv] at bh
 dsimp only at bh
 split at bh
 ·cases bh
 have:gC[a.off]? = some u:=by simpa using bh
 exact List.mem_of_getElem? this
structure rj (A:List Nat) (w0 w:World) (e sz:Nat) (eu:Value) (n:Nat) (rows:List (List D)) (vs:List Value):Prop where
 own:Own w e sz eu n vs
 rd:ao (A++aY eu) w rows.flatten vs
 ta:∀ y∈aY eu,w0.heap.size≤y
 xc:∀ y∈aY eu,y∉A
 al:∀ a∈A,a<w.heap.size
section
variable {A:List Nat} {w0 w w':World} {e sz n:Nat} {eu kY:Value} {rows:List (List D)} {vs us:List Value} {row:List D}
theorem rj.nil (dD:∀ a∈A,a<w.heap.size):rj A w0 w e sz (.slice none 0 0) 0 [] []:=⟨Own.nil _ _ _,ao.mL,by simp [aY],by simp [aY],dD⟩
theorem rj.I (G:rj A w0 w e sz eu n rows vs) (k:Mod [] w w'):rj A w0 w' e sz eu n rows vs:=⟨G.own.I k,G.rd.bG k,G.ta,G.xc,fun a ay=>Nat.lt_of_lt_of_le (G.al a ay) k.size⟩
theorem rj.lt (G:rj A w0 w e sz eu n rows vs):∀ a∈A++aY eu,a<w.heap.size:=fun a ay=>(List.mem_append.1 ay).elim (G.al a) (G.own.lt a)
theorem rj.zT (ez:App w w' e sz eu kY n vs):∀ y∈A++aY kY,y∈A++aY eu∨w.heap.size≤y:=fun y aZ=>(List.mem_append.1 aZ).elim (fun h=>.inl (by simp [h])) (fun h=>(ez.lX y h).imp (fun h=>by simp [h]) id)
theorem rj.app {k:Nat} (G:rj A w0 w e sz eu n rows vs) (E:Mod [] w0 w) (ez:App w w' e sz eu kY k (vs++us)) (hk:k=n+1) (abd:ao (A++aY eu) w row us):rj A w0 w' e sz kY (n+1) (rows ++ [row]) (vs++us):=by
 subst hk;refine⟨ez.own,?_,fun y aZ=>(ez.lX y aZ).elim (G.ta y) (Nat.le_trans E.size),fun y aZ ay=>(ez.lX y aZ).elim (fun h=>G.xc y h ay) (fun h=>by have:=G.al y ay;omega),fun a ay=>Nat.lt_of_lt_of_le (G.al a ay) ez.mod.size⟩;rw [List.flatten_append];refine ao.to ez.mod (fun y aZ=>by simp [aZ]) (rj.zT ez) _ _ (ao.append G.rd ?_);simpa using abd
theorem rj.tc {k:Nat} {d:D} {u:Value} (ez:App w w' e sz eu kY k vs) (arZ:a8 (A++aY eu) w d u):a8 (A++aY kY) w' d u:=a8.to ez.mod (fun y aZ=>by simp [aZ]) (rj.zT ez) _ _ arZ
theorem rj.rep (G:rj A w0 w e sz eu n rows vs) (cg:∀ r∈rows,r.length=sz) (cj:rows.length=n):a8 A w (.ia sz rows) eu:=Own.rep G.own (G.rd.e6 (fun x ae=>by simp [ae])) cg cj G.xc
theorem rj.same {m:Nat} {RT:List (List D)} (G:rj A w0 w e sz eu n rows vs) (h1:n=m) (aq:rows=RT):rj A w0 w e sz eu m RT vs:=by subst h1;subst aq;exact G
end
theorem sb {α β:Type} {l:List α} {k:Nat} {x:α} (f:α→β) (h:l[k]? = some x):(l.take (k+1)).map f=(l.take k).map f ++ [f x]:=by
 have bH:=(List.getElem?_eq_some_iff.1 h).1;rw [List.take_succ_eq_append_getElem bH,(List.getElem?_eq_some_iff.1 h).2];simp
end Go.Proofs.YtnihidkbkhcfoaaGreatDoor.V
namespace Go.Proofs.YtnihidkbkhcfoaaGreatDoor.V
open Go
namespace JV
variable {kind:aa} {v:JV}
theorem wC {k:aa} {x:JV} (h:v.get k=some x):(k,x)∈v.map:=by
 unfold JV.get at h
 split at h
 ·exact k2 h
 cases h
end JV
end Go.Proofs.YtnihidkbkhcfoaaGreatDoor.V
namespace Go.Proofs.YtnihidkbkhcfoaaGreatDoor.V
open Go
namespace JV
variable {kind:aa} {v:JV} {p:aa×JV}
end JV
end Go.Proofs.YtnihidkbkhcfoaaGreatDoor.V
namespace Go.Proofs.YtnihidkbkhcfoaaGreatDoor.V
open Go
namespace JV
def aN (s:aa):JV:=.mk 3 false 0 s [] []
theorem Ni {A:List Nat} {w:World} {s:aa}:ao A w (aN s).D [.int .i64 3,.bool false,.int .i64 0,S s,.slice none 0 0,.slice none 0 0]:=by
 have:=cz (A:=A) (w:=w) (v:=aN s) (al:=none) (am:=none) (cl:=0) (cm:=0) a8.ej a8.ej;exact this
end JV
end Go.Proofs.YtnihidkbkhcfoaaGreatDoor.V
namespace Go.Proofs.YtnihidkbkhcfoaaGreatDoor.V
open Go
namespace JV
end JV
namespace EV
end EV
end Go.Proofs.YtnihidkbkhcfoaaGreatDoor.V
namespace Go.Proofs.YtnihidkbkhcfoaaGreatDoor.V
open Go
namespace JV
def hl (n:Int):JV:=.mk 2 false n [] [] []
def cT (l:List JV):JV:=.mk 4 false 0 [] l []
theorem n2 {A:List Nat} {w:World} {n:Int}:ao A w (hl n).D [.int .i64 2,.bool false,.int .i64 n,S [],.slice none 0 0,.slice none 0 0]:=by
 have:=cz (A:=A) (w:=w) (v:=hl n) (al:=none) (am:=none) (cl:=0) (cm:=0) a8.ej a8.ej;exact this
theorem CK {A:List Nat} {w:World} {l:List JV} {al:Option Addr} {cl:Nat} (arZ:a8 A w (.ia 6 (l.map D)) (.slice al l.length cl)):ao A w (cT l).D [.int .i64 4,.bool false,.int .i64 0,S [],.slice al l.length cl,.slice none 0 0]:=
 cz (v:=cT l) (am:=none) (cm:=0) arZ a8.ej
theorem fu {A:List Nat} {w:World} {s:aa}:ao A w (aN s).D [.int .i64 3,.bool false,.int .i64 0,S s,.slice none 0 0,.slice none 0 0]:=Ni
theorem Ax {m:List (aa×JV)} {k:aa} {x:JV} {p:aa×JV} (h:p∈dA m k x):p∈m∨p=(k,x):=by
 unfold dA at h;simp only [List.mem_append,List.mem_filter,List.mem_singleton] at h;rcases h with(h | h) | h
 ·exact .inl h.1
 ·exact .inr h
 exact .inl h.1
end JV
abbrev hZ:aa:=[97,117,116,104,95,101,118,101,110,116,115]
abbrev nA:aa:=[99,111,110,116,101,110,116]
abbrev kb:aa:=[100,101,112,116,104]
abbrev gy:aa:=[104,97,115,104,101,115]
abbrev kG:aa:=[115,104,97,50,53,54]
abbrev qs:aa:=[111,114,105,103,105,110,95,115,101,114,118,101,114,95,116,115]
abbrev hY:aa:=[112,114,101,118,95,101,118,101,110,116,115]
abbrev ml:aa:=[114,111,111,109,95,105,100]
abbrev im:aa:=[115,101,110,100,101,114]
abbrev mn:aa:=[115,105,103,110,97,116,117,114,101,115]
abbrev mm:aa:=[116,121,112,101]
abbrev gm:aa:=[115,116,97,116,101,95,107,101,121]
namespace EV
open JV
def one (m:List (aa×JV)) (k:aa):JV:=(look m k).getD JV.gN
def mF (m:List (aa×JV)) (s:dQ):List (aa×JV):=dA m s.db (obj (dA (one m s.db).map s.key (aN s.sig)))
def lx (l:List dQ) (k:Nat):List (aa×JV):=(l.take k).foldl mF []
theorem vD (l:List dQ):lx l 0 = []:=by simp [lx]
theorem vE {l:List dQ} {k:Nat} {s:dQ} (h:l[k]? = some s):lx l (k+1)=mF (lx l k) s:=by
 have bH:=(List.getElem?_eq_some_iff.1 h).1;rw [lx,List.take_succ_eq_append_getElem bH,(List.getElem?_eq_some_iff.1 h).2,List.foldl_append];rfl
structure Od (m:List (aa×JV)) (n:Nat):Prop where
 Na:en m
 len:m.length≤n
 each:∀ p∈m,∃ gr,p.2=obj gr∧en gr∧gr.length≤n
theorem Od.T8 {m:List (aa×JV)} {n:Nat} (h:Od m n) (k:aa):(one m k).eS=(one m k).map∧en (one m k).map∧(one m k).map.length≤n:=by
 unfold one;cases cg:look m k with
 | none=>exact⟨by simp [JV.gN,JV.eS,JV.map,JV.kind],by simp [JV.gN,JV.map,en],by simp [JV.gN,JV.map]⟩
 | some y=>
  obtain⟨gr,h1,aq,aT⟩:=h.each _ (k2 cg);have aeG:y=obj gr:=h1;subst aeG;exact⟨by simp [obj,eS,map,kind],aq,aT⟩
theorem Od.step {m:List (aa×JV)} {n:Nat} {s:dQ} (h:Od m n):Od (mF m s) (n+1):=by
 obtain⟨_,aq,aT⟩:=h.T8 s.db;refine⟨qd h.Na,Nat.le_trans (wA h.Na) (by have:=h.len;omega),fun p cn=>?_⟩;rcases Ax cn with cn | rfl
 ·obtain⟨gr,bL,cN,eU⟩:=h.each p cn;exact⟨gr,bL,cN,by omega⟩
 exact⟨_,rfl,qd aq,Nat.le_trans (wA aq) (by omega)⟩
theorem yl (l:List dQ):∀ k,Od (lx l k) k
 | 0=>by rw [vD];exact⟨by simp [en],by simp,by simp⟩
 | k+1=>by
  rcases Nat.lt_or_ge k l.length with h | h
  ·rw [vE (List.getElem?_eq_getElem h)]
   exact(yl l k).step
  have e:lx l (k+1)=lx l k:=by unfold lx;rw [List.take_of_length_le (by omega),List.take_of_length_le h]
  rw [e]
  obtain⟨h1,aq,aT⟩:=yl l k
  exact⟨h1,by omega,fun p cn=>by obtain⟨gr,bL,cN,eU⟩:=aT p cn;exact⟨gr,bL,cN,by omega⟩⟩
def gx (e:EV):List (aa×JV):=[(hZ,cT (e.bw.map aN)),(nA,e.bj),(kb,hl e.dep),(gy,obj [(kG,aN e.hash)]),(qs,hl e.time),(hY,cT (e.prev.map aN)),(ml,aN e.room),(im,aN e.snd),(mn,obj (lx e.sigs e.sigs.length)),(mm,aN e.ty)]
def tm (e:EV):List (aa×JV):=e.gx++(if e.st then [(gm,aN e.key)] else [])
def Hx (e:EV):List (aa×JV):=if e.st then dA e.gx gm (aN e.key)else e.gx
def val (e:EV):JV:=obj e.Hx
theorem T9 (e:EV):e0 e.gx 10=e.gx:=by kernel_rfl
theorem aaS (e:EV):e0 e.tm e.tm.length=e.Hx:=by
 unfold tm Hx;cases e.st with
 | false=>rw [if_neg (by simp),if_neg (by simp),List.append_nil];exact e.T9
 | true=>
  rw [if_pos rfl,if_pos rfl];have h1:(e.gx ++ [(gm,aN e.key)])[10]? = some (gm,aN e.key):=rfl;have aq:=qy h1;have aT:e0 (e.gx ++ [(gm,aN e.key)]) 10=e0 e.gx 10:=by rw [e0,e0];rfl
  rw [aT,T9] at aq;exact aq
noncomputable def fM (e:EV):Int:=if e.qt≠0 then e.qt else Go.Proofs.YtnihidkbkhcfoaaGreatDoor.V.fM (e.val.wr 0 [])
noncomputable def sY (e:EV):aa:=if e.qt≠0 then [] else iy (e.val.wr 0 [])
end EV
end Go.Proofs.YtnihidkbkhcfoaaGreatDoor.V
