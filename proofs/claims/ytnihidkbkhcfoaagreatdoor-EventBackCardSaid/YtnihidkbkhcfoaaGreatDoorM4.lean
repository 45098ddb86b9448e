/-
  A part of the proof: names with a sign; keys; kinds of bytes, as the document tells them; the document's names: its answers in the words of the walk; words of 32 bits, and bytes, as UInt32 and UInt8: each operation in their own words; the digest in plain Lean; blocks taken in, one behind the other; what stands behind the bytes; the digest's bytes; the digest of bytes; the reference's digest is the digest; slices of arrays; a slice's type changed in name alone; one byte of a slice of the call's own is written; letters that stand for bytes: their numbers, whether they stand for bytes, in plain Lean; states put together slot by slot; pairs in order; insertion; doubled neighbours left out; the pairs that every event needs; a slice that is read, as the source of an append, in every later world alike; a member's value written in place; members put one by one; what stays of a content, as the program and as the document tell it: the same; lists of texts that are built; strings the other way round; the pairs by which an event is allowed: the program's way and the document's way are the same; what Select and Right answer, in plain Lean; events that can be, in plain Lean; the text of what stays of a content is no longer than the content's; what stays, stays; a drawn region's operations that look at two or three slots of which something is known; its tail behind two such slots; a list of structs of the call's own that grows, each with memory of its own behind it; a list of structs of the call's own that grows, each with memory of its own behind it; Content, told arm by arm; the document's Content, told member by member; the laws of Content, last steps; what stays of a content is no longer than memory; an event as a JSON value, in plain Lean. No condition of its own.
-/
import Derived.Test.YtnihidkbkhcfoaaGreatDoorM3
import Derived.Test.YtnihidkbkhcfoaaGreatDoorM2
import Derived.Test.YtnihidkbkhcfoaaGreatDoorM1
set_option linter.unusedVariables false
set_option linter.unusedSimpArgs false
set_option maxRecDepth 10000
namespace Go.Proofs.YtnihidkbkhcfoaaGreatDoor.V
open Go Go.Proofs
theorem RZ:aP Tryz.prog 201:=aP.of Tryz.func201 (by kernel_rfl) (by kernel_rfl)
theorem sB:aP Tryz.prog 179:=aP.of Tryz.func179 (by kernel_rfl) (by kernel_rfl)
theorem OL (w:World) (c:Nat) (a6:c≤1114111):Calls Tryz.prog 190 [.int .i32 (c:Int)].toArray w (bI fun u w'=>u = .int .u8 (kp c:Int)∧Mod [] w w'):=by
 refine enter Tryz.func190 rfl rfl rfl (l:=[(0,_)]) ⟨rfl,trivial⟩ ?_;have E:=Mod.refl [] w;refine ae fun aX=>bb rfl (R aX (ay fun aM=>ae fun a7=>aQ rfl (R a7 (fU (ay fun bC=>ae fun bU=>ao (oC rfl rfl) ?_)))));refine dR (fun wa:(c:Int)=34=>?_) (fun wa=>?_)
 ·exact bb rfl (R bU (aO rfl (cJ (az bC (aO rfl (ae fun ca=>aQ rfl (ao (sd (r:=(c:Int)) Tryz.underlying21 Tryz.underlying5 rfl (xt _ (by omega))) (bb rfl (R ca (bg (b5 (by simp) (a1 (by simp) (ar rfl rfl ⟨congrArg (Value.int .u8) (show(c:Int)=((kp c:Nat):Int)by unfold kp;by_cases wD:c=34;(rw [if_pos wD,wD]);rw [if_neg wD,if_pos (by omega)];omega),E⟩)))))))))))))
 refine bb rfl (R bU (aJ rfl (b8 (ao (oC rfl rfl) ?_))));refine dR (fun wj:(c:Int)=92=>?_) (fun wj=>?_)
 ·exact bb rfl (R bC (aO rfl (ae fun cA=>aQ rfl (ao (sd (r:=(c:Int)) Tryz.underlying21 Tryz.underlying5 rfl (xt _ (by omega))) (bb rfl (R cA (bg (b5 (by simp) (a1 (by simp) (ar rfl rfl ⟨congrArg (Value.int .u8) (show(c:Int)=((kp c:Nat):Int)by unfold kp;by_cases wD:c=34;(rw [if_pos wD,wD]);rw [if_neg wD,if_pos (by omega)];omega),E⟩))))))))))
 refine bb rfl (R bC (aJ rfl (ae fun cM=>aq 2 rfl (R cM ?_))));refine bm rfl (fun lQ=>?_) (fun lQ=>?_)
 ·exact ae fun db=>bb rfl (R db (bg (b5 (by simp) (a1 (by simp) (ar rfl rfl ⟨congrArg (Value.int .u8) (show(_:Int)=((kp c:Nat):Int)by unfold kp;rw [if_neg (by omega),if_neg (by omega),if_pos (by omega)];rfl),E⟩)))))
 refine ae fun cq=>aq 2 rfl (R cq ?_);refine bm rfl (fun JY=>?_) (fun JY=>?_)
 ·exact ae fun cj=>bb rfl (R cj (bg (b5 (by simp) (a1 (by simp) (ar rfl rfl ⟨congrArg (Value.int .u8) (show(_:Int)=((kp c:Nat):Int)by unfold kp;rw [if_neg (by omega),if_neg (by omega),if_neg (by omega),if_pos (by omega)];rfl),E⟩)))))
 refine ae fun dH=>aq 2 rfl (R dH ?_);refine bm rfl (fun FB=>?_) (fun FB=>?_)
 ·exact ae fun cL=>bb rfl (R cL (bg (b5 (by simp) (a1 (by simp) (ar rfl rfl ⟨congrArg (Value.int .u8) (show(_:Int)=((kp c:Nat):Int)by unfold kp;rw [if_neg (by omega),if_neg (by omega),if_neg (by omega),if_neg (by omega),if_pos (by omega)];rfl),E⟩)))))
 refine ae fun dz=>aq 2 rfl (R dz ?_);refine bm rfl (fun mD=>?_) (fun mD=>?_)
 ·exact ae fun dS=>bb rfl (R dS (bg (b5 (by simp) (a1 (by simp) (ar rfl rfl ⟨congrArg (Value.int .u8) (show(_:Int)=((kp c:Nat):Int)by unfold kp;rw [if_neg (by omega),if_neg (by omega),if_neg (by omega),if_neg (by omega),if_neg (by omega),if_pos (by omega)];rfl),E⟩)))))
 refine ae fun eD=>aq 2 rfl (R eD ?_);refine bm rfl (fun Uq=>?_) (fun Uq=>?_)
 ·exact ae fun fl=>bb rfl (R fl (bg (b5 (by simp) (a1 (by simp) (ar rfl rfl ⟨congrArg (Value.int .u8) (show(_:Int)=((kp c:Nat):Int)by unfold kp;rw [if_neg (by omega),if_neg (by omega),if_neg (by omega),if_neg (by omega),if_neg (by omega),if_neg (by omega),if_pos (by omega)];rfl),E⟩)))))
 exact cJ (b5 (by simp) (az aM (ae fun e0=>bb rfl (R e0 (bg (ar rfl rfl ⟨congrArg (Value.int .u8) (show(_:Int)=((kp c:Nat):Int)by unfold kp;rw [if_neg (by omega),if_neg (by omega),if_neg (by omega),if_neg (by omega),if_neg (by omega),if_neg (by omega),if_neg (by omega)];rfl),E⟩))))))
theorem Zg (w:World) (s p:U):Calls Tryz.prog 201 [S s,S p].toArray w (bI fun u w'=>u = .bool (decide (p.length≤s.length∧s.take p.length=p))∧Mod [] w w'):=by
 refine enter Tryz.func201 rfl rfl rfl (l:=[(0,_),(1,_)]) ⟨rfl,rfl,trivial⟩ ?_;have E:=Mod.refl [] w;refine ae fun aX=>bb rfl (R aX (ae fun aM=>aQ rfl (ao (bF Tryz.underlying9 rfl) (aQ rfl (ao (bF Tryz.underlying9 rfl) (ao (et rfl rfl) ?_))))));refine dR (fun ic:(s.length:Int)≥(p.length:Int)=>?_) (fun ic=>?_)
 ·exact aq 3 rfl (aw (bF Tryz.underlying9 rfl) (aw (G2 Tryz.underlying9 rfl rfl (by omega)) (aw (dQ rfl) (aw (dM rfl rfl) (aq 2 rfl (R aM (bg (ar rfl rfl ⟨by rw [decide_eq_decide.2 (show s.take p.length=p↔p.length≤s.length∧s.take p.length=p from⟨fun h=>⟨by omega,h⟩,fun h=>h.2⟩)],E⟩))))))))
 exact aq 9 rfl (R aM (bg (ar rfl rfl ⟨by rw [bX (fun h=>by omega)],E⟩)))
theorem sC (w:World) (s p:U):Calls Tryz.prog 179 [S s,S p].toArray w (bI fun u w'=>u = .bool (decide (p.length≤s.length∧s.take p.length=p))∧Mod [] w w'):=by
 refine enter Tryz.func179 rfl rfl rfl (l:=[(0,_),(1,_)]) ⟨rfl,rfl,trivial⟩ ?_;have E:=Mod.refl [] w;refine ae fun aX=>bb rfl (R aX (ae fun aM=>aq 2 rfl (cD (bt RZ rfl) (Zg _ _ _) fun aE J=>?_)));replace E:=E.then J;exact bb rfl (R aM (bg (ar rfl rfl ⟨rfl,E⟩)))
theorem zH (w:World) (s:U):Calls Tryz.prog 171 [S s].toArray w (bI fun u w'=>u = .bool (ck s)∧Mod [] w w'):=by
 refine enter Tryz.func171 rfl rfl rfl (l:=[(0,_)]) ⟨rfl,trivial⟩ ?_;have E:=Mod.refl [] w;refine ae fun aX=>bb rfl (R aX (ay fun aM=>ae fun a7=>aQ rfl (oh Tryz.underlying9 rfl rfl fun sA aE fx Mf KA=>?_)));have nc:w.heap.size≤sA:=by have:=E.size;omega
 replace E:=E.then KA;refine R a7 (fU (cz (σ:=Nat) (fun p=>[(0,S s),(6,.pointer (some ⟨sA,0,none⟩))]) (fun p aE=>p≤s.length∧ck s=ck (s.drop p)∧yq aE sA s p∧w.heap.size≤sA∧Mod [] w aE) (fun p=>s.length-p) (0) ⟨rfl,rfl,trivial⟩ (⟨by omega,rfl,fx,nc,E⟩) ?_));rintro p cY ⟨bJ,bw,fx,nc,E⟩;refine ay fun bC=>?_
 by_cases e1:p<s.length
 rotate_left
 ·have j9:=e1;refine b8 (jJ rfl fx j9 rfl (ao (dU rfl rfl) (R bC (ay fun dH=>?_))));refine aU rfl (fun j0=>?_) (fun j0=>?_)
  ·cases j0
  have kX:ck s=true:=by rw [bw,List.drop_eq_nil_of_le (by omega),np]
  exact bV (a1 (by simp) (a1 (by simp) (cr (az aM (ae fun cL=>bb rfl (R cL (bg (ar rfl rfl ⟨by rw [kX],E⟩))))))))
 have bS:=gT e1;have hle:=kD (s.drop p);have Q6:(s.drop p).length=s.length-p:=List.length_drop ..
 by_cases cO:(aC (s.drop p)).2=0
 ·skip
  refine b8 (kY rfl fx e1 (wL e1 cO) rfl fun gv oV ya Az=>?_);replace E:=E.trans' ya (fun x ab=>.inr (by simp at ab;subst ab;exact nc));clear fx;have fx:=oV;refine ao (dU rfl rfl) (R bC (ay fun bU=>?_));refine aU rfl (fun j0=>?_) (fun j0=>?_)
  ·skip
   refine cJ (az bU (fU (ae fun ca=>aq 4 rfl (R ca (ae fun cA=>aq 2 rfl (jZ (bB rfl) (aq 3 rfl (aw (cv Tryz.underlying9 rfl rfl bJ) (fF (bt sB rfl) (sC _ (s.drop p) [239,191,189]) fun iH J=>?_)))))))));replace fx:=fx.I J;replace E:=E.then J;refine aq 2 rfl (R cA ?_);refine aU rfl (fun mX=>?_) (fun mX=>?_)
   ·have kX:ck s=false:=bw.trans (wv bS cO);exact ae fun cM=>bb rfl (R cM (bg (b5 (by simp) (a1 (by simp) (b5 (by simp) (a1 (by simp) (ar rfl rfl ⟨by rw [kX],E⟩)))))))
   exact absurd (by simpa using mX) (R0 cO)
  cases j0
 skip
 refine b8 (kY rfl fx e1 (vA e1 cO) rfl fun jO oV ya Az=>?_);replace E:=E.trans' ya (fun x ab=>.inr (by simp at ab;subst ab;exact nc));clear fx;have fx:=oV;refine ao (dU rfl rfl) (R bC (ay fun db=>?_));refine aU rfl (fun j0=>?_) (fun j0=>?_);rotate_left
 ·cases j0
 skip
 refine cJ (az db (fU (ae fun cq=>aq 4 rfl (R cq (ae fun cj=>aq 2 rfl ?_)))));refine dR (fun Zh:((aC (s.drop p)).1:Int)=65533=>?_) (fun Zh=>?_)
 ·skip
  refine aq 3 rfl (aw (cv Tryz.underlying9 rfl rfl bJ) (fF (bt sB rfl) (sC _ (s.drop p) [239,191,189]) fun jV J=>?_));replace fx:=fx.I J;replace E:=E.then J;refine aq 2 rfl (R cj ?_);refine aU rfl (fun mX=>?_) (fun mX=>?_)
  ·rw [bB (show([239,191,189]:U).length≤(s.drop p).length∧(s.drop p).take ([239,191,189]:U).length = [239,191,189] from R1 bS cO (by omega))] at mX;cases mX
  skip
  exact cJ (b5 (by simp) (jW (σ:=Nat) (s:=p) (p+(aC (s.drop p)).2) ⟨rfl,rfl,trivial⟩ ⟨by omega,by rw [bw,kE bS cO,List.drop_drop],fx,nc,E⟩ (by omega)))
 skip
 refine aq 7 rfl (R cj (aJ rfl ?_))
 skip
 exact cJ (b5 (by simp) (jW (σ:=Nat) (s:=p) (p+(aC (s.drop p)).2) ⟨rfl,rfl,trivial⟩ ⟨by omega,by rw [bw,kE bS cO,List.drop_drop],fx,nc,E⟩ (by omega)))
set_option maxRecDepth 10000
theorem R2:aP Tryz.prog 225:=aP.of Tryz.func225 (by kernel_rfl) (by kernel_rfl)
theorem R3 (w:World) (v:Value) (b:U) (c:Nat) (O:l0 w v b) (h1:c≤1114111) (aj:¬ (55296≤c∧c≤57343)) (aH:b.length≤1000000) (bD:128≤c):Calls Tryz.prog 225 [v,.int .i32 (c:Int)].toArray w (bI fun u w'=>l0 w' u (b++hQ c)∧(∀ x∈aL u,x∈aL v∨w.heap.size≤x)∧Mod (aL v) w w'):=by
 refine enter Tryz.func225 rfl rfl rfl (l:=[(0,_),(1,_)]) ⟨rfl,rfl,trivial⟩ ?_;have E:=Mod.refl [] w;refine ae fun aX=>bb rfl (R aX (ae fun aM=>aQ rfl (ao (Hx Tryz.underlying21 Tryz.underlying117 rfl h1) (bb rfl (R aM (fU (ae fun a7=>aq 3 rfl (R a7 ?_))))))));refine bm rfl (fun JY=>?_) (fun JY=>?_)
 ·refine ae fun bC=>aq 2 rfl (ao (o9 6 64 rfl rfl (by decide) (by decide)) (ao (kQ Tryz.underlying21 Tryz.underlying5 rfl) (ao (R4 rfl rfl (by omega)) (aQ rfl (ao (kQ Tryz.underlying21 Tryz.underlying5 rfl) (ao (qg rfl rfl) (ao (nE rfl rfl) (cF (cs:=[_,_]) jD yg rfl rfl rfl (by decide) rfl fun g1 aE bO=>?_))))))));have bR:=bO.le E;have vL:=bO.cd O;replace E:=E.then bO.mod;replace O:=O.I bO.mod;have aa:=bO.aA;exact cV jD rfl rfl O (Src.own Tryz.underlying65 (Own.all (c:=2) (cs:=[_,_]) aa rfl (by omega)) (by simp [Value.oneCell'])) (by decide) (by omega) (by omega) rfl fun h7 cY gi=>bb rfl (R bC (bg (b5 (by simp) (ar rfl rfl ⟨qh h1 gi.own (by rw [show eF c = [192+c / 64,128+c % 64] by unfold eF;rw [if_neg (by omega),if_pos (by omega)]];rfl) (by rw [show eF c = [192+c / 64,128+c % 64] by unfold eF;rw [if_neg (by omega),if_pos (by omega)]];rfl),fun x ab=>(gi.kn x ab).imp id (Nat.le_trans E.size),(E.mono (by simp)).trans gi.mod⟩))))
 refine ay fun bU=>ae fun ca=>aq 2 rfl ?_;refine dR (fun El:(c:Int)<55296=>?_) (fun El=>?_)
 ·refine bb rfl (R ca (aO rfl (cJ (az bU (aO rfl (ae fun cA=>aq 2 rfl (ao (o9 12 4096 rfl rfl (by decide) (by decide)) (ao (kQ Tryz.underlying21 Tryz.underlying5 rfl) (ao (Hy rfl rfl (by omega)) (aQ rfl (ao (o9 6 64 rfl rfl (by decide) (by decide)) (ao (kQ Tryz.underlying21 Tryz.underlying5 rfl) ?_))))))))))));refine ao (qg rfl rfl) (ao (nE rfl rfl) (aQ rfl (ao (kQ Tryz.underlying21 Tryz.underlying5 rfl) (ao (qg rfl rfl) (ao (nE rfl rfl) (cF (cs:=[_,_,_]) jD yg rfl rfl rfl (by decide) rfl fun g2 gv cU=>?_))))));have cp:=cU.le E;have Bk:=cU.cd O;replace E:=E.then cU.mod;replace O:=O.I cU.mod;have ai:=cU.aA;exact cV jD rfl rfl O (Src.own Tryz.underlying65 (Own.all (c:=3) (cs:=[_,_,_]) ai rfl (by omega)) (by simp [Value.oneCell'])) (by decide) (by omega) (by omega) rfl fun h7 iH gi=>bb rfl (R cA (bg (b5 (by simp) (ar rfl rfl ⟨qh h1 gi.own (by rw [show eF c = [224+c / 4096,128+c / 64 % 64,128+c % 64] by unfold eF;rw [if_neg (by omega),if_neg (by omega),if_pos (by omega)]];rfl) (by rw [show eF c = [224+c / 4096,128+c / 64 % 64,128+c % 64] by unfold eF;rw [if_neg (by omega),if_neg (by omega),if_pos (by omega)]];rfl),fun x ab=>(gi.kn x ab).imp id (Nat.le_trans E.size),(E.mono (by simp)).trans gi.mod⟩))))
 refine bb rfl (R ca (aJ rfl (b8 (aq 2 rfl (jZ (bB (show(57343:Int)<(c:Int)by omega)) (aq 5 rfl (R bU ?_)))))));refine bm rfl (fun vU=>?_) (fun vU=>?_)
 ·refine ae fun cM=>aq 2 rfl (ao (o9 12 4096 rfl rfl (by decide) (by decide)) (ao (kQ Tryz.underlying21 Tryz.underlying5 rfl) (ao (Hy rfl rfl (by omega)) (aQ rfl (ao (o9 6 64 rfl rfl (by decide) (by decide)) (ao (kQ Tryz.underlying21 Tryz.underlying5 rfl) (ao (qg rfl rfl) (ao (nE rfl rfl) (aQ rfl (ao (kQ Tryz.underlying21 Tryz.underlying5 rfl) (ao (qg rfl rfl) (ao (nE rfl rfl) ?_))))))))))));refine cF (cs:=[_,_,_]) jD yg rfl rfl rfl (by decide) rfl fun g3 jO eT=>?_;have dA:=eT.le E;have Bl:=eT.cd O;replace E:=E.then eT.mod;replace O:=O.I eT.mod;have bq:=eT.aA;exact cV jD rfl rfl O (Src.own Tryz.underlying65 (Own.all (c:=3) (cs:=[_,_,_]) bq rfl (by omega)) (by simp [Value.oneCell'])) (by decide) (by omega) (by omega) rfl fun h7 jV gi=>bb rfl (R cM (bg (b5 (by simp) (ar rfl rfl ⟨qh h1 gi.own (by rw [show eF c = [224+c / 4096,128+c / 64 % 64,128+c % 64] by unfold eF;rw [if_neg (by omega),if_neg (by omega),if_pos (by omega)]];rfl) (by rw [show eF c = [224+c / 4096,128+c / 64 % 64,128+c % 64] by unfold eF;rw [if_neg (by omega),if_neg (by omega),if_pos (by omega)]];rfl),fun x ab=>(gi.kn x ab).imp id (Nat.le_trans E.size),(E.mono (by simp)).trans gi.mod⟩))))
 refine ae fun db=>aq 2 rfl (jZ (bB (show(65535:Int)<(c:Int)by omega)) (aq 5 rfl (R db ?_)));refine bm rfl (fun xO=>?_) (fun xO=>?_)
 ·refine ae fun cq=>aq 2 rfl (ao (o9 18 262144 rfl rfl (by decide) (by decide)) (ao (kQ Tryz.underlying21 Tryz.underlying5 rfl) (ao (R5 rfl rfl (by omega)) (aQ rfl (ao (o9 12 4096 rfl rfl (by decide) (by decide)) (ao (kQ Tryz.underlying21 Tryz.underlying5 rfl) (ao (qg rfl rfl) (ao (nE rfl rfl) (aQ rfl (ao (o9 6 64 rfl rfl (by decide) (by decide)) (ao (kQ Tryz.underlying21 Tryz.underlying5 rfl) (ao (qg rfl rfl) ?_))))))))))));refine ao (nE rfl rfl) (aQ rfl (ao (kQ Tryz.underlying21 Tryz.underlying5 rfl) (ao (qg rfl rfl) (ao (nE rfl rfl) (cF (cs:=[_,_,_,_]) jD yg rfl rfl rfl (by decide) rfl fun g4 ix N4=>?_)))));have fu:=N4.le E;have Bm:=N4.cd O;replace E:=E.then N4.mod;replace O:=O.I N4.mod;have aW:=N4.aA;exact cV jD rfl rfl O (Src.own Tryz.underlying65 (Own.all (c:=4) (cs:=[_,_,_,_]) aW rfl (by omega)) (by simp [Value.oneCell'])) (by decide) (by omega) (by omega) rfl fun h7 pD gi=>bb rfl (R cq (bg (b5 (by simp) (ar rfl rfl ⟨qh h1 gi.own (by rw [show eF c = [240+c / 262144,128+c / 4096 % 64,128+c / 64 % 64,128+c % 64] by unfold eF;rw [if_neg (by omega),if_neg (by omega),if_neg (by omega)]];rfl) (by rw [show eF c = [240+c / 262144,128+c / 4096 % 64,128+c / 64 % 64,128+c % 64] by unfold eF;rw [if_neg (by omega),if_neg (by omega),if_neg (by omega)]];rfl),fun x ab=>(gi.kn x ab).imp id (Nat.le_trans E.size),(E.mono (by simp)).trans gi.mod⟩))))
 exact absurd (show(c:Int)≤1114111 by omega) xO
theorem AB (w:World) (v:Value) (b:U) (c:Nat) (O:l0 w v b) (h1:c≤1114111) (aj:¬ (55296≤c∧c≤57343)) (aH:b.length≤1000000):Calls Tryz.prog 191 [v,.int .i32 (c:Int)].toArray w (bI fun u w'=>l0 w' u (b++hQ c)∧(∀ x∈aL u,x∈aL v∨w.heap.size≤x)∧Mod (aL v) w w'):=by
 refine enter Tryz.func191 rfl rfl rfl (l:=[(0,_),(1,_)]) ⟨rfl,rfl,trivial⟩ ?_;have E:=Mod.refl [] w;refine ae fun aX=>bb rfl (R aX (ay fun aM=>ae fun a7=>aQ rfl (ao (Hx Tryz.underlying21 Tryz.underlying117 rfl h1) (ao (uf rfl rfl) (R a7 ?_)))));refine bm rfl (fun kv=>?_) (fun kv=>?_)
 ·refine ae fun bC=>aq 2 rfl (ao (kQ Tryz.underlying21 Tryz.underlying5 rfl) (cF (cs:=[_]) jD yg rfl rfl rfl (by decide) rfl fun g1 aE bO=>?_));have bR:=bO.le E;have vL:=bO.cd O;replace E:=E.then bO.mod;replace O:=O.I bO.mod;have aa:=bO.aA;exact cV jD rfl rfl O (Src.own Tryz.underlying65 (Own.all (c:=1) (cs:=[_]) aa rfl (by omega)) (by simp [Value.oneCell'])) (by decide) (by omega) (by omega) rfl fun h7 cY gi=>bb rfl (R bC (bg (a1 (by simp) (ar rfl rfl ⟨qh h1 gi.own (by rw [show eF c = [c] by unfold eF;rw [if_pos (by omega)]];rfl) (by rw [show eF c = [c] by unfold eF;rw [if_pos (by omega)],show c % 256=c by omega];rfl),fun x ab=>(gi.kn x ab).imp id (Nat.le_trans E.size),(E.mono (by simp)).trans gi.mod⟩))))
 refine cJ (az aM (ae fun bU=>aq 2 rfl (fP (bt R2 rfl) (R3 _ v b c O h1 aj aH (by omega)) rfl fun cC gv aB=>?_)));obtain⟨H4,aeA,lz⟩:=aB;exact bb rfl (R bU (bg (ar rfl rfl ⟨H4,fun x ab=>(aeA x ab).imp id (Nat.le_trans E.size),(E.mono (by simp)).trans lz⟩)))
set_option maxRecDepth 10000
theorem Hz:aP Tryz.prog 171:=aP.of Tryz.func171 (by kernel_rfl) (by kernel_rfl)
theorem R6:aP Tryz.prog 190:=aP.of Tryz.func190 (by kernel_rfl) (by kernel_rfl)
theorem vC:aP Tryz.prog 191:=aP.of Tryz.func191 (by kernel_rfl) (by kernel_rfl)
theorem R7 (w:World) (s:U) (aN:s.length≤65536):Calls Tryz.prog 159 [S s].toArray w (bI fun u w'=>u = .tuple #[S (if ck s then b7 s else []),.bool (ck s)]∧Mod [] w w'):=by
 refine enter Tryz.func159 rfl rfl rfl (l:=[(0,_)]) ⟨rfl,trivial⟩ ?_;have E:=Mod.refl [] w;refine ae fun aX=>aq 2 rfl (R aX (ay fun aM=>ae fun a7=>aQ rfl (cD (bt Hz rfl) (zH _ s) fun aE J=>?_)));replace E:=E.then J;refine ao (gJ rfl) (R a7 ?_);refine aU rfl (fun mw=>?_) (fun mw=>?_)
 ·have oO:ck s=false:=by simpa using mw
  exact ae fun bC=>aq 2 rfl (R bC (bg (a1 (by simp) (ei rfl rfl rfl ⟨by rw [oO];rfl,E⟩))))
 have oO:ck s=true:=by simpa using mw
 refine cJ (az aM (ae fun bU=>cF (cs:=[_]) jD yg rfl rfl rfl (by decide) rfl fun g1 cY bO=>?_));have bR:=bO.le E;replace E:=E.then bO.mod;have aa:=bO.aA;refine bb rfl (R bU (ay fun ca=>ae fun cA=>aQ rfl (oh Tryz.underlying9 rfl rfl fun sA gv fx Mf KA=>?_)));have nc:w.heap.size≤sA:=by have:=E.size;omega
 have aj1:g1≠sA:=by have:=aa.lt;omega
 replace E:=E.then KA;replace aa:=aa.I KA;refine R cA (fU (cz (σ:=Nat×Value) (fun⟨p,v⟩=>[(0,S s),(4,v),(13,.pointer (some ⟨sA,0,none⟩))]) (fun⟨p,v⟩ aE=>p≤s.length∧ck (s.drop p)=true∧yq aE sA s p∧l0 aE v (34::cW (s.take p))∧(∀ x∈aL v,w.heap.size≤x)∧(∀ x∈aL v,x≠sA)∧Mod [] w aE) (fun⟨p,v⟩=>s.length-p) (⟨0,.slice (some ⟨g1,0,none⟩) 1 1⟩) ⟨rfl,rfl,rfl,trivial⟩ (⟨by omega,by simpa using oO,fx,(Own.all (c:=1) aa rfl (by omega)).same rfl rfl,by simp only [aL,List.mem_singleton];intro x ab;subst ab;exact bR,by simp only [aL,List.mem_singleton];intro x ab;subst ab;exact aj1,E⟩) ?_));rintro⟨p,v⟩ iH ⟨bJ,bw,fx,O,yb,J',E⟩;refine ay fun cM=>?_
 by_cases e1:p<s.length
 rotate_left
 ·have j9:=e1;have nf:s.take p=s:=List.take_of_length_le (by omega);refine b8 (jJ rfl fx j9 rfl (ao (dU rfl rfl) (R cM (ay fun dz=>?_))));refine aU rfl (fun mD=>?_) (fun mD=>?_)
  ·cases mD
  skip
  refine bV (a1 (by simp) (a1 (by simp) (cr (az ca (ae fun dS=>aQ rfl (cF (cs:=[_]) jD yg rfl rfl rfl (by decide) rfl fun g4 pP N4=>?_))))));have fu:=N4.le E;have Bm:=N4.cd O;replace fx:=fx.I N4.mod;replace E:=E.then N4.mod;replace O:=O.I N4.mod;have aW:=N4.aA;have Vr:=qA s;have KV:(34::cW (s.take p)).length=(cW s).length+1:=by rw [nf];rfl
  refine cV jD rfl rfl O (Src.own Tryz.underlying65 (Own.all (cs:=[_]) aW rfl (by omega)) (by simp [Value.oneCell'])) (by decide) (by omega) (by omega) rfl fun v3 si aeB=>?_;have af9:=aeB.ne Bm aW;have aj6:=aeB.ge yb E;replace aW:=aW.mod aeB.mod (fun ab=>Bm _ ab rfl);replace E:=E.trans' aeB.mod (fun x ab=>.inr (yb x ab));replace O:=aeB.own;exact ao (rR (u:=b7 s) Tryz.underlying65 Tryz.underlying5 Tryz.underlying9 rfl (O.same (by rw [nf];simp [b7]) (by rw [nf];simp [b7,qW,kG]))) (aq 2 rfl (R dS (bg (ei rfl rfl rfl ⟨by rw [oO];rfl,E⟩))))
 have cO:=wF (gT e1) bw;obtain⟨_,_,fi,gA⟩:=tO (gT e1) cO;have hle:=kD (s.drop p);have Q6:(s.drop p).length=s.length-p:=List.length_drop ..;have Vr:=qA (s.take p);have A2:(s.take p).length=p:=by rw [List.length_take];omega
 have KV:(34::cW (s.take p)).length=(cW (s.take p)).length+1:=rfl;refine b8 (kY rfl fx e1 (vA e1 cO) rfl fun jO oV ya Az=>?_);replace E:=E.trans' ya (fun x ab=>.inr (by simp at ab;subst ab;exact nc));replace O:=O.mod ya (fun x ab hm=>J' x ab (by simpa using hm));clear fx;have fx:=oV;refine ao (dU rfl rfl) (R cM (ay fun db=>?_));refine aU rfl (fun mD=>?_) (fun mD=>?_);rotate_left
 ·cases mD
 skip
 refine cJ (az db (fU (ae fun cq=>aq 2 rfl (R cq (ae fun cj=>aQ rfl (cD (bt R6 rfl) (OL _ (aC (s.drop p)).1 fi) fun jV J=>?_))))));replace fx:=fx.I J;replace E:=E.then J;replace O:=O.I J;refine bb rfl (R cj (fU (ae fun dH=>aq 3 rfl (R dH ?_))));refine bm rfl (fun H3=>?_) (fun H3=>?_)
 ·refine b8 (aq 2 rfl (cF (cs:=[_,_]) jD yg rfl rfl rfl (by decide) rfl fun g2 ix cU=>?_));have cp:=cU.le E;have Bk:=cU.cd O;replace fx:=fx.I cU.mod;replace E:=E.then cU.mod;replace O:=O.I cU.mod;have ai:=cU.aA;refine cV jD rfl rfl O (Src.own Tryz.underlying65 (Own.all (cs:=[_,_]) ai rfl (by omega)) (by simp [Value.oneCell'])) (by decide) (by omega) (by omega) rfl fun v1 pD jX=>?_;have af7:=jX.ne Bk ai;have Gg:=jX.ge yb E;replace ai:=ai.mod jX.mod (fun ab=>Bk _ ab rfl);replace E:=E.trans' jX.mod (fun x ab=>.inr (yb x ab));replace O:=jX.own;have Zi:=jX.Xk J' fx;replace fx:=fx.mod jX.mod (fun ab=>J' _ ab rfl);refine bb rfl (eG (b5 (by simp) (b5 (by simp) ?_)));have OM:=ur e1 cO bw;obtain⟨t,Ka,aj2,aj3⟩:=R8 e1 cO H3;exact jW (σ:=Nat×Value) (s:=⟨p,v⟩) (⟨p+(aC (s.drop p)).2,v1⟩) ⟨rfl,rfl,rfl,trivial⟩ ⟨by omega,OM,fx,Dy O Ka (by rw [aj3]) (by rw [aj2]),Gg,Zi,E⟩ (by dsimp only;omega)
 refine ae fun cL=>aq 3 rfl (R cL ?_);refine bm rfl (fun sE=>?_) (fun sE=>?_);rotate_left
 ·refine b8 (aq 2 rfl (fP (bt vC rfl) (AB _ v (34::cW (s.take p)) (aC (s.drop p)).1 O fi gA (by omega)) rfl fun cC rv aB=>?_));obtain⟨Uw,T5,wh⟩:=aB;have Je:∀ x∈aL cC,w.heap.size≤x:=fun x ab=>(T5 x ab).elim (yb x) (Nat.le_trans E.size);have aj5:∀ x∈aL cC,x≠sA:=fun x ab=>(T5 x ab).elim (J' x) (fun h e=>by have:=fx.lt;omega);replace E:=E.trans' wh (fun x ab=>.inr (yb x ab));replace fx:=fx.mod wh (fun ab=>J' _ ab rfl);refine bb rfl (eG (b5 (by simp) (b5 (by simp) ?_)));have OM:=ur e1 cO bw;have Ka:=R' e1 cO H3 sE;exact jW (σ:=Nat×Value) (s:=⟨p,v⟩) (⟨p+(aC (s.drop p)).2,cC⟩) ⟨rfl,rfl,rfl,trivial⟩ ⟨by omega,OM,fx,Uw.same (by rw [Ka];rfl) (by rw [Ka];rfl),Je,aj5,E⟩ (by dsimp only;omega)
 refine nY [0] [1,2,3,4,5,6] 7 [8,9] wide (by kernel_rfl) (fun _ _ _ h=>h.2) (Tn (fun _=>(dQ rfl)) rfl rfl (kU (ah (fun J=>(dQ rfl)) (ah (fun J=>(o9 4 16 rfl rfl (by decide) (by decide))) (ah (fun J=>(c8 Tryz.underlying9 rfl rfl (by omega) (by rw [Int.toNat_natCast];exact GM (by omega)))) (ah (fun J=>(dQ rfl)) (ah (fun J=>(Zj rfl rfl (by omega))) (ah (fun J=>(c8 Tryz.underlying9 rfl rfl (by omega) (by rw [Int.toNat_natCast];exact GM (by omega)))) (ml rfl fun lL J=>?_)))))))));replace fx:=fx.I J;replace E:=E.then J;replace O:=O.I J;refine cF (cs:=[_,_,_,_,_,_]) jD yg rfl rfl rfl (by decide) rfl fun g3 iy eT=>?_;have dA:=eT.le E;have Bl:=eT.cd O;replace fx:=fx.I eT.mod;replace E:=E.then eT.mod;replace O:=O.I eT.mod;have bq:=eT.aA;refine cV jD rfl rfl O (Src.own Tryz.underlying65 (Own.all (cs:=[_,_,_,_,_,_]) bq rfl (by omega)) (by simp [Value.oneCell'])) (by decide) (by omega) (by omega) rfl fun v2 j1 Zk=>?_;have af8:=Zk.ne Bl bq;have Zl:=Zk.ge yb E;replace bq:=bq.mod Zk.mod (fun ab=>Bl _ ab rfl);replace E:=E.trans' Zk.mod (fun x ab=>.inr (yb x ab));replace O:=Zk.own;have aj4:=Zk.Xk J' fx;replace fx:=fx.mod Zk.mod (fun ab=>J' _ ab rfl);refine bb rfl (eG (b5 (by simp) (b5 (by simp) ?_)));have OM:=ur e1 cO bw;have Ka:=R9 e1 cO H3 sE;exact jW (σ:=Nat×Value) (s:=⟨p,v⟩) (⟨p+(aC (s.drop p)).2,v2⟩) ⟨rfl,rfl,rfl,trivial⟩ ⟨by omega,OM,fx,Dy O Ka (by simp) (by simp [qW]),Zl,aj4,E⟩ (by dsimp only;omega)
set_option maxRecDepth 10000
theorem Si:aP Tryz.prog 228:=aP.of Tryz.func228 (by kernel_rfl) (by kernel_rfl)
theorem qD:aP Tryz.prog 111:=aP.of Tryz.func111 (by kernel_rfl) (by kernel_rfl)
theorem AA:aP Tryz.prog 196:=aP.of Tryz.func196 (by kernel_rfl) (by kernel_rfl)
theorem vO:aP Tryz.prog 166:=aP.of Tryz.func166 (by kernel_rfl) (by kernel_rfl)
theorem tk:aP Tryz.prog 168:=aP.of Tryz.func168 (by kernel_rfl) (by kernel_rfl)
theorem Sj:aP Tryz.prog 170:=aP.of Tryz.func170 (by kernel_rfl) (by kernel_rfl)
theorem HF:aP Tryz.prog 167:=aP.of Tryz.func167 (by kernel_rfl) (by kernel_rfl)
theorem tl (w:World) (c:Nat):Calls Tryz.prog 166 [.int .i32 (c:Int)].toArray w (bI fun u w'=>u = .bool (tm c)∧Mod [] w w'):=by
 refine enter Tryz.func166 rfl rfl rfl (l:=[(0,_)]) ⟨rfl,trivial⟩ ?_;have E:=Mod.refl [] w;refine ae fun aX=>bb rfl (R aX (ae fun aM=>aQ rfl (ao (et rfl rfl) ?_)));refine dR (fun ic:(c:Int)≥97=>?_) (fun ic=>?_)
 ·refine aq 3 rfl ?_;refine dR (fun mr:(c:Int)≤122=>?_) (fun mr=>?_)
  ·exact aq 2 rfl (R aM (bg (ar rfl rfl ⟨congrArg Value.bool (by rw [Bool.eq_iff_iff];simp [tm];omega),E⟩)))
  exact aq 2 rfl (R aM (bg (ar rfl rfl ⟨congrArg Value.bool (by rw [Bool.eq_iff_iff];simp [tm];omega),E⟩)))
 exact aq 5 rfl (R aM (bg (ar rfl rfl ⟨congrArg Value.bool (by rw [Bool.eq_iff_iff];simp [tm];omega),E⟩)))
theorem zL (w:World) (c:Nat):Calls Tryz.prog 167 [.int .i32 (c:Int)].toArray w (bI fun u w'=>u = .bool (xT c)∧Mod [] w w'):=by
 refine enter Tryz.func167 rfl rfl rfl (l:=[(0,_)]) ⟨rfl,trivial⟩ ?_;have E:=Mod.refl [] w;refine ae fun aX=>bb rfl (R aX (ae fun aM=>aQ rfl (ao (et rfl rfl) ?_)));refine dR (fun ic:(c:Int)≥65=>?_) (fun ic=>?_)
 ·refine aq 3 rfl ?_;refine dR (fun mr:(c:Int)≤90=>?_) (fun mr=>?_)
  ·exact aq 2 rfl (R aM (bg (ar rfl rfl ⟨congrArg Value.bool (by rw [Bool.eq_iff_iff];simp [xT];omega),E⟩)))
  exact aq 2 rfl (R aM (bg (ar rfl rfl ⟨congrArg Value.bool (by rw [Bool.eq_iff_iff];simp [xT];omega),E⟩)))
 exact aq 5 rfl (R aM (bg (ar rfl rfl ⟨congrArg Value.bool (by rw [Bool.eq_iff_iff];simp [xT];omega),E⟩)))
theorem qk (w:World) (c:Nat):Calls Tryz.prog 168 [.int .i32 (c:Int)].toArray w (bI fun u w'=>u = .bool (qU c)∧Mod [] w w'):=by
 refine enter Tryz.func168 rfl rfl rfl (l:=[(0,_)]) ⟨rfl,trivial⟩ ?_;have E:=Mod.refl [] w;refine ae fun aX=>bb rfl (R aX (ae fun aM=>aQ rfl (ao (et rfl rfl) ?_)));refine dR (fun ic:(c:Int)≥48=>?_) (fun ic=>?_)
 ·refine aq 3 rfl ?_;refine dR (fun mr:(c:Int)≤57=>?_) (fun mr=>?_)
  ·exact aq 2 rfl (R aM (bg (ar rfl rfl ⟨congrArg Value.bool (by rw [Bool.eq_iff_iff];simp [qU];omega),E⟩)))
  exact aq 2 rfl (R aM (bg (ar rfl rfl ⟨congrArg Value.bool (by rw [Bool.eq_iff_iff];simp [qU];omega),E⟩)))
 exact aq 5 rfl (R aM (bg (ar rfl rfl ⟨congrArg Value.bool (by rw [Bool.eq_iff_iff];simp [qU];omega),E⟩)))
theorem Ke (w:World) (c:Nat) (h1:c≤1114111) (aj:¬ (55296≤c∧c≤57343)):Calls Tryz.prog 228 [.int .i32 (c:Int)].toArray w (bI fun u w'=>u = .bool true∧Mod [] w w'):=by
 refine enter Tryz.func228 rfl rfl rfl (l:=[(0,_)]) ⟨rfl,trivial⟩ ?_;have E:=Mod.refl [] w;have Cr:(0:Int)≤(c:Int):=by omega
 refine ae fun aX=>bb rfl (R aX (ay fun aM=>fU (ae fun a7=>aq 2 rfl (jZ (bB Cr) (aq 5 rfl (R a7 ?_))))));refine bm rfl (fun aF=>?_) (fun aF=>?_)
 ·exact ae fun bC=>bb rfl (R bC (bg (b5 (by simp) (a1 (by simp) (ar rfl rfl ⟨rfl,E⟩)))))
 have tR:(57343:Int)<(c:Int):=by omega
 have hle:(c:Int)≤1114111:=by omega
 exact ae fun bU=>aq 2 rfl (jZ (bB tR) (aq 3 rfl (jZ (bB hle) (aq 2 rfl (R bU (aO rfl (ae fun ca=>bb rfl (R ca (bg (b5 (by simp) (a1 (by simp) (ar rfl rfl ⟨rfl,E⟩))))))))))))
theorem uV (w:World) (s:U) (c:Nat) (aN:∀ x∈s,x.toNat<128) (bM:4≤s.length) (nb:s.length≤1000) (h1:c≤1114111) (aj:¬ (55296≤c∧c≤57343)) (h:128≤c):Calls Tryz.prog 196 [S s,.int .i32 (c:Int)].toArray w (bI fun u w'=>u = .int .i64 (-1)∧Mod [] w w'):=by
 refine enter Tryz.func196 rfl rfl rfl (l:=[(0,_),(1,_)]) ⟨rfl,rfl,trivial⟩ ?_;have E:=Mod.refl [] w;have Cr:(0:Int)≤(c:Int):=by omega
 have fi:¬ (c:Int)<128:=by omega
 obtain⟨rs,akk,aor,ahr,amJ,aeJ,aeK⟩:=Kf h1 aj h;obtain⟨ev,b9⟩:∃ ev,s[rs.length-1]? = some ev:=⟨_,List.getElem?_eq_getElem (by omega)⟩;have amK:=aN ev (List.mem_of_getElem? b9);have akl:Lib.indexByte (s.drop (rs.length-1+1)) amJ = -1:=indexByte_none (fun x ab=>aN x (List.mem_of_mem_drop ab)) aeK;refine ae fun aX=>bb rfl (R aX (fU (ae fun aM=>aq 2 rfl (jZ (bB Cr) (aq 3 rfl (jZ (bX fi) (aq 2 rfl (R aM (aJ rfl (ae fun a7=>aq 3 rfl ?_))))))))));refine R a7 ?_;refine bm rfl (fun aeL=>?_) (fun aeL=>?_);rotate_left
 ·refine ae fun dH=>aQ rfl (cD (bt Si rfl) (Ke _ c h1 aj) fun iH J=>?_);replace E:=E.then J;refine aq 2 rfl (R dH ?_);refine aU rfl (fun T'=>?_) (fun T'=>?_)
  ·cases T'
  refine DI (ae fun cL=>aQ rfl (ao ((ZF Tryz.underlying21 Tryz.underlying9 rfl).to (v':=S rs) (by rw [akk])) (bb rfl (R cL (ae fun dz=>aQ rfl (ao (bF Tryz.underlying9 rfl) (ao (eL (r:=((rs.length-1:Nat):Int)) rfl rfl (by rw [wrap64_in _ (by omega)];omega)) (bb rfl (R dz (ae fun dS=>aq 2 rfl ?_))))))))));refine R dS (ae fun eD=>bb rfl (R eD (ay fun fl=>fU (cz (σ:=Unit) (fun _=>[(0,S s),(7,S rs),(8,.int .i64 ((rs.length-1:Nat):Int)),(9,.int .i64 ((rs.length-1:Nat):Int))]) (fun _ aE=>Mod [] w aE) (fun _=>0) (()) ⟨rfl,rfl,rfl,rfl,trivial⟩ (E) ?_))));rintro _ jO E;refine ay fun e0=>ae fun gW=>aq 2 rfl (ao (bF Tryz.underlying9 rfl) (ao (dK rfl rfl) (R gW ?_)));refine bm rfl (fun iR=>?_) (fun iR=>?_)
  ·refine cJ (az e0 (fU (DI (ay fun hx=>ay fun gy=>bK wide (by kernel_rfl) (fM 2 rfl rfl (ah (fun J=>(c8 Tryz.underlying9 rfl rfl (by omega) (by rw [Int.toNat_natCast];exact b9))) (fM 2 rfl rfl (ah (fun J=>(c8 Tryz.underlying9 rfl rfl (by omega) (by rw [Int.toNat_natCast];exact aeJ))) (ah (fun J=>(fE rfl rfl)) (bN rfl fun jV J=>?_))))))))));replace E:=E.then J;refine az gy ?_;refine bm rfl (fun yr=>?_) (fun yr=>?_)
   ·refine ay fun gz=>bK wide (by kernel_rfl) (fM 2 rfl rfl (ah (fun J=>(c7 (r:=((rs.length-1+1:Nat):Int)) rfl rfl (by rw [wrap64_in _ (by omega)];omega))) (ah (fun J=>(cv Tryz.underlying9 rfl rfl (by omega))) (fM 2 rfl rfl (ah (fun J=>(c8 Tryz.underlying9 rfl rfl (by omega) (by rw [Int.toNat_natCast];exact aeJ))) (Gy (fun di J=>bt qD rfl) (fun di J=>yR _ (s.drop (rs.length-1+1)) amJ) rfl rfl (ah (fun J=>(cI rfl)) (bN rfl fun ix J=>?_))))))));replace E:=E.then J;refine az gz (ay fun hJ=>ae fun ib=>aq 2 rfl (R ib ?_));refine bm rfl (fun aeM=>?_) (fun aeM=>?_)
    ·exact ae fun iJ=>bb rfl (R iJ (bg (a1 (by simp) (a1 (by simp) (DJ (by simp) (b5 (by simp) (a1 (by simp) (b5 (by simp) (a1 (by simp) (DJ (by simp) (b5 (by simp) (ar rfl rfl ⟨rfl,E⟩))))))))))))
    exact absurd (by rw [akl];decide) aeM
   exact absurd (by omega) yr
  exact absurd (by omega) iR
 refine ay fun bC=>ae fun bU=>aQ rfl (oh Tryz.underlying9 rfl rfl fun sA aE fx Mf KA=>?_);have nc:w.heap.size≤sA:=by have:=E.size;omega
 replace E:=E.then KA;refine R bU (fU (cz (σ:=Nat) (fun p=>[(0,S s),(1,.int .i32 (c:Int)),(175,.pointer (some ⟨sA,0,none⟩))]) (fun p aE=>p≤s.length∧yq aE sA s p∧Mod [] w aE) (fun p=>s.length-p) (0) ⟨rfl,rfl,rfl,trivial⟩ (⟨by omega,fx,E⟩) ?_));rintro p cY ⟨bJ,fx,E⟩;refine ay fun ca=>?_
 by_cases e1:p<s.length
 ·obtain⟨b,aH⟩:∃ b,s[p]? = some b:=⟨_,List.getElem?_eq_getElem e1⟩;have oi:=aN b (List.mem_of_getElem? aH);refine b8 (kY rfl fx e1 (dec_lt aH oi) rfl fun gv oV ya Az=>?_);replace E:=E.trans' ya (fun x ab=>.inr (by simp at ab;subst ab;exact nc));clear fx;have fx:=oV;refine ao (dU rfl rfl) (R ca (ay fun cA=>?_));refine aU rfl (fun DH=>?_) (fun DH=>?_)
  ·skip
   refine cJ (az cA (fU (ae fun cM=>aq 4 rfl (R cM (ae fun db=>aq 2 rfl (R db ?_))))));refine bm rfl (fun T9=>?_) (fun T9=>?_)
   ·exact absurd T9 (by omega)
   exact cJ (b5 (by simp) (jW (σ:=Nat) (s:=p) (p+1) ⟨rfl,rfl,rfl,trivial⟩ ⟨by omega,fx,E⟩ (by omega)))
  cases DH
 have j9:=e1;refine b8 (jJ rfl fx j9 rfl (ao (dU rfl rfl) (R ca (ay fun cq=>?_))));refine aU rfl (fun DH=>?_) (fun DH=>?_)
 ·cases DH
 skip
 exact bV (a1 (by simp) (a1 (by simp) (cr (az bC (ae fun cj=>bb rfl (R cj (bg (b5 (by simp) (ar rfl rfl ⟨rfl,E⟩)))))))))
theorem DK (w:World) (s:U) (c:Nat) (aN:∀ x∈s,x.toNat<128) (bM:4≤s.length) (nb:s.length≤1000) (h1:c≤1114111) (aj:¬ (55296≤c∧c≤57343)) (h:128≤c):Calls Tryz.prog 170 [S s,.int .i32 (c:Int)].toArray w (bI fun u w'=>u = .bool false∧Mod [] w w'):=by
 refine enter Tryz.func170 rfl rfl rfl (l:=[(0,_),(1,_)]) ⟨rfl,rfl,trivial⟩ ?_;have E:=Mod.refl [] w;refine ae fun aX=>bb rfl (R aX (ae fun aM=>aq 2 rfl (cD (bt AA rfl) (uV _ s c aN bM nb h1 aj h) fun aE J=>?_)));replace E:=E.then J;exact ao (et rfl rfl) (bb rfl (R aM (bg (ar rfl rfl ⟨rfl,E⟩))))
theorem O6 (w:World) (c:Nat) (h1:c≤1114111) (aj:¬ (55296≤c∧c≤57343)):Calls Tryz.prog 170 [S r5,.int .i32 (c:Int)].toArray w (bI fun u w'=>u = .bool (r5.any fun b=>decide (b.toNat=c))∧Mod [] w w'):=by
 rcases Nat.lt_or_ge c 128 with h | h
 ·exact BY w r5 c h
 refine(DK w r5 c (by decide) (by decide) (by decide) h1 aj h).mono fun e w' he=>?_;cases e with
 | returned v=>
  obtain⟨rfl,k⟩:=he;refine⟨?_,k⟩
  congr 1
  symm
  rw [List.any_eq_false];intro b aH;have:b.toNat<128:=(by decide:∀ b∈r5,b.toNat<128) b aH;simp;omega
 | panicked c=>exact he.elim
 | outgrown=>exact he.elim
theorem Gj (w:World) (c:Nat) (h1:c≤1114111) (aj:¬ (55296≤c∧c≤57343)):Calls Tryz.prog 195 [.int .i32 (c:Int)].toArray w (bI fun u w'=>u = .bool (ir c)∧Mod [] w w'):=by
 refine enter Tryz.func195 rfl rfl rfl (l:=[(0,_)]) ⟨rfl,trivial⟩ ?_;have E:=Mod.refl [] w;refine ae fun aX=>bb rfl (R aX (ae fun aM=>aQ rfl (cD (bt vO rfl) (tl _ c) fun aE J=>?_)));replace E:=E.then J;refine vX (fun bA:(tm c)=true=>?_) (fun bA=>?_)
 ·exact aq 13 rfl (R aM (bg (ar rfl rfl ⟨by simp_all [ir],E⟩)))
 refine aq 2 rfl (fF (bt tk rfl) (qk _ c) fun cY J=>?_);replace E:=E.then J;refine vX (fun bY:(qU c)=true=>?_) (fun bY=>?_)
 ·exact aq 10 rfl (R aM (bg (ar rfl rfl ⟨by simp_all [ir],E⟩)))
 refine aq 4 rfl ?_;refine dR (fun bP:(c:Int)=46=>?_) (fun bP=>?_)
 ·exact aq 6 rfl (R aM (bg (ar rfl rfl ⟨by simp_all [ir],E⟩)))
 refine aq 4 rfl ?_;refine dR (fun cT:(c:Int)=45=>?_) (fun cT=>?_)
 ·exact aq 2 rfl (R aM (bg (ar rfl rfl ⟨by simp_all [ir],E⟩)))
 exact aq 2 rfl (R aM (bg (ar rfl rfl ⟨by simp_all [ir],E⟩)))
theorem O7 (w:World) (c:Nat) (h1:c≤1114111) (aj:¬ (55296≤c∧c≤57343)):Calls Tryz.prog 169 [.int .i32 (c:Int)].toArray w (bI fun u w'=>u = .bool (jA c)∧Mod [] w w'):=by
 refine enter Tryz.func169 rfl rfl rfl (l:=[(0,_)]) ⟨rfl,trivial⟩ ?_;have E:=Mod.refl [] w;refine ae fun aX=>bb rfl (R aX (ae fun aM=>aQ rfl (cD (bt vO rfl) (tl _ c) fun aE J=>?_)));replace E:=E.then J;refine vX (fun bA:(tm c)=true=>?_) (fun bA=>?_)
 ·exact aq 9 rfl (R aM (bg (ar rfl rfl ⟨by simp_all [jA],E⟩)))
 refine aq 2 rfl (fF (bt tk rfl) (qk _ c) fun cY J=>?_);replace E:=E.then J;refine vX (fun bY:(qU c)=true=>?_) (fun bY=>?_)
 ·exact aq 6 rfl (R aM (bg (ar rfl rfl ⟨by simp_all [jA],E⟩)))
 refine aq 3 rfl (fF (bt Sj rfl) (O6 _ c h1 aj) fun gv J=>?_);replace E:=E.then J;refine vX (fun bP:(r5.any fun b=>decide (b.toNat=c))=true=>?_) (fun bP=>?_)
 ·exact aq 2 rfl (R aM (bg (ar rfl rfl ⟨by simp_all [jA],E⟩)))
 exact aq 2 rfl (R aM (bg (ar rfl rfl ⟨by simp_all [jA],E⟩)))
theorem O8 (w:World) (c:Nat) (h1:c≤1114111) (aj:¬ (55296≤c∧c≤57343)):Calls Tryz.prog 165 [.int .i32 (c:Int)].toArray w (bI fun u w'=>u = .bool (iu c)∧Mod [] w w'):=by
 refine enter Tryz.func165 rfl rfl rfl (l:=[(0,_)]) ⟨rfl,trivial⟩ ?_;have E:=Mod.refl [] w;refine ae fun aX=>bb rfl (R aX (ae fun aM=>aQ rfl (cD (bt vO rfl) (tl _ c) fun aE J=>?_)));replace E:=E.then J;refine vX (fun bA:(tm c)=true=>?_) (fun bA=>?_)
 ·exact aq 17 rfl (R aM (bg (ar rfl rfl ⟨by simp_all [iu],E⟩)))
 refine aq 2 rfl (fF (bt HF rfl) (zL _ c) fun cY J=>?_);replace E:=E.then J;refine vX (fun bY:(xT c)=true=>?_) (fun bY=>?_)
 ·exact aq 14 rfl (R aM (bg (ar rfl rfl ⟨by simp_all [iu],E⟩)))
 refine aq 3 rfl (fF (bt tk rfl) (qk _ c) fun gv J=>?_);replace E:=E.then J;refine vX (fun bP:(qU c)=true=>?_) (fun bP=>?_)
 ·exact aq 10 rfl (R aM (bg (ar rfl rfl ⟨by simp_all [iu],E⟩)))
 refine aq 4 rfl ?_;refine dR (fun cT:(c:Int)=95=>?_) (fun cT=>?_)
 ·exact aq 6 rfl (R aM (bg (ar rfl rfl ⟨by simp_all [iu],E⟩)))
 refine aq 4 rfl ?_;refine dR (fun dP:(c:Int)=45=>?_) (fun dP=>?_)
 ·exact aq 2 rfl (R aM (bg (ar rfl rfl ⟨by simp_all [iu],E⟩)))
 exact aq 2 rfl (R aM (bg (ar rfl rfl ⟨by simp_all [iu],E⟩)))
theorem Sk (w:World) (c:Nat) (h1:c≤1114111) (aj:¬ (55296≤c∧c≤57343)):Calls Tryz.prog 199 [.int .i32 (c:Int)].toArray w (bI fun u w'=>u = .bool (oB c)∧Mod [] w w'):=by
 refine enter Tryz.func199 rfl rfl rfl (l:=[(0,_)]) ⟨rfl,trivial⟩ ?_;have E:=Mod.refl [] w;refine ae fun aX=>bb rfl (R aX (ae fun aM=>aQ rfl (cD (bt vO rfl) (tl _ c) fun aE J=>?_)));replace E:=E.then J;refine vX (fun bA:(tm c)=true=>?_) (fun bA=>?_)
 ·exact aq 13 rfl (R aM (bg (ar rfl rfl ⟨by simp_all [oB],E⟩)))
 refine aq 2 rfl (fF (bt HF rfl) (zL _ c) fun cY J=>?_);replace E:=E.then J;refine vX (fun bY:(xT c)=true=>?_) (fun bY=>?_)
 ·exact aq 10 rfl (R aM (bg (ar rfl rfl ⟨by simp_all [oB],E⟩)))
 refine aq 3 rfl (fF (bt tk rfl) (qk _ c) fun gv J=>?_);replace E:=E.then J;refine vX (fun bP:(qU c)=true=>?_) (fun bP=>?_)
 ·exact aq 6 rfl (R aM (bg (ar rfl rfl ⟨by simp_all [oB],E⟩)))
 refine aq 4 rfl ?_;refine dR (fun cT:(c:Int)=95=>?_) (fun cT=>?_)
 ·exact aq 2 rfl (R aM (bg (ar rfl rfl ⟨by simp_all [oB],E⟩)))
 exact aq 2 rfl (R aM (bg (ar rfl rfl ⟨by simp_all [oB],E⟩)))
theorem xU (w:World) (s:U) (k:FuncId) (q:Nat→Bool) (he:aP Tryz.prog k) (hk:∀ (w:World) (c:Nat),c≤1114111→¬ (55296≤c∧c≤57343)→Calls Tryz.prog k [.int .i32 (c:Int)].toArray w (bI fun u w'=>u = .bool (q c)∧Mod [] w w')) (eE:∀ c,q c=true→c<128):Calls Tryz.prog 164 [S s,.func (.func k) #[] #[]].toArray w (bI fun u w'=>u = .bool (jM q s)∧Mod [] w w'):=by
 refine enter Tryz.func164 rfl rfl rfl (l:=[(0,_),(1,_)]) ⟨rfl,rfl,trivial⟩ ?_;have E:=Mod.refl [] w;refine ae fun aX=>bb rfl (R aX (ay fun aM=>ae fun a7=>aQ rfl (oh Tryz.underlying9 rfl rfl fun sA aE fx Mf KA=>?_)));have nc:w.heap.size≤sA:=by have:=E.size;omega
 replace E:=E.then KA;refine R a7 (fU (cz (σ:=Nat) (fun p=>[(0,S s),(1,.func (.func k) #[] #[]),(8,.pointer (some ⟨sA,0,none⟩))]) (fun p aE=>p≤s.length∧(s.take p).all (fun b=>q b.toNat)=true∧yq aE sA s p∧Mod [] w aE) (fun p=>s.length-p) (0) ⟨rfl,rfl,rfl,trivial⟩ (⟨by omega,by simp,fx,E⟩) ?_));rintro p cY ⟨bJ,ax,fx,E⟩;refine ay fun bC=>?_
 by_cases e1:p<s.length
 rotate_left
 ·have j9:=e1;have kX:=Kg (q:=q) (by omega) ax;refine b8 (jJ rfl fx j9 rfl (ao (dU rfl rfl) (R bC (ay fun cL=>?_))));refine aU rfl (fun mw=>?_) (fun mw=>?_)
  ·cases mw
  skip
  exact bV (a1 (by simp) (a1 (by simp) (cr (az aM (ae fun dz=>aQ rfl (ao (e3 rfl rfl) (bb rfl (R dz (bg (ar rfl rfl ⟨by rw [kX],E⟩))))))))))
 obtain⟨b,aH⟩:∃ b,s[p]? = some b:=⟨_,List.getElem?_eq_getElem e1⟩;have akm:=b.toNat_lt
 by_cases oi:b.toNat<128
 rotate_left
 ·obtain⟨c,m,wP,O9,fi,gA⟩:=HG aH (by omega);refine b8 (kY rfl fx e1 (wP) rfl fun jO oV ya Az=>?_);replace E:=E.trans' ya (fun x ab=>.inr (by simp at ab;subst ab;exact nc));clear fx;have fx:=oV;refine ao (dU rfl rfl) (R bC (ay fun db=>?_));refine aU rfl (fun mw=>?_) (fun mw=>?_)
  ·skip
   refine cJ (az db (fU (ae fun cq=>aq 2 rfl (R cq (ae fun cj=>aq 2 rfl (cD (se he rfl rfl) (hk _ c (by omega) (by omega)) fun jV J=>?_))))));replace fx:=fx.I J;replace E:=E.then J;refine ao (gJ rfl) (R cj ?_);refine aU rfl (fun mD=>?_) (fun mD=>?_)
   ·have kX:jM q s=false:=DL aH (eo fun h=>by have:=eE _ h;omega);exact ae fun dH=>bb rfl (R dH (bg (b5 (by simp) (a1 (by simp) (b5 (by simp) (a1 (by simp) (ar rfl rfl ⟨by rw [kX],E⟩)))))))
   exact absurd (eE c (by simpa using mD)) (by omega)
  cases mw
 skip
 refine b8 (kY rfl fx e1 (dec_lt aH oi) rfl fun gv oV ya Az=>?_);replace E:=E.trans' ya (fun x ab=>.inr (by simp at ab;subst ab;exact nc));clear fx;have fx:=oV;refine ao (dU rfl rfl) (R bC (ay fun bU=>?_));refine aU rfl (fun mw=>?_) (fun mw=>?_)
 ·skip
  refine cJ (az bU (fU (ae fun ca=>aq 2 rfl (R ca (ae fun cA=>aq 2 rfl (cD (se he rfl rfl) (hk _ b.toNat (by omega) (by omega)) fun iH J=>?_))))));replace fx:=fx.I J;replace E:=E.then J;refine ao (gJ rfl) (R cA ?_);refine aU rfl (fun mD=>?_) (fun mD=>?_)
  ·have kX:jM q s=false:=DL aH (by simpa using mD);exact ae fun cM=>bb rfl (R cM (bg (b5 (by simp) (a1 (by simp) (b5 (by simp) (a1 (by simp) (ar rfl rfl ⟨by rw [kX],E⟩)))))))
  have xV:=all_succ aH ax (by simpa using mD);exact cJ (b5 (by simp) (jW (σ:=Nat) (s:=p) (p+1) ⟨rfl,rfl,rfl,trivial⟩ ⟨by omega,xV,fx,E⟩ (by omega)))
 cases mw
end Go.Proofs.YtnihidkbkhcfoaaGreatDoor.V
namespace Go.Proofs.YtnihidkbkhcfoaaGreatDoor.V
open Go
theorem DM (s:U):Lib.cut s [58]=(s.take (aZ s),s.drop (aZ s+1),decide (aZ s<s.length)):=by
 rw [Gp];have:=uC s
 by_cases h:aZ s<s.length
 ·rw [if_pos h,decide_eq_true h]
 rw [if_neg h,decide_eq_false h,List.take_of_length_le (by omega),List.drop_eq_nil_of_le (by omega)]
theorem kS (s:U):decide (aZ s=s.length) = !decide (aZ s<s.length):=by
 have:=uC s
 by_cases h:aZ s<s.length
 ·rw [decide_eq_true h,decide_eq_false (by omega)];rfl
 rw [decide_eq_false h,decide_eq_true (by omega)];rfl
theorem kT (s:U):decide (s.length-aZ s≤6)=decide (((s.drop (aZ s+1)).length:Int)≤5):=by
 rw [List.length_drop,decide_eq_decide];omega
theorem pa (s:U):decide (s.length≤255)=decide ((s.length:Int)≤255):=by
 rw [decide_eq_decide];omega
def lI (sign:UInt8) (s:U):Bool:=decide (s.head? = some sign)&&decide ((s.length:Int)≤255)
theorem iv {sign:UInt8} (akw:sign≠58) (q:Nat→Bool) (s:U) :
  gU sign q s=(lI sign s&&decide (aZ (s.drop 1)<(s.drop 1).length)&&fD ((s.drop 1).drop (aZ (s.drop 1)+1))&&jM q ((s.drop 1).take (aZ (s.drop 1)))):=by
 cases s with
 | nil=>simp [gU,lI]
 | cons b r=>
  by_cases aH:b=sign
  ·subst aH
   have a6:aZ (b::r)=aZ r+1:=by
    have:(b == 58)=false:=by simpa using akw
    simp [aZ,List.findIdx_cons,this]
   simp only [gU,lI,a6,List.drop_succ_cons,List.drop_zero,List.length_cons,List.head?_cons,List.take_succ_cons,decide_true]
   rw [show decide (r.length+1≤255)=decide (((r.length+1:Nat):Int)≤255)by rw [decide_eq_decide];omega,show decide (aZ r+1<r.length+1)=decide (aZ r<r.length)by rw [decide_eq_decide];omega]
   generalize decide (((r.length+1:Nat):Int)≤255)=sa
   generalize decide (aZ r<r.length)=a2
   generalize jM q (r.take (aZ r))=a3
   generalize fD (r.drop (aZ r+1))=a4
   cases sa <;> cases a2 <;> cases a3 <;> cases a4 <;> rfl
  have:decide ((b::r).head? = some sign)=false:=by simp [aH]
  rw [gU,lI,this]
  simp
theorem Gq (s p:U):Lib.hasPrefix s p=decide (s.take p.length=p):=by
 unfold Lib.hasPrefix;rw [Bool.eq_iff_iff];simp only [decide_eq_true_eq,List.isPrefixOf_iff_prefix];rw [List.prefix_iff_eq_take];exact eq_comm
theorem tp (s:U):xW s=(Lib.hasPrefix s Bt&&decide ((s.length:Int)≤255)&&jM oB (Lib.trimPrefix s Bt)):=by
 have j0:Bt.length=8:=rfl;unfold xW Lib.trimPrefix;rw [Gq,j0,pa]
 by_cases h:s.take 8=Bt
 ·rw [decide_eq_true h,if_pos rfl];generalize decide ((s.length:Int)≤255)=sa;generalize jM oB (s.drop 8)=a2;cases sa <;> cases a2 <;> rfl
 rw [decide_eq_false h];simp
/-! ### the document's kinds -/
section
variable {P:Program} {l:List (Nat×Value)} {w:World} {ty:TypeId} {pos:String} {af:Array Edge} {dd:Option Nat} {gg:Option (Nat×Bool)} {x y z hi:Operand} {t:TypeId}
end
def W4 (x:UInt32):Value:=.int .u32 x.toNat
section
variable {P:Program} {l:List (Nat×Value)} {w:World} {ty:TypeId} {pos:String} {af:Array Edge}
variable {dd:Option Nat} {gg:Option (Nat×Bool)} {x y:Operand} {t t' Xc:TypeId} {a b:UInt32}
end
abbrev qH (c:UInt8):List Value:=[qW c]
abbrev acO (b:List UInt8):D:=flat 1 qH b
abbrev AN (x:UInt32):List Value:=[W4 x]
abbrev ah4 (b:List UInt32):D:=flat 1 AN b
def PQ (x:UInt32) (k:Nat):UInt32:=x >>> UInt32.ofNat k ||| x <<< UInt32.ofNat (32-k)
def QT (b:List UInt8):UInt32:=b.foldl (fun n c=>n <<< UInt32.ofNat 8 ||| c.toUInt32) 0
structure S8 where
 a:UInt32
 b:UInt32
 c:UInt32
 d:UInt32
 e:UInt32
 f:UInt32
 g:UInt32
 h:UInt32
abbrev S8.cells (s:S8):List Value:=[W4 s.a,W4 s.b,W4 s.c,W4 s.d,W4 s.e,W4 s.f,W4 s.g,W4 s.h]
def KN:List UInt32:=[
 0x428a2f98,0x71374491,0xb5c0fbcf,0xe9b5dba5,0x3956c25b,0x59f111f1,0x923f82a4,0xab1c5ed5,
 0xd807aa98,0x12835b01,0x243185be,0x550c7dc3,0x72be5d74,0x80deb1fe,0x9bdc06a7,0xc19bf174,
 0xe49b69c1,0xefbe4786,0x0fc19dc6,0x240ca1cc,0x2de92c6f,0x4a7484aa,0x5cb0a9dc,0x76f988da,
 0x983e5152,0xa831c66d,0xb00327c8,0xbf597fc7,0xc6e00bf3,0xd5a79147,0x06ca6351,0x14292967,
 0x27b70a85,0x2e1b2138,0x4d2c6dfc,0x53380d13,0x650a7354,0x766a0abb,0x81c2c92e,0x92722c85,
 0xa2bfe8a1,0xa81a664b,0xc24b8b70,0xc76c51a3,0xd192e819,0xd6990624,0xf40e3585,0x106aa070,
 0x19a4c116,0x1e376c08,0x2748774c,0x34b0bcb5,0x391c0cb3,0x4ed8aa4a,0x5b9cca4f,0x682e6ff3,
 0x748f82ee,0x78a5636f,0x84c87814,0x8cc70208,0x90befffa,0xa4506ceb,0xbef9a3f7,0xc67178f2]
def ah5 (x:UInt32):UInt32:=PQ x 7 ^^^ PQ x 18 ^^^ x >>> UInt32.ofNat 3
def ah6 (y:UInt32):UInt32:=PQ y 17 ^^^ PQ y 19 ^^^ y >>> UInt32.ofNat 10
def zk (w:List UInt32) (i:Nat):UInt32:=w.getD i 0
def WO (w:List UInt32) (i:Nat):UInt32:=zk w (i-16)+ah5 (zk w (i-15))+zk w (i-7)+ah6 (zk w (i-2))
def WQ (b:List UInt8):Nat→List UInt32
 | 0=>[]
 | i+1=>WQ b i ++ [if i<16 then QT ((b.drop (4*i)).take 4)else WO (WQ b i) i]
def Tu (k w:UInt32) (s:S8):UInt32:=s.h+(PQ s.e 6 ^^^ PQ s.e 11 ^^^ PQ s.e 25)+(s.e &&& s.f ^^^ ~~~s.e &&& s.g)+k+w
def acQ (s:S8):UInt32:=PQ s.a 2 ^^^ PQ s.a 13 ^^^ PQ s.a 22
def acR (s:S8):UInt32:=s.a &&& s.b ^^^ s.a &&& s.c ^^^ s.b &&& s.c
def ah7 (k w:UInt32) (s:S8):S8:=⟨Tu k w s+(acQ s+acR s),s.a,s.b,s.c,s.d+Tu k w s,s.e,s.f,s.g⟩
def Tv (aav ws:List UInt32) (s:S8):Nat→S8
 | 0=>s
 | i+1=>ah7 (zk aav i) (zk ws i) (Tv aav ws s i)
def S8.add (s t:S8):S8:=⟨s.a+t.a,s.b+t.b,s.c+t.c,s.d+t.d,s.e+t.e,s.f+t.f,s.g+t.g,s.h+t.h⟩
def comp (s:S8) (b:List UInt8):S8:=s.add (Tv KN (WQ b 64) s 64)
abbrev S8.list (s:S8):List UInt32:=[s.a,s.b,s.c,s.d,s.e,s.f,s.g,s.h]
theorem FI {xs:List UInt32}:∀ x∈xs,∀ c∈AN x,c.oneCell'=true:=by
 intro x _ c a6;simp at a6;subst a6;rfl
theorem Own.words {w:World} {e n:Nat} {v:Value} {xs:List UInt32} (h:Own w e 1 v n ((xs.map AN).flatten)) (bW:xs.length=n):aS [] w (ah4 xs) v:=Own.flat h (fun _ _=>rfl) FI bW (by simp)
theorem aD.c1 {w:World} {g T i:Nat} {cs:List Value} {v:Value} (h:aD w g T cs) (hi:cs[i]? = some v):w.cell? ⟨g,0+i*1,none⟩=some v:=by
 rw [Nat.zero_add,Nat.mul_one];exact h.cell hi
theorem pd.c1 {w:World} {g i:Nat} {cs:List Value} {v:Value} (h:pd w ⟨g,0,none⟩ cs) (hi:cs[i]? = some v):w.cell? ⟨g,0+i*1,none⟩=some v:=by
 have:=h i v hi;rw [Addr.add_lit] at this;rw [Nat.mul_one];exact this
section
variable {P:Program} {ops:Array Oper} {Q:Exit→Act→World→Prop} {n:Nat} {ds:List Deferred} {l:List (Nat×Value)} {w w':World}
variable {rest:List Oper} {ty:TypeId} {pos:String} {af:Array Edge} {x y:Operand} {t:TypeId}
end
theorem FJ {b:List UInt8}:∀ x∈b,∀ c∈qH x,c.oneCell'=true:=by
 intro x _ c a6;simp at a6;subst a6;rfl
theorem Own.acP {w:World} {e n:Nat} {v:Value} {b:List UInt8} (A:List Nat) (h:Own w e 1 v n ((b.map qH).flatten)) (bW:b.length=n) (du:∀ x∈aL v,x∉A):aS A w (acO b) v:=Own.flat h (fun _ _=>rfl) FJ bW du
theorem Own.as {w:World} {e sz m n:Nat} {v:Value} {us vs:List Value} (h:Own w e sz v n vs) (hm:n=m) (bw:vs=us):Own w e sz v m us:=by
 subst hm;subst bw;exact h
def acS (n i:Nat):UInt8:=UInt8.ofNat (n*8 / 256 ^ i)
def lens (n k:Nat):List UInt8:=(List.range k).map fun i=>acS n (7-i)
def q1 (x:UInt32) (j:Nat):UInt8:=(x >>> UInt32.ofNat (8*j)).toUInt8
section
variable {P:Program} {l:List (Nat×Value)} {w:World} {ty:TypeId} {pos:String} {af:Array Edge}
variable {dd:Option Nat} {gg:Option (Nat×Bool)} {x y:Operand} {t:TypeId}
theorem PU {ad:Option Addr} {c c' e sz fY lo hi:Nat} {h fb:Operand} (bQ:k2 P t e sz fY=true) (ab:aT l x=some (.slice ad c c')) (bM:aT l h=some (.int .i64 (lo:Int))) (jE:aT l fb=some (.int .i64 (hi:Int))) (aH:lo≤hi∧hi≤c') (a6:c≤c') :
  bo P l ⟨dd,.slice t x (some h) (some fb) none,ty,pos,af,gg⟩ w (.slice (ko ad c' lo sz) (hi-lo) (c'-lo)) w:=by
 have:=Cz (P:=P) (w:=w) (dd:=dd) (ty:=ty) (pos:=pos) (af:=af) (gg:=gg) bQ ab (lo:=some h) (pl:=some (.i64,(lo:Int))) (hi:=some fb) (ph:=some (.i64,(hi:Int))) (by simp [tG,bM]) (by simp [tG,jE]) (by simp only [hb,hP];omega) a6
 refine this.to ?_
 simp [hb,hP]
end
theorem Own.block {w:World} {e c i:Nat} {ad:Option Addr} {t:List UInt8} (h:Own w e 1 (.slice ad t.length c) t.length ((t.map qH).flatten)) (hi:64*i+64≤t.length):aS [] w (acO ((t.drop (64*i)).take 64)) (.slice (ko ad c (64*i) 1) (64*i+64-64*i) (c-64*i)):=by
 have h1:=h.cut (lo:=64*i) (hi:=64*i+64) (by omega) hi;have aj:=CK (cells:=qH) (sz:=1) (xs:=t) (fun _=>rfl) (64*i);have aF:=CL (cells:=qH) (sz:=1) (xs:=t.drop (64*i)) (fun _=>rfl) (64*i+64-64*i);rw [aj,aF] at h1;have bn:64*i+64-64*i=64:=by omega
 rw [bn] at h1 ⊢;exact Own.acP [] h1 (by rw [List.length_take,List.length_drop];omega) (by simp)
section
variable {P:Program} {l:List (Nat×Value)} {w:World} {ty:TypeId} {pos:String} {af:Array Edge}
variable {dd:Option Nat} {gg:Option (Nat×Bool)} {x y:Operand} {t t':TypeId}
variable {ops:Array Oper} {Q:Exit→Act→World→Prop} {n:Nat} {ds:List Deferred} {rest:List Oper} {d:Nat}
end
section
variable {P:Program} {ops:Array Oper} {Q:Exit→Act→World→Prop} {n:Nat} {ds:List Deferred} {l:List (Nat×Value)} {w w':World}
variable {rest:List Oper} {ty:TypeId} {pos:String} {af:Array Edge} {x y:Operand}
end
def Kk (url:Bool) (c:Nat):Bool:=(decide ((c:Int)=43) && !url)||(decide ((c:Int)=45)&&url)
def Kl (url:Bool) (c:Nat):Bool:=(decide ((c:Int)=47) && !url)||(decide ((c:Int)=95)&&url)
def r6 (url:Bool) (c:Nat):Option Nat:=
 if xT c=true then some (c-65)else if tm c=true then some (c-97+26)else if qU c=true then some (c-48+52)else if Kk url c=true then some 62 else if Kl url c=true then some 63 else none
theorem Pf (url:Bool) (c:Nat) (h:128≤c):r6 url c=none:=by
 unfold r6 xT tm qU Kk Kl;simp only [Bool.or_eq_true,Bool.and_eq_true,decide_eq_true_eq];rw [if_neg (by omega),if_neg (by omega),if_neg (by omega),if_neg (by omega),if_neg (by omega)]
theorem ZL {url:Bool} {c x:Nat} (h:r6 url c=some x):x<64:=by
 unfold r6 xT tm qU at h;simp only [Bool.and_eq_true,decide_eq_true_eq] at h
 split at h
 ·injection h with h;omega
 split at h
 ·injection h with h;omega
 split at h
 ·injection h with h;omega
 split at h
 ·injection h with h;omega
 split at h
 ·injection h with h;omega
 cases h
def lq (k:Nat):Nat:=if k % 4=0 then 1 else if k % 4=1 then 64 else if k % 4=2 then 16 else 4
def rest (url:Bool) (s:U) (k:Nat):Nat:=match k with
 | 0=>0
 | k+1=>((r6 url ((s.getD k 0).toNat)).getD 0) % lq (k+1)
def iU (url:Bool) (s:U):Bool:=s.all (fun b=>(r6 url b.toNat).isSome) && !decide (((6*s.length % 8:Nat):Int)≥6) && !decide ((rest url s s.length:Int)≠0)
theorem xX {url:Bool} {s:U} {k x:Nat} {b:UInt8} (h:s[k]? = some b) (ab:r6 url b.toNat=some x):rest url s (k+1)=x % lq (k+1):=by
 show((r6 url ((s.getD k 0).toNat)).getD 0) % lq (k+1)=_;rw [List.getD_eq_getElem?_getD,h];simp [ab]
theorem HN (k:Nat):0<lq k:=by
 unfold lq
 repeat' split
 all_goals omega
theorem Pd (k:Nat):lq k≤64:=by
 unfold lq
 repeat' split
 all_goals omega
theorem Pc (url:Bool) (s:U) (k:Nat):rest url s k<64:=by
 cases k with
 | zero=>show 0<64;omega
 | succ k=>
  have h1:rest url s (k+1)<lq (k+1):=Nat.mod_lt _ (HN _);have:=Pd (k+1);omega
theorem Gk {url:Bool} {s:U} {k:Nat} (h:k % 4=0):rest url s k=0:=by
 cases k with
 | zero=>rfl
 | succ k=>
  show _ % lq (k+1)=0;have:lq (k+1)=1:=by unfold lq;rw [if_pos h]
  rw [this,Nat.mod_one]
theorem HM {url:Bool} {s:U} {k:Nat} {b:UInt8} (h:s[k]? = some b) (aH:r6 url b.toNat=none):iU url s=false:=by
 unfold iU;have:s.all (fun b=>(r6 url b.toNat).isSome)=false:=by
  rw [List.all_eq_false];exact⟨b,List.mem_of_getElem? h,by simp [aH]⟩
 rw [this];rfl
/-! ### the words -/
theorem aeO {h x:Nat} (jE:h<64) (ab:x<64):IntKind.u64.wrap (BitVec.ofInt IntKind.u64.bits ((h*64:Nat):Int) ||| BitVec.ofInt IntKind.u64.bits (x:Int)).toNat=((h*64+x:Nat):Int):=by
 have:∀ h x:Fin 64,IntKind.u64.wrap (BitVec.ofInt IntKind.u64.bits ((h.val*64:Nat):Int) ||| BitVec.ofInt IntKind.u64.bits (x.val:Int)).toNat=((h.val*64+x.val:Nat):Int):=by decide +kernel
 exact this ⟨h,jE⟩ ⟨x,ab⟩
theorem ZM {m:Nat} (hm:m<4096) {q:Nat} (eE:q=1∨q=4∨q=16∨q=64):IntKind.u64.wrap (BitVec.ofInt IntKind.u64.bits (m:Int) &&& BitVec.ofInt IntKind.u64.bits ((q-1:Nat):Int)).toNat=((m % q:Nat):Int):=by
 have aV:∀ z:Nat,z<4096→BitVec.ofInt IntKind.u64.bits (z:Int)=BitVec.ofNat 64 z:=fun z _=>rfl;rw [aV m hm,aV (q-1) (by omega)];have aj:((BitVec.ofNat 64 m &&& BitVec.ofNat 64 (q-1)).toNat)=m % q:=by
  rw [BitVec.toNat_and,BitVec.toNat_ofNat,BitVec.toNat_ofNat,Nat.mod_eq_of_lt (by omega),Nat.mod_eq_of_lt (by omega)];rcases eE with rfl | rfl | rfl | rfl
  ·simp [Nat.mod_one]
  ·exact Nat.and_two_pow_sub_one_eq_mod m 2
  ·exact Nat.and_two_pow_sub_one_eq_mod m 4
  exact Nat.and_two_pow_sub_one_eq_mod m 6
 have:m % q≤m:=Nat.mod_le _ _;refine(congrArg (fun n:Nat=>IntKind.u64.wrap (n:Int)) aj).trans ?_;show((m % q:Nat):Int) % 18446744073709551616=_;exact Int.emod_eq_of_lt (by omega) (by omega)
theorem Pe (k:Nat):lq k=1∨lq k=4∨lq k=16∨lq k=64:=by
 unfold lq
 repeat' split
 all_goals simp
theorem St (h x k:Nat):(h*64+x) % lq k=x % lq k:=by
 rcases Pe k with e | e | e | e <;> rw [e] <;> omega
theorem ql (z:Int) (h : -2147483648≤z∧z≤2147483647):IntKind.i32.wrap z=z:=by
 rw [IntKind.wrap_i32 z];omega
theorem aeN {h:Nat} (jE:h<64):IntKind.u64.wrap ((h:Int)*2 ^ (min (6:Int).toNat IntKind.u64.bits))=((h*64:Nat):Int):=by
 have:(2:Int) ^ (min (6:Int).toNat IntKind.u64.bits)=64:=by decide
 rw [this,hy _ (by omega)];omega
theorem Ss {k m:Nat} (hm:m=6*k % 8):IntKind.u64.wrap ((1:Int)*2 ^ (min (m:Int).toNat IntKind.u64.bits))=(lq k:Int):=by
 have bn:k % 4=0∨k % 4=1∨k % 4=2∨k % 4=3:=by omega
 rcases bn with h | h | h | h
 ·obtain rfl:m=0:=by omega
  unfold lq;rw [if_pos h];decide
 ·obtain rfl:m=6:=by omega
  unfold lq;rw [if_neg (by omega),if_pos h];decide
 ·obtain rfl:m=4:=by omega
  unfold lq;rw [if_neg (by omega),if_neg (by omega),if_pos h];decide
 obtain rfl:m=2:=by omega
 unfold lq;rw [if_neg (by omega),if_neg (by omega),if_neg (by omega)];decide
theorem ZT (z:Int):∃ c:UInt8,IntKind.u8.wrap z=(c.toNat:Int):=by
 have h1:IntKind.u8.wrap z=z % 256:=rfl;refine⟨UInt8.ofNat (z % 256).toNat,?_⟩;rw [h1,UInt8.toNat_ofNat_of_lt' (by have:(z % 256).toNat<256:=(by omega);exact this)];omega
theorem Km {w:World} {v:Value} {tB:U} {n:Nat} {z:Int} (h:Own w 5 1 v n ((tB.map Ly).flatten ++ [.int .u8 (IntKind.u8.wrap z)])) (bW:n=tB.length+1):∃ akn,l0 w v (tB ++ [akn]):=by
 obtain⟨c,a6⟩:=ZT z;refine⟨c,h.same (by rw [bW];simp) ?_⟩;rw [a6];simp [kG,qW]
def rh (w w':World) (url:Bool) (s:U) (u:Value):Prop:=∃ v tB o,u = .tuple #[v,.bool o]∧o=iU url s∧l0 w' v tB∧tB.length=(if iU url s=true then s.length*6 / 8 else 0)∧∀ x∈aL v,w.heap.size≤x
theorem rh.no {w w':World} {url:Bool} {s:U} (h:iU url s=false):rh w w' url s (.tuple #[.slice none 0 0,.bool false]):=⟨_,[],_,rfl,h.symm,Own.nil _ 5 1,by rw [h];rfl,by simp [aL]⟩
theorem rh.yes {w w':World} {url:Bool} {s tB:U} {v:Value} (h:iU url s=true) (O:l0 w' v tB) (bM:tB.length=s.length*6 / 8) (L:∀ x∈aL v,w.heap.size≤x):rh w w' url s (.tuple #[v,.bool true]):=⟨_,tB,_,rfl,h.symm,O,by rw [h,bM];rfl,L⟩
def eZ (s:U):Bool:=decide (s.head? = some 36)&&iU true (s.drop 1)&&decide ((s.drop 1).length*6 / 8=32)
def iF (s:U) (n:Nat):Bool:=iU false s&&decide (s.length*6 / 8=n)
theorem FH {xs:List eU}:∀ x∈xs,∀ c∈eU.cells x,c.oneCell'=true:=by
 intro x _ c a6;simp at a6;rcases a6 with rfl | rfl <;> rfl
theorem Own.pairs {w:World} {e:Nat} {v:Value} {xs:List eU} (A:List Nat) (h:Own w e 2 v xs.length ((xs.map eU.cells).flatten)) (du:∀ x∈aL v,x∉A):aS A w (GL xs) v:=Own.flat h (fun _ _=>rfl) FH rfl du
def acN (x:eU) (S:List eU):List eU:=S.filter (fun y=>!Lw x y) ++ [x]++S.filter (fun y=>Lw x y)
def Qg (xs:List eU) (k:Nat):List eU:=(xs.take k).foldl (fun S x=>acN x S) []
def Qf:U:=[109,46,114,111,111,109,46,99,114,101,97,116,101]
def ah3:U:=[109,46,114,111,111,109,46,112,111,119,101,114,95,108,101,118,101,108,115]
def Qe:U:=[109,46,114,111,111,109,46,109,101,109,98,101,114]
def ahb (snd:U):List eU:=[⟨Qf,[]⟩,⟨ah3,[]⟩,⟨Qe,snd⟩]
section
variable {P:Program} {A:List Nat} {w:World}
theorem de.bc {sz:Nat} {ad:Addr}:∀ (i:Nat) (rws:List (List D)),de A w sz ad i rws→∃ vs,ak A w rws.flatten vs∧vs.length=rws.length*sz∧∀ j u,vs[j]? = some u→w.cell? (ad.add (i*sz+j))=some u
 | _,[],_=>⟨[],rfl,by simp,fun j u hu=>by simp at hu⟩
 | i,r::rs,jE=>by
  simp only [de] at jE
  obtain⟨bM,uZ,f'⟩:=jE
  obtain⟨us,FL,WS⟩:=uZ.cells
  obtain⟨vs,wg,AO,FM⟩:=de.bc (i+1) rs f'
  refine⟨us++vs,by simp only [List.flatten_cons];exact FL.append wg,by simp [FL.length,bM,AO,Nat.add_mul];omega,fun j u dG=>?_⟩
  rw [List.getElem?_append] at dG
  have w6:us.length=sz:=by rw [FL.length,bM]
  split at dG
  ·have:=WS j u dG
   rwa [Nat.zero_add,Addr.add_add] at this
  rename_i eH
  have:=FM _ u dG
  rwa [show(i+1)*sz+(j-us.length)=i*sz+j by rw [Nat.add_mul,w6];rw [w6] at eH;omega] at this
theorem Src.S' {o1 uM sz:Nat} {rows:List (List D)} {v:Value} (hk:P.underlying o1=some (.slice uM)) (h:aS A w (.iW sz rows) v):∃ vs,ak A w rows.flatten vs∧vs.length=rows.length*sz∧∀ w',Mod [] w w'→Src P sz o1 v rows.length vs w':=by
 cases rZ:rows with
 | nil=>
  subst rZ;simp only [aS] at h;obtain⟨ad,c,rfl,aj,aF,bn⟩:=h;refine⟨[],rfl,by simp,fun w' _=>?_⟩;cases ad with
  | none=>exact Src.ofNil w' hk c
  | some ad=>exact Src.ofSlice w' hk ad 0 c [] (by simp) (fun j u hu=>by simp at hu) (fun u hu=>by cases hu)
 | cons Tc rs=>
  rw [← rZ];simp only [aS] at h;obtain⟨ad,c,rfl,aj,aF,bn⟩:=h;obtain⟨ad,rfl,du,aH,bf⟩:=bn (by simp [rZ]);obtain⟨vs,wg,AO,FM⟩:=de.bc 0 rows bf;have h0:pd w ad vs:=fun j u hu=>by have:=FM j u hu;rwa [Nat.zero_mul,Nat.zero_add] at this
  exact⟨vs,wg,AO,fun w' k=>Src.ofSlice w' hk ad _ c vs AO (h0.I k) wg.one⟩
end
theorem JV.EB {A:List Nat} {w:World} {m:List (U×JV)} {y:U×JV} {x:JV} {vs us:List Value} {i:Nat} (h:ak A w (m.map JV.hG).flatten vs) (aR:m[i]? = some y) (ab:ak A w x.D us) :
  ak A w ((m.set i (y.1,x)).map JV.hG).flatten (vs.take (i*7+1)++us++vs.drop (i*7+1+6)):=by
 have hi:=(List.getElem?_eq_some_iff.1 aR).1
 have h1:=JV.Jj (p:=(y.1,x)) h hi (JV.fB (p:=(y.1,x)) ab)
 have aj:=ak.o2 (JV.oZ m) h i (JV.hG y) (by simp [aR])
 obtain⟨u,gH,he,aF,_⟩:=aj
 obtain rfl:=aF.ku
 have bn:vs[i*7]? = some (S y.1):=by
  have:=congrArg (fun l=>l[0]?) he
  simpa [List.getElem?_take,List.getElem?_drop] using this
 have ch:vs.take (i*7+1)=vs.take (i*7) ++ [S y.1]:=by rw [List.take_add_one,bn];rfl
 rw [ch,show i*7+1+6=(i+1)*7 by omega]
 simpa using h1
theorem JV.oE {A:List Nat} {w:World} {m:List (U×JV)} {am:Option Addr} {cm n:Nat} (bW:m.length=n) (apv:aS A w (.iW 7 (m.map JV.hG)) (.slice am n cm)):ak A w (JV.obj m).D [.int .i64 5,.bool false,.int .i64 0,S [],.slice none 0 0,.slice am n cm]:=by
 subst bW;exact JV.yN apv
theorem JV.n2 (m:List (U×JV)):(JV.obj m).ec=m:=by simp [JV.ec,JV.obj,JV.kind,JV.map]
theorem ub {β:Type} {m:List (U×β)} {k:U} {x:β} (h:cZ m):(dJ m k x).length≤m.length+1:=by
 have key:∀ {r:List (U×β)},(r.filter fun p=>fA p.1 k).length+(r.filter fun p=>fA k p.1).length≤r.length:=by
  intro r
  induction r with
  | nil=>simp
  | cons p r dh=>
   by_cases h1:fA p.1 k=true
   ·have aj:=mb h1;simp [h1,aj];omega
   by_cases aj:fA k p.1=true
   ·simp [h1,aj];omega
   simp [h1,aj];omega
 have:=key (r:=m);simp only [dJ,List.length_append,List.length_singleton];omega
def er (m:List (U×JV)) (k:Nat):List (U×JV):=(m.take k).foldl (fun a p=>dJ a p.1 p.2) []
theorem sg (m:List (U×JV)):er m 0 = []:=by simp [er]
theorem oI {m:List (U×JV)} {k:Nat} {p:U×JV} (h:m[k]? = some p):er m (k+1)=dJ (er m k) p.1 p.2:=by
 have bk:=(List.getElem?_eq_some_iff.1 h).1;rw [er,List.take_succ_eq_append_getElem bk,(List.getElem?_eq_some_iff.1 h).2,List.foldl_append];rfl
theorem pQ (m:List (U×JV)) (k:Nat):cZ (er m k):=by
 unfold er;generalize m.take k=l;suffices ∀ (l a:List (U×JV)),cZ a→cZ (l.foldl (fun a p=>dJ a p.1 p.2) a) from this l [] List.Pairwise.nil;intro l
 induction l with
 | nil=>intro a h;exact h
 | cons p r dh=>intro a h;exact dh _ (oe h)
theorem BV (m:List (U×JV)) (k:Nat):(er m k).length≤k:=by
 induction k with
 | zero=>simp [er]
 | succ k dh=>
  rcases Nat.lt_or_ge k m.length with h | h
  ·rw [oI (List.getElem?_eq_getElem h)];have:=ub (k:=(m[k]).1) (x:=(m[k]).2) (pQ m k);omega
  have:er m (k+1)=er m k:=by rw [er,er,List.take_of_length_le h,List.take_of_length_le (by omega)]
  rw [this];omega
abbrev M':U:=[109,46,114,111,111,109,46,99,114,101,97,116,101]
abbrev AP:U:=[116,104,105,114,100,95,112,97,114,116,121,95,105,110,118,105,116,101]
abbrev sO:U:=[115,105,103,110,101,100]
abbrev uc:U:=[109,46,114,111,111,109,46,109,101,109,98,101,114]
abbrev Jk:List U:=[[106,111,105,110,95,97,117,116,104,111,114,105,115,101,100,95,118,105,97,95,117,115,101,114,115,95,115,101,114,118,101,114],[109,101,109,98,101,114,115,104,105,112]]
abbrev yv:U:=[109,46,114,111,111,109,46,106,111,105,110,95,114,117,108,101,115]
abbrev yw:List U:=[[97,108,108,111,119],[106,111,105,110,95,114,117,108,101]]
abbrev vk:U:=[109,46,114,111,111,109,46,112,111,119,101,114,95,108,101,118,101,108,115]
abbrev vl:List U:=[[98,97,110],[101,118,101,110,116,115],[101,118,101,110,116,115,95,100,101,102,97,117,108,116],[105,110,118,105,116,101],[107,105,99,107],[114,101,100,97,99,116],[115,116,97,116,101,95,100,101,102,97,117,108,116],[117,115,101,114,115],[117,115,101,114,115,95,100,101,102,97,117,108,116]]
abbrev px:U:=[109,46,114,111,111,109,46,104,105,115,116,111,114,121,95,118,105,115,105,98,105,108,105,116,121]
abbrev py:List U:=[[104,105,115,116,111,114,121,95,118,105,115,105,98,105,108,105,116,121]]
abbrev AQ:U:=[109,46,114,111,111,109,46,114,101,100,97,99,116,105,111,110]
abbrev AR:List U:=[[114,101,100,97,99,116,115]]
def AS (kind:U):List U:=
 if kind=uc then Jk else
 if kind=yv then yw else
 if kind=vk then vl else
 if kind=px then py else
 if kind=AQ then AR else
 []
namespace JV
def acT (v:JV) (acc:List (U×JV)) (k:U):List (U×JV):=match v.get k with
 | some x=>dJ acc k x
 | none=>acc
def q6 (v:JV) (K:List U):List (U×JV):=K.foldl (acT v) []
def WT (v:JV):JV:=(v.get AP).getD fQ
def Jl (kind:U) (v:JV):List (U×JV):=match v.WT.get sO with
 | some y=>if kind=uc then dJ (v.q6 (AS kind)) AP (obj [(sO,y)])else v.q6 (AS kind)
 | none=>v.q6 (AS kind)
def content (kind:U) (v:JV):JV:=if kind=M' then v else obj (Jl kind v)
def Na (kind:U) (p:U×JV):Option (U×JV):=if p.1∈AS kind then some p else none
def stay (kind:U) (p:U×JV):Option (U×JV):=
 if p.1=AP∧kind=uc∧p.2.kind=5 then match look p.2.map sO with
  | some y=>some (p.1,obj [(sO,y)])
  | none=>Na kind p
 else Na kind p
end JV
section
variable {β:Type}
end
namespace JV
end JV
theorem Jm {A:List Nat} {w:World} {g e:Nat} {xs:List U} (B:aD w g e (xs.map S)) (bM:xs.length≤1000) (du:g∉A):aS A w (lO xs) (.slice (some ⟨g,0,none⟩) xs.length xs.length):=by
 have dm:∀ FN:List U,(FN.map fun s=>[S s]).flatten=FN.map S:=fun FN=>by
  induction FN with
  | nil=>rfl
  | cons a r dh=>simp [dh]
 have O:Own w e 1 (.slice (some ⟨g,0,none⟩) xs.length xs.length) xs.length ((xs.map fun s=>[S s]).flatten):=by
  rw [dm];exact Own.all B (by simp) (by omega)
 exact Own.flat O (fun _ _=>rfl) (fun x _ c a6=>by simp at a6;subst a6;rfl) rfl (by simpa [aL] using du)
def UQ:U:=[109,46,114,111,111,109,46,106,111,105,110,95,114,117,108,101,115]
def ag6:U:=[109,46,114,111,111,109,46,116,104,105,114,100,95,112,97,114,116,121,95,105,110,118,105,116,101]
def abh:U:=[109,101,109,98,101,114,115,104,105,112]
def ag7:U:=[106,111,105,110]
def ag8:U:=[105,110,118,105,116,101]
def ag9:U:=[107,110,111,99,107]
def abi:U:=[116,104,105,114,100,95,112,97,114,116,121,95,105,110,118,105,116,101]
def abj:U:=[115,105,103,110,101,100]
def abk:U:=[116,111,107,101,110]
def ag':U:=[106,111,105,110,95,97,117,116,104,111,114,105,115,101,100,95,118,105,97,95,117,115,101,114,115,95,115,101,114,118,101,114]
namespace JV
def sub (v:JV) (k:U):JV:=(v.get k).getD fQ
def pU (v:JV):U:=if v.kind=3 then v.str else []
def text (v:JV) (aav:List U):U:=(aav.foldl sub v).pU
end JV
namespace JV
def step (v:JV) (aav:List U) (k:Nat):JV:=(aav.take k).foldl sub v
end JV
/-! ### pairs in order, each once -/
/-- what the document's with answers -/
def nK (l:List eU) (p:eU):List eU:=l.filter (fun x=>Lw x p) ++ [p]++l.filter (fun x=>Lw p x)
theorem B7 {m:List eU} {p:eU}:(m ++ [p]).foldl nK []=nK (m.foldl nK []) p:=by rw [List.foldl_append];rfl
theorem Own.di {w:World} {e:Nat} {v:Value} {m gR:List eU} {p:eU} (h:Own w e 2 v (nK (m.foldl nK []) p).length (((nK (m.foldl nK []) p).map eU.cells).flatten)) (hm:m ++ [p]=gR):Own w e 2 v (gR.foldl nK []).length (((gR.foldl nK []).map eU.cells).flatten):=by
 subst hm;rw [B7];exact h
theorem Own.aE {w:World} {e:Nat} {v:Value} {p:eU} (h:Own w e 2 v 1 p.cells):aS [] w (GL ([p].foldl nK [])) v:=Own.pairs (xs:=[p]) [] h (by simp)
/-- doubled neighbours left out, behind p -/
def aha:eU→List eU→List eU
 | _,[]=>[]
 | p,x::r=>if x=p then aha x r else x::aha x r
def dd:List eU→List eU
 | []=>[]
 | a::r=>a::aha a r
namespace EV
def hw (e:EV):U:=e.bu.text [abh]
def tok (e:EV):U:=e.bu.text [abi,abj,abk]
def abl (e:EV):U:=e.bu.text [ag']
/-- what a member event needs besides -/
def more (e:EV):List eU:=
 if e.hw=ag7 then ⟨UQ,[]⟩::if e.abl = [] then [] else [⟨Qe,e.abl⟩]
 else if e.hw=ag8 then ⟨UQ,[]⟩::if e.tok = [] then [] else [⟨ag6,e.tok⟩]
 else if e.hw=ag9 then [⟨UQ,[]⟩]
 else []
def needs (e:EV):List eU:=ahb e.snd++if e.ty=Qe then ⟨Qe,e.key⟩::e.more else []
def Lx (e:EV):List eU:=if e.ty=Qf then [] else dd (Qg e.needs e.needs.length)
end EV
theorem Own.strs {w:World} {e:Nat} {v:Value} {l:List U} (A:List Nat) (h:Own w e 1 v l.length ((l.map fun s=>[S s]).flatten)) (du:∀ x∈aL v,x∉A):aS A w (lO l) v:=Own.flat h (fun _ _=>rfl) (fun x _ c a6=>by simp at a6;subst a6;rfl) rfl du
namespace EV
abbrev alr (e:EV):eU:=⟨e.ty,e.key⟩
/-- each state, each needed, no pair twice -/
def anu (Lx:List eU) (l:List EV):Prop:=(∀ x∈l,x.st=true∧x.alr∈Lx)∧(l.map alr).Nodup
open Classical in
/-- may an event name these? -/
noncomputable def right (e:EV) (l:List EV):Bool:=decide (anu e.Lx l∧(e.ty=Qf∨∃ x∈l,x.ty=Qf))
end EV
def gf (s:U):Bool:=decide ((s.length:Int)≤255)&&ck s
def ps (n:Int):Bool:=decide (0≤n)&&decide (n≤9007199254740991)
def ri (s:cX):Bool:=fD s.cP&&xW s.key&&iF s.sig 64
def kj (p s:cX):Bool:=!(fA p.cP s.cP||p.cP == s.cP)||(decide (p.cP=s.cP) && !fA p.key s.key)
def Pl (p:Option cX) (s:cX):Bool:=match p with
 | none=>true
 | some q=>!kj q s
def eR:Option cX→List cX→Bool
 | _,[]=>true
 | p,s::r=>ri s&&Pl p s&&eR (some s) r
def lJ (l:List cX) (k:Nat):Option cX:=if k=0 then none else l[k-1]?
theorem jN {l:List cX} {k:Nat} {s:cX} (h:l[k]? = some s):eR (lJ l k) (l.drop k)=(ri s&&Pl (lJ l k) s&&eR (lJ l (k+1)) (l.drop (k+1))):=by
 obtain⟨hk,rfl⟩:=List.getElem?_eq_some_iff.1 h;have aj:lJ l (k+1)=some l[k]:=by simp [lJ,hk]
 rw [List.drop_eq_getElem_cons hk,aj,eR]
theorem Gl {l:List cX} {k:Nat} (h:l.length≤k) (p:Option cX):eR p (l.drop k)=true:=by
 rw [List.drop_eq_nil_of_le h,eR]
theorem ZR {l:List cX} {k:Nat} {s:cX} (h:k=0):Pl (lJ l k) s=true:=by subst h;rfl
theorem vP {l:List cX} {k:Nat} {s q:cX} (eE:l[k-1]? = some q) (h:0<k):Pl (lJ l k) s = !kj q s:=by
 unfold lJ;rw [if_neg (by omega),eE];rfl
def EV.lens (e:EV):Prop:=e.room.length<4294967281∧e.snd.length<4294967281∧∀ s∈e.sigs,s.cP.length<4294967281
namespace EV
def gO (e:EV):Bool:=gU 33 iu e.room&&gU 64 jA e.snd&&decide (e.ty≠[])&&gf e.ty&&gf e.key&&(e.st||decide (e.key = []))
noncomputable def gn (e:EV):Bool:=e.gO&&decide (e.bu.kind=5)&&decide (fW (e.bu.wr 0 [])=0)&&ps e.dep&&ps e.time&&iF e.hash 32&&eR none e.sigs
noncomputable def rj (e:EV):Bool:=e.gn&&(e.prev++e.b2).all eZ
noncomputable def o8 (e:EV):Int:=if 20<e.prev.length∨10<e.b2.length then 22 else if e.rj=true then 0 else 21
theorem zP {e:EV} (h:20<e.prev.length∨10<e.b2.length):e.o8=22:=if_pos h
theorem SJ {e:EV} (h:¬ (20<e.prev.length∨10<e.b2.length)) (dm:e.rj=false):e.o8=21:=by unfold o8;rw [if_neg h,if_neg (by simp [dm])]
theorem DS {e:EV} (h:¬ (20<e.prev.length∨10<e.b2.length)) (dm:e.rj=true):e.o8=0:=by unfold o8;rw [if_neg h,if_pos dm]
theorem lr:∀ (l:List Nat) (n most:Nat),n≤iL l n most
 | [],n,_=>Nat.le_refl n
 | x::r,n,most=>by
  unfold iL
  split
  ·exact Nat.le_trans (Nat.le_add_right n x) (lr r (n+x) most)
  exact Nat.le_refl n
theorem zR:∀ (l:List Nat) (n most:Nat),iL l n most≤most→∀ x∈l,x≤most
 | y::r,n,most,h,x,ab=>by
  unfold iL at h
  split at h
  ·have h1:=lr r (n+y) most
   rcases List.mem_cons.1 ab with rfl | ab
   ·omega
   exact zR r (n+y) most h x ab
  omega
theorem Og {e:EV} (h:e.great 8192=false):e.lens:=by
 unfold great at h;simp only [Bool.or_eq_false_iff,decide_eq_false_iff_not] at h;have aF:e.n3 8192≤8192:=by omega
 have aj:e.kB 8192≤e.n3 8192:=lr _ _ _;have h1:e.qy 8192≤e.kB 8192:=lr _ _ _;have bD:e.Af≤e.qy 8192:=lr _ _ _;have bf:e.room.length+e.snd.length≤e.Af:=by unfold Af;omega
 refine⟨by omega,by omega,fun s aN=>?_⟩;have:=zR _ _ _ aF _ (List.mem_map_of_mem aN);omega
def names (e:EV):Bool:=gU 33 iu e.room&&gU 64 jA e.snd&&decide (e.ty≠[])&&gf e.ty&&gf e.key
def Ue (e:EV):Bool:=ps e.dep&&ps e.time
theorem Pm (e:EV):e.rj=(e.names&&e.Ue&&(e.st||decide (e.key = []))&&decide (e.bu.kind=5)&&decide (fW (e.bu.wr 0 [])=0)&&iF e.hash 32&&eR none e.sigs&&e.prev.all eZ&&e.b2.all eZ):=by
 unfold rj gn gO names Ue;rw [List.all_append];generalize gU 33 iu e.room=sa;generalize gU 64 jA e.snd=a2;generalize decide (e.ty≠[])=a3;generalize gf e.ty=a4;generalize gf e.key=a5;generalize (e.st||decide (e.key = []))=adQ;generalize decide (e.bu.kind=5)=adR;generalize decide (fW (e.bu.wr 0 [])=0)=adS;generalize ps e.dep=a9;generalize ps e.time=aeU;generalize iF e.hash 32=aeV;generalize eR none e.sigs=a12;generalize e.prev.all eZ=aow;generalize e.b2.all eZ=Y0
 ac_rfl
end EV
theorem r7 {α:Type} {l:List α} {k:Nat} {y:α} (f:α→Bool) (h:l[k]? = some y):(l.take (k+1)).all f=((l.take k).all f&&f y):=by
 have bk:=(List.getElem?_eq_some_iff.1 h).1;rw [List.take_succ_eq_append_getElem bk,(List.getElem?_eq_some_iff.1 h).2,List.all_append];simp
theorem aS.I {A:List Nat} {w w':World} {d:D} {u:Value} (apv:aS A w d u) (k:Mod [] w w'):aS A w' d u:=apv.bE k
theorem eS {b:U} (h:b.length≤65536):dw b = .ok b:=if_neg (by omega)
theorem cB {r:Except Int U} {f:U→Except Int U} {eA:U} (h:r.bind f = .ok eA):∃ b,r = .ok b∧f b = .ok eA:=by
 cases r with
 | ok b=>exact⟨b,rfl,h⟩
 | error e=>cases h
namespace JV
def Fit (v:JV) (deep:Nat) (t:U):Prop:=∀ b,(b++t).length≤65536→wr v deep b = .ok (b++t)
def aeW (l:List JV) (deep:Nat) (fst:Bool) (t:U):Prop:=∀ b,(b++t).length≤65536→h9 l deep fst b = .ok (b++t)
def rk (m:List (U×JV)) (deep:Nat) (prev:Option U) (t:U):Prop:=∀ b,(b++t).length≤65536→fk m deep prev b = .ok (b++t)
theorem x0 {b s eA:U} (h:gC b s = .ok eA):∃ t,eA=b++t∧t=b7 s∧eA.length≤65536∧∀ c,(c++t).length≤65536→gC c s = .ok (c++t):=by
 unfold gC at h
 split at h
 ·cases h
 rename_i h1
 split at h
 ·rename_i aj
  obtain⟨rfl,aF⟩:=eM h;exact⟨b7 s,rfl,rfl,aF,fun c a6=>by rw [gC,if_neg h1,if_pos aj,eS a6]⟩
 cases h
def Gs (prev:Option U) (k b:U):Except Int U:=match prev with
 | none=>Except.ok b
 | some q=>(dw (b ++ [44])).bind fun b=>if fA q k then .ok b else .error 1
theorem x1 (p:U×JV) (r:List (U×JV)) (deep:Nat) (prev:Option U) (b:U) :
  fk (p::r) deep prev b=(Gs prev p.1 b).bind fun b=>(gC b p.1).bind fun b=>(dw (b ++ [58])).bind fun b=>(wr p.2 (deep+1) b).bind fun b=>fk r deep (some p.1) b:=by
 rw [fk.eq_def]
 rfl
theorem jr (v:JV) (r:List JV) (deep:Nat) (fst:Bool) (b:U) :
  h9 (v::r) deep fst b=(if fst then Except.ok b else dw (b ++ [44])).bind fun b=>(wr v (deep+1) b).bind fun b=>h9 r deep false b:=by
 rw [h9]
def comma:Option U→U
 | none=>[]
 | some _=>[44]
theorem sv {p:U×JV} {r:List (U×JV)} {deep:Nat} {prev:Option U} {b eA:U} (h:fk (p::r) deep prev b = .ok eA) :
  (∀ q,prev=some q→fA q p.1=true)∧∃ eW,wr p.2 (deep+1) (b++comma prev++b7 p.1 ++ [58]) = .ok eW∧fk r deep (some p.1) eW = .ok eA∧(∀ c,(c++b7 p.1).length≤65536→gC c p.1 = .ok (c++b7 p.1))∧(b++comma prev++b7 p.1 ++ [58]).length≤65536:=by
 rw [x1] at h
 obtain⟨ev,h1,h⟩:=cB h
 have a6:ev=b++comma prev∧∀ q,prev=some q→fA q p.1=true:=by
  cases prev with
  | none=>injection h1 with h1;subst h1;exact⟨by simp [comma],fun q eE=>by cases eE⟩
  | some q=>
   obtain⟨dc,bD,h1⟩:=cB h1
   obtain⟨rfl,_⟩:=eM bD
   split at h1
   ·rename_i eE
    injection h1 with h1
    subst h1
    exact⟨rfl,fun ahO e=>by injection e with e;subst e;exact eE⟩
   cases h1
 obtain⟨rfl,eE⟩:=a6
 obtain⟨eW,aj,h⟩:=cB h
 obtain⟨t,rfl,rfl,_,bQ⟩:=x0 aj
 obtain⟨tz,aF,h⟩:=cB h
 obtain⟨rfl,akx⟩:=eM aF
 obtain⟨Xq,bn,ch⟩:=cB h
 exact⟨eE,Xq,bn,ch,bQ,akx⟩
theorem DT {p:U×JV} {r:List (U×JV)} {deep:Nat} {prev:Option U} {t1 t2:U} (eE:∀ q,prev=some q→fA q p.1=true) (bQ:∀ c,(c++b7 p.1).length≤65536→gC c p.1 = .ok (c++b7 p.1)) (h1:Fit p.2 (deep+1) t1) (aj:rk r deep (some p.1) t2) :
  rk (p::r) deep prev (comma prev++b7 p.1 ++ [58]++t1++t2):=by
 intro b aH
 simp only [List.length_append] at aH
 rw [x1]
 have aV:Gs prev p.1 b = .ok (b++comma prev):=by
  cases prev with
  | none=>simp [comma,Gs]
  | some q=>
   have:(b ++ [44]).length≤65536:=by simp only [comma,List.length_append] at aH ⊢;omega
   show((dw (b ++ [44])).bind fun b=>if fA q p.1 then .ok b else .error 1)=_
   rw [eS this]
   show(if fA q p.1 then Except.ok (b ++ [44])else .error 1)=_
   rw [if_pos (eE q rfl)]
   rfl
 rw [aV]
 show(gC (b++comma prev) p.1).bind _=_
 rw [bQ _ (by simp only [List.length_append];omega)]
 show(dw (b++comma prev++b7 p.1 ++ [58])).bind _=_
 rw [eS (by simp only [List.length_append];omega)]
 show(wr p.2 (deep+1) (b++comma prev++b7 p.1 ++ [58])).bind _=_
 rw [h1 _ (by simp only [List.length_append];omega)]
 show fk r deep (some p.1) (b++comma prev++b7 p.1 ++ [58]++t1)=_
 rw [aj _ (by simp only [List.length_append];omega)]
 simp
theorem DU:∀ N:Nat,∀ (v:JV) (deep:Nat) (b eA:U),v.sz≤N→wr v deep b = .ok eA→∃ t,eA=b++t∧eA.length≤65536∧Fit v deep t
 | 0,v,_,_,_,h,_=>absurd (nI v) (by omega)
 | N+1,v,deep,b,eA,hj,h=>by
  have dh:=DU N
  have Pp:∀ (l:List JV),(∀ x∈l,x.sz≤N)→∀ (fst:Bool) (b eA:U),h9 l deep fst b = .ok eA→∃ t,eA=b++t∧aeW l deep fst t:=by
   intro l
   induction l with
   | nil=>
    intro _ fst b eA h
    rw [h9] at h
    injection h with h
    subst h
    exact⟨[],by simp,fun b _=>by rw [h9];simp⟩
   | cons x r ZU=>
    intro ab fst b eA h
    rw [jr] at h
    obtain⟨ev,h1,h⟩:=cB h
    obtain⟨eW,aj,aF⟩:=cB h
    obtain⟨t1,rfl,_,KX⟩:=dh x (deep+1) ev eW (ab x (by simp)) aj
    obtain⟨t2,rfl,ED⟩:=ZU (fun y aR=>ab y (by simp [aR])) false _ _ aF
    cases fst with
    | true=>
     injection h1 with h1
     subst h1
     refine⟨t1++t2,by simp,fun c a6=>?_⟩
     simp only [List.length_append] at a6
     rw [jr]
     show(wr x (deep+1) c).bind _=_
     rw [KX c (by simp only [List.length_append];omega)]
     show h9 r deep false (c++t1)=_
     rw [ED _ (by simp only [List.length_append];omega)]
     simp
    | false=>
     obtain⟨rfl,_⟩:=eM h1
     refine⟨[44]++t1++t2,by simp,fun c a6=>?_⟩
     simp only [List.length_append] at a6
     rw [jr]
     show(dw (c ++ [44])).bind _=_
     rw [eS (by simp only [List.length_append];omega)]
     show(wr x (deep+1) (c ++ [44])).bind _=_
     rw [KX _ (by simp only [List.length_append];omega)]
     show h9 r deep false (c ++ [44]++t1)=_
     rw [ED _ (by simp only [List.length_append];omega)]
     simp
  have Pq:∀ (m:List (U×JV)),(∀ p∈m,p.2.sz≤N)→∀ (prev:Option U) (b eA:U),fk m deep prev b = .ok eA→∃ t,eA=b++t∧rk m deep prev t:=by
   intro m
   induction m with
   | nil=>
    intro _ prev b eA h
    rw [fk] at h
    injection h with h
    subst h
    exact⟨[],by simp,fun b _=>by rw [fk];simp⟩
   | cons p r ZV=>
    intro ab prev b eA h
    obtain⟨eE,eW,aj,aF,bQ,_⟩:=sv h
    obtain⟨t1,rfl,_,KX⟩:=dh p.2 (deep+1) _ eW (ab p (by simp)) aj
    obtain⟨t2,rfl,ED⟩:=ZV (fun y aR=>ab y (by simp [aR])) (some p.1) _ _ aF
    exact⟨_,by simp,DT eE bQ KX ED⟩
  rw [dZ] at h
  by_cases aH:bare v=false
  ·rw [if_pos aH] at h;cases h
  rw [if_neg aH] at h
  by_cases pj:v.kind=0
  ·rw [if_pos pj] at h
   obtain⟨rfl,bM⟩:=eM h
   exact⟨_,rfl,bM,fun c a6=>by rw [dZ,if_neg aH,if_pos pj,eS a6]⟩
  rw [if_neg pj] at h
  by_cases dr:v.kind=1
  ·rw [if_pos dr] at h
   obtain⟨rfl,bM⟩:=eM h
   exact⟨_,rfl,bM,fun c a6=>by rw [dZ,if_neg aH,if_neg pj,if_pos dr,eS a6]⟩
  rw [if_neg dr] at h
  by_cases iP:v.kind=2
  ·rw [if_pos iP] at h
   obtain⟨rfl,bM⟩:=eM h
   exact⟨_,rfl,bM,fun c a6=>by rw [dZ,if_neg aH,if_neg pj,if_neg dr,if_pos iP,eS a6]⟩
  rw [if_neg iP] at h
  by_cases pV:v.kind=3
  ·rw [if_pos pV] at h
   obtain⟨t,rfl,_,bM,bQ⟩:=x0 h
   exact⟨t,rfl,bM,fun c a6=>by rw [dZ,if_neg aH,if_neg pj,if_neg dr,if_neg iP,if_pos pV,bQ c a6]⟩
  rw [if_neg pV] at h
  by_cases bL:deep=32
  ·rw [if_pos bL] at h;cases h
  rw [if_neg bL] at h
  by_cases rG:v.kind=4
  ·rw [if_pos rG] at h
   obtain⟨ev,h1,h⟩:=cB h
   obtain⟨rfl,_⟩:=eM h1
   obtain⟨eW,aj,aF⟩:=cB h
   obtain⟨t,rfl,bQ⟩:=Pp v.list (fun x ab=>by have:=hv ab;omega) true _ _ aj
   obtain⟨rfl,bM⟩:=eM aF
   refine⟨[91]++t ++ [93],by simp,bM,fun c a6=>?_⟩
   simp only [List.length_append] at a6
   rw [dZ,if_neg aH,if_neg pj,if_neg dr,if_neg iP,if_neg pV,if_neg bL,if_pos rG,eS (by simp only [List.length_append];omega)]
   show(h9 v.list deep true (c ++ [91])).bind _=_
   rw [bQ _ (by simp only [List.length_append];omega)]
   show dw (c ++ [91]++t ++ [93])=_
   rw [eS (by simp only [List.length_append];omega)]
   simp
  rw [if_neg rG] at h
  obtain⟨ev,h1,h⟩:=cB h
  obtain⟨rfl,_⟩:=eM h1
  obtain⟨eW,aj,aF⟩:=cB h
  obtain⟨t,rfl,bQ⟩:=Pq v.map (fun x ab=>by have:=gI ab;omega) none _ _ aj
  obtain⟨rfl,bM⟩:=eM aF
  refine⟨[123]++t ++ [125],by simp,bM,fun c a6=>?_⟩
  simp only [List.length_append] at a6
  rw [dZ,if_neg aH,if_neg pj,if_neg dr,if_neg iP,if_neg pV,if_neg bL,if_neg rG,eS (by simp only [List.length_append];omega)]
  show(fk v.map deep none (c ++ [123])).bind _=_
  rw [bQ _ (by simp only [List.length_append];omega)]
  show dw (c ++ [123]++t ++ [125])=_
  rw [eS (by simp only [List.length_append];omega)]
  simp
theorem fit {v:JV} {deep:Nat} {b eA:U} (h:wr v deep b = .ok eA):∃ t,eA=b++t∧eA.length≤65536∧Fit v deep t:=DU v.sz v deep b eA (Nat.le_refl _) h
theorem sw:∀ (m:List (U×JV)) (deep:Nat) (prev:Option U) (b eA:U),fk m deep prev b = .ok eA→cZ m∧∀ q,prev=some q→∀ p∈m,fA q p.1=true
 | [],_,_,_,_,_=>⟨List.Pairwise.nil,fun _ _ _ h=>by cases h⟩
 | p::r,deep,prev,b,eA,h=>by
  obtain⟨eE,eW,_,aF,_,_⟩:=sv h
  obtain⟨bn,ch⟩:=sw r deep (some p.1) _ _ aF
  refine⟨List.Pairwise.cons (fun y aR=>ch p.1 rfl y aR) bn,fun q e y aR=>?_⟩
  rcases List.mem_cons.1 aR with rfl | aR
  ·exact eE q e
  exact fo (eE q e) (ch p.1 rfl y aR)
theorem tr {m:List (U×JV)} {deep:Nat} {t:U} (h:rk m deep none t) (bL:deep≠32):Fit (obj m) deep ([123]++t ++ [125]):=fun c a6=>by
 simp only [List.length_append] at a6;have aH:¬ bare (obj m)=false:=by simp [bare,obj,kind,is,num,str,list]
 have q4:(obj m).kind=5:=rfl;rw [dZ,if_neg aH,if_neg (by rw [q4];decide),if_neg (by rw [q4];decide),if_neg (by rw [q4];decide),if_neg (by rw [q4];decide),if_neg bL,if_neg (by rw [q4];decide),eS (by simp only [List.length_append];omega)];show(fk m deep none (c ++ [123])).bind _=_;rw [h _ (by simp only [List.length_append];omega)];show dw (c ++ [123]++t ++ [125])=_;rw [eS (by simp only [List.length_append];omega)];simp
theorem HS {v:JV} {deep:Nat} {b eA:U} (q4:v.kind=5) (h:wr v deep b = .ok eA):deep≠32∧∃ eW,fk v.map deep none (b ++ [123]) = .ok eW∧eA=eW ++ [125]∧eA.length≤65536:=by
 rw [dZ] at h
 split at h
 ·cases h
 rw [if_neg (by rw [q4];decide),if_neg (by rw [q4];decide),if_neg (by rw [q4];decide),if_neg (by rw [q4];decide)] at h
 split at h
 ·cases h
 rename_i bL
 rw [if_neg (by rw [q4];decide)] at h;obtain⟨ev,h1,h⟩:=cB h;obtain⟨rfl,_⟩:=eM h1;obtain⟨eW,aj,aF⟩:=cB h;obtain⟨rfl,bM⟩:=eM aF;exact⟨bL,eW,aj,rfl,bM⟩
end JV
section
variable {P:Program} {ops:Array Oper} {Q:Exit→Act→World→Prop} {n:Nat} {ds:List Deferred} {l:List (Nat×Value)} {M:List (Nat×(Value→World→Prop))} {w:World} {Fin:iE→Prop} {rest:List Oper} {d:Nat} {ty:TypeId} {pos:String} {af:Array Edge} {op:Op}
theorem Xl {V:Value→World→Prop} {t s r:Nat} {apw aaB U2:Value→World→Prop} (bQ:iN t l=none) (eb:pA t M=some apw) (ab:∃ x∈op.operands.toList,x = .tmp t) (jn:iN s l=none) (Xm:pA s M=some aaB) (Jw:∃ x∈op.operands.toList,x = .tmp s) (nJ:iN r l=none) (Xn:pA r M=some U2) (Qk:∃ x∈op.operands.toList,x = .tmp r) (oO:∀ v aE cY,Mod [] aE cY→V v aE→V v cY) (bL:Nat.blt d n=true) (aN:fa op=true)
  (bf:∀ (ρ:Operand→Value) aE u m' ly,Mod [] w aE→apw u aE→aaB m' aE→U2 ly aE→(∀ x v,aT ((t,u)::(s,m')::(r,ly)::l) x=some v→ρ x=v)→ow P (Mod []) aE V ((execOp ρ ⟨some d,op,ty,pos,af,none⟩).run P aE)) :
  apy P ops (Mod []) (Mod [] w) n (qM l M) ⟨some d,op,ty,pos,af,none⟩ V:=by
 refine sX oO bL aN fun ρ aE h0 h1 aj=>bf ρ aE (ρ (.tmp t)) (ρ (.tmp s)) (ρ (.tmp r)) h0 (aj t apw bQ eb ab) (aj s aaB jn Xm Jw) (aj r U2 nJ Xn Qk) fun x v bw=>?_
 cases x with
 | tmp q=>
  simp only [aT,iN] at bw
  cases aH:Nat.beq t q with
  | true=>
   rw [aH] at bw
   have:=Nat.eq_of_beq_eq_true aH
   subst this
   injection bw
  | false=>
   rw [aH] at bw
   cases wI:Nat.beq s q with
   | true=>
    rw [wI] at bw
    have:=Nat.eq_of_beq_eq_true wI
    subst this
    injection bw
   | false=>
    rw [wI] at bw
    cases iD:Nat.beq r q with
    | true=>
     rw [iD] at bw
     have:=Nat.eq_of_beq_eq_true iD
     subst this
     injection bw
    | false=>rw [iD] at bw;exact h1 _ _ bw
 | const c=>exact h1 _ _ bw
 | global g=>exact h1 _ _ bw
 | func f=>exact h1 _ _ bw
theorem ais (V:Value→World→Prop) (oO:∀ v aE cY,Mod [] aE cY→V v aE→V v cY) (t s r:Nat) {apw aaB U2:Value→World→Prop} (bQ:iN t l=none) (eb:pA t M=some apw) (ab:∃ x∈op.operands.toList,x = .tmp t) (jn:iN s l=none) (Xm:pA s M=some aaB) (Jw:∃ x∈op.operands.toList,x = .tmp s) (nJ:iN r l=none) (Xn:pA r M=some U2) (Qk:∃ x∈op.operands.toList,x = .tmp r)
  (bf:∀ aE u m' ly,Mod [] w aE→apw u aE→aaB m' aE→U2 ly aE→∃ v cY,bo P ((t,u)::(s,m')::(r,ly)::l) ⟨some d,op,ty,pos,af,none⟩ aE v cY∧Mod [] aE cY∧V v cY) (bL:Nat.blt d n=true) (aN:fa op=true) (bM:iN d l=none)
  (h:gh P ops w n Fin rest l ((d,V)::M)):gh P ops w n Fin (⟨some d,op,ty,pos,af,none⟩::rest) l M:=by
 refine⟨V,Xl bQ eb ab jn Xm Jw nJ Xn Qk oO bL aN fun ρ aE u m' ly h0 hZ ait aiu h1=>?_,?_⟩
 ·obtain⟨v,cY,e,hm,bw⟩:=bf aE u m' ly h0 hZ ait aiu
  rw [e ρ h1]
  exact⟨hm,bw⟩
 rw [me rfl bM];exact h
end
structure pG (A:List Nat) (w0 w:World) (e sz:Nat) (dN:Value) (n:Nat) (rows:List (List D)) (vs:List Value):Prop where
 own:Own w e sz dN n vs
 rd:ak (A++aL dN) w rows.flatten vs
 rK:∀ y∈aL dN,w0.heap.size≤y
 vw:∀ y∈aL dN,y∉A
 al:∀ a∈A,a<w.heap.size
section
variable {A:List Nat} {w0 w w':World} {e sz n:Nat} {dN js:Value} {rows:List (List D)} {vs us:List Value} {row:List D}
theorem pG.nil (du:∀ a∈A,a<w.heap.size):pG A w0 w e sz (.slice none 0 0) 0 [] []:=⟨Own.nil _ _ _,ak.lN,by simp [aL],by simp [aL],du⟩
theorem pG.I (G:pG A w0 w e sz dN n rows vs) (k:Mod [] w w'):pG A w0 w' e sz dN n rows vs:=⟨G.own.I k,G.rd.bE k,G.rK,G.vw,fun a ax=>Nat.lt_of_lt_of_le (G.al a ax) k.size⟩
theorem pG.lt (G:pG A w0 w e sz dN n rows vs):∀ a∈A++aL dN,a<w.heap.size:=fun a ax=>(List.mem_append.1 ax).elim (G.al a) (G.own.lt a)
theorem pG.xw (gi:App w w' e sz dN js n vs):∀ y∈A++aL js,y∈A++aL dN∨w.heap.size≤y:=fun y aR=>(List.mem_append.1 aR).elim (fun h=>.inl (by simp [h])) (fun h=>(gi.kn y h).imp (fun h=>by simp [h]) id)
theorem pG.app {k:Nat} (G:pG A w0 w e sz dN n rows vs) (E:Mod [] w0 w) (gi:App w w' e sz dN js k (vs++us)) (hk:k=n+1) (aix:ak (A++aL dN) w row us):pG A w0 w' e sz js (n+1) (rows ++ [row]) (vs++us):=by
 subst hk;refine⟨gi.own,?_,fun y aR=>(gi.kn y aR).elim (G.rK y) (Nat.le_trans E.size),fun y aR ax=>(gi.kn y aR).elim (fun h=>G.vw y h ax) (fun h=>by have:=G.al y ax;omega),fun a ax=>Nat.lt_of_lt_of_le (G.al a ax) gi.mod.size⟩;rw [List.flatten_append];refine ak.to gi.mod (fun y aR=>by simp [aR]) (pG.xw gi) _ _ (ak.append G.rd ?_);simpa using aix
theorem pG.q6 {k:Nat} {d:D} {u:Value} (gi:App w w' e sz dN js k vs) (apv:aS (A++aL dN) w d u):aS (A++aL js) w' d u:=aS.to gi.mod (fun y aR=>by simp [aR]) (pG.xw gi) _ _ apv
theorem pG.rep (G:pG A w0 w e sz dN n rows vs) (bM:∀ r∈rows,r.length=sz) (bW:rows.length=n):aS A w (.iW sz rows) dN:=Own.rep G.own (G.rd.fN (fun x ab=>by simp [ab])) bM bW G.vw
theorem pG.same {m:Nat} {Nu:List (List D)} (G:pG A w0 w e sz dN n rows vs) (h1:n=m) (aj:rows=Nu):pG A w0 w e sz dN m Nu vs:=by subst h1;subst aj;exact G
end
theorem xx {α β:Type} {l:List α} {k:Nat} {x:α} (f:α→β) (h:l[k]? = some x):(l.take (k+1)).map f=(l.take k).map f ++ [f x]:=by
 have bk:=(List.getElem?_eq_some_iff.1 h).1;rw [List.take_succ_eq_append_getElem bk,(List.getElem?_eq_some_iff.1 h).2];simp
end Go.Proofs.YtnihidkbkhcfoaaGreatDoor.V
namespace Go.Proofs.YtnihidkbkhcfoaaGreatDoor.V
open Go
namespace JV
variable {kind:U} {v:JV}
theorem ud {k:U} {x:JV} (h:v.get k=some x):(k,x)∈v.map:=by
 unfold JV.get at h
 split at h
 ·exact dF h
 cases h
end JV
end Go.Proofs.YtnihidkbkhcfoaaGreatDoor.V
namespace Go.Proofs.YtnihidkbkhcfoaaGreatDoor.V
open Go
namespace JV
variable {kind:U} {v:JV} {p:U×JV}
end JV
end Go.Proofs.YtnihidkbkhcfoaaGreatDoor.V
namespace Go.Proofs.YtnihidkbkhcfoaaGreatDoor.V
open Go
namespace JV
def aY (s:U):JV:=.mk 3 false 0 s [] []
theorem Jn {A:List Nat} {w:World} {s:U}:ak A w (aY s).D [.int .i64 3,.bool false,.int .i64 0,S s,.slice none 0 0,.slice none 0 0]:=by
 have:=b6 (A:=A) (w:=w) (v:=aY s) (al:=none) (am:=none) (cl:=0) (cm:=0) aS.dI aS.dI;exact this
end JV
end Go.Proofs.YtnihidkbkhcfoaaGreatDoor.V
namespace Go.Proofs.YtnihidkbkhcfoaaGreatDoor.V
open Go
namespace JV
end JV
namespace EV
end EV
end Go.Proofs.YtnihidkbkhcfoaaGreatDoor.V
namespace Go.Proofs.YtnihidkbkhcfoaaGreatDoor.V
open Go
namespace JV
def fs (n:Int):JV:=.mk 2 false n [] [] []
def fw (l:List JV):JV:=.mk 4 false 0 [] l []
theorem qF {A:List Nat} {w:World} {n:Int}:ak A w (fs n).D [.int .i64 2,.bool false,.int .i64 n,S [],.slice none 0 0,.slice none 0 0]:=by
 have:=b6 (A:=A) (w:=w) (v:=fs n) (al:=none) (am:=none) (cl:=0) (cm:=0) aS.dI aS.dI;exact this
theorem Ko {A:List Nat} {w:World} {l:List JV} {al:Option Addr} {cl:Nat} (apv:aS A w (.iW 6 (l.map D)) (.slice al l.length cl)):ak A w (fw l).D [.int .i64 4,.bool false,.int .i64 0,S [],.slice al l.length cl,.slice none 0 0]:=
 b6 (v:=fw l) (am:=none) (cm:=0) apv aS.dI
theorem jB {A:List Nat} {w:World} {s:U}:ak A w (aY s).D [.int .i64 3,.bool false,.int .i64 0,S s,.slice none 0 0,.slice none 0 0]:=Jn
theorem ts {m:List (U×JV)} {k:U} {x:JV} {p:U×JV} (h:p∈dJ m k x):p∈m∨p=(k,x):=by
 unfold dJ at h;simp only [List.mem_append,List.mem_filter,List.mem_singleton] at h;rcases h with(h | h) | h
 ·exact .inl h.1
 ·exact .inr h
 exact .inl h.1
end JV
abbrev eC:U:=[97,117,116,104,95,101,118,101,110,116,115]
abbrev gm:U:=[99,111,110,116,101,110,116]
abbrev gE:U:=[100,101,112,116,104]
abbrev eP:U:=[104,97,115,104,101,115]
abbrev hB:U:=[115,104,97,50,53,54]
abbrev lS:U:=[111,114,105,103,105,110,95,115,101,114,118,101,114,95,116,115]
abbrev eu:U:=[112,114,101,118,95,101,118,101,110,116,115]
abbrev hf:U:=[114,111,111,109,95,105,100]
abbrev eQ:U:=[115,101,110,100,101,114]
abbrev iq:U:=[115,105,103,110,97,116,117,114,101,115]
abbrev h2:U:=[116,121,112,101]
abbrev dk:U:=[115,116,97,116,101,95,107,101,121]
namespace EV
open JV
def one (m:List (U×JV)) (k:U):JV:=(look m k).getD JV.fQ
def gF (m:List (U×JV)) (s:cX):List (U×JV):=dJ m s.cP (obj (dJ (one m s.cP).map s.key (aY s.sig)))
def mK (l:List cX) (k:Nat):List (U×JV):=(l.take k).foldl gF []
theorem DV (l:List cX):mK l 0 = []:=by simp [mK]
theorem x2 {l:List cX} {k:Nat} {s:cX} (h:l[k]? = some s):mK l (k+1)=gF (mK l k) s:=by
 have bk:=(List.getElem?_eq_some_iff.1 h).1;rw [mK,List.take_succ_eq_append_getElem bk,(List.getElem?_eq_some_iff.1 h).2,List.foldl_append];rfl
structure Kp (m:List (U×JV)) (n:Nat):Prop where
 Jf:cZ m
 len:m.length≤n
 each:∀ p∈m,∃ gR,p.2=obj gR∧cZ gR∧gR.length≤n
theorem Kp.Uf {m:List (U×JV)} {n:Nat} (h:Kp m n) (k:U):(one m k).ec=(one m k).map∧cZ (one m k).map∧(one m k).map.length≤n:=by
 unfold one;cases bM:look m k with
 | none=>exact⟨by simp [JV.fQ,JV.ec,JV.map,JV.kind],by simp [JV.fQ,JV.map,cZ],by simp [JV.fQ,JV.map]⟩
 | some y=>
  obtain⟨gR,h1,aj,aF⟩:=h.each _ (dF bM);have ZW:y=obj gR:=h1;subst ZW;exact⟨by simp [obj,ec,map,kind],aj,aF⟩
theorem Kp.step {m:List (U×JV)} {n:Nat} {s:cX} (h:Kp m n):Kp (gF m s) (n+1):=by
 obtain⟨_,aj,aF⟩:=h.Uf s.cP;refine⟨oe h.Jf,Nat.le_trans (ub h.Jf) (by have:=h.len;omega),fun p bJ=>?_⟩;rcases ts bJ with bJ | rfl
 ·obtain⟨gR,bn,ch,eB⟩:=h.each p bJ;exact⟨gR,bn,ch,by omega⟩
 exact⟨_,rfl,oe aj,Nat.le_trans (ub aj) (by omega)⟩
theorem Bv (l:List cX):∀ k,Kp (mK l k) k
 | 0=>by rw [DV];exact⟨by simp [cZ],by simp,by simp⟩
 | k+1=>by
  rcases Nat.lt_or_ge k l.length with h | h
  ·rw [x2 (List.getElem?_eq_getElem h)]
   exact(Bv l k).step
  have e:mK l (k+1)=mK l k:=by unfold mK;rw [List.take_of_length_le (by omega),List.take_of_length_le h]
  rw [e]
  obtain⟨h1,aj,aF⟩:=Bv l k
  exact⟨h1,by omega,fun p bJ=>by obtain⟨gR,bn,ch,eB⟩:=aF p bJ;exact⟨gR,bn,ch,by omega⟩⟩
def hg (e:EV):List (U×JV):=[(eC,fw (e.b2.map aY)),(gm,e.bu),(gE,fs e.dep),(eP,obj [(hB,aY e.hash)]),(lS,fs e.time),(eu,fw (e.prev.map aY)),(hf,aY e.room),(eQ,aY e.snd),(iq,obj (mK e.sigs e.sigs.length)),(h2,aY e.ty)]
def rl (e:EV):List (U×JV):=e.hg++(if e.st then [(dk,aY e.key)] else [])
def kx (e:EV):List (U×JV):=if e.st then dJ e.hg dk (aY e.key)else e.hg
def val (e:EV):JV:=obj e.kx
theorem Pr (e:EV):er e.hg 10=e.hg:=by kernel_rfl
theorem Ps (e:EV):er e.rl e.rl.length=e.kx:=by
 unfold rl kx;cases e.st with
 | false=>rw [if_neg (by simp),if_neg (by simp),List.append_nil];exact e.Pr
 | true=>
  rw [if_pos rfl,if_pos rfl];have h1:(e.hg ++ [(dk,aY e.key)])[10]? = some (dk,aY e.key):=rfl;have aj:=oI h1;have aF:er (e.hg ++ [(dk,aY e.key)]) 10=er e.hg 10:=by rw [er,er];rfl
  rw [aF,Pr] at aj;exact aj
noncomputable def fW (e:EV):Int:=if e.o8≠0 then e.o8 else Go.Proofs.YtnihidkbkhcfoaaGreatDoor.V.fW (e.val.wr 0 [])
noncomputable def pU (e:EV):U:=if e.o8≠0 then [] else mZ (e.val.wr 0 [])
end EV
end Go.Proofs.YtnihidkbkhcfoaaGreatDoor.V
