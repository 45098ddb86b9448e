/-
  A part of the proof: names with a sign; keys; kinds of bytes, as the document tells them; the document's names: its answers in the words of the walk; words of 32 bits, and bytes, as UInt32 and UInt8: each operation in their own words; the digest in plain Lean; blocks taken in, one behind the other; what stands behind the bytes; the digest's bytes; the digest of bytes; the reference's digest is the digest; slices of arrays; a slice's type changed in name alone; one byte of a slice of the call's own is written; letters that stand for bytes: their numbers, whether they stand for bytes, in plain Lean; states put together slot by slot; pairs in order; insertion; doubled neighbours left out; the pairs that every event needs; a slice that is read, as the source of an append, in every later world alike; a member's value written in place; members put one by one; what stays of a content, as the program and as the document tell it: the same; lists of texts that are built; strings the other way round; the pairs by which an event is allowed: the program's way and the document's way are the same; what Select and Right answer, in plain Lean; events that can be, in plain Lean; the text of what stays of a content is no longer than the content's; what stays, stays; a drawn region's operations that look at two or three slots of which something is known; its tail behind two such slots; a list of structs of the call's own that grows, each with memory of its own behind it; a list of structs of the call's own that grows, each with memory of its own behind it; Content, told arm by arm; the document's Content, told member by member; the laws of Content, last steps; what stays of a content is no longer than memory; an event as a JSON value, in plain Lean; the reading of JSON texts, as the document tells it, in plain Lean. No condition of its own.
-/
import Derived.Test.YtkjgljnkocnnpaaGreatDoorM0
import Derived.Test.YtkjgljnkocnnpaaGreatDoorM4
import Derived.Test.YtkjgljnkocnnpaaGreatDoorM3
import Derived.Test.YtkjgljnkocnnpaaGreatDoorM2
set_option linter.all false
set_option maxRecDepth 10000
namespace Go.Proofs.YtkjgljnkocnnpaaGreatDoor.V
open Go Go.Proofs
def aeg:=eW Tryz.func184
def yI:=eW Tryz.func71
def GD:=eW Tryz.func151
def A6:=eW Tryz.func117
def xV:=eW Tryz.func119
def aeh:=eW Tryz.func121
def PB:=eW Tryz.func118
theorem xW (w:World) (c:Nat):Calls aR 117 [.int .i32 (c:Int)].toArray w (bH fun u w'=>u = .bool (xX c)∧Mod [] w w'):=by
 refine bs Tryz.func117 rfl fun E=>aa fun a6=>a7 rfl (J a6 (aa fun aQ=>aO rfl (ah (dA rfl rfl) ?_)));refine c7 (fun k5:(c:Int)≥97=>?_) (fun k5=>?_)
 ·refine aj 3 rfl ?_;refine c7 (fun qm:(c:Int)≤122=>?_) (fun qm=>?_)
  ·exact aj 2 rfl (J aQ (bn (aG rfl rfl ⟨cf (by rw [Bool.eq_iff_iff];simp [xX];omega),E⟩)))
  exact aj 2 rfl (J aQ (bn (aG rfl rfl ⟨cf (by rw [Bool.eq_iff_iff];simp [xX];omega),E⟩)))
 exact aj 5 rfl (J aQ (bn (aG rfl rfl ⟨cf (by rw [Bool.eq_iff_iff];simp [xX];omega),E⟩)))
theorem FF (w:World) (c:Nat):Calls aR 118 [.int .i32 (c:Int)].toArray w (bH fun u w'=>u = .bool (C5 c)∧Mod [] w w'):=by
 refine bs Tryz.func118 rfl fun E=>aa fun a6=>a7 rfl (J a6 (aa fun aQ=>aO rfl (ah (dA rfl rfl) ?_)));refine c7 (fun k5:(c:Int)≥65=>?_) (fun k5=>?_)
 ·refine aj 3 rfl ?_;refine c7 (fun qm:(c:Int)≤90=>?_) (fun qm=>?_)
  ·exact aj 2 rfl (J aQ (bn (aG rfl rfl ⟨cf (by rw [Bool.eq_iff_iff];simp [C5];omega),E⟩)))
  exact aj 2 rfl (J aQ (bn (aG rfl rfl ⟨cf (by rw [Bool.eq_iff_iff];simp [C5];omega),E⟩)))
 exact aj 5 rfl (J aQ (bn (aG rfl rfl ⟨cf (by rw [Bool.eq_iff_iff];simp [C5];omega),E⟩)))
theorem uE (w:World) (c:Nat):Calls aR 119 [.int .i32 (c:Int)].toArray w (bH fun u w'=>u = .bool (tD c)∧Mod [] w w'):=by
 refine bs Tryz.func119 rfl fun E=>aa fun a6=>a7 rfl (J a6 (aa fun aQ=>aO rfl (ah (dA rfl rfl) ?_)));refine c7 (fun k5:(c:Int)≥48=>?_) (fun k5=>?_)
 ·refine aj 3 rfl ?_;refine c7 (fun qm:(c:Int)≤57=>?_) (fun qm=>?_)
  ·exact aj 2 rfl (J aQ (bn (aG rfl rfl ⟨cf (by rw [Bool.eq_iff_iff];simp [tD];omega),E⟩)))
  exact aj 2 rfl (J aQ (bn (aG rfl rfl ⟨cf (by rw [Bool.eq_iff_iff];simp [tD];omega),E⟩)))
 exact aj 5 rfl (J aQ (bn (aG rfl rfl ⟨cf (by rw [Bool.eq_iff_iff];simp [tD];omega),E⟩)))
theorem St (w:World) (c:Nat) (h1:c≤1114111) (aq:¬ (55296≤c∧c≤57343)):Calls aR 184 [.int .i32 (c:Int)].toArray w (bH fun u w'=>u = .bool true∧Mod [] w w'):=by
 refine bs Tryz.func184 rfl fun E=>?_;have sU:(0:Int)≤(c:Int):=by omega
 refine aa fun a6=>a7 rfl (J a6 (aB fun aQ=>eN (aa fun a'=>aj 2 rfl (kq (bD sU) (aj 5 rfl (J a' ?_))))));refine aX rfl (fun bb=>?_) (fun bb=>?_)
 ·exact aa fun bp=>a7 rfl (J bp (bn (bw (aP (aG rfl rfl ⟨rfl,E⟩)))))
 have pe:(57343:Int)<(c:Int):=by omega
 have hle:(c:Int)≤1114111:=by omega
 exact aa fun bx=>aj 2 rfl (kq (bD pe) (aj 3 rfl (kq (bD hle) (aj 2 rfl (J bx (az rfl (aa fun bO=>a7 rfl (J bO (bn (bw (aP (aG rfl rfl ⟨rfl,E⟩))))))))))))
theorem zF (w:World) (s:ab) (c:Nat) (bh:∀ x∈s,x.toNat<128) (cb:4≤s.length) (l6:s.length≤1000) (h1:c≤1114111) (aq:¬ (55296≤c∧c≤57343)) (h:128≤c):Calls aR 151 [S s,.int .i32 (c:Int)].toArray w (bH fun u w'=>u = .int .i64 (-1)∧Mod [] w w'):=by
 refine cY Tryz.func151 rfl fun E=>?_;have sU:(0:Int)≤(c:Int):=by omega
 have eQ:¬ (c:Int)<128:=by omega
 obtain⟨rs,avb,aAg,acG,ayE,ao',apa⟩:=Su h1 aq h;obtain⟨dN,fu⟩:∃ dN,s[rs.length-1]? = some dN:=⟨_,List.getElem?_eq_getElem (by omega)⟩;have ayF:=bh dN (List.mem_of_getElem? fu);have avc:Lib.indexByte (s.drop (rs.length-1+1)) ayE = -1:=indexByte_none (fun x ae=>bh x (List.mem_of_mem_drop ae)) apa;refine aa fun a6=>a7 rfl (J a6 (eN (aa fun aQ=>aj 2 rfl (kq (bD sU) (aj 3 rfl (kq (cr eQ) (aj 2 rfl (J aQ (aI rfl (aa fun a'=>aj 3 rfl ?_))))))))));refine J a' ?_;refine aX rfl (fun mH=>?_) (fun mH=>?_);rotate_left
 ·refine aa fun cv=>aO rfl (cG E (bB aeg rfl) (St _ c h1 aq) fun h8 U E=>aj 2 rfl (J cv ?_));refine a1 rfl (fun afO=>?_) (fun afO=>?_)
  ·cases afO
  refine K9 (aa fun bV=>aO rfl (ah ((ajw gE aA rfl).to (v':=S rs) (by rw [avb])) (a7 rfl (J bV (aa fun cE=>aO rfl (ah (bQ aA rfl) (ah (eZ (r:=((rs.length-1:Nat):Int)) rfl rfl) (a7 rfl (J cE (aa fun cI=>aj 2 rfl ?_))))))))));refine J cI (aa fun dr=>a7 rfl (J dr (aB fun ec=>eN (bK (σ:=Unit) (fun _=>[(0,S s),(7,S rs),(8,.int .i64 ((rs.length-1:Nat):Int)),(9,.int .i64 ((rs.length-1:Nat):Int))]) (fun _ aJ=>Mod [] w aJ) (fun _=>0) (()) (E) ?_))));rintro _ iS E;refine aB fun dG=>aa fun eV=>aj 2 rfl (ah (bQ aA rfl) (ah (cT rfl rfl) (J eV ?_)));refine aX rfl (fun kY=>?_) (fun kY=>?_)
  ·refine b' (av dG (eN (K9 (aB fun eO=>aB fun eC=>cn wide (by kernel_rfl) (hF 2 rfl rfl (ax (fun U=>(bN aA rfl rfl fu)) (hF 2 rfl rfl (ax (fun U=>(bN aA rfl rfl ao')) (ax (fun U=>(fO rfl rfl)) (cq rfl fun i' U=>?_))))))))));replace E:=E.then U;refine av eC ?_;refine aX rfl (fun vc=>?_) (fun vc=>?_)
   ·refine aB fun eP=>cn wide (by kernel_rfl) (hF 2 rfl rfl (ax (fun U=>(aS (r:=((rs.length-1+1:Nat):Int)) rfl rfl)) (ax (fun U=>(dV aA rfl rfl (by omega))) (hF 2 rfl rfl (ax (fun U=>(bN aA rfl rfl ao')) (El (fun db U=>bB yI rfl) (fun db U=>Ez _ (s.drop (rs.length-1+1)) ayE) rfl rfl (ax (fun U=>(cS rfl)) (cq rfl fun iw U=>?_))))))));replace E:=E.then U;refine av eP (aB fun fw=>aa fun fT=>aj 2 rfl (J fT ?_));refine aX rfl (fun apb=>?_) (fun apb=>?_)
    ·exact aa fun gh=>a7 rfl (J gh (bn (aP (aP (K' (by simp) (bw (aP (bw (aP (K' (by simp) (bw (aG rfl rfl ⟨rfl,E⟩))))))))))))
    exact absurd (by rw [avc];decide) apb
   exact absurd (by omega) vc
  exact absurd (by omega) kY
 refine aB fun bp=>aa fun bx=>aO rfl (sl aA rfl rfl fun xi aJ hX Wa Ti=>?_);have qY:w.heap.size≤xi:=by have:=E.size;omega
 replace E:=E.then Ti;refine J bx (eN (bK (σ:=Nat) (fun p=>[(0,S s),(1,.int .i32 (c:Int)),(175,.pointer (some ⟨xi,0,none⟩))]) (fun p aJ=>p≤s.length∧DK aJ xi s p∧Mod [] w aJ) (fun p=>s.length-p) (0) (⟨by omega,hX,E⟩) ?_));rintro p cX ⟨cc,hX,E⟩;refine aB fun bO=>?_
 by_cases hb:p<s.length
 ·obtain⟨b,aW⟩:∃ b,s[p]? = some b:=⟨_,List.getElem?_eq_getElem hb⟩;have pV:=bh b (List.mem_of_getElem? aW);refine b5 (oB rfl hX hb (dec_lt aW pV) rfl fun gr sS Dr GC=>?_);replace E:=E.trans' Dr (fun x ae=>.inr (by simp at ae;subst ae;exact qY));clear hX;have hX:=sS;refine ah (fo rfl rfl) (J bO (aB fun b4=>?_));refine a1 rfl (fun K8=>?_) (fun K8=>?_)
  ·skip
   refine b' (av b4 (eN (aa fun cw=>aj 4 rfl (J cw (aa fun cy=>aj 2 rfl (J cy ?_))))));refine aX rfl (fun afN=>?_) (fun afN=>?_)
   ·exact absurd afN (by omega)
   exact b' (bw (aw (σ:=Nat) (s:=p) (p+1) ⟨by omega,hX,E⟩))
  cases K8
 have ns:=hb;refine b5 (mK rfl hX ns rfl (ah (fo rfl rfl) (J bO (aB fun b6=>?_))));refine a1 rfl (fun K8=>?_) (fun K8=>?_)
 ·cases K8
 skip
 exact bL (aP (aP (ch (av bp (aa fun bR=>a7 rfl (J bR (bn (bw (aG rfl rfl ⟨rfl,E⟩)))))))))
theorem La (w:World) (s:ab) (c:Nat) (bh:∀ x∈s,x.toNat<128) (cb:4≤s.length) (l6:s.length≤1000) (h1:c≤1114111) (aq:¬ (55296≤c∧c≤57343)) (h:128≤c):Calls aR 121 [S s,.int .i32 (c:Int)].toArray w (bH fun u w'=>u = .bool false∧Mod [] w w'):=by
 exact cY Tryz.func121 rfl fun E=>aa fun a6=>a7 rfl (J a6 (aa fun aQ=>aj 2 rfl (cG E (bB GD rfl) (zF _ s c bh cb l6 h1 aq h) fun aJ U E=>ah (dA rfl rfl) (a7 rfl (J aQ (bn (aG rfl rfl ⟨rfl,E⟩)))))))
theorem ZI (w:World) (c:Nat) (h1:c≤1114111) (aq:¬ (55296≤c∧c≤57343)):Calls aR 121 [S td,.int .i32 (c:Int)].toArray w (bH fun u w'=>u = .bool (td.any fun b=>decide (b.toNat=c))∧Mod [] w w'):=by
 rcases Nat.lt_or_ge c 128 with h | h
 ·exact ID w td c h
 refine(La w td c (by decide) (by decide) (by decide) h1 aq h).mono fun e w' he=>?_;cases e with
 | returned v=>
  obtain⟨rfl,k⟩:=he;refine⟨?_,k⟩
  congr 1
  symm
  rw [List.any_eq_false];intro b aW;have:b.toNat<128:=(by decide:∀ b∈td,b.toNat<128) b aW;simp;omega
 | panicked c=>exact he.elim
 | outgrown=>exact he.elim
theorem NF (w:World) (c:Nat) (h1:c≤1114111) (aq:¬ (55296≤c∧c≤57343)):Calls aR 150 [.int .i32 (c:Int)].toArray w (bH fun u w'=>u = .bool (iK c)∧Mod [] w w'):=by
 refine bs Tryz.func150 rfl fun E=>aa fun a6=>a7 rfl (J a6 (aa fun aQ=>aO rfl (cG E (bB A6 rfl) (xW _ c) fun aJ U E=>?_)));refine tn (fun bg:(xX c)=true=>?_) (fun bg=>?_)
 ·exact aj 13 rfl (J aQ (bn (aG rfl rfl ⟨by simp_all [iK],E⟩)))
 refine aj 2 rfl (gN (bB xV rfl) (uE _ c) fun cX U=>?_);replace E:=E.then U;refine tn (fun bC:(tD c)=true=>?_) (fun bC=>?_)
 ·exact aj 10 rfl (J aQ (bn (aG rfl rfl ⟨by simp_all [iK],E⟩)))
 refine aj 4 rfl ?_;refine c7 (fun dh:(c:Int)=46=>?_) (fun dh=>?_)
 ·exact aj 6 rfl (J aQ (bn (aG rfl rfl ⟨by simp_all [iK],E⟩)))
 refine aj 4 rfl ?_;refine c7 (fun cW:(c:Int)=45=>?_) (fun cW=>?_)
 ·exact aj 2 rfl (J aQ (bn (aG rfl rfl ⟨by simp_all [iK],E⟩)))
 exact aj 2 rfl (J aQ (bn (aG rfl rfl ⟨by simp_all [iK],E⟩)))
theorem ZJ (w:World) (c:Nat) (h1:c≤1114111) (aq:¬ (55296≤c∧c≤57343)):Calls aR 120 [.int .i32 (c:Int)].toArray w (bH fun u w'=>u = .bool (ko c)∧Mod [] w w'):=by
 refine bs Tryz.func120 rfl fun E=>aa fun a6=>a7 rfl (J a6 (aa fun aQ=>aO rfl (cG E (bB A6 rfl) (xW _ c) fun aJ U E=>?_)));refine tn (fun bg:(xX c)=true=>?_) (fun bg=>?_)
 ·exact aj 9 rfl (J aQ (bn (aG rfl rfl ⟨by simp_all [ko],E⟩)))
 refine aj 2 rfl (gN (bB xV rfl) (uE _ c) fun cX U=>?_);replace E:=E.then U;refine tn (fun bC:(tD c)=true=>?_) (fun bC=>?_)
 ·exact aj 6 rfl (J aQ (bn (aG rfl rfl ⟨by simp_all [ko],E⟩)))
 refine aj 3 rfl (gN (bB aeh rfl) (ZI _ c h1 aq) fun gr U=>?_);replace E:=E.then U;refine tn (fun dh:(td.any fun b=>decide (b.toNat=c))=true=>?_) (fun dh=>?_)
 ·exact aj 2 rfl (J aQ (bn (aG rfl rfl ⟨by simp_all [ko],E⟩)))
 exact aj 2 rfl (J aQ (bn (aG rfl rfl ⟨by simp_all [ko],E⟩)))
theorem ZK (w:World) (c:Nat) (h1:c≤1114111) (aq:¬ (55296≤c∧c≤57343)):Calls aR 116 [.int .i32 (c:Int)].toArray w (bH fun u w'=>u = .bool (jC c)∧Mod [] w w'):=by
 refine bs Tryz.func116 rfl fun E=>aa fun a6=>a7 rfl (J a6 (aa fun aQ=>aO rfl (cG E (bB A6 rfl) (xW _ c) fun aJ U E=>?_)));refine tn (fun bg:(xX c)=true=>?_) (fun bg=>?_)
 ·exact aj 17 rfl (J aQ (bn (aG rfl rfl ⟨by simp_all [jC],E⟩)))
 refine aj 2 rfl (gN (bB PB rfl) (FF _ c) fun cX U=>?_);replace E:=E.then U;refine tn (fun bC:(C5 c)=true=>?_) (fun bC=>?_)
 ·exact aj 14 rfl (J aQ (bn (aG rfl rfl ⟨by simp_all [jC],E⟩)))
 refine aj 3 rfl (gN (bB xV rfl) (uE _ c) fun gr U=>?_);replace E:=E.then U;refine tn (fun dh:(tD c)=true=>?_) (fun dh=>?_)
 ·exact aj 10 rfl (J aQ (bn (aG rfl rfl ⟨by simp_all [jC],E⟩)))
 refine aj 4 rfl ?_;refine c7 (fun cW:(c:Int)=95=>?_) (fun cW=>?_)
 ·exact aj 6 rfl (J aQ (bn (aG rfl rfl ⟨by simp_all [jC],E⟩)))
 refine aj 4 rfl ?_;refine c7 (fun dB:(c:Int)=45=>?_) (fun dB=>?_)
 ·exact aj 2 rfl (J aQ (bn (aG rfl rfl ⟨by simp_all [jC],E⟩)))
 exact aj 2 rfl (J aQ (bn (aG rfl rfl ⟨by simp_all [jC],E⟩)))
theorem aei (w:World) (c:Nat) (h1:c≤1114111) (aq:¬ (55296≤c∧c≤57343)):Calls aR 154 [.int .i32 (c:Int)].toArray w (bH fun u w'=>u = .bool (pC c)∧Mod [] w w'):=by
 refine bs Tryz.func154 rfl fun E=>aa fun a6=>a7 rfl (J a6 (aa fun aQ=>aO rfl (cG E (bB A6 rfl) (xW _ c) fun aJ U E=>?_)));refine tn (fun bg:(xX c)=true=>?_) (fun bg=>?_)
 ·exact aj 13 rfl (J aQ (bn (aG rfl rfl ⟨by simp_all [pC],E⟩)))
 refine aj 2 rfl (gN (bB PB rfl) (FF _ c) fun cX U=>?_);replace E:=E.then U;refine tn (fun bC:(C5 c)=true=>?_) (fun bC=>?_)
 ·exact aj 10 rfl (J aQ (bn (aG rfl rfl ⟨by simp_all [pC],E⟩)))
 refine aj 3 rfl (gN (bB xV rfl) (uE _ c) fun gr U=>?_);replace E:=E.then U;refine tn (fun dh:(tD c)=true=>?_) (fun dh=>?_)
 ·exact aj 6 rfl (J aQ (bn (aG rfl rfl ⟨by simp_all [pC],E⟩)))
 refine aj 4 rfl ?_;refine c7 (fun cW:(c:Int)=95=>?_) (fun cW=>?_)
 ·exact aj 2 rfl (J aQ (bn (aG rfl rfl ⟨by simp_all [pC],E⟩)))
 exact aj 2 rfl (J aQ (bn (aG rfl rfl ⟨by simp_all [pC],E⟩)))
theorem C6 (w:World) (s:ab) (k:FuncId) (q:Nat→Bool) (he:vh aR k) (hk:∀ (w:World) (c:Nat),c≤1114111→¬ (55296≤c∧c≤57343)→Calls aR k [.int .i32 (c:Int)].toArray w (bH fun u w'=>u = .bool (q c)∧Mod [] w w')) (e8:∀ c,q c=true→c<128):Calls aR 115 [S s,.func (.func k) #[] #[]].toArray w (bH fun u w'=>u = .bool (hS q s)∧Mod [] w w'):=by
 refine cY Tryz.func115 rfl fun E=>aa fun a6=>a7 rfl (J a6 (aB fun aQ=>aa fun a'=>aO rfl (sl aA rfl rfl fun xi aJ hX Wa Ti=>?_)));have qY:w.heap.size≤xi:=by have:=E.size;omega
 replace E:=E.then Ti;refine J a' (eN (bK (σ:=Nat) (fun p=>[(0,S s),(1,.func (.func k) #[] #[]),(8,.pointer (some ⟨xi,0,none⟩))]) (fun p aJ=>p≤s.length∧(s.take p).all (fun b=>q b.toNat)=true∧DK aJ xi s p∧Mod [] w aJ) (fun p=>s.length-p) (0) (⟨by omega,by simp,hX,E⟩) ?_));rintro p cX ⟨cc,aE,hX,E⟩;refine aB fun bp=>?_
 by_cases hb:p<s.length
 rotate_left
 ·have ns:=hb;have dR:=FG (q:=q) (by omega) aE;refine b5 (mK rfl hX ns rfl (ah (fo rfl rfl) (J bp (aB fun bV=>?_))));refine a1 rfl (fun jP=>?_) (fun jP=>?_)
  ·cases jP
  skip
  exact bL (aP (aP (ch (av aQ (aa fun cE=>aO rfl (ah (ia rfl rfl) (a7 rfl (J cE (bn (aG rfl rfl ⟨by rw [dR],E⟩))))))))))
 obtain⟨b,aW⟩:∃ b,s[p]? = some b:=⟨_,List.getElem?_eq_getElem hb⟩;have Jz:=b.toNat_lt
 by_cases pV:b.toNat<128
 rotate_left
 ·obtain⟨c,m,B0,ZL,eQ,h3⟩:=PC aW (by omega);refine b5 (oB rfl hX hb (B0) rfl fun iS sS Dr GC=>?_);replace E:=E.trans' Dr (fun x ae=>.inr (by simp at ae;subst ae;exact qY));clear hX;have hX:=sS;refine ah (fo rfl rfl) (J bp (aB fun cy=>?_));refine a1 rfl (fun jP=>?_) (fun jP=>?_)
  ·skip
   refine b' (av cy (eN (aa fun b6=>aj 2 rfl (J b6 (aa fun bR=>aj 2 rfl (cG E (wK he rfl rfl) (hk _ c (by omega) (by omega)) fun i' U E=>?_))))));replace hX:=hX.I U;refine ah (fC rfl) (J bR ?_);refine a1 rfl (fun kK=>?_) (fun kK=>?_)
   ·have dR:hS q s=false:=C7 aW (ew fun h=>by have:=e8 _ h;omega);exact aa fun cv=>a7 rfl (J cv (bn (bw (aP (bw (aP (aG rfl rfl ⟨by rw [dR],E⟩)))))))
   exact absurd (e8 c (by simpa using kK)) (by omega)
  cases jP
 skip
 refine b5 (oB rfl hX hb (dec_lt aW pV) rfl fun gr sS Dr GC=>?_);replace E:=E.trans' Dr (fun x ae=>.inr (by simp at ae;subst ae;exact qY));clear hX;have hX:=sS;refine ah (fo rfl rfl) (J bp (aB fun bx=>?_));refine a1 rfl (fun jP=>?_) (fun jP=>?_)
 ·skip
  refine b' (av bx (eN (aa fun bO=>aj 2 rfl (J bO (aa fun b4=>aj 2 rfl (cG E (wK he rfl rfl) (hk _ b.toNat (by omega) (by omega)) fun h8 U E=>?_))))));replace hX:=hX.I U;refine ah (fC rfl) (J b4 ?_);refine a1 rfl (fun kK=>?_) (fun kK=>?_)
  ·have dR:hS q s=false:=C7 aW (by simpa using kK);exact aa fun cw=>a7 rfl (J cw (bn (bw (aP (bw (aP (aG rfl rfl ⟨by rw [dR],E⟩)))))))
  have rT:=all_succ aW aE (by simpa using kK);exact b' (bw (aw (σ:=Nat) (s:=p) (p+1) ⟨by omega,rT,hX,E⟩))
 cases jP
end Go.Proofs.YtkjgljnkocnnpaaGreatDoor.V
namespace Go.Proofs.YtkjgljnkocnnpaaGreatDoor.V
open Go
theorem Lb (s:ab):Lib.cut s [58]=(s.take (aV s),s.drop (aV s+1),decide (aV s<s.length)):=by
 rw [NV];have:=kG s
 by_cases h:aV s<s.length
 ·rw [aL h,decide_eq_true h]
 rw [ak h,decide_eq_false h,List.take_of_length_le (by omega),List.drop_eq_nil_of_le (by omega)]
theorem oq (s:ab):decide (aV s=s.length) = !decide (aV s<s.length):=by
 have:=kG s
 by_cases h:aV s<s.length
 ·rw [decide_eq_true h,decide_eq_false (by omega)];rfl
 rw [decide_eq_false h,decide_eq_true (by omega)];rfl
theorem ot (s:ab):decide (s.length-aV s≤6)=decide (((s.drop (aV s+1)).length:Int)≤5):=by
 rw [List.length_drop,decide_eq_decide];omega
theorem lx (s:ab):decide (s.length≤255)=decide ((s.length:Int)≤255):=by
 rw [decide_eq_decide];omega
def pw (sign:UInt8) (s:ab):Bool:=decide (s.head? = some sign)&&decide ((s.length:Int)≤255)
theorem lg {sign:UInt8} (lM:sign≠58) (q:Nat→Bool) (s:ab) :
  gH sign q s=(pw sign s&&decide (aV (s.drop 1)<(s.drop 1).length)&&d' ((s.drop 1).drop (aV (s.drop 1)+1))&&hS q ((s.drop 1).take (aV (s.drop 1)))):=by
 cases s with
 | nil=>simp [gH,pw]
 | cons b r=>
  by_cases aW:b=sign
  ·subst aW
   have aZ:aV (b::r)=aV r+1:=by
    have:(b == 58)=false:=by simpa using lM
    simp [aV,List.findIdx_cons,this]
   simp only [gH,pw,aZ,List.drop_succ_cons,List.drop_zero,List.length_cons,List.head?_cons,List.take_succ_cons,decide_true]
   rw [show decide (r.length+1≤255)=decide (((r.length+1:Nat):Int)≤255)by rw [decide_eq_decide];omega,show decide (aV r+1<r.length+1)=decide (aV r<r.length)by rw [decide_eq_decide];omega]
   generalize decide (((r.length+1:Nat):Int)≤255)=e6
   generalize decide (aV r<r.length)=a2
   generalize hS q (r.take (aV r))=a3
   generalize d' (r.drop (aV r+1))=a4
   cases e6 <;> cases a2 <;> cases a3 <;> cases a4 <;> rfl
  have:decide ((b::r).head? = some sign)=false:=by simp [aW]
  rw [gH,pw,this]
  simp
theorem NW {sign:UInt8} {s:ab} (lM:sign≠58) (kf:s.head? = some sign):0<aV s:=by
 cases s with
 | nil=>cases kf
 | cons b r=>
  obtain rfl:b=sign:=by simpa using kf
  have:(b == 58)=false:=by simpa using lM
  simp [aV,List.findIdx_cons,this]
theorem NX (s p:ab):Lib.hasPrefix s p=decide (s.take p.length=p):=by
 unfold Lib.hasPrefix;rw [Bool.eq_iff_iff];simp only [decide_eq_true_eq,List.isPrefixOf_iff_prefix];rw [List.prefix_iff_eq_take];exact eq_comm
theorem xZ (s:ab):pD s=(Lib.hasPrefix s Ef&&decide ((s.length:Int)≤255)&&hS pC (Lib.trimPrefix s Ef)):=by
 have lZ:Ef.length=8:=rfl;unfold pD Lib.trimPrefix;rw [NX,lZ,lx]
 by_cases h:s.take 8=Ef
 ·rw [decide_eq_true h,aL rfl];generalize decide ((s.length:Int)≤255)=e6;generalize hS pC (s.drop 8)=a2;cases e6 <;> cases a2 <;> rfl
 rw [decide_eq_false h];simp
/-! ### the document's kinds -/
def hc (c:Nat) (k:UInt8):Bool:=(decide ((k.toNat:Int)=97)&&decide ((c:Int)≥97)&&decide ((c:Int)≤122))||(decide ((k.toNat:Int)=65)&&decide ((c:Int)≥65)&&decide ((c:Int)≤90))||(decide ((k.toNat:Int)=48)&&decide ((c:Int)≥48)&&decide ((c:Int)≤57))
def zi (kinds hn:ab) (c:Nat):Bool:=kinds.any (hc c)||hn.any (fun g=>decide ((g.toNat:Int)=(c:Int)))
theorem gI {α:Type} {l:List α} {j:Nat} {x:α} (f:α→Bool) (h:l[j]? = some x):(l.take (j+1)).any f=((l.take j).any f||f x):=by
 have bM:=(List.getElem?_eq_some_iff.1 h).1;rw [List.take_succ_eq_append_getElem bM,(List.getElem?_eq_some_iff.1 h).2,List.any_append];simp
theorem x3 {q r:Nat→Bool} (h:∀ i:Fin 256,q i.val=r i.val) (b:UInt8):q b.toNat=r b.toNat:=h ⟨b.toNat,b.toNat_lt⟩
theorem Sy (b:UInt8):iK b.toNat=zi [97,48] [46,45] b.toNat:=x3 (by decide +kernel) b
theorem aep (b:UInt8):ko b.toNat=zi [97,48] td b.toNat:=x3 (by decide +kernel) b
theorem aeq (b:UInt8):jC b.toNat=zi [97,65,48] [95,45] b.toNat:=x3 (by decide +kernel) b
theorem ajB (b:UInt8):pC b.toNat=zi [97,65,48] [95] b.toNat:=x3 (by decide +kernel) b
theorem ZO (b:UInt8):tD b.toNat=zi [48] [] b.toNat:=x3 (by decide +kernel) b
theorem Sx {s:ab} {i:Nat} {b:UInt8} (h:s[i]? = some b) (aE:∀ j b,j<i→s[j]? = some b→b≠58) (aW:b=58):aV s=i:=by
 have bM:=(List.getElem?_eq_some_iff.1 h).1;unfold aV;rw [List.findIdx_eq bM];refine⟨by rw [(List.getElem?_eq_some_iff.1 h).2];simpa using aW,fun j eD=>?_⟩;have:=aE j _ eD (List.getElem?_eq_getElem (by omega));simpa using this
theorem Lf {s:ab} (aE:∀ j b,j<s.length→s[j]? = some b→b≠58):aV s=s.length:=by
 have:=kG s;rcases Nat.lt_or_ge (aV s) s.length with h | h
 ·exfalso;have h1:(s[aV s] == 58)=true:=List.findIdx_getElem (p:=fun b=>b == 58) (w:=h);exact aE _ _ h (List.getElem?_eq_getElem h) (by simpa using h1)
 omega
section
variable {P:Program} {l:List (Nat×Value)} {w:World} {ty:TypeId} {pos:String} {af:Array Edge} {dd:Option Nat} {gg:Option (Nat×Bool)} {x y z hi:Operand} {t:TypeId}
theorem ZP {u:List UInt8} {m n:Nat} (bW:P.underlying t=some .string) (ae:bf l x=some (S u)) (cb:bf l y=some (.int .i64 (m:Int))) (kf:bf l hi=some (.int .i64 (n:Int))) (aW:m≤n∧n≤u.length):bE P l ⟨dd,.slice t x (some y) (some hi) none,ty,pos,af,gg⟩ w (S ((u.take n).drop m)) w:=
 (tS (pl:=some (.i64,(m:Int))) (ph:=some (.i64,(n:Int))) bW ae (by simp [vW,cb]) (by simp [vW,kf]) (by simp only [ib,iR];omega)).to (by
  simp only [ib,iR,Int.toNat_natCast]
  rw [List.drop_take])
end
theorem te (s:ab):decide (aV s=s.length)=decide ((aV s:Int)=(s.length:Int)):=by rw [decide_eq_decide];omega
theorem tf (s:ab):decide (s.length-aV s≤6)=decide (((s.length-aV s:Nat):Int)≤6):=by rw [decide_eq_decide];omega
theorem lh (sign:UInt8) (q:Nat→Bool) (s:ab):gH sign q s=(decide ((s.length:Int)≤255)&&decide ((aV s:Int)<(s.length:Int))&&decide (s.head? = some sign)&&hS q ((s.take (aV s)).drop 1)&&d' (s.drop (aV s+1))):=by
 rw [gH,lx,show decide (aV s<s.length)=decide ((aV s:Int)<(s.length:Int))by rw [decide_eq_decide];omega]
theorem Sz {s:ab} {b0 sign:UInt8} (h:s[0]? = some b0):decide (s.head? = some sign)=decide ((b0.toNat:Int)=(sign.toNat:Int)):=by
 rw [List.head?_eq_getElem?,h,decide_eq_decide];constructor
 ·intro e;injection e with e;rw [e]
 intro e;rw [dT e]
theorem ZQ {s:ab} {sign:UInt8} (lM:sign≠58) (h:¬ (aV s:Int) > 0):decide (s.head? = some sign)=false:=by
 refine decide_eq_false fun e=>?_;have:=NW lM e;omega
def W4 (x:UInt32):Value:=.int .u32 x.toNat
section
variable {P:Program} {l:List (Nat×Value)} {w:World} {ty:TypeId} {pos:String} {af:Array Edge}
variable {dd:Option Nat} {gg:Option (Nat×Bool)} {x y:Operand} {t t' M6:TypeId} {a b:UInt32}
end
abbrev uY (c:UInt8):List Value:=[ku c]
abbrev am7 (b:List UInt8):D:=flat 1 uY b
abbrev G1 (x:UInt32):List Value:=[W4 x]
abbrev asT (b:List UInt32):D:=flat 1 G1 b
def abe (x:UInt32) (k:Nat):UInt32:=x >>> UInt32.ofNat k ||| x <<< UInt32.ofNat (32-k)
def ac5 (b:List UInt8):UInt32:=b.foldl (fun n c=>n <<< UInt32.ofNat 8 ||| c.toUInt32) 0
structure S8 where
 a:UInt32
 b:UInt32
 c:UInt32
 d:UInt32
 e:UInt32
 f:UInt32
 g:UInt32
 h:UInt32
abbrev S8.cells (s:S8):List Value:=[W4 s.a,W4 s.b,W4 s.c,W4 s.d,W4 s.e,W4 s.f,W4 s.g,W4 s.h]
def Ts:List UInt32:=[
 0x428a2f98,0x71374491,0xb5c0fbcf,0xe9b5dba5,0x3956c25b,0x59f111f1,0x923f82a4,0xab1c5ed5,
 0xd807aa98,0x12835b01,0x243185be,0x550c7dc3,0x72be5d74,0x80deb1fe,0x9bdc06a7,0xc19bf174,
 0xe49b69c1,0xefbe4786,0x0fc19dc6,0x240ca1cc,0x2de92c6f,0x4a7484aa,0x5cb0a9dc,0x76f988da,
 0x983e5152,0xa831c66d,0xb00327c8,0xbf597fc7,0xc6e00bf3,0xd5a79147,0x06ca6351,0x14292967,
 0x27b70a85,0x2e1b2138,0x4d2c6dfc,0x53380d13,0x650a7354,0x766a0abb,0x81c2c92e,0x92722c85,
 0xa2bfe8a1,0xa81a664b,0xc24b8b70,0xc76c51a3,0xd192e819,0xd6990624,0xf40e3585,0x106aa070,
 0x19a4c116,0x1e376c08,0x2748774c,0x34b0bcb5,0x391c0cb3,0x4ed8aa4a,0x5b9cca4f,0x682e6ff3,
 0x748f82ee,0x78a5636f,0x84c87814,0x8cc70208,0x90befffa,0xa4506ceb,0xbef9a3f7,0xc67178f2]
def asU (x:UInt32):UInt32:=abe x 7 ^^^ abe x 18 ^^^ x >>> UInt32.ofNat 3
def asV (y:UInt32):UInt32:=abe y 17 ^^^ abe y 19 ^^^ y >>> UInt32.ofNat 10
def E9 (w:List UInt32) (i:Nat):UInt32:=w.getD i 0
def ahD (w:List UInt32) (i:Nat):UInt32:=E9 w (i-16)+asU (E9 w (i-15))+E9 w (i-7)+asV (E9 w (i-2))
def ahE (b:List UInt8):Nat→List UInt32
 | 0=>[]
 | i+1=>ahE b i ++ [if i<16 then ac5 ((b.drop (4*i)).take 4)else ahD (ahE b i) i]
def afe (k w:UInt32) (s:S8):UInt32:=s.h+(abe s.e 6 ^^^ abe s.e 11 ^^^ abe s.e 25)+(s.e &&& s.f ^^^ ~~~s.e &&& s.g)+k+w
def am9 (s:S8):UInt32:=abe s.a 2 ^^^ abe s.a 13 ^^^ abe s.a 22
def am' (s:S8):UInt32:=s.a &&& s.b ^^^ s.a &&& s.c ^^^ s.b &&& s.c
def asW (k w:UInt32) (s:S8):S8:=⟨afe k w s+(am9 s+am' s),s.a,s.b,s.c,s.d+afe k w s,s.e,s.f,s.g⟩
def aff (akp ws:List UInt32) (s:S8):Nat→S8
 | 0=>s
 | i+1=>asW (E9 akp i) (E9 ws i) (aff akp ws s i)
def S8.add (s t:S8):S8:=⟨s.a+t.a,s.b+t.b,s.c+t.c,s.d+t.d,s.e+t.e,s.f+t.f,s.g+t.g,s.h+t.h⟩
def comp (s:S8) (b:List UInt8):S8:=s.add (aff Ts (ahE b 64) s 64)
abbrev S8.list (s:S8):List UInt32:=[s.a,s.b,s.c,s.d,s.e,s.f,s.g,s.h]
theorem MV {xs:List UInt32}:∀ x∈xs,∀ c∈G1 x,c.oneCell'=true:=by
 intro x _ c aZ;simp at aZ;subst aZ;rfl
theorem Own.words {w:World} {e n:Nat} {v:Value} {xs:List UInt32} (h:Own w e 1 v n ((xs.map G1).flatten)) (cu:xs.length=n):bq [] w (asT xs) v:=Own.flat h (fun _ _=>rfl) MV cu (by simp)
theorem aF.c1 {w:World} {g T i:Nat} {cs:List Value} {v:Value} (h:aF w g T cs) (hi:cs[i]? = some v):w.cell? ⟨g,0+i*1,none⟩=some v:=by
 rw [Nat.zero_add,Nat.mul_one];exact h.cell hi
theorem pF.c1 {w:World} {g i:Nat} {cs:List Value} {v:Value} (h:pF w ⟨g,0,none⟩ cs) (hi:cs[i]? = some v):w.cell? ⟨g,0+i*1,none⟩=some v:=by
 have:=h i v hi;rw [Addr.add_lit] at this;rw [Nat.mul_one];exact this
section
variable {P:Program} {ops:Array Oper} {Q:Exit→Act→World→Prop} {n:Nat} {ds:List Deferred} {l:List (Nat×Value)} {w w':World}
variable {rest:List Oper} {ty:TypeId} {pos:String} {af:Array Edge} {x y:Operand} {t:TypeId}
end
theorem MW {b:List UInt8}:∀ x∈b,∀ c∈uY x,c.oneCell'=true:=by
 intro x _ c aZ;simp at aZ;subst aZ;rfl
theorem Own.am8 {w:World} {e n:Nat} {v:Value} {b:List UInt8} (A:List Nat) (h:Own w e 1 v n ((b.map uY).flatten)) (cu:b.length=n) (dy:∀ x∈bk v,x∉A):bq A w (am7 b) v:=Own.flat h (fun _ _=>rfl) MW cu dy
theorem Own.as {w:World} {e sz m n:Nat} {v:Value} {us vs:List Value} (h:Own w e sz v n vs) (hm:n=m) (bI:vs=us):Own w e sz v m us:=by
 subst hm;subst bI;exact h
def ana (n i:Nat):UInt8:=UInt8.ofNat (n*8 / 256 ^ i)
def lens (n k:Nat):List UInt8:=(List.range k).map fun i=>ana n (7-i)
def vn (x:UInt32) (j:Nat):UInt8:=(x >>> UInt32.ofNat (8*j)).toUInt8
section
variable {P:Program} {l:List (Nat×Value)} {w:World} {ty:TypeId} {pos:String} {af:Array Edge}
variable {dd:Option Nat} {gg:Option (Nat×Bool)} {x y:Operand} {t:TypeId}
theorem abl {ad:Option Addr} {c c' e sz fM lo hi:Nat} {h fW:Operand} (bW:kU P t e sz fM=true) (ae:bf l x=some (.slice ad c c')) (cb:bf l h=some (.int .i64 (lo:Int))) (kf:bf l fW=some (.int .i64 (hi:Int))) (aW:lo≤hi∧hi≤c') (aZ:c≤c') :
  bE P l ⟨dd,.slice t x (some h) (some fW) none,ty,pos,af,gg⟩ w (.slice (nO ad c' lo sz) (hi-lo) (c'-lo)) w:=by
 have:=Jm (P:=P) (w:=w) (dd:=dd) (ty:=ty) (pos:=pos) (af:=af) (gg:=gg) bW ae (lo:=some h) (pl:=some (.i64,(lo:Int))) (hi:=some fW) (ph:=some (.i64,(hi:Int))) (by simp [vW,cb]) (by simp [vW,kf]) (by simp only [ib,iR];omega) aZ
 refine this.to ?_
 simp [ib,iR]
end
theorem Own.block {w:World} {e c i:Nat} {ad:Option Addr} {t:List UInt8} (h:Own w e 1 (.slice ad t.length c) t.length ((t.map uY).flatten)) (hi:64*i+64≤t.length):bq [] w (am7 ((t.drop (64*i)).take 64)) (.slice (nO ad c (64*i) 1) (64*i+64-64*i) (c-64*i)):=by
 have h1:=h.cut (lo:=64*i) (hi:=64*i+64) (by omega) hi;have aq:=JG (cells:=uY) (sz:=1) (xs:=t) (fun _=>rfl) (64*i);have bb:=JH (cells:=uY) (sz:=1) (xs:=t.drop (64*i)) (fun _=>rfl) (64*i+64-64*i);rw [aq,bb] at h1;have bP:64*i+64-64*i=64:=by omega
 rw [bP] at h1 ⊢;exact Own.am8 [] h1 (by rw [List.length_take,List.length_drop];omega) (by simp)
section
variable {P:Program} {l:List (Nat×Value)} {w:World} {ty:TypeId} {pos:String} {af:Array Edge}
variable {dd:Option Nat} {gg:Option (Nat×Bool)} {x y:Operand} {t t':TypeId}
variable {ops:Array Oper} {Q:Exit→Act→World→Prop} {n:Nat} {ds:List Deferred} {rest:List Oper} {d:Nat}
end
section
variable {P:Program} {ops:Array Oper} {Q:Exit→Act→World→Prop} {n:Nat} {ds:List Deferred} {l:List (Nat×Value)} {w w':World}
variable {rest:List Oper} {ty:TypeId} {pos:String} {af:Array Edge} {x y:Operand}
theorem Rp {e N c i:Nat} {ad:Addr} {vs:List Value} {u:Value} {T:TypeId} (bW:pa P T=true) (O:Own w e 1 (.slice (some ad) N c) N vs) (ae:bf l x=some (.pointer (some (ad.add (i*1))))) (ba:bf l y=some u) (yX:u.oneCell'=true) (hi:i<N)
  (h:∀ w',Own w' e 1 (.slice (some ad) N c) N (vs.set i u)→Mod [ad.block] w w'→w'.heap.size=w.heap.size→fI P ops Q rest n ds l w') :
  fI P ops Q (⟨none,.store T x y,ty,pos,af,none⟩::rest) n ds l w:=by
 rcases O.2 with⟨cg,_⟩ | ⟨g,o,cap,cs,bI,ev,eQ,h3,uc,rG⟩
 ·cases cg
 injection bI with bu ee kH
 injection bu with bu
 subst bu;subst kH
 have pb:=O.1
 rw [Addr.add_lit,Nat.mul_one] at ae
 refine Wn bW ev ae ba yX (by omega) fun w' cc=>?_
 refine h w' ⟨by simp [pb],.inr ⟨g,o,c,_,rfl,cc.ar,eQ,h3,by simp;omega,?_⟩⟩ cc.mod cc.size
 subst rG
 apply List.ext_getElem?
 intro j
 simp only [List.getElem?_take,List.getElem?_drop,List.getElem?_set,List.length_take,List.length_drop]
 repeat' split
 all_goals first
  | omega
  | rfl
  | skip
end
def SL (url:Bool) (c:Nat):Bool:=(decide ((c:Int)=43) && !url)||(decide ((c:Int)=45)&&url)
def SM (url:Bool) (c:Nat):Bool:=(decide ((c:Int)=47) && !url)||(decide ((c:Int)=95)&&url)
def p5 (url:Bool) (c:Nat):Option Nat:=
 if C5 c=true then some (c-65)else if xX c=true then some (c-97+26)else if tD c=true then some (c-48+52)else if SL url c=true then some 62 else if SM url c=true then some 63 else none
def rA (url:Bool) (n:Nat):Nat:=if n<26 then 65+n else if n<52 then 97+(n-26)else if n<62 then 48+(n-52)else if url=true then (if n=62 then 45 else 95)else if n=62 then 43 else 47
theorem NL (url:Bool) (c:Nat) (h:128≤c):p5 url c=none:=by
 unfold p5 C5 xX tD SL SM;simp only [Bool.or_eq_true,Bool.and_eq_true,decide_eq_true_eq];rw [ak (by omega),ak (by omega),ak (by omega),ak (by omega),ak (by omega)]
theorem HH {url:Bool} {c x:Nat} (h:p5 url c=some x):x<64:=by
 unfold p5 C5 xX tD at h;simp only [Bool.and_eq_true,decide_eq_true_eq] at h
 split at h
 ·injection h with h;omega
 split at h
 ·injection h with h;omega
 split at h
 ·injection h with h;omega
 split at h
 ·injection h with h;omega
 split at h
 ·injection h with h;omega
 cases h
theorem aas:∀ url:Bool,∀ b:Fin 128,∀ x,p5 url b.val=some x→rA url x=b.val:=by
 have:∀ url:Bool,∀ b:Fin 128,(match p5 url b.val with | some x=>rA url x == b.val | none=>true)=true:=by decide +kernel
 intro url b x h;have:=this url b;rw [h] at this;simpa using this
theorem aat:∀ url:Bool,∀ x:Fin 64,p5 url (rA url x.val)=some x.val:=by decide +kernel
theorem ZX {url:Bool} {b n:Nat} (cu:n<64) (h:rA url n=b):p5 url b=some n:=by
 rw [← h];exact aat url ⟨n,cu⟩
theorem aeu {url:Bool} {b:Nat} (h:∀ y,y<64→rA url y≠b):p5 url b=none:=by
 cases ae:p5 url b with
 | none=>rfl
 | some x=>
  exfalso;have aW:b<128:=by
   rcases Nat.lt_or_ge b 128 with h1 | h1
   ·exact h1
   rw [NL url b h1] at ae;cases ae
  exact h x (HH ae) (aas url ⟨b,aW⟩ x ae)
def na (k:Nat):Nat:=if k % 4=0 then 1 else if k % 4=1 then 64 else if k % 4=2 then 16 else 4
def rest (url:Bool) (s:ab) (k:Nat):Nat:=match k with
 | 0=>0
 | k+1=>((p5 url ((s.getD k 0).toNat)).getD 0) % na (k+1)
def h0 (url:Bool) (s:ab):Bool:=s.all (fun b=>(p5 url b.toNat).isSome) && !decide (((6*s.length % 8:Nat):Int)≥6) && !decide ((rest url s s.length:Int)≠0)
theorem tg {url:Bool} {s:ab} {k x:Nat} {b:UInt8} (h:s[k]? = some b) (ae:p5 url b.toNat=some x):rest url s (k+1)=x % na (k+1):=by
 show((p5 url ((s.getD k 0).toNat)).getD 0) % na (k+1)=_;rw [List.getD_eq_getElem?_getD,h];simp [ae]
theorem PJ (k:Nat):0<na k:=by
 unfold na
 repeat' split
 all_goals omega
theorem ZV (k:Nat):na k≤64:=by
 unfold na
 repeat' split
 all_goals omega
theorem ZU (url:Bool) (s:ab) (k:Nat):rest url s k<64:=by
 cases k with
 | zero=>show 0<64;omega
 | succ k=>
  have h1:rest url s (k+1)<na (k+1):=Nat.mod_lt _ (PJ _);have:=ZV (k+1);omega
theorem NK {url:Bool} {s:ab} {k:Nat} (h:k % 4=0):rest url s k=0:=by
 cases k with
 | zero=>rfl
 | succ k=>
  show _ % na (k+1)=0;have:na (k+1)=1:=by unfold na;rw [aL h]
  rw [this,Nat.mod_one]
theorem HG {url:Bool} {s:ab} {k:Nat} {b:UInt8} (h:s[k]? = some b) (aW:p5 url b.toNat=none):h0 url s=false:=by
 unfold h0;have:s.all (fun b=>(p5 url b.toNat).isSome)=false:=by
  rw [List.all_eq_false];exact⟨b,List.mem_of_getElem? h,by simp [aW]⟩
 rw [this];rfl
/-! ### the words -/
theorem ape {h x:Nat} (kf:h<64) (ae:x<64):IntKind.u64.wrap (BitVec.ofInt IntKind.u64.bits ((h*64:Nat):Int) ||| BitVec.ofInt IntKind.u64.bits (x:Int)).toNat=((h*64+x:Nat):Int):=by
 have:∀ h x:Fin 64,IntKind.u64.wrap (BitVec.ofInt IntKind.u64.bits ((h.val*64:Nat):Int) ||| BitVec.ofInt IntKind.u64.bits (x.val:Int)).toNat=((h.val*64+x.val:Nat):Int):=by decide +kernel
 exact this ⟨h,kf⟩ ⟨x,ae⟩
theorem ajE {m:Nat} (hm:m<4096) {q:Nat} (e8:q=1∨q=4∨q=16∨q=64):IntKind.u64.wrap (BitVec.ofInt IntKind.u64.bits (m:Int) &&& BitVec.ofInt IntKind.u64.bits ((q-1:Nat):Int)).toNat=((m % q:Nat):Int):=by
 have bu:∀ z:Nat,z<4096→BitVec.ofInt IntKind.u64.bits (z:Int)=BitVec.ofNat 64 z:=fun z _=>rfl;rw [bu m hm,bu (q-1) (by omega)];have aq:((BitVec.ofNat 64 m &&& BitVec.ofNat 64 (q-1)).toNat)=m % q:=by
  rw [BitVec.toNat_and,BitVec.toNat_ofNat,BitVec.toNat_ofNat,Nat.mod_eq_of_lt (by omega),Nat.mod_eq_of_lt (by omega)];rcases e8 with rfl | rfl | rfl | rfl
  ·simp [Nat.mod_one]
  ·exact Nat.and_two_pow_sub_one_eq_mod m 2
  ·exact Nat.and_two_pow_sub_one_eq_mod m 4
  exact Nat.and_two_pow_sub_one_eq_mod m 6
 have:m % q≤m:=Nat.mod_le _ _;refine(kZ (fun n:Nat=>IntKind.u64.wrap (n:Int)) aq).trans ?_;show((m % q:Nat):Int) % 18446744073709551616=_;exact Int.emod_eq_of_lt (by omega) (by omega)
theorem ZW (k:Nat):na k=1∨na k=4∨na k=16∨na k=64:=by
 unfold na
 repeat' split
 all_goals simp
theorem aet (h x k:Nat):(h*64+x) % na k=x % na k:=by
 rcases ZW k with e | e | e | e <;> rw [e] <;> omega
theorem uG (z:Int) (h : -2147483648≤z∧z≤2147483647):IntKind.i32.wrap z=z:=by
 rw [IntKind.wrap_i32 z];omega
theorem apd {h:Nat} (kf:h<64):IntKind.u64.wrap ((h:Int)*2 ^ (min (6:Int).toNat IntKind.u64.bits))=((h*64:Nat):Int):=by
 have:(2:Int) ^ (min (6:Int).toNat IntKind.u64.bits)=64:=by decide
 rw [this,im _ (by omega)];omega
theorem aes {k m:Nat} (hm:m=6*k % 8):IntKind.u64.wrap ((1:Int)*2 ^ (min (m:Int).toNat IntKind.u64.bits))=(na k:Int):=by
 have bP:k % 4=0∨k % 4=1∨k % 4=2∨k % 4=3:=by omega
 rcases bP with h | h | h | h
 ·obtain rfl:m=0:=by omega
  unfold na;rw [aL h];decide
 ·obtain rfl:m=6:=by omega
  unfold na;rw [ak (by omega),aL h];decide
 ·obtain rfl:m=4:=by omega
  unfold na;rw [ak (by omega),ak (by omega),aL h];decide
 obtain rfl:m=2:=by omega
 unfold na;rw [ak (by omega),ak (by omega),ak (by omega)];decide
theorem aau (z:Int):∃ c:UInt8,IntKind.u8.wrap z=(c.toNat:Int):=by
 have h1:IntKind.u8.wrap z=z % 256:=rfl;refine⟨UInt8.ofNat (z % 256).toNat,?_⟩;rw [h1,UInt8.toNat_ofNat_of_lt' (by have:(z % 256).toNat<256:=(by omega);exact this)];omega
theorem SN {w:World} {v:Value} {p6:ab} {n:Nat} {z:Int} (h:Own w 5 1 v n ((p6.map ym).flatten ++ [.int .u8 (IntKind.u8.wrap z)])) (cu:n=p6.length+1):∃ ajD,iD w v (p6 ++ [ajD]):=by
 obtain⟨c,aZ⟩:=aau z;refine⟨c,h.same (by rw [cu];simp) ?_⟩;rw [aZ];simp [dt,ku]
theorem ZZ {w:World} {v:Value} {p6:ab} {n i:Nat} {z:Int} (h:Own w 5 1 v n (((p6.map ym).flatten).set i (.int .u8 (IntKind.u8.wrap z)))):∃ ajD,Own w 5 1 v n (((p6.set i ajD).map ym).flatten):=by
 obtain⟨c,aZ⟩:=aau z;refine⟨c,h.same rfl ?_⟩;rw [aZ,dt,dt,List.map_set];rfl
theorem aev {w:World} {ad:Addr} {p6:ab} {n m i:Nat} {b:UInt8} (h:Own w 5 1 (.slice (some ad) n m) n ((p6.map ym).flatten)) (aW:p6[i]? = some b):w.cell? (ad.add (i*1))=some (.int .u8 (b.toNat:Int)):=by
 rw [Nat.mul_one];refine h.cs i _ ?_;rw [dt,List.getElem?_map,aW];rfl
theorem aph {m:Nat} (h:m<64):IntKind.i64.wrap (BitVec.ofInt IntKind.i64.bits (m:Int) &&& BitVec.ofInt IntKind.i64.bits 1).toNat=((m % 2:Nat):Int):=by
 have:∀ m:Fin 64,IntKind.i64.wrap (BitVec.ofInt IntKind.i64.bits (m.val:Int) &&& BitVec.ofInt IntKind.i64.bits 1).toNat=((m.val % 2:Nat):Int):=by decide +kernel
 exact this ⟨m,h⟩
theorem ajG {n e:Nat} (he:e≤63):(n:Int).fdiv (2 ^ (min (e:Int).toNat IntKind.i64.bits))=((n / 2 ^ e:Nat):Int):=by
 have h1:min (e:Int).toNat IntKind.i64.bits=e:=by
  show min e 64=e;omega
 rw [h1,Int.fdiv_eq_ediv_of_nonneg _ (by exact_mod_cast Nat.zero_le (2 ^ e)),Int.natCast_ediv]
 norm_cast
theorem NY {n q:Nat} (cu:n<64):∀ k,k % 4=q→(∀ j,j<6*k % 8→n / 2 ^ j % 2=0)→n % na k=0:=by
 intro k hk h;have bP:k % 4=0∨k % 4=1∨k % 4=2∨k % 4=3:=by omega
 unfold na;rcases bP with cZ | cZ | cZ | cZ
 ·rw [aL cZ,Nat.mod_one]
 ·rw [ak (by omega),aL cZ];have a0:=h 0 (by omega);have e6:=h 1 (by omega);have a2:=h 2 (by omega);have a3:=h 3 (by omega);have a4:=h 4 (by omega);have a5:=h 5 (by omega);simp only [Nat.pow_zero,Nat.pow_succ,Nat.pow_one,Nat.div_one,Nat.one_mul,Nat.reduceMul] at a0 e6 a2 a3 a4 a5;omega
 ·rw [ak (by omega),ak (by omega),aL cZ];have a0:=h 0 (by omega);have e6:=h 1 (by omega);have a2:=h 2 (by omega);have a3:=h 3 (by omega);simp only [Nat.pow_zero,Nat.pow_succ,Nat.pow_one,Nat.div_one,Nat.one_mul,Nat.reduceMul] at a0 e6 a2 a3;omega
 rw [ak (by omega),ak (by omega),ak (by omega)];have a0:=h 0 (by omega);have e6:=h 1 (by omega);simp only [Nat.pow_zero,Nat.pow_succ,Nat.pow_one,Nat.div_one,Nat.one_mul,Nat.reduceMul] at a0 e6;omega
theorem aav {n k j:Nat} (eD:j<6*k % 8) (h:n / 2 ^ j % 2≠0):n % na k≠0:=by
 intro cP;have bP:k % 4=0∨k % 4=1∨k % 4=2∨k % 4=3:=by omega
 have aAm:j<6:=by omega
 unfold na at cP;rcases bP with cZ | cZ | cZ | cZ
 ·omega
 ·rw [ak (by omega),aL cZ] at cP;have:j=0∨j=1∨j=2∨j=3∨j=4∨j=5:=by omega
  rcases this with rfl | rfl | rfl | rfl | rfl | rfl <;> simp only [Nat.pow_zero,Nat.pow_succ,Nat.pow_one,Nat.div_one,Nat.one_mul,Nat.reduceMul] at h <;> omega
 ·rw [ak (by omega),ak (by omega),aL cZ] at cP;have:j=0∨j=1∨j=2∨j=3:=by omega
  rcases this with rfl | rfl | rfl | rfl <;> simp only [Nat.pow_zero,Nat.pow_succ,Nat.pow_one,Nat.div_one,Nat.one_mul,Nat.reduceMul] at h <;> omega
 rw [ak (by omega),ak (by omega),ak (by omega)] at cP;have:j=0∨j=1:=by omega
 rcases this with rfl | rfl <;> simp only [Nat.pow_zero,Nat.pow_succ,Nat.pow_one,Nat.div_one,Nat.one_mul,Nat.reduceMul] at h <;> omega
theorem SS {url:Bool} {s:ab} (h:rest url s s.length≠0):h0 url s=false:=by
 unfold h0;rw [show decide ((rest url s s.length:Int)≠0)=true from decide_eq_true (by omega)];simp
theorem NM {url:Bool} {s:ab} {i n:Nat} {b:UInt8} (aW:s[i]? = some b) (cu:p5 url b.toNat=some n) (cP:∀ k,k<6→8*(s.length*6 / 8)≤6*i+k→n / 2 ^ (5-k) % 2=0):i+1=s.length→rest url s (i+1)=0:=by
 intro hi;rw [tg aW cu];refine NY (HH cu) (i+1) rfl fun j eD=>?_;have:=cP (5-j) (by omega) (by omega)
 rwa [show 5-(5-j)=j by omega] at this
theorem SO {url:Bool} {s:ab} {i n k:Nat} {b:UInt8} (aW:s[i]? = some b) (cu:p5 url b.toNat=some n) (hk:k<6) (lZ:s.length*6 / 8≤(6*i+k) / 8) (cP:n / 2 ^ (5-k) % 2≠0):h0 url s=false:=by
 have bM:=(List.getElem?_eq_some_iff.1 aW).1;have hi:i+1=s.length:=by omega
 refine SS ?_;rw [← hi,tg aW cu];exact aav (j:=5-k) (by omega) cP
def qM (w w':World) (url:Bool) (s:ab) (u:Value):Prop:=∃ v p6 o,u = .tuple #[v,.bool o]∧o=h0 url s∧iD w' v p6∧p6.length=(if h0 url s=true then s.length*6 / 8 else 0)∧∀ x∈bk v,w.heap.size≤x
theorem qM.no {w w':World} {url:Bool} {s:ab} (h:h0 url s=false):qM w w' url s (.tuple #[.slice none 0 0,.bool false]):=⟨_,[],_,rfl,h.symm,Own.nil _ 5 1,by rw [h];rfl,by simp [bk]⟩
theorem qM.yes {w w':World} {url:Bool} {s p6:ab} {v:Value} (h:h0 url s=true) (O:iD w' v p6) (cb:p6.length=s.length*6 / 8) (L:∀ x∈bk v,w.heap.size≤x):qM w w' url s (.tuple #[v,.bool true]):=⟨_,p6,_,rfl,h.symm,O,by rw [h,cb];rfl,L⟩
def dQ (s:ab):Bool:=decide (s.head? = some 36)&&h0 true (s.drop 1)&&decide ((s.drop 1).length*6 / 8=32)
def fG (s:ab) (n:Nat):Bool:=h0 false s&&decide (s.length*6 / 8=n)
theorem MU {xs:List gO}:∀ x∈xs,∀ c∈gO.cells x,c.oneCell'=true:=by
 intro x _ c aZ;simp at aZ;rcases aZ with rfl | rfl <;> rfl
theorem Own.pairs {w:World} {e:Nat} {v:Value} {xs:List gO} (A:List Nat) (h:Own w e 2 v xs.length ((xs.map gO.cells).flatten)) (dy:∀ x∈bk v,x∉A):bq A w (Oy xs) v:=Own.flat h (fun _ _=>rfl) MU rfl dy
def am6 (x:gO) (S:List gO):List gO:=S.filter (fun y=>!UI x y) ++ [x]++S.filter (fun y=>UI x y)
def aci (xs:List gO) (k:Nat):List gO:=(xs.take k).foldl (fun S x=>am6 x S) []
def ach:ab:=[109,46,114,111,111,109,46,99,114,101,97,116,101]
def asS:ab:=[109,46,114,111,111,109,46,112,111,119,101,114,95,108,101,118,101,108,115]
def acg:ab:=[109,46,114,111,111,109,46,109,101,109,98,101,114]
def arX (snd:ab):List gO:=[⟨ach,[]⟩,⟨asS,[]⟩,⟨acg,snd⟩]
section
variable {P:Program} {A:List Nat} {w:World}
theorem dE.aU {sz:Nat} {ad:Addr}:∀ (i:Nat) (rws:List (List D)),dE A w sz ad i rws→∃ vs,ao A w rws.flatten vs∧vs.length=rws.length*sz∧∀ j u,vs[j]? = some u→w.cell? (ad.add (i*sz+j))=some u
 | _,[],_=>⟨[],rfl,by simp,fun j u hu=>by simp at hu⟩
 | i,r::rs,kf=>by
  simp only [dE] at kf
  obtain⟨cb,zL,iI⟩:=kf
  obtain⟨us,MY,kL⟩:=zL.cells
  obtain⟨vs,Bp,G2,MZ⟩:=dE.aU (i+1) rs iI
  refine⟨us++vs,by simp only [List.flatten_cons];exact MY.append Bp,by simp [MY.length,cb,G2,Nat.add_mul];omega,fun j u eD=>?_⟩
  rw [List.getElem?_append] at eD
  have Cb:us.length=sz:=by rw [MY.length,cb]
  split at eD
  ·have:=kL j u eD
   rwa [Nat.zero_add,Addr.add_add] at this
  rename_i e5
  have:=MZ _ u eD
  rwa [show(i+1)*sz+(j-us.length)=i*sz+j by rw [Nat.add_mul,Cb];rw [Cb] at e5;omega] at this
theorem Src.aeO {s8 yu sz:Nat} {rows:List (List D)} {v:Value} (hk:P.underlying s8=some (.slice yu)) (h:bq A w (.jH sz rows) v):∃ vs,ao A w rows.flatten vs∧vs.length=rows.length*sz∧∀ w',Mod [] w w'→Src P sz s8 v rows.length vs w':=by
 cases wu:rows with
 | nil=>
  subst wu;simp only [bq] at h;obtain⟨ad,c,rfl,aq,bb,bP⟩:=h;refine⟨[],rfl,by simp,fun w' _=>?_⟩;cases ad with
  | none=>exact Src.ofNil w' hk c
  | some ad=>exact Src.ofSlice w' hk ad 0 c [] (by simp) (fun j u hu=>by simp at hu) (fun u hu=>by cases hu)
 | cons aeU rs=>
  rw [← wu];simp only [bq] at h;obtain⟨ad,c,rfl,aq,bb,bP⟩:=h;obtain⟨ad,rfl,dy,aW,bo⟩:=bP (by simp [wu]);obtain⟨vs,Bp,G2,MZ⟩:=dE.aU 0 rows bo;have h4:pF w ad vs:=fun j u hu=>by have:=MZ j u hu;rwa [Nat.zero_mul,Nat.zero_add] at this
  exact⟨vs,Bp,G2,fun w' k=>Src.ofSlice w' hk ad _ c vs G2 (h4.I k) Bp.one⟩
end
theorem JV.LW {A:List Nat} {w:World} {m:List (ab×JV)} {y:ab×JV} {x:JV} {vs us:List Value} {i:Nat} (h:ao A w (m.map JV.jq).flatten vs) (ba:m[i]? = some y) (ae:ao A w x.D us) :
  ao A w ((m.set i (y.1,x)).map JV.jq).flatten (vs.take (i*7+1)++us++vs.drop (i*7+1+6)):=by
 have hi:=(List.getElem?_eq_some_iff.1 ba).1
 have h1:=JV.Rs (p:=(y.1,x)) h hi (JV.dX (p:=(y.1,x)) ae)
 have aq:=ao.s9 (JV.s7 m) h i (JV.jq y) (by simp [ba])
 obtain⟨u,ga,he,bb,_⟩:=aq
 obtain rfl:=bb.np
 have bP:vs[i*7]? = some (S y.1):=by
  have:=kZ (fun l=>l[0]?) he
  simpa [List.getElem?_take,List.getElem?_drop] using this
 have cZ:vs.take (i*7+1)=vs.take (i*7) ++ [S y.1]:=by rw [List.take_add_one,bP];rfl
 rw [cZ,show i*7+1+6=(i+1)*7 by omega]
 simpa using h1
theorem JV.k4 {A:List Nat} {w:World} {m:List (ab×JV)} {am:Option Addr} {cm n:Nat} (cu:m.length=n) (aBn:bq A w (.jH 7 (m.map JV.jq)) (.slice am n cm)):ao A w (JV.obj m).D [.int .i64 5,.bool false,.int .i64 0,S [],.slice none 0 0,.slice am n cm]:=by
 subst cu;exact JV.r4 aBn
theorem JV.r5 (m:List (ab×JV)):(JV.obj m).fN=m:=by simp [JV.fN,JV.obj,JV.kind,JV.map]
theorem uX {β:Type} {m:List (ab×β)} {k:ab} {x:β} (h:et m):(dO m k x).length≤m.length+1:=by
 have key:∀ {r:List (ab×β)},(r.filter fun p=>fx p.1 k).length+(r.filter fun p=>fx k p.1).length≤r.length:=by
  intro r
  induction r with
  | nil=>simp
  | cons p r ea=>
   by_cases h1:fx p.1 k=true
   ·have aq:=kD h1;simp [h1,aq];omega
   by_cases aq:fx k p.1=true
   ·simp [h1,aq];omega
   simp [h1,aq];omega
 have:=key (r:=m);simp only [dO,List.length_append,List.length_singleton];omega
def gd (m:List (ab×JV)) (k:Nat):List (ab×JV):=(m.take k).foldl (fun a p=>dO a p.1 p.2) []
theorem wO (m:List (ab×JV)):gd m 0 = []:=by simp [gd]
theorem sI {m:List (ab×JV)} {k:Nat} {p:ab×JV} (h:m[k]? = some p):gd m (k+1)=dO (gd m k) p.1 p.2:=by
 have bM:=(List.getElem?_eq_some_iff.1 h).1;rw [gd,List.take_succ_eq_append_getElem bM,(List.getElem?_eq_some_iff.1 h).2,List.foldl_append];rfl
theorem tL (m:List (ab×JV)) (k:Nat):et (gd m k):=by
 unfold gd;generalize m.take k=l;suffices ∀ (l a:List (ab×JV)),et a→et (l.foldl (fun a p=>dO a p.1 p.2) a) from this l [] List.Pairwise.nil;intro l
 induction l with
 | nil=>intro a h;exact h
 | cons p r ea=>intro a h;exact ea _ (p9 h)
theorem Ii (m:List (ab×JV)) (k:Nat):(gd m k).length≤k:=by
 induction k with
 | zero=>simp [gd]
 | succ k ea=>
  rcases Nat.lt_or_ge k m.length with h | h
  ·rw [sI (List.getElem?_eq_getElem h)];have:=uX (k:=(m[k]).1) (x:=(m[k]).2) (tL m k);omega
  have:gd m (k+1)=gd m k:=by rw [gd,gd,List.take_of_length_le h,List.take_of_length_le (by omega)]
  rw [this];omega
abbrev Xe:ab:=[109,46,114,111,111,109,46,99,114,101,97,116,101]
abbrev G3:ab:=[116,104,105,114,100,95,112,97,114,116,121,95,105,110,118,105,116,101]
abbrev xv:ab:=[115,105,103,110,101,100]
abbrev yY:ab:=[109,46,114,111,111,109,46,109,101,109,98,101,114]
abbrev Rt:List ab:=[[106,111,105,110,95,97,117,116,104,111,114,105,115,101,100,95,118,105,97,95,117,115,101,114,115,95,115,101,114,118,101,114],[109,101,109,98,101,114,115,104,105,112]]
abbrev DS:ab:=[109,46,114,111,111,109,46,106,111,105,110,95,114,117,108,101,115]
abbrev DT:List ab:=[[97,108,108,111,119],[106,111,105,110,95,114,117,108,101]]
abbrev Ar:ab:=[109,46,114,111,111,109,46,112,111,119,101,114,95,108,101,118,101,108,115]
abbrev As:List ab:=[[98,97,110],[101,118,101,110,116,115],[101,118,101,110,116,115,95,100,101,102,97,117,108,116],[105,110,118,105,116,101],[107,105,99,107],[114,101,100,97,99,116],[115,116,97,116,101,95,100,101,102,97,117,108,116],[117,115,101,114,115],[117,115,101,114,115,95,100,101,102,97,117,108,116]]
abbrev tv:ab:=[109,46,114,111,111,109,46,104,105,115,116,111,114,121,95,118,105,115,105,98,105,108,105,116,121]
abbrev tw:List ab:=[[104,105,115,116,111,114,121,95,118,105,115,105,98,105,108,105,116,121]]
abbrev G4:ab:=[109,46,114,111,111,109,46,114,101,100,97,99,116,105,111,110]
abbrev G5:List ab:=[[114,101,100,97,99,116,115]]
def G6 (kind:ab):List ab:=
 if kind=yY then Rt else
 if kind=DS then DT else
 if kind=Ar then As else
 if kind=tv then tw else
 if kind=G4 then G5 else
 []
namespace JV
def anb (v:JV) (acc:List (ab×JV)) (k:ab):List (ab×JV):=match v.get k with
 | some x=>dO acc k x
 | none=>acc
def vw (v:JV) (K:List ab):List (ab×JV):=K.foldl (anb v) []
def ahF (v:JV):JV:=(v.get G3).getD fg
def Ru (kind:ab) (v:JV):List (ab×JV):=match v.ahF.get xv with
 | some y=>if kind=yY then dO (v.vw (G6 kind)) G3 (obj [(xv,y)])else v.vw (G6 kind)
 | none=>v.vw (G6 kind)
def content (kind:ab) (v:JV):JV:=if kind=Xe then v else obj (Ru kind v)
def Xf (kind:ab) (p:ab×JV):Option (ab×JV):=if p.1∈G6 kind then some p else none
def stay (kind:ab) (p:ab×JV):Option (ab×JV):=
 if p.1=G3∧kind=yY∧p.2.kind=5 then match look p.2.map xv with
  | some y=>some (p.1,obj [(xv,y)])
  | none=>Xf kind p
 else Xf kind p
end JV
section
variable {β:Type}
end
namespace JV
end JV
theorem Rv {A:List Nat} {w:World} {g e:Nat} {xs:List ab} (B:aF w g e (xs.map S)) (cb:xs.length≤1000) (dy:g∉A):bq A w (pz xs) (.slice (some ⟨g,0,none⟩) xs.length xs.length):=by
 have dn:∀ M0:List ab,(M0.map fun s=>[S s]).flatten=M0.map S:=fun M0=>by
  induction M0 with
  | nil=>rfl
  | cons a r ea=>simp [ea]
 have O:Own w e 1 (.slice (some ⟨g,0,none⟩) xs.length xs.length) xs.length ((xs.map fun s=>[S s]).flatten):=by
  rw [dn];exact Own.all B (by simp) (by omega)
 exact Own.flat O (fun _ _=>rfl) (fun x _ c aZ=>by simp at aZ;subst aZ;rfl) rfl (by simpa [bk] using dy)
theorem af' (a b:ab):(!(fx a b||a == b))=fx b a:=by
 rcases nY a b with h | h | h
 ·rw [h,kD h];rfl
 ·subst h;simp [dJ]
 rw [h,kD h];have cH:(a == b)=false:=by
  cases he:a == b with
  | false=>rfl
  | true=>have:=eq_of_beq he;subst this;rw [dJ] at h;cases h
 simp [cH]
theorem wR {β:Type} {k:ab}:∀ {r:List (ab×β)},(r.filter fun p=>fx p.1 k).length+(r.filter fun p=>fx k p.1).length≤r.length
 | []=>by simp
 | p::r=>by
  have ea:=wR (k:=k) (r:=r)
  by_cases h1:fx p.1 k=true
  ·have aq:=kD h1
   simp [h1,aq]
   omega
  by_cases aq:fx k p.1=true
  ·simp [h1,aq]
   omega
  simp [h1,aq]
  omega
theorem p7 {β:Type} {q:ab×β→Bool} {m:List (ab×β)} {k:Nat}:((m.take k).filter q).length≤(m.filter q).length:=((List.take_sublist k m).filter q).length_le
def agz:ab:=[109,46,114,111,111,109,46,106,111,105,110,95,114,117,108,101,115]
def arR:ab:=[109,46,114,111,111,109,46,116,104,105,114,100,95,112,97,114,116,121,95,105,110,118,105,116,101]
def al5:ab:=[109,101,109,98,101,114,115,104,105,112]
def arS:ab:=[106,111,105,110]
def arT:ab:=[105,110,118,105,116,101]
def arU:ab:=[107,110,111,99,107]
def al6:ab:=[116,104,105,114,100,95,112,97,114,116,121,95,105,110,118,105,116,101]
def al7:ab:=[115,105,103,110,101,100]
def al8:ab:=[116,111,107,101,110]
def arV:ab:=[106,111,105,110,95,97,117,116,104,111,114,105,115,101,100,95,118,105,97,95,117,115,101,114,115,95,115,101,114,118,101,114]
namespace JV
def sub (v:JV) (k:ab):JV:=(v.get k).getD fg
def yv (v:JV):ab:=if v.kind=3 then v.str else []
def text (v:JV) (akp:List ab):ab:=(akp.foldl sub v).yv
theorem Gw:fg.ok:=by rw [ok_eq];simp [fg,map,list,str]
end JV
namespace JV
def step (v:JV) (akp:List ab) (k:Nat):JV:=(akp.take k).foldl sub v
end JV
/-! ### pairs in order, each once -/
/-- what the document's with answers -/
def rC (l:List gO) (p:gO):List gO:=l.filter (fun x=>UI x p) ++ [p]++l.filter (fun x=>UI p x)
theorem IN {m:List gO} {p:gO}:(m ++ [p]).foldl rC []=rC (m.foldl rC []) p:=by rw [List.foldl_append];rfl
theorem Own.db {w:World} {e:Nat} {v:Value} {m gZ:List gO} {p:gO} (h:Own w e 2 v (rC (m.foldl rC []) p).length (((rC (m.foldl rC []) p).map gO.cells).flatten)) (hm:m ++ [p]=gZ):Own w e 2 v (gZ.foldl rC []).length (((gZ.foldl rC []).map gO.cells).flatten):=by
 subst hm;rw [IN];exact h
theorem Own.aJ {w:World} {e:Nat} {v:Value} {p:gO} (h:Own w e 2 v 1 p.cells):bq [] w (Oy ([p].foldl rC [])) v:=Own.pairs (xs:=[p]) [] h (by simp)
/-- doubled neighbours left out, behind p -/
def arW:gO→List gO→List gO
 | _,[]=>[]
 | p,x::r=>if x=p then arW x r else x::arW x r
def dd:List gO→List gO
 | []=>[]
 | a::r=>a::arW a r
namespace EV
def hw (e:EV):ab:=e.b7.text [al5]
def tok (e:EV):ab:=e.b7.text [al6,al7,al8]
def al9 (e:EV):ab:=e.b7.text [arV]
/-- what a member event needs besides -/
def more (e:EV):List gO:=
 if e.hw=arS then ⟨agz,[]⟩::if e.al9 = [] then [] else [⟨acg,e.al9⟩]
 else if e.hw=arT then ⟨agz,[]⟩::if e.tok = [] then [] else [⟨arR,e.tok⟩]
 else if e.hw=arU then [⟨agz,[]⟩]
 else []
def needs (e:EV):List gO:=arX e.snd++if e.ty=acg then ⟨acg,e.key⟩::e.more else []
def UJ (e:EV):List gO:=if e.ty=ach then [] else dd (aci e.needs e.needs.length)
end EV
theorem Own.strs {w:World} {e:Nat} {v:Value} {l:List ab} (A:List Nat) (h:Own w e 1 v l.length ((l.map fun s=>[S s]).flatten)) (dy:∀ x∈bk v,x∉A):bq A w (pz l) v:=Own.flat h (fun _ _=>rfl) (fun x _ c aZ=>by simp at aZ;subst aZ;rfl) rfl dy
namespace EV
abbrev awh (e:EV):gO:=⟨e.ty,e.key⟩
/-- each state, each needed, no pair twice -/
def azt (UJ:List gO) (l:List EV):Prop:=(∀ x∈l,x.st=true∧x.awh∈UJ)∧(l.map awh).Nodup
open Classical in
/-- may an event name these? -/
noncomputable def right (e:EV) (l:List EV):Bool:=decide (azt e.UJ l∧(e.ty=ach∨∃ x∈l,x.ty=ach))
end EV
def gq (s:ab):Bool:=decide ((s.length:Int)≤255)&&cC s
def o5 (n:Int):Bool:=decide (0≤n)&&decide (n≤9007199254740991)
def nS (s:ei):Bool:=d' s.eo&&pD s.key&&fG s.sig 64
def ij (p s:ei):Bool:=!(fx p.eo s.eo||p.eo == s.eo)||(decide (p.eo=s.eo) && !fx p.key s.key)
def aaw (p:Option ei) (s:ei):Bool:=match p with
 | none=>true
 | some q=>!ij q s
def eT:Option ei→List ei→Bool
 | _,[]=>true
 | p,s::r=>nS s&&aaw p s&&eT (some s) r
def lV (l:List ei) (k:Nat):Option ei:=if k=0 then none else l[k-1]?
theorem gM {l:List ei} {k:Nat} {s:ei} (h:l[k]? = some s):eT (lV l k) (l.drop k)=(nS s&&aaw (lV l k) s&&eT (lV l (k+1)) (l.drop (k+1))):=by
 obtain⟨hk,rfl⟩:=List.getElem?_eq_some_iff.1 h;have aq:lV l (k+1)=some l[k]:=by simp [lV,hk]
 rw [List.drop_eq_getElem_cons hk,aq,eT]
theorem Dc {l:List ei} {k:Nat} (h:l.length≤k) (p:Option ei):eT p (l.drop k)=true:=by
 rw [List.drop_eq_nil_of_le h,eT]
theorem aag {l:List ei} {k:Nat} {s:ei} (h:k=0):aaw (lV l k) s=true:=by subst h;rfl
theorem rB {l:List ei} {k:Nat} {s q:ei} (e8:l[k-1]? = some q) (h:0<k):aaw (lV l k) s = !ij q s:=by
 unfold lV;rw [ak (by omega),e8];rfl
def EV.lens (e:EV):Prop:=e.room.length<4294967281∧e.snd.length<4294967281∧∀ s∈e.sigs,s.eo.length<4294967281
namespace EV
def jD (e:EV):Bool:=gH 33 jC e.room&&gH 64 ko e.snd&&decide (e.ty≠[])&&gq e.ty&&gq e.key&&(e.st||decide (e.key = []))
noncomputable def iY (e:EV):Bool:=e.jD&&decide (e.b7.kind=5)&&decide (gz (e.b7.wr 0 [])=0)&&o5 e.dep&&o5 e.time&&fG e.hash 32&&eT none e.sigs
noncomputable def iL (e:EV):Bool:=e.iY&&(e.prev++e.b8).all dQ
noncomputable def q5 (e:EV):Int:=if 20<e.prev.length∨10<e.b8.length then 22 else if e.iL=true then 0 else 21
theorem va {e:EV} (h:20<e.prev.length∨10<e.b8.length):e.q5=22:=if_pos h
theorem jn {e:EV} (h:¬ (20<e.prev.length∨10<e.b8.length)) (dn:e.iL=false):e.q5=21:=by unfold q5;rw [if_neg h,if_neg (by simp [dn])]
theorem x0 {e:EV} (h:¬ (20<e.prev.length∨10<e.b8.length)) (dn:e.iL=true):e.q5=0:=by unfold q5;rw [if_neg h,if_pos dn]
def names (e:EV):Bool:=gH 33 jC e.room&&gH 64 ko e.snd&&decide (e.ty≠[])&&gq e.ty&&gq e.key
def pE (e:EV):Bool:=o5 e.dep&&o5 e.time
theorem iM (e:EV):e.iL=(e.names&&e.pE&&(e.st||decide (e.key = []))&&decide (e.b7.kind=5)&&decide (gz (e.b7.wr 0 [])=0)&&fG e.hash 32&&eT none e.sigs&&e.prev.all dQ&&e.b8.all dQ):=by
 unfold iL iY jD names pE;rw [List.all_append];generalize gH 33 jC e.room=e6;generalize gH 64 ko e.snd=a2;generalize decide (e.ty≠[])=a3;generalize gq e.ty=a4;generalize gq e.key=a5;generalize (e.st||decide (e.key = []))=qz;generalize decide (e.b7.kind=5)=vo;generalize decide (gz (e.b7.wr 0 [])=0)=vp;generalize o5 e.dep=a9;generalize o5 e.time=pZ;generalize fG e.hash 32=ob;generalize eT none e.sigs=a12;generalize e.prev.all dQ=sw;generalize e.b8.all dQ=qA
 ac_rfl
theorem NS {e:EV} (h:e.prev.all dQ=false):e.iL=false:=by rw [iM,h];simp
theorem NT {e:EV} (h:e.b8.all dQ=false):e.iL=false:=by rw [iM,h];simp
theorem qO {e:EV} (h:eT none e.sigs=false):e.iL=false:=by rw [iM,h];simp
end EV
theorem qN {α:Type} {l:List α} {k:Nat} {y:α} (f:α→Bool) (h:l[k]? = some y):(l.take (k+1)).all f=((l.take k).all f&&f y):=by
 have bM:=(List.getElem?_eq_some_iff.1 h).1;rw [List.take_succ_eq_append_getElem bM,(List.getElem?_eq_some_iff.1 h).2,List.all_append];simp
theorem Lp {α:Type} {l:List α} {k:Nat} {y:α} (f:α→Bool) (h:l[k]? = some y) (dn:f y=false):l.all f=false:=by
 rw [List.all_eq_false];exact⟨y,List.mem_of_getElem? h,by simp [dn]⟩
theorem bq.I {A:List Nat} {w w':World} {d:D} {u:Value} (aBn:bq A w d u) (k:Mod [] w w'):bq A w' d u:=aBn.b1 k
theorem gJ {b:ab} (h:b.length≤65536):cK b = .ok b:=ak (by omega)
theorem dU {r:Except Int ab} {f:ab→Except Int ab} {gv:ab} (h:r.bind f = .ok gv):∃ b,r = .ok b∧f b = .ok gv:=by
 cases r with
 | ok b=>exact⟨b,rfl,h⟩
 | error e=>cases h
namespace JV
def Fit (v:JV) (deep:Nat) (t:ab):Prop:=∀ b,(b++t).length≤65536→wr v deep b = .ok (b++t)
def apl (l:List JV) (deep:Nat) (fst:Bool) (t:ab):Prop:=∀ b,(b++t).length≤65536→ji l deep fst b = .ok (b++t)
def vG (m:List (ab×JV)) (deep:Nat) (prev:Option ab) (t:ab):Prop:=∀ b,(b++t).length≤65536→gA m deep prev b = .ok (b++t)
theorem Dd {b s gv:ab} (h:gm b s = .ok gv):∃ t,gv=b++t∧t=cM s∧gv.length≤65536∧∀ c,(c++t).length≤65536→gm c s = .ok (c++t):=by
 unfold gm at h
 split at h
 ·cases h
 rename_i h1
 split at h
 ·rename_i aq
  obtain⟨rfl,bb⟩:=gF h;exact⟨cM s,rfl,rfl,bb,fun c aZ=>by rw [gm,if_neg h1,if_pos aq,gJ aZ]⟩
 cases h
def N1 (prev:Option ab) (k b:ab):Except Int ab:=match prev with
 | none=>Except.ok b
 | some q=>(cK (b ++ [44])).bind fun b=>if fx q k then .ok b else .error 1
theorem De (p:ab×JV) (r:List (ab×JV)) (deep:Nat) (prev:Option ab) (b:ab) :
  gA (p::r) deep prev b=(N1 prev p.1 b).bind fun b=>(gm b p.1).bind fun b=>(cK (b ++ [58])).bind fun b=>(wr p.2 (deep+1) b).bind fun b=>gA r deep (some p.1) b:=by
 rw [gA.eq_def]
 rfl
theorem mu (v:JV) (r:List JV) (deep:Nat) (fst:Bool) (b:ab) :
  ji (v::r) deep fst b=(if fst then Except.ok b else cK (b ++ [44])).bind fun b=>(wr v (deep+1) b).bind fun b=>ji r deep false b:=by
 rw [ji]
def comma:Option ab→ab
 | none=>[]
 | some _=>[44]
theorem w7 {p:ab×JV} {r:List (ab×JV)} {deep:Nat} {prev:Option ab} {b gv:ab} (h:gA (p::r) deep prev b = .ok gv) :
  (∀ q,prev=some q→fx q p.1=true)∧∃ fz,wr p.2 (deep+1) (b++comma prev++cM p.1 ++ [58]) = .ok fz∧gA r deep (some p.1) fz = .ok gv∧(∀ c,(c++cM p.1).length≤65536→gm c p.1 = .ok (c++cM p.1))∧(b++comma prev++cM p.1 ++ [58]).length≤65536:=by
 rw [De] at h
 obtain⟨dN,h1,h⟩:=dU h
 have aZ:dN=b++comma prev∧∀ q,prev=some q→fx q p.1=true:=by
  cases prev with
  | none=>injection h1 with h1;subst h1;exact⟨by simp [comma],fun q e8=>by cases e8⟩
  | some q=>
   obtain⟨b0,cg,h1⟩:=dU h1
   obtain⟨rfl,_⟩:=gF cg
   split at h1
   ·rename_i e8
    injection h1 with h1
    subst h1
    exact⟨rfl,fun ass e=>by injection e with e;subst e;exact e8⟩
   cases h1
 obtain⟨rfl,e8⟩:=aZ
 obtain⟨fz,aq,h⟩:=dU h
 obtain⟨t,rfl,rfl,_,bW⟩:=Dd aq
 obtain⟨mW,bb,h⟩:=dU h
 obtain⟨rfl,avn⟩:=gF bb
 obtain⟨HP,bP,cZ⟩:=dU h
 exact⟨e8,HP,bP,cZ,bW,avn⟩
theorem Lq {p:ab×JV} {r:List (ab×JV)} {deep:Nat} {prev:Option ab} {t1 t2:ab} (e8:∀ q,prev=some q→fx q p.1=true) (bW:∀ c,(c++cM p.1).length≤65536→gm c p.1 = .ok (c++cM p.1)) (h1:Fit p.2 (deep+1) t1) (aq:vG r deep (some p.1) t2) :
  vG (p::r) deep prev (comma prev++cM p.1 ++ [58]++t1++t2):=by
 intro b aW
 simp only [List.length_append] at aW
 rw [De]
 have bu:N1 prev p.1 b = .ok (b++comma prev):=by
  cases prev with
  | none=>simp [comma,N1]
  | some q=>
   have:(b ++ [44]).length≤65536:=by simp only [comma,List.length_append] at aW ⊢;omega
   show((cK (b ++ [44])).bind fun b=>if fx q p.1 then .ok b else .error 1)=_
   rw [gJ this]
   show(if fx q p.1 then Except.ok (b ++ [44])else .error 1)=_
   rw [if_pos (e8 q rfl)]
   rfl
 rw [bu]
 show(gm (b++comma prev) p.1).bind _=_
 rw [bW _ (by simp only [List.length_append];omega)]
 show(cK (b++comma prev++cM p.1 ++ [58])).bind _=_
 rw [gJ (by simp only [List.length_append];omega)]
 show(wr p.2 (deep+1) (b++comma prev++cM p.1 ++ [58])).bind _=_
 rw [h1 _ (by simp only [List.length_append];omega)]
 show gA r deep (some p.1) (b++comma prev++cM p.1 ++ [58]++t1)=_
 rw [aq _ (by simp only [List.length_append];omega)]
 simp
theorem Lr:∀ N:Nat,∀ (v:JV) (deep:Nat) (b gv:ab),v.sz≤N→wr v deep b = .ok gv→∃ t,gv=b++t∧gv.length≤65536∧Fit v deep t
 | 0,v,_,_,_,h,_=>absurd (ql v) (by omega)
 | N+1,v,deep,b,gv,gy,h=>by
  have ea:=Lr N
  have aaz:∀ (l:List JV),(∀ x∈l,x.sz≤N)→∀ (fst:Bool) (b gv:ab),ji l deep fst b = .ok gv→∃ t,gv=b++t∧apl l deep fst t:=by
   intro l
   induction l with
   | nil=>
    intro _ fst b gv h
    rw [ji] at h
    injection h with h
    subst h
    exact⟨[],by simp,fun b _=>by rw [ji];simp⟩
   | cons x r ajX=>
    intro ae fst b gv h
    rw [mu] at h
    obtain⟨dN,h1,h⟩:=dU h
    obtain⟨fz,aq,bb⟩:=dU h
    obtain⟨t1,rfl,_,Ig⟩:=ea x (deep+1) dN fz (ae x (by simp)) aq
    obtain⟨t2,rfl,Ih⟩:=ajX (fun y ba=>ae y (by simp [ba])) false _ _ bb
    cases fst with
    | true=>
     injection h1 with h1
     subst h1
     refine⟨t1++t2,by simp,fun c aZ=>?_⟩
     simp only [List.length_append] at aZ
     rw [mu]
     show(wr x (deep+1) c).bind _=_
     rw [Ig c (by simp only [List.length_append];omega)]
     show ji r deep false (c++t1)=_
     rw [Ih _ (by simp only [List.length_append];omega)]
     simp
    | false=>
     obtain⟨rfl,_⟩:=gF h1
     refine⟨[44]++t1++t2,by simp,fun c aZ=>?_⟩
     simp only [List.length_append] at aZ
     rw [mu]
     show(cK (c ++ [44])).bind _=_
     rw [gJ (by simp only [List.length_append];omega)]
     show(wr x (deep+1) (c ++ [44])).bind _=_
     rw [Ig _ (by simp only [List.length_append];omega)]
     show ji r deep false (c ++ [44]++t1)=_
     rw [Ih _ (by simp only [List.length_append];omega)]
     simp
  have aaA:∀ (m:List (ab×JV)),(∀ p∈m,p.2.sz≤N)→∀ (prev:Option ab) (b gv:ab),gA m deep prev b = .ok gv→∃ t,gv=b++t∧vG m deep prev t:=by
   intro m
   induction m with
   | nil=>
    intro _ prev b gv h
    rw [gA] at h
    injection h with h
    subst h
    exact⟨[],by simp,fun b _=>by rw [gA];simp⟩
   | cons p r ajY=>
    intro ae prev b gv h
    obtain⟨e8,fz,aq,bb,bW,_⟩:=w7 h
    obtain⟨t1,rfl,_,Ig⟩:=ea p.2 (deep+1) _ fz (ae p (by simp)) aq
    obtain⟨t2,rfl,Ih⟩:=ajY (fun y ba=>ae y (by simp [ba])) (some p.1) _ _ bb
    exact⟨_,by simp,Lq e8 bW Ig Ih⟩
  rw [en] at h
  by_cases aW:bare v=false
  ·rw [if_pos aW] at h;cases h
  rw [if_neg aW] at h
  by_cases o8:v.kind=0
  ·rw [if_pos o8] at h
   obtain⟨rfl,cb⟩:=gF h
   exact⟨_,rfl,cb,fun c aZ=>by rw [en,if_neg aW,if_pos o8,gJ aZ]⟩
  rw [if_neg o8] at h
  by_cases ef:v.kind=1
  ·rw [if_pos ef] at h
   obtain⟨rfl,cb⟩:=gF h
   exact⟨_,rfl,cb,fun c aZ=>by rw [en,if_neg aW,if_neg o8,if_pos ef,gJ aZ]⟩
  rw [if_neg ef] at h
  by_cases jt:v.kind=2
  ·rw [if_pos jt] at h
   obtain⟨rfl,cb⟩:=gF h
   exact⟨_,rfl,cb,fun c aZ=>by rw [en,if_neg aW,if_neg o8,if_neg ef,if_pos jt,gJ aZ]⟩
  rw [if_neg jt] at h
  by_cases pA:v.kind=3
  ·rw [if_pos pA] at h
   obtain⟨t,rfl,_,cb,bW⟩:=Dd h
   exact⟨t,rfl,cb,fun c aZ=>by rw [en,if_neg aW,if_neg o8,if_neg ef,if_neg jt,if_pos pA,bW c aZ]⟩
  rw [if_neg pA] at h
  by_cases bT:deep=32
  ·rw [if_pos bT] at h;cases h
  rw [if_neg bT] at h
  by_cases vY:v.kind=4
  ·rw [if_pos vY] at h
   obtain⟨dN,h1,h⟩:=dU h
   obtain⟨rfl,_⟩:=gF h1
   obtain⟨fz,aq,bb⟩:=dU h
   obtain⟨t,rfl,bW⟩:=aaz v.list (fun x ae=>by have:=il ae;omega) true _ _ aq
   obtain⟨rfl,cb⟩:=gF bb
   refine⟨[91]++t ++ [93],by simp,cb,fun c aZ=>?_⟩
   simp only [List.length_append] at aZ
   rw [en,if_neg aW,if_neg o8,if_neg ef,if_neg jt,if_neg pA,if_neg bT,if_pos vY,gJ (by simp only [List.length_append];omega)]
   show(ji v.list deep true (c ++ [91])).bind _=_
   rw [bW _ (by simp only [List.length_append];omega)]
   show cK (c ++ [91]++t ++ [93])=_
   rw [gJ (by simp only [List.length_append];omega)]
   simp
  rw [if_neg vY] at h
  obtain⟨dN,h1,h⟩:=dU h
  obtain⟨rfl,_⟩:=gF h1
  obtain⟨fz,aq,bb⟩:=dU h
  obtain⟨t,rfl,bW⟩:=aaA v.map (fun x ae=>by have:=hU ae;omega) none _ _ aq
  obtain⟨rfl,cb⟩:=gF bb
  refine⟨[123]++t ++ [125],by simp,cb,fun c aZ=>?_⟩
  simp only [List.length_append] at aZ
  rw [en,if_neg aW,if_neg o8,if_neg ef,if_neg jt,if_neg pA,if_neg bT,if_neg vY,gJ (by simp only [List.length_append];omega)]
  show(gA v.map deep none (c ++ [123])).bind _=_
  rw [bW _ (by simp only [List.length_append];omega)]
  show cK (c ++ [123]++t ++ [125])=_
  rw [gJ (by simp only [List.length_append];omega)]
  simp
theorem fit {v:JV} {deep:Nat} {b gv:ab} (h:wr v deep b = .ok gv):∃ t,gv=b++t∧gv.length≤65536∧Fit v deep t:=Lr v.sz v deep b gv (Nat.le_refl _) h
theorem w8:∀ (m:List (ab×JV)) (deep:Nat) (prev:Option ab) (b gv:ab),gA m deep prev b = .ok gv→et m∧∀ q,prev=some q→∀ p∈m,fx q p.1=true
 | [],_,_,_,_,_=>⟨List.Pairwise.nil,fun _ _ _ h=>by cases h⟩
 | p::r,deep,prev,b,gv,h=>by
  obtain⟨e8,fz,_,bb,_,_⟩:=w7 h
  obtain⟨bP,cZ⟩:=w8 r deep (some p.1) _ _ bb
  refine⟨List.Pairwise.cons (fun y ba=>cZ p.1 rfl y ba) bP,fun q e y ba=>?_⟩
  rcases List.mem_cons.1 ba with rfl | ba
  ·exact e8 q e
  exact hL (e8 q e) (cZ p.1 rfl y ba)
theorem x5 {m:List (ab×JV)} {deep:Nat} {t:ab} (h:vG m deep none t) (bT:deep≠32):Fit (obj m) deep ([123]++t ++ [125]):=fun c aZ=>by
 simp only [List.length_append] at aZ;have aW:¬ bare (obj m)=false:=by simp [bare,obj,kind,is,num,str,list]
 have qX:(obj m).kind=5:=rfl;rw [en,if_neg aW,if_neg (by rw [qX];decide),if_neg (by rw [qX];decide),if_neg (by rw [qX];decide),if_neg (by rw [qX];decide),if_neg bT,if_neg (by rw [qX];decide),gJ (by simp only [List.length_append];omega)];show(gA m deep none (c ++ [123])).bind _=_;rw [h _ (by simp only [List.length_append];omega)];show cK (c ++ [123]++t ++ [125])=_;rw [gJ (by simp only [List.length_append];omega)];simp
theorem PN {v:JV} {deep:Nat} {b gv:ab} (qX:v.kind=5) (h:wr v deep b = .ok gv):deep≠32∧∃ fz,gA v.map deep none (b ++ [123]) = .ok fz∧gv=fz ++ [125]∧gv.length≤65536:=by
 rw [en] at h
 split at h
 ·cases h
 rw [if_neg (by rw [qX];decide),if_neg (by rw [qX];decide),if_neg (by rw [qX];decide),if_neg (by rw [qX];decide)] at h
 split at h
 ·cases h
 rename_i bT
 rw [if_neg (by rw [qX];decide)] at h;obtain⟨dN,h1,h⟩:=dU h;obtain⟨rfl,_⟩:=gF h1;obtain⟨fz,aq,bb⟩:=dU h;obtain⟨rfl,cb⟩:=gF bb;exact⟨bT,fz,aq,rfl,cb⟩
end JV
section
variable {P:Program} {ops:Array Oper} {Q:Exit→Act→World→Prop} {n:Nat} {ds:List Deferred} {l:List (Nat×Value)} {M:List (Nat×(Value→World→Prop))} {w:World} {Fin:lj→Prop} {rest:List Oper} {d:Nat} {ty:TypeId} {pos:String} {af:Array Edge} {op:Op}
theorem ath (V:Value→World→Prop) (qW:∀ v aJ cX,Mod [] aJ cX→V v aJ→V v cX) (t s:Nat) {aBo RV:Value→World→Prop} (bW:iF t l=none) (eX:o0 t M=some aBo) (ae:∃ x∈op.operands.toList,x = .tmp t) (k7:iF s l=none) (Nb:o0 s M=some RV) (DX:∃ x∈op.operands.toList,x = .tmp s)
  (bo:∀ aJ u oO,Mod [] w aJ→aBo u aJ→RV oO aJ→∃ v cX,bE P ((t,u)::(s,oO)::l) ⟨some d,op,ty,pos,af,none⟩ aJ v cX∧Mod [] aJ cX∧V v cX) (bT:Nat.blt d n=true) (bh:gf op=true) (cb:iF d l=none)
  (h:hj P ops w n Fin rest l ((d,V)::M)):hj P ops w n Fin (⟨some d,op,ty,pos,af,none⟩::rest) l M:=by
 refine⟨V,ahU bW eX ae k7 Nb DX qW bT bh fun ρ aJ u oO h4 j1 ahY h1=>?_,?_⟩
 ·obtain⟨v,cX,e,hm,bI⟩:=bo aJ u oO h4 j1 ahY
  rw [e ρ h1]
  exact⟨hm,bI⟩
 rw [od rfl cb];exact h
theorem ahZ {V:Value→World→Prop} {t s r:Nat} {aBo RV U2:Value→World→Prop} (bW:iF t l=none) (eX:o0 t M=some aBo) (ae:∃ x∈op.operands.toList,x = .tmp t) (k7:iF s l=none) (Nb:o0 s M=some RV) (DX:∃ x∈op.operands.toList,x = .tmp s) (qt:iF r l=none) (ah0:o0 r M=some U2) (pf:∃ x∈op.operands.toList,x = .tmp r) (qW:∀ v aJ cX,Mod [] aJ cX→V v aJ→V v cX) (bT:Nat.blt d n=true) (bh:gf op=true)
  (bo:∀ (ρ:Operand→Value) aJ u oO kR,Mod [] w aJ→aBo u aJ→RV oO aJ→U2 kR aJ→(∀ x v,bf ((t,u)::(s,oO)::(r,kR)::l) x=some v→ρ x=v)→qf P (Mod []) aJ V ((execOp ρ ⟨some d,op,ty,pos,af,none⟩).run P aJ)) :
  aBq P ops (Mod []) (Mod [] w) n (tx l M) ⟨some d,op,ty,pos,af,none⟩ V:=by
 refine vA qW bT bh fun ρ aJ h4 h1 aq=>bo ρ aJ (ρ (.tmp t)) (ρ (.tmp s)) (ρ (.tmp r)) h4 (aq t aBo bW eX ae) (aq s RV k7 Nb DX) (aq r U2 qt ah0 pf) fun x v bI=>?_
 cases x with
 | tmp q=>
  simp only [bf,iF] at bI
  cases aW:Nat.beq t q with
  | true=>
   rw [aW] at bI
   have:=Nat.eq_of_beq_eq_true aW
   subst this
   injection bI
  | false=>
   rw [aW] at bI
   cases wa:Nat.beq s q with
   | true=>
    rw [wa] at bI
    have:=Nat.eq_of_beq_eq_true wa
    subst this
    injection bI
   | false=>
    rw [wa] at bI
    cases hC:Nat.beq r q with
    | true=>
     rw [hC] at bI
     have:=Nat.eq_of_beq_eq_true hC
     subst this
     injection bI
    | false=>rw [hC] at bI;exact h1 _ _ bI
 | const c=>exact h1 _ _ bI
 | global g=>exact h1 _ _ bI
 | func f=>exact h1 _ _ bI
theorem ati (V:Value→World→Prop) (qW:∀ v aJ cX,Mod [] aJ cX→V v aJ→V v cX) (t s r:Nat) {aBo RV U2:Value→World→Prop} (bW:iF t l=none) (eX:o0 t M=some aBo) (ae:∃ x∈op.operands.toList,x = .tmp t) (k7:iF s l=none) (Nb:o0 s M=some RV) (DX:∃ x∈op.operands.toList,x = .tmp s) (qt:iF r l=none) (ah0:o0 r M=some U2) (pf:∃ x∈op.operands.toList,x = .tmp r)
  (bo:∀ aJ u oO kR,Mod [] w aJ→aBo u aJ→RV oO aJ→U2 kR aJ→∃ v cX,bE P ((t,u)::(s,oO)::(r,kR)::l) ⟨some d,op,ty,pos,af,none⟩ aJ v cX∧Mod [] aJ cX∧V v cX) (bT:Nat.blt d n=true) (bh:gf op=true) (cb:iF d l=none)
  (h:hj P ops w n Fin rest l ((d,V)::M)):hj P ops w n Fin (⟨some d,op,ty,pos,af,none⟩::rest) l M:=by
 refine⟨V,ahZ bW eX ae k7 Nb DX qt ah0 pf qW bT bh fun ρ aJ u oO kR h4 j1 ahY atj h1=>?_,?_⟩
 ·obtain⟨v,cX,e,hm,bI⟩:=bo aJ u oO kR h4 j1 ahY atj
  rw [e ρ h1]
  exact⟨hm,bI⟩
 rw [od rfl cb];exact h
theorem RY {uv:List Oper} {t r:Nat} {V aBo:Value→World→Prop} (dn:zP n l=true) (bW:iF t l=none) (eX:o0 t M=some V) (bo:iF r l=none) (gy:o0 r M=some aBo) (Xr:Nat.blt t n=true) (atk:Nat.blt r n=true)
  (h:∀ w' v u,Mod [] w w'→V v w'→aBo u w'→fI P ops Q uv n ds ((t,v)::(r,u)::l) w') :
  hj P ops w n (fun N=>∀ a w',a.defers=ds→Mod [] w w'→N.all n a w'→wpList P ops Q uv a w') [] l M:=by
 intro a w' bT h4 XI
 have h1:=xD bT XI
 rw [lr dn] at h1
 have zQ:t<a.tmps.size:=by rw [XI.1];simpa [Nat.blt_eq] using Xr
 have afn:r<a.tmps.size:=by rw [XI.1];simpa [Nat.blt_eq] using atk
 have aq:=XI.2 t V (by simp [tx,bW,eX])
 have bP:=XI.2 r aBo (by simp [tx,bo,gy])
 have bb:a.tmps.getD t undef=a.tmps[t]:=by simp [zQ]
 have cZ:a.tmps.getD r undef=a.tmps[r]:=by simp [afn]
 rw [bb] at aq
 rw [cZ] at bP
 refine h w' _ _ h4 aq bP a ⟨h1.size,h1.defers,fun s v bI=>?_⟩
 simp only [iF] at bI
 cases aW:Nat.beq t s with
 | true=>
  rw [aW] at bI
  have:=Nat.eq_of_beq_eq_true aW
  subst this
  injection bI with bI
  subst bI
  simp [zQ]
 | false=>
  rw [aW] at bI
  cases hC:Nat.beq r s with
  | true=>
   rw [hC] at bI
   have:=Nat.eq_of_beq_eq_true hC
   subst this
   injection bI with bI
   subst bI
   simp [afn]
  | false=>rw [hC] at bI;exact h1.get s v bI
theorem Ke {t:TypeId} {ft:List Value} (cP:gX P t ft) (bT:Nat.blt d n=true) (cb:iF d l=none)
  (h:hj P ops w n Fin rest l ((d,fun u cX=>∃ g,u = .pointer (some ⟨g,0,none⟩)∧w.heap.size≤g∧aF cX g t ft)::M)):hj P ops w n Fin (⟨some d,.alloc t,ty,pos,af,none⟩::rest) l M:=
 aqu _ (fun v aJ cX k h=>by obtain⟨g,h1,aq,bb⟩:=h;exact⟨g,h1,aq,bb.I k⟩) (fun aJ k=>by
  have aq:=j6.mk' aJ t ft
  exact⟨_,_,JN cP,aq.mod,_,rfl,k.size,aq.ar⟩) bT rfl cb h
end
theorem bq.ant {A:List Nat} {w:World} {sz g T:Nat} {x:Value} {ft:List Value} {r:List D} {rows:List (List D)} {ad:Option Addr} {n c:Nat} (aBn:bq A w (.jH sz ((.v x::r)::rows)) (.slice ad n c)) (dY:aF w g T ft) (ae:x∉ft):∃ a,ad=some a∧a.block≠g:=by
 obtain⟨a,us,rfl,aq,bb,bP,_⟩:=aBn.at_ (i:=0) rfl;refine⟨a,rfl,fun e=>ae ?_⟩;obtain⟨u,ga,rfl,cZ,_⟩:=aq;have hu:=cZ.np;subst hu;have aZ:=bP 0 _ rfl;rw [Nat.zero_mul] at aZ;unfold World.cell? at aZ;rw [show(a.add 0).add 0=a by simp [Addr.add],e,dY] at aZ
 dsimp only at aZ
 split at aZ
 ·cases aZ
 have:ft[a.off]? = some u:=by simpa using aZ
 exact List.mem_of_getElem? this
structure rE (A:List Nat) (w0 w:World) (e sz:Nat) (eM:Value) (n:Nat) (rows:List (List D)) (vs:List Value):Prop where
 own:Own w e sz eM n vs
 rd:ao (A++bk eM) w rows.flatten vs
 uQ:∀ y∈bk eM,w0.heap.size≤y
 wH:∀ y∈bk eM,y∉A
 al:∀ a∈A,a<w.heap.size
section
variable {A:List Nat} {w0 w w':World} {e sz n:Nat} {eM mv:Value} {rows:List (List D)} {vs us:List Value} {row:List D}
theorem rE.nil (dy:∀ a∈A,a<w.heap.size):rE A w0 w e sz (.slice none 0 0) 0 [] []:=⟨Own.nil _ _ _,ao.oJ,by simp [bk],by simp [bk],dy⟩
theorem rE.I (G:rE A w0 w e sz eM n rows vs) (k:Mod [] w w'):rE A w0 w' e sz eM n rows vs:=⟨G.own.I k,G.rd.b1 k,G.uQ,G.wH,fun a aE=>Nat.lt_of_lt_of_le (G.al a aE) k.size⟩
theorem rE.lt (G:rE A w0 w e sz eM n rows vs):∀ a∈A++bk eM,a<w.heap.size:=fun a aE=>(List.mem_append.1 aE).elim (G.al a) (G.own.lt a)
theorem rE.CH (ek:App w w' e sz eM mv n vs):∀ y∈A++bk mv,y∈A++bk eM∨w.heap.size≤y:=fun y ba=>(List.mem_append.1 ba).elim (fun h=>.inl (by simp [h])) (fun h=>(ek.lH y h).imp (fun h=>by simp [h]) id)
theorem rE.app {k:Nat} (G:rE A w0 w e sz eM n rows vs) (E:Mod [] w0 w) (ek:App w w' e sz eM mv k (vs++us)) (hk:k=n+1) (oK:ao (A++bk eM) w row us):rE A w0 w' e sz mv (n+1) (rows ++ [row]) (vs++us):=by
 subst hk;refine⟨ek.own,?_,fun y ba=>(ek.lH y ba).elim (G.uQ y) (Nat.le_trans E.size),fun y ba aE=>(ek.lH y ba).elim (fun h=>G.wH y h aE) (fun h=>by have:=G.al y aE;omega),fun a aE=>Nat.lt_of_lt_of_le (G.al a aE) ek.mod.size⟩;rw [List.flatten_append];refine ao.to ek.mod (fun y ba=>by simp [ba]) (rE.CH ek) _ _ (ao.append G.rd ?_);simpa using oK
theorem rE.vw {k:Nat} {d:D} {u:Value} (ek:App w w' e sz eM mv k vs) (aBn:bq (A++bk eM) w d u):bq (A++bk mv) w' d u:=bq.to ek.mod (fun y ba=>by simp [ba]) (rE.CH ek) _ _ aBn
theorem rE.rep (G:rE A w0 w e sz eM n rows vs) (cb:∀ r∈rows,r.length=sz) (cu:rows.length=n):bq A w (.jH sz rows) eM:=Own.rep G.own (G.rd.eu (fun x ae=>by simp [ae])) cb cu G.wH
theorem rE.same {m:Nat} {rows':List (List D)} (G:rE A w0 w e sz eM n rows vs) (h1:n=m) (aq:rows=rows'):rE A w0 w e sz eM m rows' vs:=by subst h1;subst aq;exact G
end
theorem uz {α β:Type} {l:List α} {k:Nat} {x:α} (f:α→β) (h:l[k]? = some x):(l.take (k+1)).map f=(l.take k).map f ++ [f x]:=by
 have bM:=(List.getElem?_eq_some_iff.1 h).1;rw [List.take_succ_eq_append_getElem bM,(List.getElem?_eq_some_iff.1 h).2];simp
end Go.Proofs.YtkjgljnkocnnpaaGreatDoor.V
namespace Go.Proofs.YtkjgljnkocnnpaaGreatDoor.V
open Go
namespace JV
variable {kind:ab} {v:JV}
theorem yZ {k:ab} {x:JV} (h:v.get k=some x):(k,x)∈v.map:=by
 unfold JV.get at h
 split at h
 ·exact eG h
 cases h
end JV
end Go.Proofs.YtkjgljnkocnnpaaGreatDoor.V
namespace Go.Proofs.YtkjgljnkocnnpaaGreatDoor.V
open Go
namespace JV
variable {kind:ab} {v:JV} {p:ab×JV}
end JV
end Go.Proofs.YtkjgljnkocnnpaaGreatDoor.V
namespace Go.Proofs.YtkjgljnkocnnpaaGreatDoor.V
open Go
namespace JV
def aN (s:ab):JV:=.mk 3 false 0 s [] []
theorem Rw {A:List Nat} {w:World} {s:ab}:ao A w (aN s).D [.int .i64 3,.bool false,.int .i64 0,S s,.slice none 0 0,.slice none 0 0]:=by
 have:=bX (A:=A) (w:=w) (v:=aN s) (al:=none) (am:=none) (cl:=0) (cm:=0) bq.eh bq.eh;exact this
end JV
end Go.Proofs.YtkjgljnkocnnpaaGreatDoor.V
namespace Go.Proofs.YtkjgljnkocnnpaaGreatDoor.V
open Go
namespace JV
end JV
namespace EV
end EV
end Go.Proofs.YtkjgljnkocnnpaaGreatDoor.V
namespace Go.Proofs.YtkjgljnkocnnpaaGreatDoor.V
open Go
namespace JV
def hr (n:Int):JV:=.mk 2 false n [] [] []
def de (l:List JV):JV:=.mk 4 false 0 [] l []
theorem mL {A:List Nat} {w:World} {n:Int}:ao A w (hr n).D [.int .i64 2,.bool false,.int .i64 n,S [],.slice none 0 0,.slice none 0 0]:=by
 have:=bX (A:=A) (w:=w) (v:=hr n) (al:=none) (am:=none) (cl:=0) (cm:=0) bq.eh bq.eh;exact this
theorem yW {A:List Nat} {w:World} {l:List JV} {al:Option Addr} {cl:Nat} (aBn:bq A w (.jH 6 (l.map D)) (.slice al l.length cl)):ao A w (de l).D [.int .i64 4,.bool false,.int .i64 0,S [],.slice al l.length cl,.slice none 0 0]:=
 bX (v:=de l) (am:=none) (cm:=0) aBn bq.eh
theorem gl {A:List Nat} {w:World} {s:ab}:ao A w (aN s).D [.int .i64 3,.bool false,.int .i64 0,S s,.slice none 0 0,.slice none 0 0]:=Rw
theorem x6 {m:List (ab×JV)} {k:ab} {x:JV} {p:ab×JV} (h:p∈dO m k x):p∈m∨p=(k,x):=by
 unfold dO at h;simp only [List.mem_append,List.mem_filter,List.mem_singleton] at h;rcases h with(h | h) | h
 ·exact .inl h.1
 ·exact .inr h
 exact .inl h.1
end JV
abbrev eL:ab:=[97,117,116,104,95,101,118,101,110,116,115]
abbrev fZ:ab:=[99,111,110,116,101,110,116]
abbrev gG:ab:=[100,101,112,116,104]
abbrev e1:ab:=[104,97,115,104,101,115]
abbrev hR:ab:=[115,104,97,50,53,54]
abbrev lE:ab:=[111,114,105,103,105,110,95,115,101,114,118,101,114,95,116,115]
abbrev eH:ab:=[112,114,101,118,95,101,118,101,110,116,115]
abbrev hD:ab:=[114,111,111,109,95,105,100]
abbrev e2:ab:=[115,101,110,100,101,114]
abbrev fS:ab:=[115,105,103,110,97,116,117,114,101,115]
abbrev ih:ab:=[116,121,112,101]
abbrev dL:ab:=[115,116,97,116,101,95,107,101,121]
namespace EV
open JV
def one (m:List (ab×JV)) (k:ab):JV:=(look m k).getD JV.fg
def jo (m:List (ab×JV)) (s:ei):List (ab×JV):=dO m s.eo (obj (dO (one m s.eo).map s.key (aN s.sig)))
def mc (l:List ei) (k:Nat):List (ab×JV):=(l.take k).foldl jo []
theorem x7 (l:List ei):mc l 0 = []:=by simp [mc]
theorem x8 {l:List ei} {k:Nat} {s:ei} (h:l[k]? = some s):mc l (k+1)=jo (mc l k) s:=by
 have bM:=(List.getElem?_eq_some_iff.1 h).1;rw [mc,List.take_succ_eq_append_getElem bM,(List.getElem?_eq_some_iff.1 h).2,List.foldl_append];rfl
structure SU (m:List (ab×JV)) (n:Nat):Prop where
 Ro:et m
 len:m.length≤n
 each:∀ p∈m,∃ gZ,p.2=obj gZ∧et gZ∧gZ.length≤n
theorem SU.aaB {m:List (ab×JV)} {n:Nat} (h:SU m n) (k:ab):(one m k).fN=(one m k).map∧et (one m k).map∧(one m k).map.length≤n:=by
 unfold one;cases cb:look m k with
 | none=>exact⟨by simp [JV.fg,JV.fN,JV.map,JV.kind],by simp [JV.fg,JV.map,et],by simp [JV.fg,JV.map]⟩
 | some y=>
  obtain⟨gZ,h1,aq,bb⟩:=h.each _ (eG cb);have ajZ:y=obj gZ:=h1;subst ajZ;exact⟨by simp [obj,fN,map,kind],aq,bb⟩
theorem SU.step {m:List (ab×JV)} {n:Nat} {s:ei} (h:SU m n):SU (jo m s) (n+1):=by
 obtain⟨_,aq,bb⟩:=h.aaB s.eo;refine⟨p9 h.Ro,Nat.le_trans (uX h.Ro) (by have:=h.len;omega),fun p cc=>?_⟩;rcases x6 cc with cc | rfl
 ·obtain⟨gZ,bP,cZ,fy⟩:=h.each p cc;exact⟨gZ,bP,cZ,by omega⟩
 exact⟨_,rfl,p9 aq,Nat.le_trans (uX aq) (by omega)⟩
theorem A9 (l:List ei):∀ k,SU (mc l k) k
 | 0=>by rw [x7];exact⟨by simp [et],by simp,by simp⟩
 | k+1=>by
  rcases Nat.lt_or_ge k l.length with h | h
  ·rw [x8 (List.getElem?_eq_getElem h)]
   exact(A9 l k).step
  have e:mc l (k+1)=mc l k:=by unfold mc;rw [List.take_of_length_le (by omega),List.take_of_length_le h]
  rw [e]
  obtain⟨h1,aq,bb⟩:=A9 l k
  exact⟨h1,by omega,fun p cc=>by obtain⟨gZ,bP,cZ,fy⟩:=bb p cc;exact⟨gZ,bP,cZ,by omega⟩⟩
def ho (e:EV):List (ab×JV):=[(eL,de (e.b8.map aN)),(fZ,e.b7),(gG,hr e.dep),(e1,obj [(hR,aN e.hash)]),(lE,hr e.time),(eH,de (e.prev.map aN)),(hD,aN e.room),(e2,aN e.snd),(fS,obj (mc e.sigs e.sigs.length)),(ih,aN e.ty)]
def vH (e:EV):List (ab×JV):=e.ho++(if e.st then [(dL,aN e.key)] else [])
def mi (e:EV):List (ab×JV):=if e.st then dO e.ho dL (aN e.key)else e.ho
def val (e:EV):JV:=obj e.mi
theorem aaC (e:EV):gd e.ho 10=e.ho:=by kernel_rfl
theorem aaD (e:EV):gd e.vH e.vH.length=e.mi:=by
 unfold vH mi;cases e.st with
 | false=>rw [if_neg (by simp),if_neg (by simp),List.append_nil];exact e.aaC
 | true=>
  rw [if_pos rfl,if_pos rfl];have h1:(e.ho ++ [(dL,aN e.key)])[10]? = some (dL,aN e.key):=rfl;have aq:=sI h1;have bb:gd (e.ho ++ [(dL,aN e.key)]) 10=gd e.ho 10:=by rw [gd,gd];rfl
  rw [bb,aaC] at aq;exact aq
noncomputable def gz (e:EV):Int:=if e.q5≠0 then e.q5 else Go.Proofs.YtkjgljnkocnnpaaGreatDoor.V.gz (e.val.wr 0 [])
noncomputable def yv (e:EV):ab:=if e.q5≠0 then [] else j5 (e.val.wr 0 [])
end EV
end Go.Proofs.YtkjgljnkocnnpaaGreatDoor.V
namespace Go.Proofs.YtkjgljnkocnnpaaGreatDoor.V
open Go
def aT (c:UInt8):Bool:=c == 32||c == 9||c == 10||c == 13
def ct (c:UInt8):Bool:=decide (48≤c.toNat)&&decide (c.toNat≤57)
def cU (c:UInt8):Bool:=ct c||c == 43||c == 45||c == 46||c == 101||c == 69
def ai (p:UInt8→Bool) (s:ab) (k:Nat):Nat:=k+((s.drop k).takeWhile p).length
theorem gn {s:ab} {k:Nat} {c:UInt8} (h:s[k]? = some c):s.drop k=c::s.drop (k+1):=by
 obtain⟨hk,e⟩:=List.getElem?_eq_some_iff.1 h;rw [List.drop_eq_getElem_cons hk,e]
theorem fD {p:UInt8→Bool} {s:ab} {k:Nat} {c:UInt8} (h:s[k]? = some c) (cc:p c=true):ai p s (k+1)=ai p s k:=by
 unfold ai;rw [gn h,List.takeWhile_cons,aL cc];simp only [List.length_cons];omega
theorem fU {p:UInt8→Bool} {s:ab} {k:Nat} {c:UInt8} (h:s[k]? = some c) (cc:p c=false):ai p s k=k:=by
 unfold ai;rw [gn h,List.takeWhile_cons,ak (by simp [cc])];rfl
theorem gk {p:UInt8→Bool} {s:ab} {k:Nat} (h:s.length≤k):ai p s k=k:=by
 unfold ai;rw [List.drop_eq_nil_of_le h];rfl
theorem dc (p:UInt8→Bool) (s:ab) (k:Nat):k≤ai p s k:=Nat.le_add_right _ _
theorem OB (p:UInt8→Bool):∀ l:ab,(l.takeWhile p).length≤l.length
 | []=>Nat.le_refl _
 | c::r=>by
  rw [List.takeWhile_cons]
  split
  ·have:=OB p r
   simp only [List.length_cons]
   omega
  simp
theorem dD {p:UInt8→Bool} {s:ab} {k:Nat} (h:k≤s.length):ai p s k≤s.length:=by
 unfold ai;have:=OB p (s.drop k);rw [List.length_drop] at this;omega
def aC (s:ab) (k:Nat) (t:ab):Bool:=t.isPrefixOf (s.drop k)
theorem yx {s t:ab} {k:Nat}:aC s k t=true↔(s.drop k).take t.length=t:=by
 rw [aC,List.isPrefixOf_iff_prefix,List.prefix_iff_eq_take];exact eq_comm
theorem b9 {s t:ab} {k:Nat} (h:aC s k t=true) (bW:t≠[]):k+t.length≤s.length:=by
 have:=kZ List.length (yx.1 h);rw [List.length_take,List.length_drop] at this;have:0<t.length:=List.length_pos_iff.2 bW;omega
theorem gK {s:ab} {k:Nat} {c:UInt8}:aC s k [c]=true↔s[k]? = some c:=by
 rw [aC];cases h:s[k]? with
 | none=>
  rw [List.drop_eq_nil_of_le (by simpa using h)];simp
 | some d=>
  rw [gn h];simp [List.isPrefixOf];exact eq_comm
theorem Mi {s:ab} {k:Nat} {c:UInt8}:aC s k [c]=decide (s[k]? = some c):=by
 rw [Bool.eq_iff_iff,gK,decide_eq_true_eq]
def dw (w:ab):Bool×Bool:=
 let a:=if aC w 0 [45] then 1 else 0
 let e:=ai ct w a
 if e=a∨(a+1<e∧w[a]? = some 48)then (false,false)
 else
  let m:=aC w e [46]
  let k:=ai ct w (e+1)
  if m=true∧k=e+1 then (false,false)
  else
   let bu:=if m then k else e
   if aC w bu [101]||aC w bu [69] then
    let ee:=if aC w (bu+1) [43]||aC w (bu+1) [45] then bu+2 else bu+1
    let jt:=ai ct w ee
    if jt=ee then (false,false)else (decide (jt=w.length),true)
   else (decide (bu=w.length),m)
noncomputable def tT (w:ab):Option Int:=
 open Classical in if h:∃ n:Int,-9007199254740991≤n∧n≤9007199254740991∧Lib.itoa n=w then some h.choose else none
noncomputable def iU (w:ab):Except Int Int:=
 if (dw w).1=false then .error 4
 else match tT w with
  | none=>.error 7
  | some n=>.ok n
noncomputable def jW (s:ab) (k:Nat):Except Int (JV×Nat):=
 (iU ((s.drop k).take (ai cU s k-k))).bind fun n=>.ok (JV.hr n,ai cU s k)
def gP (c:UInt8):Option Nat:=
 if 48≤c.toNat∧c.toNat≤57 then some (c.toNat-48)
 else if 97≤c.toNat∧c.toNat≤102 then some (c.toNat-87)
 else if 65≤c.toNat∧c.toNat≤70 then some (c.toNat-55)
 else none
def e':Nat→ab→Nat→Option Nat
 | 0,_,n=>some n
 | _+1,[],_=>none
 | f+1,c::r,n=>match gP c with
  | none=>none
  | some d=>e' f r (16*n+d)
def l5 (c:UInt8):Option Nat:=
 if c=34 then some 34 else if c=92 then some 92 else if c=47 then some 47 else if c=98 then some 8 else if c=102 then some 12 else if c=110 then some 10 else if c=114 then some 13 else if c=116 then some 9 else none
def ej (l:ab):Option Nat:=
 match l with
 | 92::117::r=>e' 4 r 0
 | _=>none
def fK (l:ab):Nat×Nat:=
 match l with
 | _::c::_=>
  match l5 c with
  | some d=>(d,2)
  | none=>
   match ej l with
   | none=>(0,0)
   | some n=>
    if 56320≤n∧n≤57343 then (0,0)
    else if n<55296∨57343<n then (n,6)
    else match ej (l.drop 6)with
     | none=>(0,0)
     | some m=>if m<56320∨57343<m then (0,0)else (65536+1024*(n-55296)+(m-56320),12)
 | _=>(0,0)
def gx:Nat→ab→Nat→ab→Option (ab×Nat)
 | 0,_,_,_=>none
 | _+1,[],_,_=>none
 | f+1,c::r,i,out=>
  if c=34 then some (out,i+1)
  else
   let x:=if c=92 then fK (c::r)else aM (c::r)
   if x.2=0∨(c≠92∧x.1<32)then none
   else gx f ((c::r).drop x.2) (i+x.2) (out++fl x.1)
def dP (s:ab) (k:Nat):Option (ab×Nat):=if s[k]? = some 34 then gx (s.length-k) (s.drop (k+1)) (k+1) [] else none
abbrev tA:=Except Int (JV×Nat)
def h5 (s:ab) (k:Nat) (m:List (ab×JV)):Except Int (ab×Nat):=
 match dP s (ai aT s k)with
 | none=>.error 4
 | some (t,ef)=>
  if (look m t).isSome then .error 6
  else if aC s (ai aT s ef) [58] then .ok (t,ai aT s ef+1)else .error 4
mutual
noncomputable def jl:Nat→ab→Nat→Nat→Option tA
 | 0,_,_,_=>none
 | f+1,s,o8,deep=>
  let k:=ai aT s o8
  if aC s k JV.kM then some (.ok (JV.fg,k+4))
  else if aC s k JV.jT then some (.ok (.mk 1 true 0 [] [] [],k+4))
  else if aC s k JV.hP then some (.ok (.mk 1 false 0 [] [] [],k+5))
  else if aC s k [34] then
   match dP s k with
   | none=>some (.error 4)
   | some (t,ef)=>some (.ok (JV.aN t,ef))
  else if aC s k [91]||aC s k [123] then
   if deep=32 then some (.error 5)
   else
    let ef:=ai aT s (k+1)
    if aC s k [91] then
     if aC s ef [93] then some (.ok (JV.de [],ef+1))else oP f s ef (deep+1) []
    else
     if aC s ef [125] then some (.ok (JV.obj [],ef+1))else oQ f s ef (deep+1) []
  else some (jW s k)
noncomputable def oP:Nat→ab→Nat→Nat→List JV→Option tA
 | 0,_,_,_,_=>none
 | f+1,s,k,deep,acc=>
  match jl f s k deep with
  | none=>none
  | some (.error e)=>some (.error e)
  | some (.ok (x,ef))=>
   let jt:=ai aT s ef
   if aC s jt [93] then some (.ok (JV.de (acc ++ [x]),jt+1))
   else if aC s jt [44] then oP f s (jt+1) deep (acc ++ [x])
   else some (.error 4)
noncomputable def oQ:Nat→ab→Nat→Nat→List (ab×JV)→Option tA
 | 0,_,_,_,_=>none
 | f+1,s,k,deep,m=>
  match h5 s k m with
  | .error e=>some (.error e)
  | .ok (t,ef)=>
   match jl f s ef deep with
   | none=>none
   | some (.error e)=>some (.error e)
   | some (.ok (x,jt))=>
    let pA:=ai aT s jt
    if aC s pA [125] then some (.ok (JV.obj (dO m t x),pA+1))
    else if aC s pA [44] then oQ f s (pA+1) deep (dO m t x)
    else some (.error 4)
end
end Go.Proofs.YtkjgljnkocnnpaaGreatDoor.V
