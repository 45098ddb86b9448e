/-
  A part of the proof: the reader's pop, walked: a list's frame; the reader's pop, walked: a map's frame; the reader's add, walked: a list's frame; the reader's add, walked: a map's frame; the reader's begin, walked; what the reader's value asks of the plain machine; a block made private; the reader's value, walked; json.Parse, walked; two texts read: the law's own example, a number with a point; the canonical text of the law's own example; a text between quotes, read. No condition of its own.
-/
import Derived.Test.YtnihidkbkhcfoaaGreatDoorM9
import Derived.Test.YtnihidkbkhcfoaaGreatDoorM6
import Derived.Test.YtnihidkbkhcfoaaGreatDoorM7
import Derived.Test.YtnihidkbkhcfoaaGreatDoorM3
import Derived.Test.YtnihidkbkhcfoaaGreatDoorM5
set_option linter.unusedVariables false
set_option linter.unusedSimpArgs false
set_option maxRecDepth 10000
namespace Go.Proofs.YtnihidkbkhcfoaaGreatDoor.V
open Go Go.Proofs
theorem zi:mY Tryz.prog 20=true:=by kernel_rfl
theorem wY:ho Tryz.prog 165 0 0 1=true:=by kernel_rfl
theorem wZ:Tryz.prog.underlying 163=some (.pointer 165):=by kernel_rfl
theorem w1:Tryz.prog.underlying 129=some (.pointer 168):=by kernel_rfl
theorem MG:(Tryz.prog.info? 163).bind (·.zero)=some (.pointer none):=by kernel_rfl
theorem oo {w:World} {e9 c:Value} {cs:List Value} (O:Own w 20 1 e9 (c::cs).length (c::cs).reverse):∃ ad c0,e9 = .slice (some ad) (cs.length+1) c0∧cs.length+1≤c0∧c0≤9223372036854775807∧pd w ad (cs.reverse ++ [c]):=by
 rcases O.2 with⟨_,bD⟩ | ⟨g,o,c0,PL,h1,_⟩
 ·simp at bD
 subst h1;have:=O.form;obtain⟨_,_,aj,aF,bn⟩:=this;cases aj;exact⟨_,_,rfl,aF,bn,by have:=O.cs;rwa [List.reverse_cons] at this⟩
theorem l9 {w:World} {c:Value} {cs:List Value} {ad:Addr} (C:pd w ad (cs.reverse ++ [c])):w.cell? (ad.add ((cs.length:Int).toNat*1))=some c:=by
 rw [Int.toNat_natCast,Nat.mul_one];exact C _ _ (by rw [List.getElem?_append_right (by simp),List.length_reverse,Nat.sub_self];rfl)
theorem Cx {w:World} {c:Value} {cs:List Value} {ad:Addr} {c0:Nat} (O:Own w 20 1 (.slice (some ad) (cs.length+1) c0) (c::cs).length (c::cs).reverse):Own w 20 1 (.slice (some ad) cs.length c0) cs.length cs.reverse:=by
 have:=Own.take (m:=cs.length) O (by simp)
 rwa [List.reverse_cons,List.take_append_of_le_length (by simp),List.take_of_length_le (by simp)] at this
/-- the private blocks are as they were -/
def w2 (Z:List Nat) (w w':World):Prop:=∀ z∈Z,w'.heap[z]? = w.heap[z]?
theorem w2.of {Z M:List Nat} {w w':World} (h:Mod M w w') (bM:∀ z∈Z,z<w.heap.size) (bW:∀ z∈Z,z∉M):w2 Z w w':=fun z cO=>h.block z (bM z cO) (bW z cO)
theorem lu.vj {Z:List Nat} {w0 w:World} {g k:Nat} {s:U} {st:List km} {sk:Value} {cs:List Value} {fp:List Nat} (H:lu (lC Z) w0 w g s k st sk cs fp):∀ z∈Z,z<w.heap.size∧z≠g∧z∉aL sk:=fun z cO=>by
 have dm:=H.qX.z z cO;exact⟨H.lt z (by simp [dm]),fun e=>H.qY (by subst e;simp [dm]),fun h=>H.vw z h dm⟩
theorem Cy {w:World} {g k g1 n cl:Nat} {s:U} {sk:Value} {al:Option Addr} {d':List Value} (B:aD w g 75 [S s,.int .i64 (k:Int),sk]) (O:Own w 20 1 sk (.iface 163 (.pointer (some ⟨g1,0,none⟩))::d').length (.iface 163 (.pointer (some ⟨g1,0,none⟩))::d').reverse)
  (fO:aD w g1 165 [.slice al n cl]) (kB:g1≠g) (sH:∀ x∈aL sk,x≠g) (bL:d'.length≤32) :
  Calls Tryz.prog 109 [.pointer (some ⟨g,0,none⟩)].toArray w (bI fun u w'=>u = .agg #[.int .i64 4,.bool false,.int .i64 0,S [],.slice al n cl,.slice none 0 0]∧(∃ fK,aD w' g 75 [S s,.int .i64 (k:Int),fK]∧Own w' 20 1 fK d'.length d'.reverse∧aL fK=aL sk)∧Mod [g] w w'):=by
 refine enter Tryz.func109 rfl rfl rfl (l:=[(0,_)]) ⟨rfl,trivial⟩ ?_
 obtain⟨ad,c0,rfl,fi,gA,C⟩:=oo O
 have pY:d'.length≤32:=bL
 have E:=Mod.refl [g] w
 refine ae fun aX=>bl cK rfl fun g2 aE bO=>?_
 have sG:=bO.le E
 have n3:=bO.ne B
 have n4:=bO.ne fO
 have IT:=bO.cd O
 replace B:=B.I bO.mod
 replace fO:=fO.I bO.mod
 replace O:=O.I bO.mod
 replace C:=C.mod bO.mod (by simp)
 replace E:=E.then bO.mod
 have cH:=bO.aA
 refine R aX (ay fun aM=>bK wide (by kernel_rfl) (fM 2 rfl rfl (ah (fun J=>(au eY rfl)) (ah (fun J=>(bh iM rfl ((B.I J).cell rfl))) (fM 2 rfl rfl (ah (fun J=>(au eY rfl)) (ah (fun J=>(bh iM rfl ((B.I J).cell rfl))) (ah (fun J=>(bx Tryz.underlying73 rfl)) (ah (fun J=>(eL (r:=((d'.length:Nat):Int)) rfl rfl (by rw [wrap64_in _ (by omega)];omega))) (ah (fun J=>(cf q5 rfl rfl (by omega))) (ah (fun J=>(bh zi rfl (l9 (C.mod J (by simp))))) (ah (fun J=>(cI rfl)) ?_))))))))))))
 refine bN rfl fun cY J=>?_
 replace B:=B.I J
 replace fO:=fO.I J
 replace cH:=cH.I J
 replace O:=O.I J
 replace E:=E.then J
 refine az aM (ay fun a7=>wX 12 wide (by kernel_rfl) (fM 3 rfl rfl (ah (fun J=>(au eY rfl)) (ah (fun J=>(bh iM rfl ((B.I J).cell rfl))) (fM 2 rfl rfl (ah (fun J=>(au eY rfl)) (ah (fun J=>(bh iM rfl ((B.I J).cell rfl))) (ah (fun J=>(bx Tryz.underlying73 rfl)) (ah (fun J=>(eL (r:=((d'.length:Nat):Int)) rfl rfl (by rw [wrap64_in _ (by omega)];omega))) (ah (fun J=>(Cz q5 rfl rfl rfl (by simp only [hb,hP];omega) (by omega)).to (v':=.slice (some ad) d'.length c0) (by simp only [hb,hP,Int.toNat_natCast];rw [show(0:Int).toNat=0 from rfl,tW];simp)) (ml rfl fun gv J=>?_)))))))))))
 replace B:=B.I J
 replace fO:=fO.I J
 replace cH:=cH.I J
 replace O:=O.I J
 replace E:=E.then J
 refine aq 1 rfl (ao (au eY rfl) (ea iM B rfl rfl rfl (by simp) fun iH lX=>?_))
 replace B:=lX.eq (cs':=[S s,.int .i64 (k:Int),.slice (some ad) d'.length c0]) rfl
 replace fO:=fO.mod lX.mod (by simpa using kB)
 replace cH:=cH.mod lX.mod (by simpa using Ne.symm n3)
 replace O:=(Cx O).mod lX.mod (fun x ab e=>sH x ab (by simpa using e))
 replace E:=E.trans lX.mod
 refine R a7 (ay fun bC=>ae fun bU=>aQ rfl (ao (Hc wZ rfl rfl) (aQ rfl (ao (dU rfl rfl) (ao (dU rfl rfl) (bb rfl (bb rfl (R bU (ae fun ca=>aQ rfl (R ca ?_))))))))))
 refine aU rfl (fun rX=>?_) (fun rX=>absurd rX (by decide))
 refine ae fun cA=>aq 2 rfl (ao (au wY rfl) (ao (bh lM rfl (fO.cell rfl)) (ao (bj (cs:=[_,_,_,_,_,_]) iI cK rfl rfl) (bd (vs:=[_,_,_,_,_,_]) aK cH rfl rfl rfl (by simp [Value.oneCell']) (by simp) fun jO hl=>?_))))
 have lD:=hl.eq (cs':=[.int .i64 4,.bool false,.int .i64 0,S [],.slice al n cl,.slice none 0 0]) rfl
 have ahD:=E.own hl.mod (by omega)
 exact R cA (bg (a1 (by simp) (kr rfl aK rfl rfl (lD.cs rfl) ⟨rfl,⟨_,B.mod hl.mod (by simpa using n3),O.mod hl.mod (fun x ab e=>IT x ab (by simpa using e)),rfl⟩,ahD⟩)))
theorem QG {Z:List Nat} {w0 w:World} {g k:Nat} {s:U} {st:List km} {sk:Value} {cs:List Value} {fp:List Nat} {acc:List JV} (H:lu (lC Z) w0 w g s k (.L acc::st) sk cs fp) (bL:cs.length≤33) :
  Calls Tryz.prog 109 [.pointer (some ⟨g,0,none⟩)].toArray w (bI fun u w'=>∃ us fK d' eI,u = .agg us.toArray∧lu (lC Z) w0 w' g s k st fK d' eI∧kJ w w' g sk fp fK eI∧ak (g::(aL fK++eI)) w' (JV.fw acc).D us∧w2 Z w w'):=by
 have ahE:=H.own
 have cO:=H.vj
 obtain⟨g1,dN,vs,d',eI,rfl,rfl,fO,gG,AI,qy,kB,IU,_,ahF⟩:=H.LY
 obtain⟨al,cl,rfl,_,_⟩:=gG.form
 refine Calls.imp (Cy H.rd ahE fO kB (fun x ab e=>H.qY (by subst e;simp [ab])) (by simpa using bL)) fun u w' aB=>?_
 obtain⟨rfl,⟨fK,acp,Bz,ig⟩,E⟩:=aB
 obtain⟨pT,pn,_,PN⟩:=ahF w' fK E acp Bz ig
 exact⟨_,_,d',eI,rfl,pT,pn,JV.b6 (v:=JV.fw acc) (am:=none) (cm:=0) PN aS.dI,w2.of E (fun z e'=>(cO z e').1) (fun z e'=>by simpa using (cO z e').2.1)⟩
set_option maxRecDepth 10000
theorem QH:aP Tryz.prog 150:=aP.of Tryz.func150 (by kernel_rfl) (by kernel_rfl)
theorem CA {w wr:World} {A:List Nat} {g k g1:Nat} {s:U} {sk m1 t1 dN:Value} {acc:List (U×JV)} {vs:List Value} {d':List Value} (B:aD w g 75 [S s,.int .i64 (k:Int),sk]) (O:Own w 20 1 sk (.iface 129 (.pointer (some ⟨g1,0,none⟩))::d').length (.iface 129 (.pointer (some ⟨g1,0,none⟩))::d').reverse)
  (fO:aD w g1 168 [dN,m1,t1]) (gG:Own w 51 7 dN acc.length vs) (AI:ak A wr (acc.map JV.hG).flatten vs) (ES:(acc.map (·.1)).Nodup) (kB:g1≠g) (sH:∀ x∈aL sk,x≠g) (BA:∀ x∈aL dN,x≠g) (n11:∀ x∈aL sk,x∉aL dN) (bL:d'.length≤32) (bM:acc.length≤1000000) :
  Calls Tryz.prog 109 [.pointer (some ⟨g,0,none⟩)].toArray w (bI fun u w'=>u = .agg #[.int .i64 5,.bool false,.int .i64 0,S [],.slice none 0 0,dN]∧(∃ fK,aD w' g 75 [S s,.int .i64 (k:Int),fK]∧Own w' 20 1 fK d'.length d'.reverse∧aL fK=aL sk)∧Mod (g::aL dN) w w'∧(∃ h8,Own w' 51 7 dN (dB acc).length h8∧ak A wr ((dB acc).map JV.hG).flatten h8)∧(dB acc).length=acc.length):=by
 refine enter Tryz.func109 rfl rfl rfl (l:=[(0,_)]) ⟨rfl,trivial⟩ ?_
 obtain⟨ad,c0,rfl,fi,gA,C⟩:=oo O
 obtain⟨al,cl,rfl,_,_⟩:=gG.form
 have pY:d'.length≤32:=bL
 have E:=Mod.refl [g] w
 refine ae fun aX=>bl cK rfl fun g2 aE bO=>?_
 have sG:=bO.le E
 have n3:=bO.ne B
 have n4:=bO.ne fO
 have IT:=bO.cd O
 have n10:=bO.cd gG
 replace B:=B.I bO.mod
 replace fO:=fO.I bO.mod
 replace gG:=gG.I bO.mod
 replace O:=O.I bO.mod
 replace C:=C.mod bO.mod (by simp)
 replace E:=E.then bO.mod
 have cH:=bO.aA
 refine R aX (ay fun aM=>bK wide (by kernel_rfl) (fM 2 rfl rfl (ah (fun J=>(au eY rfl)) (ah (fun J=>(bh iM rfl ((B.I J).cell rfl))) (fM 2 rfl rfl (ah (fun J=>(au eY rfl)) (ah (fun J=>(bh iM rfl ((B.I J).cell rfl))) (ah (fun J=>(bx Tryz.underlying73 rfl)) (ah (fun J=>(eL (r:=((d'.length:Nat):Int)) rfl rfl (by rw [wrap64_in _ (by omega)];omega))) (ah (fun J=>(cf q5 rfl rfl (by omega))) (ah (fun J=>(bh zi rfl (l9 (C.mod J (by simp))))) (ah (fun J=>(cI rfl)) ?_))))))))))))
 refine bN rfl fun cY J=>?_
 replace B:=B.I J
 replace fO:=fO.I J
 replace gG:=gG.I J
 replace cH:=cH.I J
 replace O:=O.I J
 replace E:=E.then J
 refine az aM (ay fun a7=>wX 12 wide (by kernel_rfl) (fM 3 rfl rfl (ah (fun J=>(au eY rfl)) (ah (fun J=>(bh iM rfl ((B.I J).cell rfl))) (fM 2 rfl rfl (ah (fun J=>(au eY rfl)) (ah (fun J=>(bh iM rfl ((B.I J).cell rfl))) (ah (fun J=>(bx Tryz.underlying73 rfl)) (ah (fun J=>(eL (r:=((d'.length:Nat):Int)) rfl rfl (by rw [wrap64_in _ (by omega)];omega))) (ah (fun J=>(Cz q5 rfl rfl rfl (by simp only [hb,hP];omega) (by omega)).to (v':=.slice (some ad) d'.length c0) (by simp only [hb,hP,Int.toNat_natCast];rw [show(0:Int).toNat=0 from rfl,tW];simp)) (ml rfl fun gv J=>?_)))))))))))
 replace B:=B.I J
 replace fO:=fO.I J
 replace gG:=gG.I J
 replace cH:=cH.I J
 replace O:=O.I J
 replace E:=E.then J
 refine aq 1 rfl (ao (au eY rfl) (ea iM B rfl rfl rfl (by simp) fun iH lX=>?_))
 replace B:=lX.eq (cs':=[S s,.int .i64 (k:Int),.slice (some ad) d'.length c0]) rfl
 replace fO:=fO.mod lX.mod (by simpa using kB)
 replace gG:=gG.mod lX.mod (fun x ab e=>BA x ab (by simpa using e))
 replace cH:=cH.mod lX.mod (by simpa using Ne.symm n3)
 replace O:=(Cx O).mod lX.mod (fun x ab e=>sH x ab (by simpa using e))
 replace E:=E.trans lX.mod
 refine R a7 (ay fun bC=>ae fun bU=>aQ rfl (ao (Fs wZ (by decide) MG rfl) (aQ rfl (ao (dU rfl rfl) (ao (dU rfl rfl) (bb rfl (bb rfl (R bU (ae fun ca=>aQ rfl (R ca ?_))))))))))
 refine aU rfl (fun rX=>absurd rX (by decide)) (fun rX=>cJ (az bC (ae fun cA=>aQ rfl (ao (MH w1 rfl rfl) (aq 1 rfl (ao (au wW rfl) (ao (bh eg rfl (fO.cell rfl)) (bb rfl (R cA (ae fun cM=>aQ rfl (fP (bt QH rfl) (Lt _ gG AI ES bM rfl) rfl fun cC jO aB=>?_)))))))))))
 obtain⟨_,J,h8,ahG,ahH,hlen⟩:=aB
 replace B:=B.mod J (fun ab=>BA g ab rfl)
 replace cH:=cH.mod J (fun ab=>n10 g2 ab rfl)
 replace O:=O.mod J (fun x ab e=>n11 x ab e)
 replace E:=(E.mono (N:=g::aL (.slice al acc.length cl)) (by simp)).trans (J.mono (fun x ab=>List.mem_cons_of_mem _ ab))
 refine R cM (ae fun db=>aq 1 rfl (ao (bj (cs:=[_,_,_,_,_,_]) iI cK rfl rfl) (bd (vs:=[_,_,_,_,_,_]) aK cH rfl rfl rfl (by simp [Value.oneCell']) (by simp) fun jV ni=>?_)))
 have lD:=ni.eq (cs':=[.int .i64 5,.bool false,.int .i64 0,S [],.slice none 0 0,.slice al acc.length cl]) rfl
 have ahI:=E.own ni.mod (by omega)
 exact R db (bg (kr rfl aK rfl rfl (lD.cs rfl) ⟨rfl,⟨_,B.mod ni.mod (by simpa using n3),O.mod ni.mod (fun x ab e=>IT x ab (by simpa using e)),rfl⟩,ahI,⟨h8,hlen▸ahG.mod ni.mod (fun x ab e=>n10 x ab (by simpa using e)),ahH⟩,hlen⟩))
theorem QI {Z:List Nat} {w0 w:World} {g k:Nat} {s t:U} {st:List km} {sk:Value} {cs:List Value} {fp:List Nat} {acc:List (U×JV)} (H:lu (lC Z) w0 w g s k (.A acc t::st) sk cs fp) (bL:cs.length≤33) (bM:acc.length≤1000000) :
  Calls Tryz.prog 109 [.pointer (some ⟨g,0,none⟩)].toArray w (bI fun u w'=>∃ us fK d' eI,u = .agg us.toArray∧lu (lC Z) w0 w' g s k st fK d' eI∧kJ w w' g sk fp fK eI∧ak (g::(aL fK++eI)) w' (JV.obj (dB acc)).D us∧w2 Z w w'):=by
 have ahE:=H.own
 have cO:=H.vj
 obtain⟨g1,b,dN,vs,d',eI,rfl,rfl,fO,hm,gG,AI,qy,kB,n6,n7,n8,BA,IU,_,ahF⟩:=H.L0 (fm:=.A acc t) (acc:=acc) (K:=acc.map (fun q:U×JV=>q.1)) (t:=t) (fun A w c m h=>h)
 have ES:(acc.map (·.1)).Nodup:=by have h:=hm.keys;rw [show ∀ L:List U,(lA L).map (·.1)=L from fun L=>by simp [lA,Function.comp_def]] at h;exact h
 obtain⟨al,cl,rfl,_,_⟩:=gG.form
 refine Calls.imp (CA H.rd ahE fO gG AI ES kB (fun x ab e=>H.qY (by subst e;simp [ab])) BA (fun x ab h=>H.vw x ab (by simp [h])) (by simpa using bL) bM) fun u w' aB=>?_
 obtain⟨rfl,⟨fK,acp,Bz,ig⟩,E,⟨h8,qp,rr⟩,hlen⟩:=aB
 obtain⟨pT,pn,PN⟩:=ahF w' fK h8 (dB acc) E acp Bz ig qp rr
 refine⟨_,_,d',eI,rfl,pT,pn,?_,w2.of E (fun z e'=>(cO z e').1) (fun z e' h=>?_)⟩
 ·rw [← hlen] at PN ⊢
  exact JV.b6 (v:=JV.obj (dB acc)) (al:=none) (cl:=0) aS.dI PN
 rcases List.mem_cons.1 h with h | h
 ·exact(cO z e').2.1 h
 exact IU z e' (by simp [h])
set_option maxRecDepth 10000
theorem cd {w:World} {e sz n:Nat} {v:Value} {vs:List Value} (O:Own w e sz v n vs) (bW:n≠0):∃ ad c,v = .slice (some ad) n c:=by
 rcases O.2 with⟨_,bD⟩ | ⟨g,o,c,cs,h,_⟩
 ·exact absurd bD bW
 exact⟨_,_,h⟩
theorem sJ {w:World} {e sz n:Nat} {v:Value} {vs h6 us:List Value} (bM:vs.length=n*sz) (cO:h6.length=sz) (O:Own w e sz v (n+1) ((vs++h6).take (n*sz)++us++(vs++h6).drop ((n+1)*sz))):Own w e sz v (n+1) (vs++us):=by
 have h1:(vs++h6).take (n*sz)=vs:=by rw [List.take_append_of_le_length (by omega),List.take_of_length_le (by omega)]
 have aj:(vs++h6).drop ((n+1)*sz) = []:=List.drop_eq_nil_of_le (by rw [List.length_append,bM,cO,Nat.add_mul,Nat.one_mul];exact Nat.le_refl _)
 rwa [h1,aj,List.append_nil] at O
theorem QJ {Z:List Nat} {w0 w:World} {g k:Nat} {s:U} {st:List km} {sk:Value} {cs:List Value} {fp:List Nat} {acc:List JV} {v:JV} {us:List Value} (H:lu (lC Z) w0 w g s k (.L acc::st) sk cs fp) (apv:ak (g::(aL sk++fp)) w v.D us) (bL:cs.length≤32) (ax:acc.length≤1000000) :
  Calls Tryz.prog 107 [.pointer (some ⟨g,0,none⟩),.agg us.toArray].toArray w (bI fun u w'=>u = .int .u8 93∧∃ gS,lu (lC Z) w0 w' g s k (.L (acc ++ [v])::st) sk cs gS∧kJ w w' g sk fp sk gS∧w2 Z w w'):=by
 refine enter Tryz.func107 rfl rfl rfl (l:=[(0,_),(1,_)]) ⟨rfl,rfl,trivial⟩ ?_
 have cO:=H.vj
 have B:=H.rd
 have O:=H.own
 obtain⟨g1,dN,vs,d',eI,rfl,rfl,fO,gG,AI,qy,kB,IU,Wh,_⟩:=H.LY
 obtain⟨ad,c0,rfl,fi,gA,C⟩:=oo O
 have pY:d'.length+1≤32:=by simpa using bL
 replace B:aD w g 75 _:=B
 have E:=Mod.refl (g1::aL dN) w
 have Wi:=apv
 obtain⟨al,cl,am,cm,rfl,kq,jh⟩:=JV.bc apv
 refine ae fun aX=>ef rfl rfl rfl fun g2 aE bO=>?_
 have sG:=bO.le E
 have n3:=bO.ne B
 have n4:=bO.ne fO
 have IT:=bO.cd gG
 replace B:=B.I bO.mod
 replace fO:=fO.I bO.mod
 replace gG:=gG.I bO.mod
 replace C:=C.mod bO.mod (by simp)
 replace E:=E.then bO.mod
 have cH:=bO.aA
 refine bb rfl (R aX (ay fun aM=>bK wide (by kernel_rfl) (fM 2 rfl rfl (ah (fun J=>(au eY rfl)) (ah (fun J=>(bh iM rfl ((B.I J).cell rfl))) (fM 2 rfl rfl (ah (fun J=>(au eY rfl)) (ah (fun J=>(bh iM rfl ((B.I J).cell rfl))) (ah (fun J=>(bx Tryz.underlying73 rfl)) (ah (fun J=>(eL (r:=((d'.length:Nat):Int)) rfl rfl (by rw [wrap64_in _ (by omega)];omega))) (ah (fun J=>(cf q5 rfl rfl (by omega))) (ah (fun J=>(bh zi rfl (l9 (C.mod J (by simp))))) ?_))))))))))))
 refine ah (fun J=>(cI rfl)) (bN rfl fun cY J=>?_)
 replace B:=B.I J
 replace fO:=fO.I J
 replace cH:=cH.I J
 replace gG:=gG.I J
 replace E:=E.then J
 refine az aM (ay fun bC=>ae fun bU=>aQ rfl (ao (Hc wZ rfl rfl) (aQ rfl (ao (dU rfl rfl) (ao (dU rfl rfl) (bb rfl (bb rfl (R bU (ae fun ca=>aQ rfl (R ca ?_))))))))))
 refine aU rfl (fun iR=>?_) (fun iR=>absurd iR (by decide))
 refine ay fun cA=>?_
 obtain⟨Wj,Wk,aV,gk,ej⟩:=gG.form
 subst aV
 refine CB [] [0,1,2,3,4,5,6] 7 [8,10,11] 9 12 wide (by kernel_rfl) (fun _ _ _ h=>h.2) (kU (fM 2 rfl rfl (ah (fun J=>(au wY rfl)) (ah (fun J=>(bh lM rfl ((fO.I J).cell rfl))) (ah (fun J=>(a8 (vs:=[_,_,_,_,_,_]) aK rfl rfl ((cH.I J).cs rfl))) (ah (fun J=>(bx Tryz.underlying22 rfl)) (ahJ (fun u di=>Own di 25 6 u 1 [.int .i64 0,.bool false,.int .i64 0,S [],.slice none 0 0,.slice none 0 0]) (fun cC sK nd nL aB=>aB.I nL) (fun di J=>⟨_,_,oq (cs:=[_,_,_,_,_,_]) ks cK rfl rfl rfl (by decide),(j5.mk' di 25 _).mod,Own.all (cs:=[_,_,_,_,_,_]) (j5.mk' di 25 _).aA rfl (by omega)⟩) rfl rfl rfl (qG (t:=33) rfl rfl rfl rfl fun gv cC J aB=>?_))))))))
 replace B:=B.I J
 replace fO:=fO.I J
 replace cH:=cH.I J
 replace gG:=gG.I J
 replace E:=E.then J
 have E3:=E.size
 have ys:=cH.lt
 refine cV ks rfl rfl gG (Src.own Tryz.underlying22 aB (by simp [Value.oneCell'])) (by decide) (by omega) (by omega) rfl fun v1 iH jX=>?_
 obtain⟨nX,c1,rfl⟩:=cd jX.own (by omega)
 replace fO:=fO.mod jX.mod qy
 replace cH:=cH.mod jX.mod (fun ab=>IT g2 ab rfl)
 replace E:=E.trans (jX.mod.mono (fun x ab=>List.mem_cons_of_mem _ ab))
 have p4:∀ x∈aL (.slice (some nX) (acc.length+1) c1),x∈aL (.slice Wj acc.length Wk)∨w.heap.size≤x:=fun x ab=>(jX.kn x ab).imp id (Nat.le_trans E3)
 have n6:g1∉aL (.slice (some nX) (acc.length+1) c1):=fun ab=>by
  rcases p4 g1 ab with h | h
  ·exact qy h
  have:=H.lt g1 (by simp);omega
 have MI:∀ {a b:World},Mod (aL (.slice (some nX) (acc.length+1) c1)) a b→Mod (g1::aL (.slice Wj acc.length Wk)) w a→Mod (g1::aL (.slice Wj acc.length Wk)) w b:=fun nL aB=>aB.trans' nL fun x ab=>(p4 x ab).imp (fun h=>List.mem_cons_of_mem _ h) id
 have CC:=jX.own
 have mv:vs.length=acc.length*6:=gG.len
 refine MJ (Tn (fun di=>cf ks rfl rfl (by omega)) rfl rfl (Tn (fun di=>dx rfl) rfl rfl (Tn (fun di=>au wY rfl) rfl rfl (kU ?_))))
 refine⟨?_,?_⟩
 ·refine sL (us:=[_,_,_,_,_,_]) (i:=acc.length) aK CC rfl rfl rfl (by simp [Value.oneCell']) (by omega) fun jO ahK Wl _=>?_
  replace fO:=fO.mod Wl (by simpa [aL] using n6)
  replace E:=MI Wl E
  refine ea lM fO rfl rfl rfl (by simp) fun jV ni=>?_
  replace fO:=ni.eq (cs':=[.slice (some nX) (acc.length+1) c1]) rfl
  replace CC:=(sJ mv rfl ahK).mod ni.mod (fun x ab e=>n6 (by rw [List.mem_singleton.1 e] at ab;exact ab))
  replace E:=E.trans (ni.mod.mono (by simp))
  obtain⟨pT,pn⟩:=Wh jV _ _ v E fO CC p4 Wi
  exact R cA (l7 fun Wm cM=>b8 (bb rfl (R cM (bg (a1 (by simp) (ar rfl rfl ⟨rfl,_,pT,pn,w2.of E (fun z e'=>(cO z e').1) IU⟩))))))
 refine ea lM fO rfl rfl rfl (by simp) fun jO hl=>?_
 replace fO:=hl.eq (cs':=[.slice (some nX) (acc.length+1) c1]) rfl
 replace CC:=CC.mod hl.mod (fun x ab e=>n6 (by rw [List.mem_singleton.1 e] at ab;exact ab))
 replace E:=E.trans (hl.mod.mono (by simp))
 refine sL (us:=[_,_,_,_,_,_]) (i:=acc.length) aK CC rfl rfl rfl (by simp [Value.oneCell']) (by omega) fun jV ahL Wn _=>?_
 replace fO:=fO.mod Wn (by simpa [aL] using n6)
 replace E:=MI Wn E
 replace CC:=sJ mv rfl ahL
 obtain⟨pT,pn⟩:=Wh jV _ _ v E fO CC p4 Wi
 exact R cA (l7 fun Wm cM=>b8 (bb rfl (R cM (bg (a1 (by simp) (ar rfl rfl ⟨rfl,_,pT,pn,w2.of E (fun z e'=>(cO z e').1) IU⟩))))))
set_option maxRecDepth 10000
theorem QK {Z:List Nat} {w0 w:World} {g k:Nat} {s:U} {st:List km} {sk:Value} {cs:List Value} {fp:List Nat} {acc:List (U×JV)} {t:U} {v:JV} {us:List Value} (H:lu (lC Z) w0 w g s k (.M acc t::st) sk cs fp) (apv:ak (g::(aL sk++fp)) w v.D us) (bL:cs.length≤32) (ax:acc.length≤1000000) :
  Calls Tryz.prog 107 [.pointer (some ⟨g,0,none⟩),.agg us.toArray].toArray w (bI fun u w'=>u = .int .u8 125∧∃ gS,lu (lC Z) w0 w' g s k (.A (acc ++ [(t,v)]) t::st) sk cs gS∧kJ w w' g sk fp sk gS∧w2 Z w w'):=by
 refine enter Tryz.func107 rfl rfl rfl (l:=[(0,_),(1,_)]) ⟨rfl,rfl,trivial⟩ ?_
 have cO:=H.vj
 have B:=H.rd
 have O:=H.own
 obtain⟨g1,b,dN,vs,d',eI,rfl,rfl,fO,hm,gG,AI,qy,kB,n7,n8,BA,n10,IU,Wh,_⟩:=H.L0 (fm:=.M acc t) (acc:=acc) (K:=acc.map (fun q:U×JV=>q.1) ++ [t]) (t:=t) (fun A w c m h=>h)
 obtain⟨ad,c0,rfl,fi,gA,C⟩:=oo O
 have pY:d'.length+1≤32:=by simpa using bL
 replace B:aD w g 75 _:=B
 have E:=Mod.refl (g::g1::b::aL dN) w
 have Wi:=apv
 obtain⟨al,cl,am,cm,rfl,kq,jh⟩:=JV.bc apv
 refine ae fun aX=>ef rfl rfl rfl fun g2 aE bO=>?_
 have sG:=bO.le E
 have n3:=bO.ne B
 have n4:=bO.ne fO
 have IT:=bO.cd gG
 replace B:=B.I bO.mod
 replace fO:=fO.I bO.mod
 replace hm:=hm.I bO.mod
 replace gG:=gG.I bO.mod
 replace C:=C.mod bO.mod (by simp)
 replace E:=E.then bO.mod
 have cH:=bO.aA
 refine bb rfl (R aX (ay fun aM=>bK wide (by kernel_rfl) (fM 2 rfl rfl (ah (fun J=>(au eY rfl)) (ah (fun J=>(bh iM rfl ((B.I J).cell rfl))) (fM 2 rfl rfl (ah (fun J=>(au eY rfl)) (ah (fun J=>(bh iM rfl ((B.I J).cell rfl))) (ah (fun J=>(bx Tryz.underlying73 rfl)) (ah (fun J=>(eL (r:=((d'.length:Nat):Int)) rfl rfl (by rw [wrap64_in _ (by omega)];omega))) (ah (fun J=>(cf q5 rfl rfl (by omega))) (ah (fun J=>(bh zi rfl (l9 (C.mod J (by simp))))) ?_))))))))))))
 refine ah (fun J=>(cI rfl)) (bN rfl fun cY J=>?_)
 replace B:=B.I J
 replace fO:=fO.I J
 replace hm:=hm.I J
 replace cH:=cH.I J
 replace gG:=gG.I J
 replace E:=E.then J
 refine az aM (ay fun bC=>ae fun bU=>aQ rfl (ao (Fs wZ (show ¬ (129:Nat)=163 by decide) MG rfl) (aQ rfl (ao (dU rfl rfl) (ao (dU rfl rfl) (bb rfl (bb rfl (R bU (ae fun ca=>aQ rfl (R ca ?_))))))))))
 refine aU rfl (fun iR=>absurd iR (by decide)) (fun iR=>cJ (az bC (ae fun db=>aQ rfl (ao (MH w1 rfl rfl) (bb rfl (R db (ay fun cA=>?_)))))))
 obtain⟨Wj,Wk,aV,gk,ej⟩:=gG.form
 subst aV
 refine CB [] [0,1,2,3,4,5,6,7,8,9,10,11] 12 [13,15,16] 14 17 wide (by kernel_rfl) (fun _ _ _ h=>h.2) (kU (fM 2 rfl rfl (ah (fun J=>(au wW rfl)) (ah (fun J=>(bh eg rfl ((fO.I J).cell rfl))) (fM 2 rfl rfl (ah (fun J=>(au sI rfl)) (ah (fun J=>(bh bH rfl ((fO.I J).cell rfl))) (ah (fun J=>(a8 (vs:=[_,_,_,_,_,_]) aK rfl rfl ((cH.I J).cs rfl))) (ah (fun J=>(bj (cs:=[_,_,_,_,_,_,_]) mu gV rfl rfl)) (ah (fun J=>(bx Tryz.underlying23 rfl)) (ahJ (fun u di=>Own di 51 7 u 1 [S [],.int .i64 0,.bool false,.int .i64 0,S [],.slice none 0 0,.slice none 0 0]) (fun cC sK nd nL aB=>aB.I nL) (fun di J=>⟨_,_,oq (cs:=[_,_,_,_,_,_,_]) dn gV rfl rfl rfl (by decide),(j5.mk' di 51 _).mod,Own.all (cs:=[_,_,_,_,_,_,_]) (j5.mk' di 51 _).aA rfl (by omega)⟩) rfl rfl rfl (qG (t:=51) rfl rfl rfl rfl fun gv cC J aB=>?_))))))))))))
 replace B:=B.I J
 replace fO:=fO.I J
 replace hm:=hm.I J
 replace cH:=cH.I J
 replace gG:=gG.I J
 replace E:=E.then J
 have E3:=E.size
 have ys:=cH.lt
 refine cV dn rfl rfl gG (Src.own Tryz.underlying23 aB (by simp [Value.oneCell'])) (by decide) (by omega) (by omega) rfl fun v1 iH jX=>?_
 obtain⟨nX,c1,rfl⟩:=cd jX.own (by omega)
 replace fO:=fO.mod jX.mod qy
 replace cH:=cH.mod jX.mod (fun ab=>IT g2 ab rfl)
 replace E:=E.trans (jX.mod.mono (fun x ab=>List.mem_cons_of_mem _ (List.mem_cons_of_mem _ (List.mem_cons_of_mem _ ab))))
 replace hm:=hm.mod jX.mod BA
 replace B:=B.mod jX.mod (fun ab=>n10 g ab rfl)
 have p4:∀ x∈aL (.slice (some nX) (acc.length+1) c1),x∈aL (.slice Wj acc.length Wk)∨w.heap.size≤x:=fun x ab=>(jX.kn x ab).imp id (Nat.le_trans E3)
 have n6:g1∉aL (.slice (some nX) (acc.length+1) c1):=fun ab=>by
  rcases p4 g1 ab with h | h
  ·exact qy h
  have:=H.lt g1 (by simp);omega
 have n11:b∉aL (.slice (some nX) (acc.length+1) c1):=fun ab=>by
  rcases p4 b ab with h | h
  ·exact BA h
  have:=H.lt b (by simp);omega
 have n12:g∉aL (.slice (some nX) (acc.length+1) c1):=fun ab=>by
  rcases p4 g ab with h | h
  ·exact n10 g h rfl
  have:=H.lt g (by simp);omega
 have MI:∀ {BB cC:World},Mod (aL (.slice (some nX) (acc.length+1) c1)) BB cC→Mod (g::g1::b::aL (.slice Wj acc.length Wk)) w BB→Mod (g::g1::b::aL (.slice Wj acc.length Wk)) w cC:=fun nL aB=>aB.trans' nL fun x ab=>(p4 x ab).imp (fun h=>List.mem_cons_of_mem _ (List.mem_cons_of_mem _ (List.mem_cons_of_mem _ h))) id
 have CC:=jX.own
 have mv:vs.length=acc.length*7:=gG.len
 refine MJ (Tn (fun di=>cf dn rfl rfl (by omega)) rfl rfl (Tn (fun di=>dx rfl) rfl rfl (Tn (fun di=>au wW rfl) rfl rfl (kU ?_))))
 refine⟨?_,?_⟩
 ·refine sL (us:=[_,_,_,_,_,_,_]) (i:=acc.length) nj CC rfl rfl rfl (by simp [Value.oneCell']) (by omega) fun jO ahK Wl _=>?_
  replace fO:=fO.mod Wl (by simpa [aL] using n6)
  replace hm:=hm.mod Wl (by simpa [aL] using n11)
  replace B:=B.mod Wl (by simpa [aL] using n12)
  replace E:=MI Wl E
  refine ea eg fO rfl rfl rfl (by simp) fun jV ni=>?_
  replace fO:=ni.eq (cs':=[.slice (some nX) (acc.length+1) c1,.map (some b),S t]) rfl
  replace CC:=(sJ mv rfl ahK).mod ni.mod (fun x ab e=>n6 (by rw [List.mem_singleton.1 e] at ab;exact ab))
  replace E:=E.trans (ni.mod.mono (by simp))
  replace hm:=hm.mod ni.mod (by simpa using Ne.symm n8)
  replace B:=B.mod ni.mod (by simpa using Ne.symm kB)
  obtain⟨pT,pn⟩:=Wh jV _ _ k (.A (acc ++ [(t,v)]) t) (acc ++ [(t,v)]) (acc.map (fun q:U×JV=>q.1) ++ [t]) t E B fO hm (by rw [List.length_append];exact CC) p4 (JV.w3 AI (JV.fB (p:=(t,v)) Wi)) (fun A w c m h=>by rw [show acc.map (fun q:U×JV=>q.1) ++ [t]=(acc ++ [(t,v)]).map (fun q:U×JV=>q.1)by simp] at h;exact h)
  exact R cA (l7 fun Wm cM=>b8 (bb rfl (R cM (bg (ar rfl rfl ⟨rfl,_,pT,pn,w2.of E (fun z e'=>(cO z e').1) (fun z e' h=>(List.mem_cons.1 h).elim (cO z e').2.1 (IU z e'))⟩)))))
 refine ea eg fO rfl rfl rfl (by simp) fun jO hl=>?_
 replace fO:=hl.eq (cs':=[.slice (some nX) (acc.length+1) c1,.map (some b),S t]) rfl
 replace CC:=CC.mod hl.mod (fun x ab e=>n6 (by rw [List.mem_singleton.1 e] at ab;exact ab))
 replace E:=E.trans (hl.mod.mono (by simp))
 replace hm:=hm.mod hl.mod (by simpa using Ne.symm n8)
 replace B:=B.mod hl.mod (by simpa using Ne.symm kB)
 refine sL (us:=[_,_,_,_,_,_,_]) (i:=acc.length) nj CC rfl rfl rfl (by simp [Value.oneCell']) (by omega) fun jV ahL Wn _=>?_
 replace fO:=fO.mod Wn (by simpa [aL] using n6)
 replace hm:=hm.mod Wn (by simpa [aL] using n11)
 replace B:=B.mod Wn (by simpa [aL] using n12)
 replace E:=MI Wn E
 replace CC:=sJ mv rfl ahL
 obtain⟨pT,pn⟩:=Wh jV _ _ k (.A (acc ++ [(t,v)]) t) (acc ++ [(t,v)]) (acc.map (fun q:U×JV=>q.1) ++ [t]) t E B fO hm (by rw [List.length_append];exact CC) p4 (JV.w3 AI (JV.fB (p:=(t,v)) Wi)) (fun A w c m h=>by rw [show acc.map (fun q:U×JV=>q.1) ++ [t]=(acc ++ [(t,v)]).map (fun q:U×JV=>q.1)by simp] at h;exact h)
 exact R cA (l7 fun Wm cM=>b8 (bb rfl (R cM (bg (ar rfl rfl ⟨rfl,_,pT,pn,w2.of E (fun z e'=>(cO z e').1) (fun z e' h=>(List.mem_cons.1 h).elim (cO z e').2.1 (IU z e'))⟩)))))
set_option maxRecDepth 10000
theorem AJ {w:World} {g T b:Nat} {cs:List Value} {m:List (U×Value)} (B:aD w g T cs) (apx:ij w b m):g≠b:=fun e=>by
 subst e;obtain⟨es,c,h,_⟩:=apx.at_;rw [show w.heap[g]? = _ from B] at h;cases h
abbrev po:List Value:=[.int .i64 0,.bool false,.int .i64 0,S [],.slice none 0 0,.slice none 0 0]
theorem tX {s:U} {k n:Nat} {x:JV×Nat} (h:gl s (ag aG s k)=some x):k' s k n = .ok (.inl x):=by
 unfold gl at h;unfold k'
 dsimp only
 split at h
 ·rename_i h1;rw [if_pos h1];injection h with h;rw [h]
 rename_i h1
 rw [if_neg h1]
 split at h
 ·rename_i aj;rw [if_pos aj];injection h with h;rw [h]
 rename_i aj
 rw [if_neg aj]
 split at h
 ·rename_i aF;rw [if_pos aF];injection h with h;rw [h]
 cases h
noncomputable def nv (s:U) (k n:Nat):Except Int (Sum (JV×Nat) (km×Nat)):=
 if av s k [34] then
  match ew s k with
  | none=>.error 4
  | some (t,dr)=>.ok (.inl (JV.aY t,dr))
 else if av s k [91]||av s k [123] then
  if n=32 then .error 5
  else
   let dr:=ag aG s (k+1)
   if av s k [91] then
    if av s dr [93] then .ok (.inl (JV.fw [],dr+1))else .ok (.inr (.L [],dr))
   else
    if av s dr [125] then .ok (.inl (JV.obj [],dr+1))
    else match ih s dr [] with
     | .error e=>.error e
     | .ok (t,iP)=>.ok (.inr (.M [] t,iP))
 else match hA s k with
  | .error e=>.error e
  | .ok x=>.ok (.inl x)
theorem tY {s:U} {k n:Nat} (h:gl s (ag aG s k)=none):k' s k n=nv s (ag aG s k) n:=by
 unfold gl at h;unfold k' nv
 dsimp only
 split at h
 ·cases h
 rename_i h1
 rw [if_neg h1]
 split at h
 ·cases h
 rename_i aj
 rw [if_neg aj]
 split at h
 ·cases h
 rename_i aF
 rw [if_neg aF];rfl
theorem IV {s:U} {k n:Nat} (h:k=s.length):nv s k n = .error 4:=by
 have bD:∀ c:UInt8,av s k [c]=false:=fun c=>br (by omega) (by simp);have cO:s.drop k = []:=List.drop_eq_nil_of_le (by omega);have bW:hA s k = .error 4:=by
  unfold hA gQ;rw [cO,List.take_nil,if_pos (by decide)];rfl
 unfold nv;rw [bD,bD,bD,bW];rfl
theorem nM {s:U} {k:Nat} {c:UInt8} (a6:s[k]? = some c) (d:UInt8):av s k [d]=decide (c=d):=ba a6
theorem IW {s:U} {k n:Nat} (a6:s[k]? = some 34):nv s k n=match ew s k with | none=>.error 4 | some (t,dr)=>.ok (.inl (JV.aY t,dr)):=by
 unfold nv;rw [nM a6,if_pos (by decide)]
theorem IX {s:U} {k n:Nat} (a6:s[k]? = some 91):nv s k n=if n=32 then .error 5 else if av s (ag aG s (k+1)) [93] then .ok (.inl (JV.fw [],ag aG s (k+1)+1))else .ok (.inr (.L [],ag aG s (k+1))):=by
 unfold nv;rw [nM a6,nM a6,nM a6,if_neg (by decide),if_pos (by decide)]
 by_cases bW:n=32
 ·rw [if_pos bW,if_pos bW]
 rw [if_neg bW,if_neg bW];exact if_pos (by decide)
theorem IY {s:U} {k n:Nat} (a6:s[k]? = some 123):nv s k n=if n=32 then .error 5 else if av s (ag aG s (k+1)) [125] then .ok (.inl (JV.obj [],ag aG s (k+1)+1))else match ih s (ag aG s (k+1)) [] with | .error e=>.error e | .ok (t,iP)=>.ok (.inr (.M [] t,iP)):=by
 unfold nv;rw [nM a6,nM a6,nM a6,if_neg (by decide),if_pos (by decide)]
 by_cases bW:n=32
 ·rw [if_pos bW,if_pos bW]
 rw [if_neg bW,if_neg bW];exact if_neg (by decide)
theorem IZ {s:U} {k n:Nat} {c:UInt8} (a6:s[k]? = some c) (h1:¬ c=34) (aj:¬ c=91) (aF:¬ c=123):nv s k n=match hA s k with | .error e=>.error e | .ok x=>.ok (.inl x):=by
 unfold nv;rw [nM a6,nM a6,nM a6,bX h1,bX aj,bX aF];rfl
def ahM (Z:List Nat) (w0 w:World) (g:Nat) (s:U) (st:List km) (sk:Value) (fp:List Nat):Sum (JV×Nat) (km×Nat)→Value→World→Prop
 | .inl (v,dr),u,w'=>∃ us fK cs' gS,u = .tuple #[.agg us.toArray,.bool true]∧lu (lC Z) w0 w' g s dr st fK cs' gS∧kJ w w' g sk fp fK gS∧ak (g::(aL fK++gS)) w' v.D us∧w2 Z w w'
 | .inr (fm,dr),u,w'=>∃ us fK cs' gS,u = .tuple #[.agg us.toArray,.bool false]∧us=po∧lu (lC Z) w0 w' g s dr (fm::st) fK cs' gS∧kJ w w' g sk fp fK gS∧w2 Z w w'
theorem QL:aP Tryz.prog 146:=aP.of Tryz.func146 (by kernel_rfl) (by kernel_rfl)
theorem Hd:aP Tryz.prog 148:=aP.of Tryz.func148 (by kernel_rfl) (by kernel_rfl)
theorem QM:aP Tryz.prog 149:=aP.of Tryz.func149 (by kernel_rfl) (by kernel_rfl)
theorem QN:aP Tryz.prog 84:=aP.of Tryz.func84 (by kernel_rfl) (by kernel_rfl)
theorem vE:aP Tryz.prog 109:=aP.of Tryz.func109 (by kernel_rfl) (by kernel_rfl)
theorem He:aP Tryz.prog 110:=aP.of Tryz.func110 (by kernel_rfl) (by kernel_rfl)
theorem Wo:tC Tryz.prog 165 [(0,1)]=true:=by kernel_rfl
theorem Wp:hq Tryz.prog 165 [.slice none 0 0]:=by unfold hq;kernel_rfl
theorem Wq:tC Tryz.prog 168 [(0,1),(1,1),(2,1)]=true:=by kernel_rfl
theorem Wr:hq Tryz.prog 168 [.slice none 0 0,.map none,S []]:=by unfold hq;kernel_rfl
theorem MK {Z:List Nat} {w0 w:World} {g k:Nat} {s:U} {st:List km} {sk:Value} {cs:List Value} {fp:List Nat} (H:lu (lC Z) w0 w g s k st sk cs fp) (aN:s.length≤65536) (hk:k≤s.length) (bL:cs.length≤32) (ed:Env w) (cN:IJ<g) (ahN:∀ x∈aL sk,IJ<x) :
  Calls Tryz.prog 106 [.pointer (some ⟨g,0,none⟩)].toArray w (Ix 124 (g::aL sk) w (k' s k st.length) (ahM Z w0 w g s st sk fp)):=by
 refine enter Tryz.func106 rfl rfl rfl (l:=[(0,_)]) ⟨rfl,trivial⟩ ?_
 have Ws:=ed
 have hlen:=H.len
 have cO:=H.vj
 have B:aD w g 75 _:=H.rd
 have sH:∀ x∈aL sk,x≠g:=fun x ab e=>H.qY (by subst e;simp [ab])
 have E:=Mod.refl [g] w
 have l1:ag aG s k≤s.length:=bZ hk
 refine ae fun aX=>bl cK rfl fun g2 aE bO=>?_
 have sG:=bO.le E
 have kB:=bO.ne B
 have IT:=bO.cd H.own
 replace B:=B.I bO.mod
 replace E:=E.then bO.mod
 have cH:=bO.aA
 refine bb rfl (R aX (ae fun aM=>aQ rfl (fP (bt AH rfl) (sD _ g s k sk B aN hk) rfl fun cC cY aB=>?_)))
 obtain⟨B,J⟩:=aB
 replace cH:=cH.mod J (by simpa using Ne.symm kB)
 replace E:=E.trans J
 refine R aM (ay fun a7=>ae fun bC=>aQ rfl (fP (bt QL rfl) (QE _ g s _ sk B aN l1) rfl fun cC gv aB=>?_))
 obtain⟨us,rfl,aR,bW,J⟩:=aB
 replace cH:=cH.mod J (by simpa using Ne.symm kB)
 replace E:=E.trans J
 cases hw:gl s (ag aG s k)with
 | some x=>
  obtain⟨v,q⟩:=x
  obtain⟨v',ahO,ahP,apv,B⟩:=aR (by rw [hw];rfl)
  obtain⟨al,cl,am,cm,rfl,_,_⟩:=JV.bc (apv [] w)
  refine aQ rfl (ao (dU rfl rfl) (ao (dU rfl rfl) (bl cK rfl fun g4 iH N4=>?_)))
  have Wt:=N4.le E
  have n3:=N4.ne B
  have n4:=N4.ne cH
  replace B:=B.I N4.mod
  replace cH:=cH.I N4.mod
  replace E:=E.then N4.mod
  refine bd (vs:=[_,_,_,_,_,_]) aK N4.aA rfl rfl rfl (by simp [Value.oneCell']) (by simp) fun jO hl=>?_
  have alz:=hl.eq (cs':=[_,_,_,_,_,_]) rfl
  replace B:=B.mod hl.mod (by simpa using n3)
  replace cH:=cH.mod hl.mod (by simpa using n4)
  replace E:=E.own hl.mod Wt
  refine bb rfl (R bC (l7 fun K5 bU=>b8 (aQ rfl (R bU ?_))))
  refine aU rfl (fun pw=>?_) (fun pw=>absurd pw (by simp))
  refine ae fun ca=>ao (a8 (vs:=[_,_,_,_,_,_]) aK rfl rfl (alz.cs rfl)) (bd (vs:=[_,_,_,_,_,_]) aK cH rfl rfl rfl (by simp [Value.oneCell']) (by simp) fun jV ni=>?_)
  have lD:=ni.eq (cs':=[_,_,_,_,_,_]) rfl
  replace B:=B.mod ni.mod (by simpa using kB)
  replace E:=E.own ni.mod sG
  exact bb rfl (R ca (bg (a1 (by simp) (oW (vs:=[_,_,_,_,_,_]) rfl aK rfl rfl (lD.cs rfl) rfl ⟨.inl (v',ahO),tX ahP,⟨_,sk,cs,fp,rfl,H.pZ B E,kJ.of E,apv _ _,(w2.of E (fun z e'=>(cO z e').1) (fun z e'=>by simpa using (cO z e').2.1))⟩,E.mono (by simp)⟩))))
 | none=>
  obtain⟨_,rfl,B⟩:=bW (by rw [hw];rfl)
  have lE:=tY (n:=st.length) hw
  refine aQ rfl (ao (dU rfl rfl) (ao (dU rfl rfl) (bl cK rfl fun g4 iH N4=>?_)))
  have Wt:=N4.le E
  have n3:=N4.ne B
  have n4:=N4.ne cH
  replace B:=B.I N4.mod
  replace cH:=cH.I N4.mod
  replace E:=E.then N4.mod
  refine bd (vs:=[_,_,_,_,_,_]) aK N4.aA rfl rfl rfl (by simp [Value.oneCell']) (by simp) fun jO hl=>?_
  have alz:=hl.eq (cs':=po) rfl
  replace B:=B.mod hl.mod (by simpa using n3)
  replace cH:=cH.mod hl.mod (by simpa using n4)
  replace E:=E.own hl.mod Wt
  refine bb rfl (R bC (l7 fun K5 bU=>b8 (aQ rfl (R bU (aU rfl (fun pw=>absurd pw (by simp)) (fun pw=>cJ (az a7 (ay fun cA=>fU (ay fun cM=>bK wide (by kernel_rfl) (fM 2 rfl rfl ?_))))))))))
  refine ah (fun J=>(au cn rfl)) (ah (fun J=>(bh dY rfl ((B.I J).cell rfl))) (fM 2 rfl rfl (ah (fun J=>(au eO rfl)) (ah (fun J=>(bh bH rfl ((B.I J).cell rfl))) (ah (fun J=>(bF Tryz.underlying9 rfl)) (ah (fun J=>(oC rfl rfl)) (ah (fun J=>(cI rfl)) (bN rfl fun jV J=>?_))))))))
  replace B:=B.I J
  replace cH:=cH.I J
  replace E:=E.then J
  refine az cM ?_
  refine bm rfl (fun k3=>?_) (fun k3=>?_)
  ·refine b8 ?_
   refine e4 (bt fg rfl) (ee _ 4) rfl (fun di aB=>aB.elim) (fun kZ ix aB=>?_) fun cC ix aB=>?_
   ·obtain⟨rfl,rfl⟩:=aB
    exact b5 (by simp) (a1 (by simp) (dt ⟨4,by rw [lE,IV (by omega)],by decide,rfl,E.mono (by simp)⟩))
   exact aB.elim
  obtain⟨c,a6⟩:∃ c,s[ag aG s k]? = some c:=⟨_,List.getElem?_eq_getElem (by omega)⟩
  refine ay fun db=>bK wide (by kernel_rfl) (fM 2 rfl rfl (ah (fun J=>(au eO rfl)) (ah (fun J=>(bh bH rfl ((B.I J).cell rfl))) (fM 2 rfl rfl (ah (fun J=>(au cn rfl)) (ah (fun J=>(bh dY rfl ((B.I J).cell rfl))) (ah (fun J=>(c8 Tryz.underlying9 rfl rfl (by omega) (by rw [Int.toNat_natCast];exact a6))) (ah (fun J=>(oC rfl rfl)) (ah (fun J=>(cI rfl)) (bN rfl fun anA J=>?_))))))))))
  replace B:=B.I J
  replace cH:=cH.I J
  replace E:=E.then J
  refine az db ?_
  refine bm rfl (fun Wu=>?_) (fun Wu=>?_)
  ·obtain rfl:c=34:=cQ (by rw [Wu];rfl)
   rw [IW a6] at lE
   refine ae fun cq=>aQ rfl ?_
   refine e4 (bt Ha rfl) (Cs _ g s (ag aG s k) sk B aN l1 (Ws.mG cN E).Vq) rfl (fun di aB=>aB) (fun kZ ix aB=>?_) fun cC ix aB=>?_
   ·obtain⟨e,he,bD,rfl,J⟩:=aB
    refine a1 (by simp) (b5 (by simp) (a1 (by simp) ?_))
    refine dt ⟨e,?_,bD,rfl,(E.trans J).mono (by simp)⟩
    rw [lE]
    cases h:ew s (ag aG s k)with
    | none=>rw [h] at he;cases he;rfl
    | some x=>rw [h] at he;cases he
   obtain⟨⟨t,dr⟩,he,⟨rfl,B⟩,J⟩:=aB
   have bQ:ew s (ag aG s k)=some (t,dr):=by
    cases h:ew s (ag aG s k)with
    | none=>rw [h] at he;cases he
    | some x=>rw [h] at he;cases he;rfl
   rw [bQ] at lE
   replace cH:=cH.mod J (by simpa using Ne.symm kB)
   replace E:=E.trans J
   refine cD (bt QN rfl) (lf _ t) fun pD J=>?_
   replace B:=B.I J
   replace cH:=cH.I J
   replace E:=E.then J
   refine bd (vs:=[_,_,_,_,_,_]) aK cH rfl rfl rfl (by simp [Value.oneCell']) (by simp) fun lL nH=>?_
   have lD:=nH.eq (cs':=[_,_,_,_,_,_]) rfl
   replace B:=B.mod nH.mod (by simpa using kB)
   replace E:=E.own nH.mod sG
   exact bb rfl (R cq (bg (b5 (by simp) (a1 (by simp) (oW (vs:=[_,_,_,_,_,_]) rfl aK rfl rfl (lD.cs rfl) rfl ⟨.inl (JV.aY t,dr),lE,⟨_,sk,cs,fp,rfl,H.pZ B E,kJ.of E,JV.b6 (v:=JV.aY t) (al:=none) (am:=none) (cl:=0) (cm:=0) aS.dI aS.dI,(w2.of E (fun z e'=>(cO z e').1) (fun z e'=>by simpa using (cO z e').2.1))⟩,E.mono (by simp)⟩)))))
  have acq:¬ c=34:=fun e=>Wu (by rw [e];rfl)
  refine ay fun cj=>bK wide (by kernel_rfl) (fM 2 rfl rfl (ah (fun J=>(au eO rfl)) (ah (fun J=>(bh bH rfl ((B.I J).cell rfl))) (fM 2 rfl rfl (ah (fun J=>(au cn rfl)) (ah (fun J=>(bh dY rfl ((B.I J).cell rfl))) (ah (fun J=>(c8 Tryz.underlying9 rfl rfl (by omega) (by rw [Int.toNat_natCast];exact a6))) (ah (fun J=>(oC rfl rfl)) (ah (fun J=>(cI rfl)) (bN rfl fun alA J=>?_))))))))))
  replace B:=B.I J
  replace cH:=cH.I J
  replace E:=E.then J
  refine az cj ?_
  refine bm rfl (fun Wv=>?_) (fun Wv=>?_)
  ·obtain rfl:c=91:=cQ (by rw [Wv];rfl)
   rw [IX a6] at lE
   refine ae fun dH=>aQ rfl (ao (bj (us:=[]) (cs:=[_]) Wo Wp rfl rfl) (ef rfl rfl rfl fun g5 ix fh=>?_))
   have ML:=fh.le E
   have n6:=fh.ne B
   have n7:=fh.ne cH
   replace B:=B.I fh.mod
   replace cH:=cH.I fh.mod
   have iD:=cH.lt
   replace E:=E.then fh.mod
   have zj:=fh.aA
   refine ao (Ft wZ rfl rfl) ?_
   refine e4 (bt Hd rfl) (G' B (H.own.mod E (fun x ab e=>sH x ab (by simpa using e))) sH aN l1 bL) rfl (fun di aB=>aB) (fun kZ pD aB=>?_) fun cC pD aB=>?_
   ·obtain⟨e,he,bD,rfl,J⟩:=aB
    refine a1 (by simp) (b5 (by simp) (a1 (by simp) ?_))
    refine dt ⟨e,?_,bD,rfl,(E.mono (by simp)).trans J⟩
    by_cases Fu:cs.length=32
    ·rw [if_pos Fu] at he
     rw [lE,if_pos (by omega)]
     cases he;rfl
    rw [if_neg Fu] at he;cases he
   obtain⟨_,he,⟨_,fK,B,Bz,w4⟩,J⟩:=aB
   have Fu:¬ cs.length=32:=fun h=>by rw [if_pos h] at he;cases he
   rw [if_neg (by omega)] at lE
   have fi:cs.length+1≤32:=by omega
   have n8:g5∉g::aL sk:=fun h=>by
    rcases List.mem_cons.1 h with h | h
    ·exact n6 h.symm
    have:=H.lt g5 (by simp [h]);omega
   have BA:g2∉g::aL sk:=fun h=>by
    rcases List.mem_cons.1 h with h | h
    ·exact kB h.symm
    have:=H.lt g2 (by simp [h]);omega
   replace cH:=cH.mod J BA
   replace zj:=zj.mod J n8
   have ahQ:=E.size
   have Fv:=fh.aA.lt
   have lB:∀ x∈aL fK,x∈aL sk∨ix.heap.size≤x:=w4
   replace E:Mod (g::aL sk) w pD:=(E.mono (by simp)).trans J
   have yf:∀ x∈aL fK,x≠g2:=fun x ab e=>by
    subst e
    rcases w4 x ab with h | h
    ·exact BA (by simp [h])
    omega
   have acr:∀ x∈aL fK,x≠g5:=fun x ab e=>by
    subst e
    rcases w4 x ab with h | h
    ·exact n8 (by simp [h])
    omega
   have I0:∀ x∈aL fK,x≠g:=fun x ab e=>by
    subst e
    rcases w4 x ab with h | h
    ·exact sH x h rfl
    have:=H.rd.lt;have:=fh.at_;omega
   have MM:∀ z∈Z,z∉g::aL sk:=fun z e' h=>by
    rcases List.mem_cons.1 h with h | h
    ·exact(cO z e').2.1 h
    exact(cO z e').2.2 h
   refine R dH (ay fun cL=>ae fun dz=>aQ rfl ?_)
   have bY:ag aG s k+1≤s.length:=(List.getElem?_eq_some_iff.1 a6).1
   refine fP (bt mI rfl) (rT _ g s _ fK B aN bY 93) rfl fun cC lL aB=>?_
   obtain⟨rfl,B,J⟩:=aB
   replace cH:=cH.mod J (by simpa using Ne.symm kB)
   replace zj:=zj.mod J (by simpa using Ne.symm n6)
   replace Bz:=Bz.mod J (fun x ab e=>I0 x ab (by simpa using e))
   replace E:=E.trans (J.mono (by simp))
   refine R dz ?_
   refine aU rfl (fun Ww=>?_) (fun Ww=>?_)
   ·rw [if_pos Ww] at lE B
    refine ae fun dS=>aQ rfl (fP (bt vE rfl) (Cy B (by simpa using Bz) zj (Ne.symm n6) I0 (by omega)) rfl fun cC iy aB=>?_)
    obtain⟨rfl,⟨ahR,B,qp,ig⟩,J⟩:=aB
    replace cH:=cH.mod J (by simpa using Ne.symm kB)
    replace E:=E.trans (J.mono (by simp))
    refine bd (vs:=[_,_,_,_,_,_]) aK cH rfl rfl rfl (by simp [Value.oneCell']) (by simp) fun j1 eh=>?_
    have lD:=eh.eq (cs':=[_,_,_,_,_,_]) rfl
    replace B:=B.mod eh.mod (by simpa using kB)
    replace E:=E.own eh.mod sG
    refine bb rfl (R dS (bg (a1 (by simp) (b5 (by simp) (a1 (by simp) ?_)))))
    obtain⟨pT,pn⟩:=H.GW E B (qp.mod eh.mod (fun x ab e=>yf x (ig▸ab) (by simpa using e))) (fun x ab=>(lB x (ig▸ab)).imp id (fun h=>by have:=fh.at_;omega))
    exact oW (vs:=[_,_,_,_,_,_]) rfl aK rfl rfl (lD.cs rfl) rfl ⟨.inl (JV.fw [],_),lE,⟨_,_,cs,fp,rfl,pT,pn,JV.b6 (v:=JV.fw []) (al:=none) (am:=none) (cl:=0) (cm:=0) aS.dI aS.dI,(w2.of E (fun z e'=>(cO z e').1) MM)⟩,E⟩
   rw [if_neg (by simpa using Ww)] at lE B
   refine cJ (az cL (ae fun eD=>ao (bj (us:=[]) (cs:=[_,_,_,_,_,_]) iI cK rfl rfl) (bd (vs:=[_,_,_,_,_,_]) aK cH rfl rfl rfl (by simp [Value.oneCell']) (by simp) fun j1 eh=>?_)))
   have lD:=eh.eq (cs':=[_,_,_,_,_,_]) rfl
   replace B:=B.mod eh.mod (by simpa using kB)
   replace zj:=zj.mod eh.mod (by simpa using Ne.symm n7)
   replace E:=E.own eh.mod sG
   refine bb rfl (R eD (bg (b5 (by simp) (a1 (by simp) ?_))))
   obtain⟨pT,pn⟩:=H.push (N:=ix.heap.size) (fm:=.L []) (c:=.iface 163 (.pointer (some ⟨g5,0,none⟩))) (m:=[g5]) E (by have:=fh.at_;omega) (fun x ab=>by rw [List.mem_singleton.1 ab];exact⟨ML,Fv⟩) B (Bz.mod eh.mod (fun x ab e=>yf x ab (by simpa using e))) lB (fun A=>⟨g5,.slice none 0 0,rfl,⟨zj,⟨[],Own.nil _ _ _,ak.lN⟩,by simp [aL]⟩,rfl⟩)
   exact oW (vs:=[_,_,_,_,_,_]) rfl aK rfl rfl (lD.cs rfl) rfl ⟨.inr (.L [],_),lE,⟨_,_,_,_,rfl,rfl,pT,pn,(w2.of E (fun z e'=>(cO z e').1) MM)⟩,E⟩
  have acs:¬ c=91:=fun e=>Wv (by rw [e];rfl)
  refine ay fun fl=>bK wide (by kernel_rfl) (fM 2 rfl rfl (ah (fun J=>(au eO rfl)) (ah (fun J=>(bh bH rfl ((B.I J).cell rfl))) (fM 2 rfl rfl (ah (fun J=>(au cn rfl)) (ah (fun J=>(bh dY rfl ((B.I J).cell rfl))) (ah (fun J=>(c8 Tryz.underlying9 rfl rfl (by omega) (by rw [Int.toNat_natCast];exact a6))) (ah (fun J=>(oC rfl rfl)) (ah (fun J=>(cI rfl)) (bN rfl fun alB J=>?_))))))))))
  replace B:=B.I J
  replace cH:=cH.I J
  replace E:=E.then J
  refine az fl ?_
  refine bm rfl (fun Wx=>?_) (fun Wx=>?_)
  rotate_left
  ·have WB:¬ c=123:=fun e=>Wx (by rw [e];rfl)
   refine cJ (b5 (by simp) (az cA ?_))
   rw [IZ a6 acq acs WB] at lE
   refine ae fun ib=>aQ rfl ?_
   refine e4 (bt QM rfl) (Fh _ g s (ag aG s k) sk B aN l1 (Ws.mG cN E) cN) rfl (fun di aB=>aB) (fun kZ ix aB=>?_) fun cC ix aB=>?_
   ·obtain⟨e,he,bD,rfl,J⟩:=aB
    exact a1 (by simp) (dt ⟨e,by rw [lE,he],bD,rfl,(E.trans J).mono (by simp)⟩)
   obtain⟨⟨v,dr⟩,he,⟨us,rfl,apv,B⟩,J⟩:=aB
   rw [he] at lE
   obtain⟨al,cl,am,cm,rfl,_,_⟩:=JV.bc (apv [] w)
   replace cH:=cH.mod J (by simpa using Ne.symm kB)
   replace E:=E.trans J
   refine bd (vs:=[_,_,_,_,_,_]) aK cH rfl rfl rfl (by simp [Value.oneCell']) (by simp) fun lL nH=>?_
   have lD:=nH.eq (cs':=[_,_,_,_,_,_]) rfl
   replace B:=B.mod nH.mod (by simpa using kB)
   replace E:=E.own nH.mod sG
   exact bb rfl (R ib (bg (oW (vs:=[_,_,_,_,_,_]) rfl aK rfl rfl (lD.cs rfl) rfl ⟨.inl (v,dr),lE,⟨_,sk,cs,fp,rfl,H.pZ B E,kJ.of E,apv _ _,(w2.of E (fun z e'=>(cO z e').1) (fun z e'=>by simpa using (cO z e').2.1))⟩,E.mono (by simp)⟩)))
  obtain rfl:c=123:=cQ (by rw [Wx];rfl)
  rw [IY a6] at lE
  refine ae fun e0=>QO rfl fun b q1 ot ahS ahT=>?_
  have ahU:w.heap.size≤b:=by have:=E.size;omega
  replace B:=B.I ahT
  replace cH:=cH.I ahT
  replace E:=E.then ahT
  have Wy:=AJ B ot
  have acu:=AJ cH ot
  refine ao (bj (cs:=[_,_,_]) Wq Wr rfl rfl) (ef rfl rfl rfl fun g5 ix fh=>?_)
  have ML:=fh.le E
  have n6:=fh.ne B
  have n7:=fh.ne cH
  replace B:=B.I fh.mod
  replace cH:=cH.I fh.mod
  replace ot:=ot.I fh.mod
  have iD:=cH.lt
  have Wz:=ot.lt
  replace E:=E.then fh.mod
  have zj:=fh.aA
  have acv:=AJ zj ot
  refine bb rfl (R e0 (ae fun gW=>aQ rfl (aQ rfl (ao (Ft w1 rfl rfl) ?_))))
  refine e4 (bt Hd rfl) (G' B (H.own.mod E (fun x ab e=>sH x ab (by simpa using e))) sH aN l1 bL) rfl (fun di aB=>aB) (fun kZ pD aB=>?_) fun cC pD aB=>?_
  ·obtain⟨e,he,bD,rfl,J⟩:=aB
   refine a1 (by simp) (b5 (by simp) (a1 (by simp) ?_))
   refine dt ⟨e,?_,bD,rfl,(E.mono (by simp)).trans J⟩
   by_cases Fu:cs.length=32
   ·rw [if_pos Fu] at he
    rw [lE,if_pos (by omega)]
    cases he;rfl
   rw [if_neg Fu] at he;cases he
  obtain⟨_,he,⟨_,fK,B,Bz,w4⟩,J⟩:=aB
  have Fu:¬ cs.length=32:=fun h=>by rw [if_pos h] at he;cases he
  rw [if_neg (by omega)] at lE
  have fi:cs.length+1≤32:=by omega
  have n8:g5∉g::aL sk:=fun h=>by
   rcases List.mem_cons.1 h with h | h
   ·exact n6 h.symm
   have:=H.lt g5 (by simp [h]);omega
  have acw:b∉g::aL sk:=fun h=>by
   rcases List.mem_cons.1 h with h | h
   ·exact Wy h.symm
   have:=H.lt b (by simp [h]);omega
  have BA:g2∉g::aL sk:=fun h=>by
   rcases List.mem_cons.1 h with h | h
   ·exact kB h.symm
   have:=H.lt g2 (by simp [h]);omega
  replace cH:=cH.mod J BA
  replace zj:=zj.mod J n8
  replace ot:=ot.mod J acw
  have ahQ:=E.size
  have Fv:=fh.aA.lt
  have lB:∀ x∈aL fK,x∈aL sk∨ix.heap.size≤x:=w4
  replace E:Mod (g::aL sk) w pD:=(E.mono (by simp)).trans J
  have yf:∀ x∈aL fK,x≠g2:=fun x ab e=>by
   subst e
   rcases w4 x ab with h | h
   ·exact BA (by simp [h])
   omega
  have acr:∀ x∈aL fK,x≠g5:=fun x ab e=>by
   subst e
   rcases w4 x ab with h | h
   ·exact n8 (by simp [h])
   omega
  have IQ:∀ x∈aL fK,x≠b:=fun x ab e=>by
   subst e
   rcases w4 x ab with h | h
   ·exact acw (by simp [h])
   omega
  have I0:∀ x∈aL fK,x≠g:=fun x ab e=>by
   subst e
   rcases w4 x ab with h | h
   ·exact sH x h rfl
   have:=H.rd.lt;have:=fh.at_;omega
  have MM:∀ z∈Z,z∉g::aL sk:=fun z e' h=>by
   rcases List.mem_cons.1 h with h | h
   ·exact(cO z e').2.1 h
   exact(cO z e').2.2 h
  refine R gW (ay fun hx=>ae fun gy=>aQ rfl ?_)
  have bY:ag aG s k+1≤s.length:=(List.getElem?_eq_some_iff.1 a6).1
  refine fP (bt mI rfl) (rT _ g s _ fK B aN bY 125) rfl fun cC lL aB=>?_
  obtain⟨rfl,B,J⟩:=aB
  replace cH:=cH.mod J (by simpa using Ne.symm kB)
  replace zj:=zj.mod J (by simpa using Ne.symm n6)
  replace ot:=ot.mod J (by simpa using Ne.symm Wy)
  replace Bz:=Bz.mod J (fun x ab e=>I0 x ab (by simpa using e))
  replace E:=E.trans (J.mono (by simp))
  refine R gy ?_
  refine aU rfl (fun WA=>?_) (fun WA=>?_)
  ·rw [if_pos WA] at lE B
   refine l7 fun ahV gz=>b8 (aQ rfl (fP (bt vE rfl) (CA (A:=[]) (wr:=w) (acc:=[]) (vs:=[]) B (by simpa using Bz) zj (Own.nil _ _ _) ak.lN List.nodup_nil (Ne.symm n6) I0 (by simp [aL]) (by simp [aL]) (by omega) (by simp)) rfl fun cC iy aB=>?_))
   obtain⟨rfl,⟨ahR,B,qp,ig⟩,J,_,_⟩:=aB
   replace J:Mod [g] lL iy:=J
   replace cH:=cH.mod J (by simpa using Ne.symm kB)
   replace E:=E.trans (J.mono (by simp))
   refine bd (vs:=[_,_,_,_,_,_]) aK cH rfl rfl rfl (by simp [Value.oneCell']) (by simp) fun j1 eh=>?_
   have lD:=eh.eq (cs':=[_,_,_,_,_,_]) rfl
   replace B:=B.mod eh.mod (by simpa using kB)
   replace E:=E.own eh.mod sG
   refine bb rfl (R gz (bg (a1 (by simp) (b5 (by simp) (a1 (by simp) ?_)))))
   obtain⟨pT,pn⟩:=H.GW E B (qp.mod eh.mod (fun x ab e=>yf x (ig▸ab) (by simpa using e))) (fun x ab=>(lB x (ig▸ab)).imp id (fun h=>by have:=fh.at_;omega))
   exact oW (vs:=[_,_,_,_,_,_]) rfl aK rfl rfl (lD.cs rfl) rfl ⟨.inl (JV.obj [],_),lE,⟨_,_,cs,fp,rfl,pT,pn,JV.b6 (v:=JV.obj []) (al:=none) (am:=none) (cl:=0) (cm:=0) aS.dI aS.dI,(w2.of E (fun z e'=>(cO z e').1) MM)⟩,E⟩
  rw [if_neg (by simpa using WA)] at lE B
  refine cJ (az hx (l7 fun ahV gz=>b8 (aQ rfl (aQ rfl ?_))))
  refine e4 (bt He rfl) (Hb (K:=[]) (m:=[]) B zj ot (Ne.symm n6) Wy acv (fun t=>by simp [look]) aN (bZ bY) (Ws.mod E (fun x ab=>by
   rcases List.mem_cons.1 ab with rfl | ab
   ·exact cN
   exact ahN x ab)) cN) rfl (fun di aB=>aB) (fun kZ iy aB=>?_) fun cC iy aB=>?_
  ·obtain⟨e,he,bD,rfl,J⟩:=aB
   refine a1 (by simp) (b5 (by simp) (a1 (by simp) ?_))
   refine dt ⟨e,by rw [lE,he],bD,rfl,E.trans' J (fun x ab=>?_)⟩
   simp only [List.mem_cons,List.not_mem_nil,or_false] at ab
   rcases ab with rfl | rfl | rfl
   ·exact .inl (by simp)
   ·exact .inr ML
   exact .inr ahU
  obtain⟨⟨t,iP⟩,he,⟨rfl,B,zj,ot,_⟩,J⟩:=aB
  rw [he] at lE
  have MN:∀ {x:Nat},x≠g→x≠g5→x≠b→x∉[g,g5,b]:=fun h1 aj aF=>by simp [h1,aj,aF]
  replace cH:=cH.mod J (MN (Ne.symm kB) n7 acu)
  replace Bz:=Bz.mod J (fun x ab=>MN (I0 x ab) (acr x ab) (IQ x ab))
  replace E:=E.trans' J (fun x ab=>by
   simp only [List.mem_cons,List.not_mem_nil,or_false] at ab
   rcases ab with rfl | rfl | rfl
   ·exact .inl (by simp)
   ·exact .inr ML
   exact .inr ahU)
  refine R gz (ae fun hJ=>ao (bj (us:=[]) (cs:=[_,_,_,_,_,_]) iI cK rfl rfl) (bd (vs:=[_,_,_,_,_,_]) aK cH rfl rfl rfl (by simp [Value.oneCell']) (by simp) fun j1 eh=>?_))
  have lD:=eh.eq (cs':=[_,_,_,_,_,_]) rfl
  replace B:=B.mod eh.mod (by simpa using kB)
  replace zj:=zj.mod eh.mod (by simpa using Ne.symm n7)
  replace ot:=ot.mod eh.mod (by simpa using Ne.symm acu)
  replace E:=E.own eh.mod sG
  refine bb rfl (R hJ (bg (b5 (by simp) (a1 (by simp) ?_))))
  obtain⟨pT,pn⟩:=H.push (N:=ix.heap.size) (fm:=.M [] t) (c:=.iface 129 (.pointer (some ⟨g5,0,none⟩))) (m:=[g5,b]) E (by have:=fh.at_;omega) (fun x ab=>by
   simp only [List.mem_cons,List.not_mem_nil,or_false] at ab
   rcases ab with rfl | rfl
   ·exact⟨ML,Fv⟩
   exact⟨ahU,Wz⟩) B (Bz.mod eh.mod (fun x ab e=>yf x ab (by simpa using e))) lB (fun A=>⟨g5,b,.slice none 0 0,rfl,⟨zj,ot,⟨[],Own.nil _ _ _,ak.lN⟩,acv,by simp [aL],by simp [aL]⟩,rfl⟩)
  exact oW (vs:=[_,_,_,_,_,_]) rfl aK rfl rfl (lD.cs rfl) rfl ⟨.inr (.M [] t,iP),lE,⟨_,_,_,_,rfl,rfl,pT,pn,(w2.of E (fun z e'=>(cO z e').1) MM)⟩,E⟩
theorem uY (p:UInt8→Bool) (s:U):∀ (n k:Nat),s.length-k≤n→ag p s (ag p s k)=ag p s k
 | 0,k,h=>by
  have e:ag p s k=k:=jq (by omega)
  rw [e,e]
 | n+1,k,h=>by
  rcases Nat.lt_or_ge k s.length with hk | hk
  ·obtain⟨c,a6⟩:∃ c,s[k]? = some c:=⟨_,List.getElem?_eq_getElem hk⟩
   cases bJ:p c with
   | true=>rw [← tH a6 bJ];exact uY p s n (k+1) (by omega)
   | false=>
    have e:=jG a6 bJ
    rw [e,e]
  have e:ag p s k=k:=jq hk
  rw [e,e]
theorem ma {p:UInt8→Bool} {s:U} {k:Nat}:ag p s (ag p s k)=ag p s k:=uY p s _ k (Nat.le_refl _)
def km.sz:km→Nat
 | .L acc=>acc.length
 | .M acc _=>acc.length
 | .A acc _=>acc.length
section
variable {s:U} {k:Nat} {st:List km} {r:yo}
theorem MP {e:Int} (h:gL s none k st r) (aH:k' s k st.length = .error e):r = .error e:=by
 cases h with
 | err h1=>rw [aH] at h1;injection h1 with h1;rw [h1]
 | whole h1 _=>rw [aH] at h1;cases h1
 | push h1 _=>rw [aH] at h1;cases h1
theorem Fy {v:JV} {dr:Nat} (h:gL s none k st r) (aH:k' s k st.length = .ok (.inl (v,dr))):gL s (some v) dr st r:=by
 cases h with
 | err h1=>rw [aH] at h1;cases h1
 | whole h1 aj=>rw [aH] at h1;cases h1;exact aj
 | push h1 _=>rw [aH] at h1;cases h1
theorem I6 {x:km} {dr:Nat} (h:gL s none k st r) (aH:k' s k st.length = .ok (.inr (x,dr))):gL s none dr (x::st) r:=by
 cases h with
 | err h1=>rw [aH] at h1;cases h1
 | whole h1 aj=>rw [aH] at h1;cases h1
 | push h1 aj=>rw [aH] at h1;cases h1;exact aj
theorem I9 {v:JV} (h:gL s (some v) k [] r):r = .ok (v,k):=by cases h;rfl
theorem I' {v:JV} {acc:List JV} (h:gL s (some v) k (.L acc::st) r) (h1:av s (ag aG s k) [93]=true):gL s (some (JV.fw (acc ++ [v]))) (ag aG s k+1) st r:=by
 cases h with
 | GO _ aF=>exact aF
 | wA aj _ _=>rw [h1] at aj;cases aj
 | GP aj _=>rw [h1] at aj;cases aj
theorem FC {v:JV} {acc:List JV} (h:gL s (some v) k (.L acc::st) r) (h1:av s (ag aG s k) [93]=false) (aj:av s (ag aG s k) [44]=true):gL s none (ag aG s k+1) (.L (acc ++ [v])::st) r:=by
 cases h with
 | GO aF _=>rw [h1] at aF;cases aF
 | wA _ _ aF=>exact aF
 | GP _ aF=>rw [aj] at aF;cases aF
theorem Ja {v:JV} {acc:List JV} (h:gL s (some v) k (.L acc::st) r) (h1:av s (ag aG s k) [93]=false) (aj:av s (ag aG s k) [44]=false):r = .error 4:=by
 cases h with
 | GO aF _=>rw [h1] at aF;cases aF
 | wA _ aF _=>rw [aj] at aF;cases aF
 | GP _ aF=>rfl
theorem Jb {v:JV} {acc:List (U×JV)} {t:U} (h:gL s (some v) k (.M acc t::st) r) (h1:av s (ag aG s k) [125]=true):gL s (some (JV.obj (dB (acc ++ [(t,v)])))) (ag aG s k+1) st r:=by
 cases h with
 | Cc _ aF=>exact aF
 | tI aj _ _ _=>rw [h1] at aj;cases aj
 | Cd aj _ _=>rw [h1] at aj;cases aj
 | Ce aj _=>rw [h1] at aj;cases aj
theorem FD {v:JV} {acc:List (U×JV)} {t t':U} {jH:Nat} (h:gL s (some v) k (.M acc t::st) r) (h1:av s (ag aG s k) [125]=false) (aj:av s (ag aG s k) [44]=true) (aF:ih s (ag aG s k+1) (dB (acc ++ [(t,v)])) = .ok (t',jH)):gL s none jH (.M (acc ++ [(t,v)]) t'::st) r:=by
 cases h with
 | Cc bn _=>rw [h1] at bn;cases bn
 | tI _ _ bn ch=>rw [aF] at bn;cases bn;exact ch
 | Cd _ _ bn=>rw [aF] at bn;cases bn
 | Ce _ bn=>rw [aj] at bn;cases bn
theorem Jd {v:JV} {acc:List (U×JV)} {t:U} {e:Int} (h:gL s (some v) k (.M acc t::st) r) (h1:av s (ag aG s k) [125]=false) (aj:av s (ag aG s k) [44]=true) (aF:ih s (ag aG s k+1) (dB (acc ++ [(t,v)])) = .error e):r = .error e:=by
 cases h with
 | Cc bn _=>rw [h1] at bn;cases bn
 | tI _ _ bn ch=>rw [aF] at bn;cases bn
 | Cd _ _ bn=>rw [aF] at bn;injection bn with bn;rw [bn]
 | Ce _ bn=>rw [aj] at bn;cases bn
theorem Jc {v:JV} {acc:List (U×JV)} {t:U} (h:gL s (some v) k (.M acc t::st) r) (h1:av s (ag aG s k) [125]=false) (aj:av s (ag aG s k) [44]=false):r = .error 4:=by
 cases h with
 | Cc bn _=>rw [h1] at bn;cases bn
 | tI _ bn _ _=>rw [aj] at bn;cases bn
 | Cd _ bn _=>rw [aj] at bn;cases bn
 | Ce _ bn=>rfl
theorem WH {v:JV} {acc:List (U×JV)} {t:U} (h:gL s (some v) k (.A acc t::st) r):False:=by cases h
end
theorem CG {s:U} {k q:Nat} {v:JV} (h:gl s k=some (v,q)):k<q∧q≤s.length:=by
 unfold gl at h
 split at h
 ·rename_i h1;have:=cg h1 (by decide);cases h;simp [JV.kF] at this;omega
 split at h
 ·rename_i h1;have:=cg h1 (by decide);cases h;simp [JV.jo] at this;omega
 split at h
 ·rename_i h1;have:=cg h1 (by decide);cases h;simp [JV.hD] at this;omega
 cases h
theorem MS {s:U} {k n dr:Nat} {v:JV} (h:k' s k n = .ok (.inl (v,dr))) (hk:k≤s.length):k<dr∧dr≤s.length:=by
 have cN:=bG aG s k;have bM:=bZ (p:=aG) hk;cases hw:gl s (ag aG s k)with
 | some x=>
  rw [tX hw] at h;cases h;have:=CG hw;omega
 | none=>
  rw [tY hw] at h;unfold nv at h
  split at h
  ·cases bQ:ew s (ag aG s k)with
   | none=>rw [bQ] at h;cases h
   | some x=>
    rw [bQ] at h;cases h;have:=nr bQ;omega
  split at h
  rotate_left
  ·cases ab:hA s (ag aG s k)with
   | error e=>rw [ab] at h;cases h
   | ok x=>
    rw [ab] at h;cases h;have:=uP ab bM;omega
  split at h
  ·cases h
  rename_i aF bn
  have ch:ag aG s k<s.length:=by
   rcases Nat.lt_or_ge (ag aG s k) s.length with eB | eB
   ·exact eB
   rw [br eB (by simp),br eB (by simp)] at aF;cases aF
  have kv:=bG aG s (ag aG s k+1)
  dsimp only at h
  split at h
  ·split at h
   ·rename_i j0
    have:=cg j0 (by simp);cases h;simp at this;omega
   cases h
  split at h
  ·rename_i j0
   have:=cg j0 (by simp);cases h;simp at this;omega
  cases ab:ih s (ag aG s (ag aG s k+1)) [] with
  | error e=>rw [ab] at h;cases h
  | ok x=>rw [ab] at h;cases h
theorem MT {s:U} {k n dr:Nat} {fm:km} (h:k' s k n = .ok (.inr (fm,dr))) (hk:k≤s.length):k<dr∧dr≤s.length∧n≠32∧fm.sz=0:=by
 have cN:=bG aG s k;cases hw:gl s (ag aG s k)with
 | some x=>rw [tX hw] at h;cases h
 | none=>
  rw [tY hw] at h;unfold nv at h
  split at h
  ·cases bQ:ew s (ag aG s k)with
   | none=>rw [bQ] at h;cases h
   | some x=>rw [bQ] at h;cases h
  split at h
  rotate_left
  ·cases ab:hA s (ag aG s k)with
   | error e=>rw [ab] at h;cases h
   | ok x=>rw [ab] at h;cases h
  split at h
  ·cases h
  rename_i aF bn
  have ch:ag aG s k<s.length:=by
   rcases Nat.lt_or_ge (ag aG s k) s.length with eB | eB
   ·exact eB
   rw [br eB (by simp),br eB (by simp)] at aF;cases aF
  have kv:=bG aG s (ag aG s k+1);have lQ:=bZ (p:=aG) (show ag aG s k+1≤s.length by omega)
  dsimp only at h
  split at h
  ·split at h
   ·cases h
   cases h;exact⟨by omega,lQ,bn,rfl⟩
  split at h
  ·cases h
  cases ab:ih s (ag aG s (ag aG s k+1)) [] with
  | error e=>rw [ab] at h;cases h
  | ok x=>
   rw [ab] at h;cases h;have:=ns ab;exact⟨by omega,by omega,bn,rfl⟩
theorem vf.acJ {Z alv A:List Nat} {w:World} {fm:km} {c:Value} {m:List Nat} (h:vf (lC Z) A w fm c m):vf (lC alv) A w fm c m:=by
 cases fm with
 | L acc=>obtain⟨g,dN,h1,aj,aF⟩:=h;exact⟨g,dN,h1,⟨aj.aA,aj.own,aj.PM⟩,aF⟩
 | M acc t=>obtain⟨g,b,dN,h1,aj,aF⟩:=h;exact⟨g,b,dN,h1,⟨aj.aA,aj.map,aj.own,aj.abr,aj.PM,aj.abt⟩,aF⟩
 | A acc t=>obtain⟨g,b,dN,h1,aj,aF⟩:=h;exact⟨g,b,dN,h1,⟨aj.aA,aj.map,aj.own,aj.abr,aj.PM,aj.abt⟩,aF⟩
/-- a new block becomes private -/
theorem lu.acB {Z:List Nat} {w0 w w':World} {g k z:Nat} {s:U} {st:List km} {sk:Value} {cs:List Value} {fp:List Nat} (H:lu (lC Z) w0 w g s k st sk cs fp) (hm:Mod [] w w') (cO:w.heap.size≤z) (e':z<w'.heap.size) :
  ∃ gS,lu (lC (z::Z)) w0 w' g s k st sk cs gS∧(∀ x∈gS,x∈fp∨x=z):=by
 have bk:=H.lt
 have key:∀ {A:List Nat} {st:List km} {cs:List Value} {f:List Nat},mB (lC Z) A w st cs f→(∀ x∈f,x<w.heap.size)→∀ A',(∀ x∈A',x∈A∨w.heap.size≤x)→∃ CH,mB (lC (z::Z)) A' w' st cs CH∧∀ x,x∈CH↔(x∈f∨x=z):=by
  intro A st
  induction st with
  | nil=>
   intro cs f h dm A' du
   obtain⟨h1,aj,aF⟩:=h
   refine⟨z::Z,⟨h1,rfl,fun x ab=>?_⟩,fun x=>?_⟩
   ·rcases List.mem_cons.1 ab with rfl | ab
    ·exact e'
    exact Nat.lt_of_lt_of_le (aF x ab) hm.size
   rw [aj]
   simp only [List.mem_cons]
   exact Or.comm
  | cons fm st dh=>
   intro cs f h dm A' du
   obtain⟨c,cs',m,f2,rfl,rfl,h1,aj,aF⟩:=h
   obtain⟨CH,bn,ch⟩:=dh aj (fun x ab=>dm x (by simp [ab])) A' du
   refine⟨m++CH,⟨c,cs',m,CH,rfl,rfl,(h1.to hm (by simp) (by simp) du).acJ,bn,fun x ab h=>?_⟩,fun x=>?_⟩
   ·rcases(ch x).1 h with h | h
    ·exact aF x ab h
    have:=dm x (by simp [ab]);omega
   simp only [List.mem_append,ch]
   exact or_assoc.symm
 have abd:∀ CH,(∀ x,x∈CH↔(x∈fp∨x=z))→∀ x∈g::(aL sk++CH),x∈g::(aL sk++fp)∨w.heap.size≤x:=fun CH ch x ab=>by
  simp only [List.mem_cons,List.mem_append,ch] at ab ⊢
  rcases ab with ab | ab | ab | ab
  ·exact .inl (.inl ab)
  ·exact .inl (.inr (.inl ab))
  ·exact .inl (.inr (.inr ab))
  exact .inr (by omega)
 obtain⟨CH,bn,ch⟩:=key H.qX (fun x ab=>bk x (by simp [ab])) (g::(aL sk++fp) ++ [z]) (fun x ab=>by
  simp only [List.mem_append,List.mem_singleton] at ab
  rcases ab with ab | ab
  ·exact .inl ab
  exact .inr (by omega))
 refine⟨CH,⟨H.rd.I hm,H.own.I hm,bn.to (Mod.refl [] _) (by simp) (fun x ab=>?_) (by simp),fun h=>?_,fun x ab h=>?_,fun x ab=>?_,H.mod.then hm⟩,fun x ab=>(ch x).1 ab⟩
 ·simp only [List.mem_cons,List.mem_append,ch,List.not_mem_nil,or_false] at ab ⊢
  rcases ab with ab | ab | ab | ab
  ·exact .inl (.inl (.inl ab))
  ·exact .inl (.inl (.inr (.inl ab)))
  ·exact .inl (.inl (.inr (.inr ab)))
  exact .inl (.inr ab)
 ·rcases List.mem_append.1 h with h | h
  ·exact H.qY (by simp [h])
  rcases(ch g).1 h with h | h
  ·exact H.qY (by simp [h])
  have:=H.rd.lt;omega
 ·rcases(ch x).1 h with h | h
  ·exact H.vw x ab h
  have:=bk x (by simp [ab]);omega
 rcases List.mem_append.1 ab with ab | ab
 ·exact H.rK x (by simp [ab])
 rcases(ch x).1 ab with h | h
 ·exact H.rK x (by simp [h])
 have:=H.mod.size;omega
set_option maxRecDepth 10000
theorem six {us:List Value} (h:us.length=6):∃ a b c d e f,us = [a,b,c,d,e,f]:=by
 match us,h with
 | [a,b,c,d,e,f],_=>exact⟨a,b,c,d,e,f,rfl⟩
theorem WC:(Tryz.prog.info? 129).bind (·.zero)=some (.pointer none):=by kernel_rfl
theorem QP:aP Tryz.prog 106:=aP.of Tryz.func106 (by kernel_rfl) (by kernel_rfl)
theorem Hf:aP Tryz.prog 107:=aP.of Tryz.func107 (by kernel_rfl) (by kernel_rfl)
abbrev MO:=Option JV×List Value×Nat×List km×Value×List Value×List Nat
abbrev acx:=Nat×List km×Value×List Value×List Nat×List Nat
structure anB (pE w0 w:World) (g g2:Nat) (s:U) (r:yo) (k:Nat) (st:List km) (sk:Value) (cs:List Value) (fp Z:List Nat):Prop where
 run:gL s none k st r
 hI:lu (lC Z) w0 w g s k st sk cs fp
 z2:g2∈Z
 eW:aD w g2 25 po
 WD:k≤s.length
 cl:cs.length≤32
 sz:∀ fm∈st,fm.sz≤k
 md:Mod [g] pE w
 I1:∀ z,z<pE.heap.size→z≠g→z∈Z
structure VI (pE w0 w:World) (g g2 g3:Nat) (s:U) (r:yo) (Z:List Nat) (pj:Nat) (I2:Option JV) (us:List Value) (k:Nat) (st:List km) (sk:Value) (cs:List Value) (fp:List Nat):Prop where
 run:gL s I2 k st r
 hI:lu (lC Z) w0 w g s k st sk cs fp
 z2:g2∈Z
 z3:g3∈Z
 n23:g2≠g3
 eW:aD w g2 25 po
 tz:aD w g3 25 us
 ul:us.length=6
 apm:∀ u∈us,u.oneCell'=true
 apn:∀ v,I2=some v→ak (g::(aL sk++fp)) w v.D us
 WD:k≤s.length
 pj:pj<k
 cl:cs.length≤32
 sz:∀ fm∈st,fm.sz+I2.isSome.toNat≤k
 md:Mod [g] pE w
def I3 (w:World):World:={w with heap:=#[]}
theorem Fw {pE w w':World} {Z M:List Nat} {g k:Nat} {s:U} {st:List km} {sk:Value} {cs:List Value} {fp:List Nat} (I1:∀ z,z<pE.heap.size→z≠g→z∈Z) (md:Mod [g] pE w) (E:Mod M w w') (eb:∀ x∈M,x≠g→x∉Z):Mod [g] pE w':=
 ⟨E.os.trans md.os,E.tape.trans md.tape,E.output.trans md.output,Nat.le_trans md.size E.size,fun i hi ab=>(E.block i (Nat.lt_of_lt_of_le hi md.size) (fun h=>eb i h (by simpa using ab) (I1 i hi (by simpa using ab)))).trans (md.block i hi ab)⟩
theorem w5 {pE w w':World} {Z:List Nat} {g k:Nat} {s:U} {st:List km} {sk:Value} {cs:List Value} {fp:List Nat} (I1:∀ z,z<pE.heap.size→z≠g→z∈Z) (md:Mod [g] pE w) (q:lu (lC Z) (I3 pE) w' g s k st sk cs fp) (yt:w2 Z w w') (aN:w.heap.size≤w'.heap.size):Mod [g] pE w':=
 ⟨q.mod.os,q.mod.tape,q.mod.output,Nat.le_trans md.size aN,fun i hi ab=>(yt i (I1 i hi (by simpa using ab))).trans (md.block i hi ab)⟩
theorem WE {pE w:World} {Z:List Nat} {g k:Nat} {s:U} {st:List km} {sk:Value} {cs:List Value} {fp:List Nat} (I1:∀ z,z<pE.heap.size→z≠g→z∈Z) (ed:Env pE) (q:lu (lC Z) (I3 pE) w g s k st sk cs fp):∀ x∈aL sk,IJ<x:=fun x ab=>by
 rcases Nat.lt_or_ge x pE.heap.size with h | h
 ·by_cases cN:x=g
  ·subst cN;exact absurd (List.mem_append_left _ ab) q.qY
  exact absurd ab (q.vj x (I1 x h cN)).2.2
 exact Nat.lt_of_lt_of_le ed.sz h
theorem I4 {pE:World} {g:Nat} {s:U} {r:yo} (alC:aD pE g 75 [S s,.int .i64 ((0:Nat):Int),.slice none 0 0]) (aN:s.length≤65536) (ed:Env pE) (cN:IJ<g) (bf:gL s none 0 [] r) :
  Calls Tryz.prog 60 [.pointer (some ⟨g,0,none⟩)].toArray pE (Ix 124 [g] pE r (fun x u w'=>∃ us fK,u = .agg us.toArray∧ak (g::List.range pE.heap.size) w' x.1.D us∧aD w' g 75 [S s,.int .i64 (x.2:Int),fK]∧x.2≤s.length)):=by
 refine enter Tryz.func60 rfl rfl rfl (l:=[(0,_)]) ⟨rfl,trivial⟩ (ae fun ahW=>bl cK rfl fun g2 aE bO=>?_)
 have sG:pE.heap.size≤g2:=bO.le (Mod.refl [g] pE)
 have kB:=bO.ne alC
 have B:=alC.I bO.mod
 obtain⟨QQ,WG⟩:∃ QQ,QQ=g2::(List.range pE.heap.size).filter (·≠g):=⟨_,rfl⟩
 have ahX:lu (lC QQ) (I3 pE) aE g s 0 [] (.slice none 0 0) [] QQ:=lu.init (T:=lC QQ) B ⟨bO.mod.os,bO.mod.tape,bO.mod.output,Nat.zero_le _,fun i hi=>absurd hi (Nat.not_lt_zero _)⟩ (fun x ab=>by
  have ab:x∈QQ:=ab
  rw [WG] at ab
  rcases List.mem_cons.1 ab with rfl | ab
  ·exact⟨Nat.zero_le _,bO.aA.lt,Ne.symm kB⟩
  simp only [List.mem_filter,List.mem_range,decide_eq_true_eq] at ab
  exact⟨Nat.zero_le _,Nat.lt_of_lt_of_le ab.1 bO.mod.size,ab.2⟩)
 have acy:∀ z,z<pE.heap.size→z≠g→z∈QQ:=fun z h1 aj=>by
  rw [WG]
  exact List.mem_cons_of_mem _ (by simp only [List.mem_filter,List.mem_range,decide_eq_true_eq];exact⟨h1,aj⟩)
 refine R ahW (fU (cz (σ:=acx) (fun _=>[(0,.pointer (some ⟨g,0,none⟩)),(2,.pointer (some ⟨g2,0,none⟩))]) (fun x aE=>anB pE (I3 pE) aE g g2 s r x.1 x.2.1 x.2.2.1 x.2.2.2.1 x.2.2.2.2.1 x.2.2.2.2.2) (fun x=>s.length-x.1) (0,[],.slice none 0 0,[],QQ,QQ) ⟨rfl,rfl,trivial⟩ ⟨bf,ahX,by dsimp only;rw [WG];simp,bO.aA,by simp,by simp,by simp,bO.mod.mono (by simp),acy⟩ ?_))
 rintro⟨k,st,sk,cs,fp,Z⟩ cY pF
 obtain⟨j',H,z2,cH,na,lF,ha,md,I1⟩:=pF
 dsimp only at j' H z2 na lF ha I1
 refine fU (ae fun aX=>aQ rfl ?_)
 have hlen:=H.len
 refine e4 (bt QP rfl) (MK H aN na lF (ed.mG cN md) cN (WE I1 ed H)) rfl (fun di aB=>aB) (fun kZ gv aB=>?_) fun cC gv aB=>?_
 ·obtain⟨e,he,bD,rfl,J⟩:=aB
  exact a1 (by simp) (b5 (by simp) (a1 (by simp) (b5 (by simp) (dt ⟨e,MP j' he,bD,rfl,Fw (k:=k) (s:=s) (st:=st) (sk:=sk) (cs:=cs) (fp:=fp) I1 md J (fun x ab I5 cO=>(List.mem_cons.1 ab).elim I5 (fun h=>(H.vj x cO).2.2 h))⟩))))
 obtain⟨x,ab,eE,J⟩:=aB
 obtain⟨I2,us,dr,st1,yu,d',eI,rfl,MQ,pT,yt,w6,Fx,MR,To,Tp,Tq,Gw⟩:∃ I2 us dr st1 yu d' eI,cC = .tuple #[.agg us.toArray,.bool (Option.isSome I2)]∧gL s I2 dr st1 r∧lu (lC Z) (I3 pE) gv g s dr st1 yu d' eI∧w2 Z cY gv∧us.length=6∧(∀ u∈us,u.oneCell'=true)∧(∀ v,I2=some v→ak (g::(aL yu++eI)) gv v.D us)∧dr≤s.length∧k<dr∧d'.length≤32∧(∀ fm∈st1,fm.sz+I2.isSome.toNat≤dr):=by
  rcases x with⟨v,dr⟩ | ⟨fm,dr⟩
  ·obtain⟨us,yu,d',eI,h1,aj,aF,bn,ch⟩:=eE
   have aH:=MS ab na
   have eB:=JV.cells_one bn
   exact⟨some v,us,dr,st,yu,d',eI,h1,Fy j' ab,aj,ch,eB.1,eB.2,fun v' bw=>by cases bw;exact bn,aH.2,aH.1,by rw [aj.len];omega,fun fm dm=>by have:=ha fm dm;simp;omega⟩
  obtain⟨us,yu,d',eI,h1,aj,aF,bn,ch⟩:=eE
  have aH:=MT ab na
  subst aj
  exact⟨none,_,dr,fm::st,yu,d',eI,h1,I6 j' ab,aF,ch,rfl,by simp [Value.oneCell'],fun v' bw=>(by cases bw),aH.2.1,aH.1,by rw [aF.len,List.length_cons];omega,fun f dm=>by
   rcases List.mem_cons.1 dm with rfl | dm
   ·rw [aH.2.2.2];simp
   have:=ha f dm;simp;omega⟩
 replace cH:aD gv g2 25 po:=(yt g2 z2).trans cH
 replace md:=w5 I1 md pT yt J.size
 obtain⟨h7,ly,I7,Fz,I8,FA,rfl⟩:=six w6
 refine aQ rfl (ao (dU rfl rfl) (ao (dU rfl rfl) (bl cK rfl fun g3 iH N4=>?_)))
 have Fj:=N4.at_
 have acz:=md
 have n23:=N4.ne cH
 obtain⟨vg,pn,acA⟩:=pT.acB N4.mod (Nat.le_of_eq Fj.symm) N4.aA.lt
 refine bd (vs:=[_,_,_,_,_,_]) aK N4.aA rfl rfl rfl Fx (by simp) fun jO hl=>?_
 have dD:=hl.eq (cs':=[h7,ly,I7,Fz,I8,FA]) rfl
 replace cH:=(cH.I N4.mod).mod hl.mod (by simpa using n23)
 have uW:=pn.GX (List.mem_cons_self ..) hl.mod
 replace md:=(md.then N4.mod).own hl.mod (by have:=md.size;omega)
 have Tr:∀ v,I2=some v→ak (g::(aL yu++vg)) jO v.D [h7,ly,I7,Fz,I8,FA]:=fun v bw=>by
  have h1:ak (g::(aL yu++vg)) iH v.D [h7,ly,I7,Fz,I8,FA]:=ak.to N4.mod (by simp) (fun x ab=>by
   simp only [List.mem_cons,List.mem_append] at ab ⊢
   rcases ab with ab | ab | ab
   ·exact .inl (.inl ab)
   ·exact .inl (.inr (.inl ab))
   rcases acA x ab with h | h
   ·exact .inl (.inr (.inr h))
   exact .inr (by omega)) _ _ (MR v bw)
  exact h1.toM hl.mod (fun x ab=>by
   rw [List.mem_singleton.1 ab]
   have:=pn.qX.z g3 (List.mem_cons_self ..)
   simp [this])
 refine bb rfl (R aX (fU ?_))
 clear MR w6 eE ab
 refine cz (σ:=MO) (fun x=>[(0,.pointer (some ⟨g,0,none⟩)),(2,.pointer (some ⟨g2,0,none⟩)),(3,.pointer (some ⟨g3,0,none⟩)),(4,.bool x.1.isSome)]) (fun x aE=>VI pE (I3 pE) aE g g2 g3 s r (g3::Z) k x.1 x.2.1 x.2.2.1 x.2.2.2.1 x.2.2.2.2.1 x.2.2.2.2.2.1 x.2.2.2.2.2.2) (fun x=>s.length-x.2.2.1) (I2,[h7,ly,I7,Fz,I8,FA],dr,st1,yu,d',vg) ⟨rfl,rfl,rfl,rfl,trivial⟩ ⟨MQ,uW,List.mem_cons_of_mem _ z2,List.mem_cons_self ..,n23,cH,dD,rfl,Fx,Tr,To,Tp,Tq,Gw,md⟩ ?_
 have CD:∀ z,z<pE.heap.size→z≠g→z∈g3::Z:=fun z h1 aj=>List.mem_cons_of_mem _ (I1 z h1 aj)
 have acC:pE.heap.size≤g3:=by have:=N4.le acz;exact this
 clear md acz I1
 clear j' H cH na lF ha pT pn uW dD Tr To Tp Tq Gw MQ acA hlen yt
 rintro⟨I2,us,uX,st,sk,cs,fp⟩ jV oO
 obtain⟨j',H,z2,z3,n23,cH,dD,w6,Fx,MR,na,bA,lF,ha,md⟩:=oO
 dsimp only at j' H dD w6 Fx MR na bA lF ha
 have hlen:=H.len
 cases I2 with
 | none=>
  exact l7 fun K2 aM=>l7 fun K3 a7=>b8 (aQ rfl (R a7 (aU rfl (fun FB=>absurd FB (by simp)) (fun FB=>bV (a1 (by simp) (a1 (by simp) (cr (b5 (by simp) (jW (σ:=acx) (s:=(k,_)) (uX,st,sk,cs,fp,g3::Z) ⟨rfl,rfl,trivial⟩ ⟨j',H,z2,cH,na,lF,fun fm dm=>by have:=ha fm dm;simpa using this,md,CD⟩ (by dsimp only;omega))))))))))
 | some v=>
  have apv:=MR v rfl
  refine l7 fun K2 aM=>l7 fun K3 a7=>b8 (aQ rfl (R a7 ?_))
  refine aU rfl (fun FB=>?_) (fun FB=>absurd FB (by simp))
  refine cJ (az aM (fU (ay fun bC=>ay fun bU=>?_)))
  have B:aD jV g 75 _:=H.rd
  obtain⟨ad,c0,aV,fi,gA⟩:=H.own.form
  subst aV
  refine b8 (aq 2 rfl (ao (au eY rfl) (ao (bh iM rfl (B.cell rfl)) (ao (bx Tryz.underlying73 rfl) (ao (oC rfl rfl) (R bU ?_))))))
  have cO:=H.vj
  obtain⟨h7,ly,I7,Fz,I8,FA,rfl⟩:=six w6
  cases st with
  | nil=>
   refine bm rfl (fun mX=>?_) (fun mX=>absurd (show((cs.length:Nat):Int)=0 by rw [hlen];rfl) mX)
   refine ae fun ca=>ao (a8 (vs:=[_,_,_,_,_,_]) aK rfl rfl (dD.cs rfl)) (bd (vs:=[_,_,_,_,_,_]) aK cH rfl rfl rfl Fx (by simp) fun ix qu=>?_)
   have lD:=qu.eq (cs':=[_,_,_,_,_,_]) rfl
   have q:=H.GX z2 qu.mod
   refine R ca (bg (a1 (by simp) (b5 (by simp) (a1 (by simp) (b5 (by simp) (b5 (by simp) (a1 (by simp) (b5 (by simp) ?_))))))))
   have yp:=H.qX.z g2 z2
   exact Fl (vs:=[_,_,_,_,_,_]) rfl aK rfl rfl (lD.cs rfl) ⟨(v,uX),I9 j',⟨_,_,rfl,(apv.toM qu.mod (fun x ab=>by rw [List.mem_singleton.1 ab];simp [yp])).fN (fun x ab=>by
    rcases List.mem_cons.1 ab with rfl | ab
    ·simp
    by_cases I5:x=g
    ·simp [I5]
    have:=H.qX.z x (CD x (List.mem_range.1 ab) I5)
    simp [this]),q.rd,na⟩,md.own qu.mod sG⟩
  | cons fm st=>
   refine bm rfl (fun mX=>absurd mX (by rw [hlen,List.length_cons];omega)) (fun mX=>cJ (az bC (ae fun cA=>aQ rfl (ao (a8 (vs:=[_,_,_,_,_,_]) aK rfl rfl (dD.cs rfl)) ?_))))
   have CE:=ha fm (List.mem_cons_self ..)
   have Hg:∀ f∈st,f.sz+1≤uX:=fun f dm=>by have:=ha f (List.mem_cons_of_mem _ dm);simpa using this
   have l1:ag aG s uX≤s.length:=bZ na
   have anC:=bG aG s uX
   cases fm with
   | A acc t=>exact absurd (WH j') id
   | L acc=>
    have WI:acc.length≤1000000:=by simp [km.sz] at CE;omega
    refine fP (bt Hf rfl) (QJ H apv lF WI) rfl fun cC ix aB=>?_
    obtain⟨rfl,gS,pT,S1,yt⟩:=aB
    replace md:=w5 CD md pT yt S1.mod.size
    replace cH:aD ix g2 25 po:=(yt g2 z2).trans cH
    replace dD:aD ix g3 25 _:=(yt g3 z3).trans dD
    have z8:=pT.vj
    refine bb rfl (R cA (l7 fun Wm cM=>l7 fun tZ db=>b8 (aQ rfl (aQ rfl (fP (bt mI rfl) (rT _ g s uX _ pT.rd aN na 93) rfl fun cC pD aB=>?_)))))
    obtain⟨rfl,B,J⟩:=aB
    have pn:=pT.pZ B J
    replace md:=md.trans J
    replace cH:=cH.mod J (by simpa using (z8 g2 z2).2.1)
    replace dD:=dD.mod J (by simpa using (z8 g3 z3).2.1)
    have rq:=pn.vj
    refine R db ?_
    refine aU rfl (fun iR=>?_) (fun iR=>?_)
    ·have iR:av s (ag aG s uX) [93]=true:=iR
     have rO:=cg iR (by simp)
     have nb:ag aG s uX+1≤s.length:=by simpa using rO
     rw [if_pos iR] at pn
     refine l7 fun ahY cq=>b8 (aQ rfl (fP (bt vE rfl) (QG pn (by omega)) rfl fun cC lL aB=>?_))
     obtain⟨gH,fK,cs',vg,rfl,uW,S3,acD,yt⟩:=aB
     replace md:=w5 CD md uW yt S3.mod.size
     replace cH:aD lL g2 25 po:=(yt g2 z2).trans cH
     replace dD:aD lL g3 25 _:=(yt g3 z3).trans dD
     obtain⟨MU,CF⟩:=JV.cells_one acD
     obtain⟨acE,acF,y3,y4,acG,y6,rfl⟩:=six MU
     refine bd (vs:=[_,_,_,_,_,_]) aK dD rfl rfl rfl CF (by simp) fun iy k1=>?_
     replace dD:=k1.eq (cs':=[acE,acF,y3,y4,acG,y6]) rfl
     replace cH:=cH.mod k1.mod (by simpa using n23)
     have PN:=uW.GX z3 k1.mod
     replace md:=md.own k1.mod acC
     have yp:=uW.qX.z g3 z3
     refine R cq (bV (a1 (by simp) (cr ?_)))
     have WJ:=uW.len
     rw [List.length_cons] at hlen
     exact jW (σ:=MO) (s:=(some v,_,uX,_)) (some (JV.fw (acc ++ [v])),[acE,acF,y3,y4,acG,y6],ag aG s uX+1,st,fK,cs',vg) ⟨rfl,rfl,rfl,rfl,trivial⟩ ⟨I' j' iR,PN,z2,z3,n23,cH,dD,rfl,CF,fun v' bw=>by cases bw;exact acD.toM k1.mod (fun x ab=>by rw [List.mem_singleton.1 ab];simp [yp]),nb,by dsimp only;omega,by dsimp only;omega,fun f dm=>by have:=Hg f dm;simp;omega,md⟩ (by dsimp only;omega)
    have iR:av s (ag aG s uX) [93]=false:=iR
    rw [if_neg (by rw [iR];simp)] at pn
    refine cJ (az cM (l7 fun MV cj=>l7 fun ahZ dH=>b8 (aQ rfl (fP (bt mI rfl) (rT _ g s _ _ pn.rd aN l1 44) rfl fun cC lL aB=>?_))))
    obtain⟨rfl,B,J⟩:=aB
    have uW:=pn.pZ B J
    replace md:=md.trans J
    rw [ma] at uW
    replace cH:=cH.mod J (by simpa using (rq g2 z2).2.1)
    replace dD:=dD.mod J (by simpa using (rq g3 z3).2.1)
    refine ao (gJ rfl) (R dH ?_)
    refine aU rfl (fun gX=>?_) (fun gX=>?_)
    ·have gX:av s (ag aG s uX) [44]=false:=by rw [ma] at gX;simpa using gX
     refine b8 ?_
     refine e4 (bt fg rfl) (ee _ 4) rfl (fun di aB=>aB.elim) (fun kZ iy aB=>?_) fun cC iy aB=>?_
     ·obtain⟨rfl,rfl⟩:=aB
      exact a1 (by simp) (b5 (by simp) (a1 (by simp) (b5 (by simp) (b5 (by simp) (a1 (by simp) (b5 (by simp) (dt ⟨4,Ja j' iR gX,by decide,rfl,md⟩)))))))
     exact aB.elim
    have gX:av s (ag aG s uX) [44]=true:=by rw [ma] at gX;simpa using gX
    rw [if_pos gX] at uW
    have nb:ag aG s uX+1≤s.length:=by have:=cg gX (by simp);simpa using this
    refine cJ (az cj (l7 fun ah0 cL=>l7 fun WK dz=>?_))
    obtain⟨g1,dN,vs,d',eI,rfl,_⟩:=uW.LY
    obtain⟨ad,c0,aV,fi,gA,C⟩:=oo uW.own
    injection aV with aV bs kk
    subst aV
    subst kk
    have PN:=uW
    have B:aD lL g 75 _:=uW.rd
    refine bK wide (by kernel_rfl) (fM 2 rfl rfl (ah (fun J=>(au eY rfl)) (ah (fun J=>(bh iM rfl ((B.I J).cell rfl))) (fM 2 rfl rfl (ah (fun J=>(au eY rfl)) (ah (fun J=>(bh iM rfl ((B.I J).cell rfl))) (ah (fun J=>(bx Tryz.underlying73 rfl)) (ah (fun J=>(eL (r:=((d'.length:Nat):Int)) rfl rfl (by rw [wrap64_in _ (by simp at lF;omega)];simp))) (ah (fun J=>(cf q5 rfl rfl (by simp;omega))) (ah (fun J=>(bh zi rfl (l9 (C.mod J (by simp))))) (ah (fun J=>(Fs w1 (show ¬ (163:Nat)=129 by decide) WC rfl)) (ah (fun J=>(dQ rfl)) (ah (fun J=>(dU rfl rfl)) ?_)))))))))))))
    refine ah (fun J=>(dU rfl rfl)) (ah (fun J=>(cI rfl)) (ah (fun J=>(cI rfl)) (bN rfl fun iy J=>?_)))
    replace cH:=cH.I J
    replace dD:=dD.I J
    refine az dz (l7 fun WL dS=>b8 (aQ rfl (R dS (aU rfl (fun EJ=>absurd EJ (by simp)) (fun EJ=>cJ (az cL (b8 (bb rfl (eG (b5 (by simp) ?_))))))))))
    exact jW (σ:=MO) (s:=(some v,_,uX,_)) (none,[h7,ly,I7,Fz,I8,FA],ag aG s uX+1,.L (acc ++ [v])::st,_,_,gS) ⟨rfl,rfl,rfl,rfl,trivial⟩ ⟨FC j' iR gX,PN.I J,z2,z3,n23,cH,dD,rfl,Fx,fun v' bw=>(by cases bw),nb,by dsimp only;omega,lF,fun f dm=>by
     rcases List.mem_cons.1 dm with rfl | dm
     ·simp [km.sz] at CE ⊢;omega
     have:=Hg f dm;simp;omega,md.then J⟩ (by dsimp only;omega)
   | M acc t=>
    have WI:acc.length≤1000000:=by simp [km.sz] at CE;omega
    refine fP (bt Hf rfl) (QK H apv lF WI) rfl fun cC ix aB=>?_
    obtain⟨rfl,gS,pT,S1,yt⟩:=aB
    replace md:=w5 CD md pT yt S1.mod.size
    replace cH:aD ix g2 25 po:=(yt g2 z2).trans cH
    replace dD:aD ix g3 25 _:=(yt g3 z3).trans dD
    have z8:=pT.vj
    refine bb rfl (R cA (l7 fun Wm cM=>l7 fun tZ db=>b8 (aQ rfl (aQ rfl (fP (bt mI rfl) (rT _ g s uX _ pT.rd aN na 125) rfl fun cC pD aB=>?_)))))
    obtain⟨rfl,B,J⟩:=aB
    have pn:=pT.pZ B J
    replace md:=md.trans J
    replace cH:=cH.mod J (by simpa using (z8 g2 z2).2.1)
    replace dD:=dD.mod J (by simpa using (z8 g3 z3).2.1)
    have rq:=pn.vj
    refine R db ?_
    refine aU rfl (fun iR=>?_) (fun iR=>?_)
    ·have iR:av s (ag aG s uX) [125]=true:=iR
     have rO:=cg iR (by simp)
     have nb:ag aG s uX+1≤s.length:=by simpa using rO
     rw [if_pos iR] at pn
     refine l7 fun ahY cq=>b8 (aQ rfl (fP (bt vE rfl) (QI pn (by omega) (by simp [km.sz] at CE ⊢;omega)) rfl fun cC lL aB=>?_))
     obtain⟨gH,fK,cs',vg,rfl,uW,S3,acD,yt⟩:=aB
     replace md:=w5 CD md uW yt S3.mod.size
     replace cH:aD lL g2 25 po:=(yt g2 z2).trans cH
     replace dD:aD lL g3 25 _:=(yt g3 z3).trans dD
     obtain⟨MU,CF⟩:=JV.cells_one acD
     obtain⟨acE,acF,y3,y4,acG,y6,rfl⟩:=six MU
     refine bd (vs:=[_,_,_,_,_,_]) aK dD rfl rfl rfl CF (by simp) fun iy k1=>?_
     replace dD:=k1.eq (cs':=[acE,acF,y3,y4,acG,y6]) rfl
     replace cH:=cH.mod k1.mod (by simpa using n23)
     have PN:=uW.GX z3 k1.mod
     replace md:=md.own k1.mod acC
     have yp:=uW.qX.z g3 z3
     refine R cq (bV (a1 (by simp) (cr ?_)))
     have WJ:=uW.len
     rw [List.length_cons] at hlen
     exact jW (σ:=MO) (s:=(some v,_,uX,_)) (some (JV.obj (dB (acc ++ [(t,v)]))),[acE,acF,y3,y4,acG,y6],ag aG s uX+1,st,fK,cs',vg) ⟨rfl,rfl,rfl,rfl,trivial⟩ ⟨Jb j' iR,PN,z2,z3,n23,cH,dD,rfl,CF,fun v' bw=>by cases bw;exact acD.toM k1.mod (fun x ab=>by rw [List.mem_singleton.1 ab];simp [yp]),nb,by dsimp only;omega,by dsimp only;omega,fun f dm=>by have:=Hg f dm;simp;omega,md⟩ (by dsimp only;omega)
    have iR:av s (ag aG s uX) [125]=false:=iR
    rw [if_neg (by rw [iR];simp)] at pn
    refine cJ (az cM (l7 fun MV cj=>l7 fun ahZ dH=>b8 (aQ rfl (fP (bt mI rfl) (rT _ g s _ _ pn.rd aN l1 44) rfl fun cC lL aB=>?_))))
    obtain⟨rfl,B,J⟩:=aB
    have uW:=pn.pZ B J
    replace md:=md.trans J
    rw [ma] at uW
    replace cH:=cH.mod J (by simpa using (rq g2 z2).2.1)
    replace dD:=dD.mod J (by simpa using (rq g3 z3).2.1)
    refine ao (gJ rfl) (R dH ?_)
    refine aU rfl (fun gX=>?_) (fun gX=>?_)
    ·have gX:av s (ag aG s uX) [44]=false:=by rw [ma] at gX;simpa using gX
     refine b8 ?_
     refine e4 (bt fg rfl) (ee _ 4) rfl (fun di aB=>aB.elim) (fun kZ iy aB=>?_) fun cC iy aB=>?_
     ·obtain⟨rfl,rfl⟩:=aB
      exact a1 (by simp) (b5 (by simp) (a1 (by simp) (b5 (by simp) (b5 (by simp) (a1 (by simp) (b5 (by simp) (dt ⟨4,Jc j' iR gX,by decide,rfl,md⟩)))))))
     exact aB.elim
    have gX:av s (ag aG s uX) [44]=true:=by rw [ma] at gX;simpa using gX
    rw [if_pos gX] at uW
    have nb:ag aG s uX+1≤s.length:=by have:=cg gX (by simp);simpa using this
    refine cJ (az cj (l7 fun ah0 cL=>l7 fun WK dz=>?_))
    have jY:=uW.L0 (fm:=.A (acc ++ [(t,v)]) t) (acc:=acc ++ [(t,v)]) (K:=(acc ++ [(t,v)]).map (fun q:U×JV=>q.1)) (t:=t) (fun A w c m h=>h)
    obtain⟨g1,b,dN,vs,d',eI,rfl,rfl,fO,hm,gG,AI,qy,kB,n7,n8,BA,n10,IU,Wh,_⟩:=jY
    obtain⟨ad,c0,aV,fi,gA,C⟩:=oo uW.own
    injection aV with aV bs kk
    subst aV
    subst kk
    have B:aD lL g 75 _:=uW.rd
    refine bK wide (by kernel_rfl) (fM 2 rfl rfl (ah (fun J=>(au eY rfl)) (ah (fun J=>(bh iM rfl ((B.I J).cell rfl))) (fM 2 rfl rfl (ah (fun J=>(au eY rfl)) (ah (fun J=>(bh iM rfl ((B.I J).cell rfl))) (ah (fun J=>(bx Tryz.underlying73 rfl)) (ah (fun J=>(eL (r:=((d'.length:Nat):Int)) rfl rfl (by rw [wrap64_in _ (by simp at lF;omega)];simp))) (ah (fun J=>(cf q5 rfl rfl (by simp;omega))) (ah (fun J=>(bh zi rfl (l9 (C.mod J (by simp))))) (ah (fun J=>(Hc w1 rfl rfl)) (ah (fun J=>(dQ rfl)) (ah (fun J=>(dU rfl rfl)) ?_)))))))))))))
    refine ah (fun J=>(dU rfl rfl)) (ah (fun J=>(cI rfl)) (ah (fun J=>(cI rfl)) (bN rfl fun iy J=>?_)))
    replace cH:=cH.I J
    replace dD:=dD.I J
    refine az dz (l7 fun WL dS=>b8 (aQ rfl (R dS ?_)))
    refine aU rfl (fun EJ=>?_) (fun EJ=>absurd EJ (by simp))
    refine b8 (aQ rfl (aQ rfl ?_))
    have Ts:=J
    have ah1:aD iy g 75 _:=B.I Ts
    refine e4 (bt He rfl) (Hb (K:=(acc ++ [(t,v)]).map (fun q:U×JV=>q.1)) (m:=dB (acc ++ [(t,v)])) ah1 (fO.I Ts) (hm.I Ts) kB (Ne.symm n7) n8 (fun t=>Fc t _) aN nb (ed.mG cN (md.then Ts)) cN) rfl (fun di aB=>aB) (fun kZ j1 aB=>?_) fun cC j1 aB=>?_
    ·obtain⟨e,he,bD,rfl,J⟩:=aB
     refine a1 (by simp) (b5 (by simp) (a1 (by simp) (b5 (by simp) (b5 (by simp) (a1 (by simp) (b5 (by simp) ?_))))))
     exact dt ⟨e,Jd j' iR gX he,bD,rfl,Fw (k:=k) (s:=s) (st:=st) (sk:=dN) (cs:=d') (fp:=eI) CD (md.then Ts) J (fun x ab I5 acH=>by
      simp only [List.mem_cons,List.not_mem_nil,or_false] at ab
      rcases ab with h | h | h
      ·exact I5 h
      ·exact IU x acH (by simp [h])
      exact IU x acH (by simp [h]))⟩
    obtain⟨⟨t',iP⟩,he,⟨rfl,acp,ah2,wu,bP⟩,J⟩:=aB
    have anD:=ns he
    have MN:∀ {x:Nat},x≠g→x≠g1→x≠b→x∉[g,g1,b]:=fun h1 aj aF=>by simp [h1,aj,aF]
    have MW:∀ z∈g3::Z,z∉[g,g1,b]:=fun z e'=>MN (rq z e').2.1 (fun e=>IU z e' (by simp [e])) (fun e=>IU z e' (by simp [e]))
    replace cH:=cH.mod J (MW g2 z2)
    replace dD:=dD.mod J (MW g3 z3)
    have acI:=Fw (k:=k) (s:=s) (st:=st) (sk:=dN) (cs:=d') (fp:=eI) CD (md.then Ts) J (fun x ab _ cO=>MW x cO ab)
    obtain⟨anE,_⟩:=Wh j1 dN vs iP (.M (acc ++ [(t,v)]) t') (acc ++ [(t,v)]) _ t' ((Ts.mono (by simp)).trans (J.mono (by simp))) acp ah2 wu ((gG.I Ts).mod J (fun x ab=>MN (n10 x ab) (fun e=>qy (e▸ab)) (fun e=>BA (e▸ab)))) (fun x ab=>.inl ab) AI (fun A w c m h=>h)
    refine R cL (b8 (bb rfl (eG (b5 (by simp) ?_))))
    exact jW (σ:=MO) (s:=(some v,_,uX,_)) (none,[h7,ly,I7,Fz,I8,FA],iP,.M (acc ++ [(t,v)]) t'::st,_,_,_) ⟨rfl,rfl,rfl,rfl,trivial⟩ ⟨FD j' iR gX he,anE,z2,z3,n23,cH,dD,rfl,Fx,fun v' bw=>(by cases bw),bP,by dsimp only;omega,lF,fun f dm=>by
     rcases List.mem_cons.1 dm with rfl | dm
     ·simp [km.sz] at CE ⊢;omega
     have:=Hg f dm;simp;omega,acI⟩ (by dsimp only;omega)
set_option maxRecDepth 10000
section
variable {P:Program} {fn:Func} {l:List (Nat×Value)} {w:World} {n:Nat} {ds:List Deferred} {apv:Ending→World→Prop} {t t':Nat}
theorem nw {a:Act} {T PO c:Nat} {ad we:Addr} {vs:List Value} {v':Value} (ax:Has n ds l a) (bf:fn.results = #[.cell t T,.cell t' PO]) (bQ:pJ P T c=true) (AK:mY P PO=true) (bw:iN t l=some (.pointer (some ad))) (od:iN t' l=some (.pointer (some we)))
  (bW:vs.length=c) (a6:pd w ad vs) (w7:w.cell? we=some v'):(results fn a.tmps).run P w = .ok (.tuple #[.agg vs.toArray,v']) w:=by
 simp [results,bf,ax.get _ _ bw,ax.get _ _ od,asAddr,gq bQ bW a6,jl AK w7]
end
/-- what the program's Parse hands back -/
noncomputable def lR (s:U):JV:=match parse s with
 | .ok v=>v
 | .error _=>JV.fQ
noncomputable def pq (s:U):Int:=match parse s with
 | .ok _=>0
 | .error e=>e
theorem acK:tC Tryz.prog 75 [(0,1),(1,1),(2,1)]=true:=by kernel_rfl
theorem acL:hq Tryz.prog 75 [S [],.int .i64 0,.slice none 0 0]:=by unfold hq;kernel_rfl
theorem FE:aP Tryz.prog 58:=aP.of Tryz.func58 (by kernel_rfl) (by kernel_rfl)
theorem WM:aP Tryz.prog 60:=aP.of Tryz.func60 (by kernel_rfl) (by kernel_rfl)
theorem MX (w:World) (ge gs:Nat) (B:aD w ge 33 [.int .i64 0]):CallsD Tryz.prog 58 [.pointer (some ⟨ge,0,none⟩),.pointer (some ⟨gs,0,none⟩)].toArray .returning w (fun e m' w'=>(∃ v,e = .returned v)∧m' = .returning∧Mod [] w w'):=by
 refine oX Tryz.func58 rfl rfl rfl (l:=[(0,_),(1,_)]) ⟨rfl,rfl,trivial⟩ rfl rfl (.inl ⟨rfl,rfl,rfl⟩) (by rintro u w ⟨⟨v,bw⟩,_⟩;cases bw) fun K1 aX=>?_;have E:=Mod.refl [] w;refine fP (bt AL rfl) (w8 _ _) rfl fun cC aE aB=>?_;obtain⟨_,J⟩:=aB;replace B:=B.I J;replace E:=E.then J;refine R aX (ae fun aM=>ao (bh mJ rfl (B.cell rfl)) (ao (fE rfl rfl) (R aM ?_)));refine bm rfl (fun ch=>?_) (fun ch=>?_)
 ·exact absurd rfl ch
 exact cJ (iQ rfl ⟨⟨_,rfl⟩,rfl,E⟩)
theorem CI (w:World) (ge gs:Nat) (z:Value) (e:Int) (h6:List Value) (rn:h6.length=6) (B:aD w ge 33 [z]) (cH:aD w gs 25 h6) (bS:ge≠gs) (he:e≠0):CallsD Tryz.prog 58 [.pointer (some ⟨ge,0,none⟩),.pointer (some ⟨gs,0,none⟩)].toArray (.panicking (y9 124 e)) w (fun MY m' w'=>(∃ v,MY = .returned v)∧m' = .panicking [{v:=.iface 124 (.agg #[.int .i64 e]),recovered:=true}]∧aD w' ge 33 [.int .i64 e]∧aD w' gs 25 po∧Mod [ge,gs] w w'):=by
 refine oX Tryz.func58 rfl rfl rfl (l:=[(0,_),(1,_)]) ⟨rfl,rfl,trivial⟩ rfl rfl (.inr ⟨rfl,rfl⟩) (by rintro u w ⟨⟨v,bw⟩,_⟩;cases bw) fun K1 aX=>?_;have E:=Mod.refl [ge,gs] w;refine fP (bt AL rfl) (w9 _ ge z e B) rfl fun cC aE aB=>?_;obtain⟨qE,J⟩:=aB;replace E:=E.trans' J (fun x ab=>.inl (by simp at ab;simp [ab]));replace cH:=cH.mod J (by simp;exact fun h=>bS h.symm);clear B;have B:=qE;refine R aX (ae fun aM=>ao (bh mJ rfl (B.cell rfl)) (ao (fE rfl rfl) (R aM ?_)));refine bm rfl (fun ch=>?_) (fun ch=>?_)
 ·obtain⟨aaV,z2,z3,z4,z5,agC,rfl⟩:=six rn;refine b8 (ao (bj (us:=[]) (cs:=[_,_,_,_,_,_]) iI cK rfl rfl) (bd (vs:=[_,_,_,_,_,_]) aK cH rfl rfl rfl (by simp [Value.oneCell']) (by simp) fun lL nH=>?_));replace E:=E.trans' nH.mod (fun x ab=>.inl (by simp at ab;simp [ab]));replace B:=B.mod nH.mod (by simp;exact bS);have lD:=nH.eq (cs':=po) rfl;exact eG (iQ rfl ⟨⟨_,rfl⟩,rfl,B,lD,E⟩)
 exact absurd he ch
theorem MZ (w:World) (s:U) (ed:Env w):Calls Tryz.prog 22 [S s].toArray w (bI fun u w'=>∃ us,u = .tuple #[.agg us.toArray,.int .i64 (pq s)]∧ak (List.range w.heap.size) w' (lR s).D us∧Mod [] w w'):=by
 refine Hh Tryz.func22 rfl rfl rfl (l:=[(0,_)]) ⟨rfl,trivial⟩ ?_;have E:=Mod.refl [] w;refine ae fun aX=>bl cK rfl fun g2 aE bO=>?_;have FF:=bO.le E;replace E:=E.then bO.mod;have cH:=bO.aA;refine bl Tt rfl fun g3 cY cU=>?_;have Je:=cU.le E;have n23:=cU.ne cH;replace cH:=cH.I cU.mod;replace E:=E.then cU.mod;have dD:=cU.aA;refine R aX (ay fun aM=>ae fun a7=>aQ rfl (ao (bF Tryz.underlying9 rfl) (ao (hY rfl rfl) (R a7 ?_))));refine bm rfl (fun kv=>?_) (fun kv=>?_)
 ·have bJ:parse s = .error 3:=by unfold parse;rw [if_pos (by omega)]
  refine ae fun bC=>ao (bj (us:=[]) (cs:=[_,_,_,_,_,_]) iI cK rfl rfl) (bd (vs:=[_,_,_,_,_,_]) aK cH rfl rfl rfl (by simp [Value.oneCell']) (by simp) fun gv uG=>?_);have lD:=uG.eq (cs':=po) rfl;replace dD:=dD.mod uG.mod (by simpa using Ne.symm n23);replace E:=E.own uG.mod FF;refine ea mJ dD rfl rfl rfl (by simp) fun iH lX=>?_;replace lD:=lD.mod lX.mod (by simpa using n23);replace E:=E.own lX.mod Je;have QR:=lX.eq (cs':=[.int .i64 3]) rfl;exact R bC (bg (a1 (by simp) (AM fun a ax=>⟨_,nw ax rfl aK mJ rfl rfl rfl (lD.cs rfl) (QR.cell rfl),⟨_,by unfold pq;rw [bJ],by unfold lR;rw [bJ];exact JV.gp,E⟩⟩)))
 have aN:s.length≤65536:=by omega
 refine cJ (az aM (ae fun bU=>ao (M0 rfl rfl) (CJ rfl (R bU (ae fun ca=>aQ rfl (ao (bj (cs:=[_,_,_]) acK acL rfl rfl) (ef rfl rfl rfl fun g4 gv eT=>?_)))))));have afN:=eT.le E;have n24:=eT.ne cH;have n34:=eT.ne dD;replace cH:=cH.I eT.mod;replace dD:=dD.I eT.mod;replace E:=E.then eT.mod;have B:aD gv g4 75 [S s,.int .i64 ((0:Nat):Int),.slice none 0 0]:=eT.aA;have acM:IJ<g4:=Nat.lt_of_lt_of_le ed.sz afN;refine bb rfl (R ca (ae fun cA=>aQ rfl ?_))
 have xa:parse s=match EZ s with
  | .error e=>.error e
  | .ok (v,k)=>if ag aG s k<s.length then .error 4 else .ok v:=by unfold parse;rw [if_neg (by omega)];rfl
 refine e4 (bt WM rfl) (I4 B aN (ed.I E) acM (LI s)) rfl (fun di aB=>aB) (fun kZ iH aB=>?_) fun cC iH aB=>?_
 ·obtain⟨e,he,bD,rfl,J⟩:=aB;rw [he] at xa;replace cH:=cH.mod J (by simpa using n24);replace dD:=dD.mod J (by simpa using n34);replace E:=E.own J afN;refine a1 (by simp) (ua fun a ax=>p5 (by simp) FE (CI _ g3 g2 _ e _ rfl dD cH (Ne.symm n23) bD) fun MY aax lL lQ=>?_);obtain⟨⟨v9,rfl⟩,rfl,dD,cH,By⟩:=lQ;exact⟨v9,rfl,rfl,_,nw ax rfl aK mJ rfl rfl rfl (cH.cs rfl) (dD.cell rfl),⟨_,by unfold pq;rw [xa],by unfold lR;rw [xa];exact JV.gp,E.trans' By (fun x ab=>.inr (by simp at ab;rcases ab with rfl | rfl <;> assumption))⟩⟩
 obtain⟨⟨v,k⟩,he,⟨us,sk,rfl,apv,B,hk⟩,J⟩:=aB;rw [he] at xa
 dsimp only at xa apv B hk
 obtain⟨eB,sF⟩:=JV.cells_one apv;obtain⟨h7,ly,I7,Fz,I8,FA,rfl⟩:=six eB;replace cH:=cH.mod J (by simpa using n24);replace dD:=dD.mod J (by simpa using n34);replace E:=E.own J afN;have M1:∀ x∈g2::g3::List.range w.heap.size,x∈g4::List.range gv.heap.size:=fun x ab=>by
  have h1:=(bO.mod.trans (cU.mod.trans eT.mod)).size;have aj:=bO.aA.lt;have aF:=cU.aA.lt;have bn:=cU.mod.size;have ch:=eT.mod.size;simp only [List.mem_cons,List.mem_range] at ab ⊢;rcases ab with rfl | rfl | ab <;> right <;> omega
 have rr:ak (g2::g3::g4::List.range w.heap.size) iH v.D [h7,ly,I7,Fz,I8,FA]:=apv.fN (fun x ab=>by
  rcases List.mem_cons.1 ab with rfl | ab
  ·exact M1 _ (by simp)
  rcases List.mem_cons.1 ab with rfl | ab
  ·exact M1 _ (by simp)
  rcases List.mem_cons.1 ab with rfl | ab
  ·simp
  exact M1 _ (by simp only [List.mem_cons];exact .inr (.inr ab)))
 refine bd (vs:=[_,_,_,_,_,_]) aK cH rfl rfl rfl sF (by simp) fun jO hl=>?_;replace cH:=hl.eq (cs':=[h7,ly,I7,Fz,I8,FA]) rfl;replace B:=B.mod hl.mod (by simpa using Ne.symm n24);replace dD:=dD.mod hl.mod (by simpa using Ne.symm n23);replace rr:=rr.toM hl.mod (fun x ab=>by rw [List.mem_singleton.1 ab];simp);replace E:=E.own hl.mod FF;refine R cA (ay fun cM=>ae fun db=>aQ rfl (fP (bt AH rfl) (sD _ g4 s k sk B aN hk) rfl fun cC jV aB=>?_));obtain⟨B,J⟩:=aB;replace cH:=cH.mod J (by simpa using n24);replace dD:=dD.mod J (by simpa using n34);replace rr:=rr.toM J (fun x ab=>by rw [List.mem_singleton.1 ab];simp);replace E:=E.own J afN;refine R db (ae fun cq=>aq 2 rfl (ao (au cn rfl) (ao (bh dY rfl (B.cell rfl)) (aQ rfl (ao (bF Tryz.underlying9 rfl) (ao (dK rfl rfl) (R cq ?_)))))));refine bm rfl (fun Fq=>?_) (fun Fq=>?_)
 ·rw [if_pos (by omega)] at xa;refine b8 ?_;refine e4 (bt fg rfl) (ee _ 4) rfl (fun di aB=>aB.elim) (fun kZ ix aB=>?_) fun cC ix aB=>?_
  ·obtain⟨rfl,rfl⟩:=aB;refine a1 (by simp) (ua fun a ax=>p5 (by simp) FE (CI _ g3 g2 _ 4 _ rfl dD cH (Ne.symm n23) (by decide)) fun MY aax lL lQ=>?_);obtain⟨⟨v9,rfl⟩,rfl,dD,cH,By⟩:=lQ;exact⟨v9,rfl,rfl,_,nw ax rfl aK mJ rfl rfl rfl (cH.cs rfl) (dD.cell rfl),⟨_,by unfold pq;rw [xa],by unfold lR;rw [xa];exact JV.gp,E.trans' By (fun x ab=>.inr (by simp at ab;rcases ab with rfl | rfl <;> assumption))⟩⟩
  exact aB.elim
 rw [if_neg (by omega)] at xa;refine cJ (az cM (ae fun cj=>ao (a8 (vs:=[_,_,_,_,_,_]) aK rfl rfl (cH.cs rfl)) (bd (vs:=[_,_,_,_,_,_]) aK cH rfl rfl rfl sF (by simp) fun ix qu=>?_)));replace cH:=qu.eq (cs':=[h7,ly,I7,Fz,I8,FA]) rfl;replace dD:=dD.mod qu.mod (by simpa using Ne.symm n23);replace rr:=rr.toM qu.mod (fun x ab=>by rw [List.mem_singleton.1 ab];simp);replace E:=E.own qu.mod FF;refine ea mJ dD rfl rfl rfl (by simp) fun pD pv=>?_;replace cH:=cH.mod pv.mod (by simpa using n23);have QR:=pv.eq (cs':=[.int .i64 0]) rfl;replace rr:=rr.toM pv.mod (fun x ab=>by rw [List.mem_singleton.1 ab];simp);replace E:=E.own pv.mod Je;refine R cj (bg (AM fun a ax=>p5 (by simp) FE (MX _ g3 g2 QR) fun MY aax lL lQ=>?_));obtain⟨⟨v9,rfl⟩,rfl,By⟩:=lQ;exact⟨v9,rfl,rfl,_,nw ax rfl aK mJ rfl rfl rfl ((cH.I By).cs rfl) ((QR.I By).cell rfl),⟨_,by unfold pq;rw [xa],by unfold lR;rw [xa];exact(rr.bE By).fN (fun x ab=>by simp only [List.mem_cons];exact .inr (.inr (.inr ab))),E.then By⟩⟩
end Go.Proofs.YtnihidkbkhcfoaaGreatDoor.V
set_option maxRecDepth 10000
namespace Go.Proofs.YtnihidkbkhcfoaaGreatDoor.V
open Go
end Go.Proofs.YtnihidkbkhcfoaaGreatDoor.V
set_option maxRecDepth 10000
namespace Go.Proofs.YtnihidkbkhcfoaaGreatDoor.V
open Go Go.Proofs
theorem WN:aP Tryz.prog 22:=aP.of Tryz.func22 (by kernel_rfl) (by kernel_rfl)
end Go.Proofs.YtnihidkbkhcfoaaGreatDoor.V
namespace Go.Proofs.YtnihidkbkhcfoaaGreatDoor.V
open Go
theorem E' {l l':U} (bD:(aC l).2≠0) (h:l.take (aC l).2 <+: l'):aC l'=aC l:=by
 cases l with
 | nil=>exact absurd rfl bD
 | cons b r=>
  obtain⟨y,rfl⟩:=h
  by_cases aH:b.toNat<128
  ·rw [fG aH];show aC ((b::r).take 1++y)=_;exact fG aH
  obtain⟨n,lo,c,hH⟩:∃ n lo c,gj b.toNat=(n,lo,c):=⟨_,_,_,rfl⟩
  by_cases bW:n=0∨(b::r).length<n
  ·exact absurd (by rw [gD aH hH bW]) bD
  have aj:(aC (b::r)).2=n:=by
   rw [l8 aH hH bW] at bD ⊢
   split at bD
   ·exact absurd rfl bD
   split at bD
   ·exact absurd rfl bD
   rename_i a6;rw [if_neg a6]
  rw [aj,l8 aH hH bW];obtain⟨m,rfl⟩:∃ m,n=m+1:=⟨n-1,by omega⟩;simp only [List.length_cons] at bW;rw [List.take_succ_cons,List.cons_append,l8 aH hH (by simp only [List.length_cons,List.length_append,List.length_take];omega)];rw [show m+1-1=m from rfl,List.take_append_of_le_length (by rw [List.length_take];omega),List.take_take,Nat.min_self]
theorem yY:∀ k,k<16→iX (hM.getD k 0)=some k:=by decide
theorem pX {b:UInt8} (h:b.toNat<128):hQ b.toNat = [b]:=by
 have:=oS (l:=[b]) (by simp) (by rw [fG h];simp);rw [fG h] at this;simpa using this
theorem Ir {f:Nat} {b:UInt8} {X:U} {i:Nat} {out:U} (aH:b.toNat<128):e6 (f+1) (hN b++X) i out=e6 f X (i+(hN b).length) (out ++ [b]):=by
 have two:∀ x:UInt8,pW x=some b.toNat→hN b = [92,x]→e6 (f+1) (hN b++X) i out=e6 f X (i+(hN b).length) (out ++ [b]):=by
  intro x ab he;have bf:j7 (92::x::X)=(b.toNat,2):=by
   unfold j7;simp only;rw [ab]
  rw [he];show e6 (f+1) (92::(x::X)) i out=_;rw [e6,if_neg (by decide),if_pos rfl];simp only;rw [bf,if_neg (by simp),pX aH];rfl
 unfold hN at two ⊢
 by_cases h1:b=34∨b=92
 ·rw [if_pos h1] at two ⊢;rcases h1 with rfl | rfl
  ·exact two 34 rfl rfl
  exact two 92 rfl rfl
 rw [if_neg h1] at two ⊢
 by_cases aj:b=8
 ·rw [if_pos aj] at two ⊢;subst aj;exact two 98 rfl rfl
 rw [if_neg aj] at two ⊢
 by_cases aF:b=9
 ·rw [if_pos aF] at two ⊢;subst aF;exact two 116 rfl rfl
 rw [if_neg aF] at two ⊢
 by_cases bn:b=10
 ·rw [if_pos bn] at two ⊢;subst bn;exact two 110 rfl rfl
 rw [if_neg bn] at two ⊢
 by_cases ch:b=12
 ·rw [if_pos ch] at two ⊢;subst ch;exact two 102 rfl rfl
 rw [if_neg ch] at two ⊢
 by_cases eB:b=13
 ·rw [if_pos eB] at two ⊢;subst eB;exact two 114 rfl rfl
 rw [if_neg eB] at two ⊢;clear two
 by_cases kv:b.toNat<32
 rotate_left
 ·rw [if_neg kv];show e6 (f+1) (b::X) i out=_;have wD:b≠34:=fun h=>h1 (.inl h);have Va:b≠92:=fun h=>h1 (.inr h);rw [e6,if_neg wD,if_neg Va];simp only;rw [fG aH,if_neg (by simp;omega),pX aH];rfl
 rw [if_pos kv];have d1:=yY (b.toNat / 16) (by omega);have d2:=yY (b.toNat % 16) (by omega);generalize hM.getD (b.toNat / 16) 0=x at d1;generalize hM.getD (b.toNat % 16) 0=y at d2;have bf:j7 (92::117::48::48::x::y::X)=(b.toNat,6):=by
  have hu:lP (92::117::48::48::x::y::X)=some b.toNat:=by
   show dX 4 (48::48::x::y::X) 0=_;have yZ:iX 48=some 0:=rfl;simp only [dX,yZ,d1,d2]
   congr 1
   omega
  unfold j7;simp only;rw [show pW 117=none from rfl];simp only;rw [hu];simp only;rw [if_neg (by omega),if_pos (by omega)]
 show e6 (f+1) (92::(117::48::48::x::y::X)) i out=_;rw [e6,if_neg (by decide),if_pos rfl];simp only;rw [bf,if_neg (by simp),pX aH];rfl
theorem wE (c:UInt8) (t:U):cW (c::t)=hN c++cW t:=by simp [cW]
theorem Is (a b:U):cW (a++b)=cW a++cW b:=by simp [cW]
theorem y0 (c:UInt8):1≤(hN c).length:=by
 unfold hN
 repeat' split
 all_goals simp
theorem tJ:∀ (N:Nat) (t:U),t.length≤N→ck t=true→∀ (f i:Nat) (out rest:U),(cW t).length+1≤f→e6 f (cW t++34::rest) i out=some (out++t,i+(cW t).length+1)
 | N,[],_,_,f,i,out,rest,dm=>by
  obtain⟨g,rfl⟩:∃ g,f=g+1:=⟨f-1,by omega⟩
  show e6 (g+1) (34::rest) i out=_
  rw [e6,if_pos rfl]
  simp [cW]
 | 0,b::r,h,_,_,_,_,_,_=>by simp at h
 | N+1,b::r,hj,bw,f,i,out,rest,dm=>by
  have bS:(b::r)≠[]:=by simp
  have bD:=wF bS bw
  have od:=bw
  rw [kE bS bD] at od
  obtain⟨g,rfl⟩:∃ g,f=g+1:=⟨f-1,by omega⟩
  by_cases a6:(aC (b::r)).1<128
  ·obtain⟨x,ab,Vb⟩:=kH bS bD a6
   have jR:(aC (b::r)).2=1:=by
    have:=congrArg List.length ab
    rw [List.length_take,List.length_singleton] at this
    have:=kD (b::r)
    omega
   rw [jR] at ab od
   simp only [List.take_succ_cons,List.take_zero,List.cons.injEq,and_true] at ab
   subst ab
   rw [List.drop_succ_cons,List.drop_zero] at od
   have eE:=y0 b
   rw [wE,List.length_append] at dm
   rw [wE,List.append_assoc,Ir (by omega),tJ N r (by simpa using hj) od g _ _ rest (by omega)]
   simp only [List.length_append,List.append_assoc,List.singleton_append,Option.some.injEq,Prod.mk.injEq,true_and]
   omega
  have aH:=uQ bS bD (by omega)
  have hle:=kD (b::r)
  generalize bW:(aC (b::r)).2=n at *
  have wG:cW (b::r)=(b::r).take n++cW ((b::r).drop n):=by
   conv=>lhs;rw [← List.take_append_drop n (b::r)]
   rw [Is,y1 aH]
  have abn:aC ((b::r).take n++(cW ((b::r).drop n)++34::rest))=aC (b::r):=E' (by omega) (by rw [bW];exact List.prefix_append _ _)
  have abo:hQ (aC (b::r)).1=(b::r).take n:=by rw [oS bS (by omega),bW]
  have bM:((b::r).take n).length=n:=by rw [List.length_take];omega
  have LM:(b::r).take n=b::(r.take (n-1)):=by
   obtain⟨m,rfl⟩:∃ m,n=m+1:=⟨n-1,by omega⟩
   rfl
  have Au:128≤b.toNat:=aH b (by rw [LM];simp)
  rw [wG,List.length_append,bM] at dm
  rw [wG,List.append_assoc]
  have Vc:e6 (g+1) ((b::r).take n++(cW ((b::r).drop n)++34::rest)) i out=e6 g (cW ((b::r).drop n)++34::rest) (i+n) (out++(b::r).take n):=by
   have abp:((b::r).take n++(cW ((b::r).drop n)++34::rest)).drop n=cW ((b::r).drop n)++34::rest:=List.drop_left' bM
   generalize aaw:(b::r).take n++(cW ((b::r).drop n)++34::rest)=Z at abn abp ⊢
   cases Z with
   | nil=>rw [LM] at aaw;cases aaw
   | cons z alv=>
    have cO:z=b:=by
     rw [LM] at aaw
     injection aaw with aaw
     exact aaw.symm
    subst cO
    have wD:¬ z=34:=fun h=>by rw [h] at Au;revert Au;decide
    have Va:¬ z=92:=fun h=>by rw [h] at Au;revert Au;decide
    rw [e6,if_neg wD,if_neg Va]
    simp only
    rw [abn,bW,if_neg (by omega),abp,abo]
  rw [Vc,tJ N _ (by rw [List.length_drop];simp only [List.length_cons] at hj ⊢;omega) od g _ _ rest (by omega)]
  simp only [List.length_append,bM,List.append_assoc,List.take_append_drop,Option.some.injEq,Prod.mk.injEq,true_and]
  omega
theorem y2 {s t rest:U} {k:Nat} (bw:ck t=true) (h:s.drop k=b7 t++rest):ew s k=some (t,k+(b7 t).length):=by
 have fb:s.drop k=34::(cW t++34::rest):=by rw [h];simp [b7]
 have hk:s[k]? = some 34:=by
  have:=congrArg (fun l=>l[0]?) fb;simpa [List.getElem?_drop] using this
 have bL:s.drop (k+1)=cW t++34::rest:=by
  rw [fq hk] at fb;injection fb
 have hlen:=congrArg List.length fb;simp only [List.length_drop,List.length_cons,List.length_append] at hlen;unfold ew;rw [if_pos hk,bL,tJ t.length t (Nat.le_refl _) bw _ _ _ _ (by omega)];simp only [b7,List.length_append,List.length_cons,List.length_nil,List.nil_append,Option.some.injEq,Prod.mk.injEq,true_and];omega
end Go.Proofs.YtnihidkbkhcfoaaGreatDoor.V
