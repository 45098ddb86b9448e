/-
  A part of the proof: the reader's begin, walked; what the reader's value asks of the plain machine; a block made private; the reader's value, walked; json.Parse, walked; two texts read: the law's own example, a number with a point; the canonical text of the law's own example; a text between quotes, read; a value's canonical text, read, is the value; a value with a canonical text is read from it as it is; what the row lays, as the reading asks for it; no writing fails with the number 0; what is read has a canonical text, unless it is too long; a map without one of its keys. No condition of its own.
-/
import Derived.Test.YtkjgljnkocnnpaaGreatDoorM0
import Derived.Test.YtkjgljnkocnnpaaGreatDoorM10
import Derived.Test.YtkjgljnkocnnpaaGreatDoorM7
import Derived.Test.YtkjgljnkocnnpaaGreatDoorM8
import Derived.Test.YtkjgljnkocnnpaaGreatDoorM3
import Derived.Test.YtkjgljnkocnnpaaGreatDoorM6
import Derived.Test.YtkjgljnkocnnpaaGreatDoorM9
import Derived.Test.YtkjgljnkocnnpaaGreatDoorM4
import Derived.Test.YtkjgljnkocnnpaaGreatDoorRows
import Derived.Lib.LaidTab
import Derived.Lib.LaidU8
import Derived.Test.YtkjgljnkocnnpaaGreatDoorM2
import Derived.Test.YtkjgljnkocnnpaaGreatDoorM5
set_option linter.all false
set_option maxRecDepth 10000
namespace Go.Proofs.YtkjgljnkocnnpaaGreatDoor.V
open Go Go.Proofs
theorem GM {w:World} {g T b:Nat} {cs:List Value} {m:List (ab×Value)} (B:aF w g T cs) (aBp:k8 w b m):g≠b:=fun e=>by
 subst e;obtain⟨es,c,h,_⟩:=aBp.at_;rw [show w.heap[g]? = _ from B] at h;cases h
abbrev tk:List Value:=[.int .i64 0,.bool false,.int .i64 0,S [],.slice none 0 0,.slice none 0 0]
theorem yL {s:ab} {k n:Nat} {x:JV×Nat} (h:iX s (ai aT s k)=some x):oS s k n = .ok (.inl x):=by
 unfold iX at h;unfold oS
 dsimp only
 split at h
 ·rename_i h1;rw [aL h1];injection h with h;rw [h]
 rename_i h1
 rw [ak h1]
 split at h
 ·rename_i aq;rw [aL aq];injection h with h;rw [h]
 rename_i aq
 rw [ak aq]
 split at h
 ·rename_i bb;rw [aL bb];injection h with h;rw [h]
 cases h
noncomputable def ri (s:ab) (k n:Nat):Except Int (Sum (JV×Nat) (nF×Nat)):=
 if aC s k [34] then
  match dP s k with
  | none=>.error 4
  | some (t,ef)=>.ok (.inl (JV.aN t,ef))
 else if aC s k [91]||aC s k [123] then
  if n=32 then .error 5
  else
   let ef:=ai aT s (k+1)
   if aC s k [91] then
    if aC s ef [93] then .ok (.inl (JV.de [],ef+1))else .ok (.inr (.L [],ef))
   else
    if aC s ef [125] then .ok (.inl (JV.obj [],ef+1))
    else match h5 s ef [] with
     | .error e=>.error e
     | .ok (t,jt)=>.ok (.inr (.M [] t,jt))
 else match jW s k with
  | .error e=>.error e
  | .ok x=>.ok (.inl x)
theorem yM {s:ab} {k n:Nat} (h:iX s (ai aT s k)=none):oS s k n=ri s (ai aT s k) n:=by
 unfold iX at h;unfold oS ri
 dsimp only
 split at h
 ·cases h
 rename_i h1
 rw [ak h1]
 split at h
 ·cases h
 rename_i aq
 rw [ak aq]
 split at h
 ·cases h
 rename_i bb
 rw [ak bb];rfl
theorem QS {s:ab} {k n:Nat} (h:k=s.length):ri s k n = .error 4:=by
 have cg:∀ c:UInt8,aC s k [c]=false:=fun c=>fX (by omega) (by simp);have cP:s.drop k = []:=List.drop_eq_nil_of_le (by omega);have cu:jW s k = .error 4:=by
  unfold jW iU;rw [cP,List.take_nil,aL (by decide)];rfl
 unfold ri;rw [cg,cg,cg,cu];rfl
theorem rD {s:ab} {k:Nat} {c:UInt8} (aZ:s[k]? = some c) (d:UInt8):aC s k [d]=decide (c=d):=fL aZ
theorem QT {s:ab} {k n:Nat} (aZ:s[k]? = some 34):ri s k n=match dP s k with | none=>.error 4 | some (t,ef)=>.ok (.inl (JV.aN t,ef)):=by
 unfold ri;rw [rD aZ,aL (by decide)]
theorem QU {s:ab} {k n:Nat} (aZ:s[k]? = some 91):ri s k n=if n=32 then .error 5 else if aC s (ai aT s (k+1)) [93] then .ok (.inl (JV.de [],ai aT s (k+1)+1))else .ok (.inr (.L [],ai aT s (k+1))):=by
 unfold ri;rw [rD aZ,rD aZ,rD aZ,ak (by decide),aL (by decide)]
 by_cases cu:n=32
 ·rw [aL cu,aL cu]
 rw [ak cu,ak cu];exact aL (by decide)
theorem QV {s:ab} {k n:Nat} (aZ:s[k]? = some 123):ri s k n=if n=32 then .error 5 else if aC s (ai aT s (k+1)) [125] then .ok (.inl (JV.obj [],ai aT s (k+1)+1))else match h5 s (ai aT s (k+1)) [] with | .error e=>.error e | .ok (t,jt)=>.ok (.inr (.M [] t,jt)):=by
 unfold ri;rw [rD aZ,rD aZ,rD aZ,ak (by decide),aL (by decide)]
 by_cases cu:n=32
 ·rw [aL cu,aL cu]
 rw [ak cu,ak cu];exact ak (by decide)
theorem QW {s:ab} {k n:Nat} {c:UInt8} (aZ:s[k]? = some c) (h1:¬ c=34) (aq:¬ c=91) (bb:¬ c=123):ri s k n=match jW s k with | .error e=>.error e | .ok x=>.ok (.inl x):=by
 unfold ri;rw [rD aZ,rD aZ,rD aZ,cr h1,cr aq,cr bb];rfl
def asq (Z:List Nat) (w0 w:World) (g:Nat) (s:ab) (st:List nF) (sk:Value) (fp:List Nat):Sum (JV×Nat) (nF×Nat)→Value→World→Prop
 | .inl (v,ef),u,w'=>∃ us ie cs' jE,u = .tuple #[.agg us.toArray,.bool true]∧o9 (pk Z) w0 w' g s ef st ie cs' jE∧n1 w w' g sk fp ie jE∧ao (g::(bk ie++jE)) w' v.D us∧B8 Z w w'
 | .inr (fm,ef),u,w'=>∃ us ie cs' jE,u = .tuple #[.agg us.toArray,.bool false]∧us=tk∧o9 (pk Z) w0 w' g s ef (fm::st) ie cs' jE∧n1 w w' g sk fp ie jE∧B8 Z w w'
def acT:=eW Tryz.func102
def O3:=eW Tryz.func104
def acU:=eW Tryz.func105
theorem acV:vh aR 54:=vh.of Tryz.func54 (by kernel_rfl) (by kernel_rfl)
def GN:=eW Tryz.func69
def Wv:=eW Tryz.func70
def ag0:=kT (tp aR 133 [(0,1)])
theorem ag1:gX aR 133 [.slice none 0 0]:=by unfold gX;kernel_rfl
def ag2:=kT (tp aR 136 [(0,1),(1,1),(2,1)])
theorem ag3:gX aR 136 [.slice none 0 0,.map none,S []]:=by unfold gX;kernel_rfl
theorem Ww {Z:List Nat} {w0 w:World} {g k:Nat} {s:ab} {st:List nF} {sk:Value} {cs:List Value} {fp:List Nat} (H:o9 (pk Z) w0 w g s k st sk cs fp) (bh:s.length≤65536) (hk:k≤s.length) (bT:cs.length≤32) (gR:Env w) (dY:QM<g) (asr:∀ x∈bk sk,QM<x) :
  Calls aR 66 [.pointer (some ⟨g,0,none⟩)].toArray w (Qy 95 (g::bk sk) w (oS s k st.length) (asq Z w0 w g s st sk fp)):=by
 refine l9 Tryz.func66 rfl ?_
 have ag4:=gR
 have hlen:=H.len
 have cP:=H.Aj
 have B:aF w g 71 _:=H.rd
 have xl:∀ x∈bk sk,x≠g:=fun x ae e=>H.vk (by subst e;simp [ae])
 have E:=Mod.refl [g] w
 have g':ai aT s k≤s.length:=dD hk
 refine aa fun a6=>bj bA rfl fun g2 aJ bZ=>?_
 have xk:=bZ.le E
 have se:=bZ.ne B
 have QQ:=bZ.bU H.own
 replace B:=B.I bZ.mod
 replace E:=E.then bZ.mod
 have eb:=bZ.ar
 refine a7 rfl (J a6 (aa fun aQ=>aO rfl (cJ (bB GL rfl) (xj _ g s k sk B bh hk) fun cN cX aH=>?_)))
 obtain⟨B,U⟩:=aH
 replace eb:=eb.mod U (by simpa using Ne.symm se)
 replace E:=E.trans U
 refine J aQ (aB fun a'=>aa fun bp=>aO rfl (cJ (bB acT rfl) (acM _ g s _ sk B bh g') fun cN gr aH=>?_))
 obtain⟨us,rfl,ba,cu,U⟩:=aH
 replace eb:=eb.mod U (by simpa using Ne.symm se)
 replace E:=E.trans U
 cases hw:iX s (ai aT s k)with
 | some x=>
  obtain⟨v,q⟩:=x
  obtain⟨v',ass,ast,aBn,B⟩:=ba (by rw [hw];rfl)
  obtain⟨al,cl,am,cm,rfl,_,_⟩:=JV.aU (aBn [] w)
  refine aO rfl (ah (fo rfl rfl) (ah (fo rfl rfl) (bj bA rfl fun g4 h8 N4=>?_)))
  have ag5:=N4.le E
  have n3:=N4.ne B
  have n4:=N4.ne eb
  replace B:=B.I N4.mod
  replace eb:=eb.I N4.mod
  replace E:=E.then N4.mod
  refine aK au N4.ar rfl rfl fun iS hd=>?_
  have awr:=hd.eq (cs':=[_,_,_,_,_,_]) rfl
  replace B:=B.mod hd.mod (by simpa using n3)
  replace eb:=eb.mod hd.mod (by simpa using n4)
  replace E:=E.own hd.mod ag5
  refine a7 rfl (J bp (mU fun K5 bx=>b5 (aO rfl (J bx ?_))))
  refine a1 rfl (fun r7=>?_) (fun r7=>absurd r7 (by simp))
  refine aa fun bO=>ah (br au rfl (awr.cs rfl)) (aK au eb rfl rfl fun i' kI=>?_)
  have pn:=kI.eq (cs':=[_,_,_,_,_,_]) rfl
  replace B:=B.mod kI.mod (by simpa using se)
  replace E:=E.own kI.mod xk
  exact a7 rfl (J bO (bn (aP (n' rfl au rfl (pn.cs rfl) rfl ⟨.inl (v',ass),yL ast,⟨_,sk,cs,fp,rfl,H.tY B E,n1.of E,aBn _ _,(B8.of E (fun z hx=>(cP z hx).1) (fun z hx=>by simpa using (cP z hx).2.1))⟩,E.mono (by simp)⟩))))
 | none=>
  obtain⟨_,rfl,B⟩:=cu (by rw [hw];rfl)
  have pq:=yM (n:=st.length) hw
  refine aO rfl (ah (fo rfl rfl) (ah (fo rfl rfl) (bj bA rfl fun g4 h8 N4=>?_)))
  have ag5:=N4.le E
  have n3:=N4.ne B
  have n4:=N4.ne eb
  replace B:=B.I N4.mod
  replace eb:=eb.I N4.mod
  replace E:=E.then N4.mod
  refine aK au N4.ar rfl rfl fun iS hd=>?_
  have awr:=hd.eq (cs':=tk) rfl
  replace B:=B.mod hd.mod (by simpa using n3)
  replace eb:=eb.mod hd.mod (by simpa using n4)
  replace E:=E.own hd.mod ag5
  refine a7 rfl (J bp (mU fun K5 bx=>b5 (aO rfl (J bx (a1 rfl (fun r7=>absurd r7 (by simp)) (fun r7=>b' (av a' (aB fun b4=>eN (aB fun cw=>cn wide (by kernel_rfl) (hF 2 rfl rfl ?_))))))))))
  refine ax (fun U=>(aD dK rfl)) (ax (fun U=>(bF eg rfl ((B.I U).cell rfl))) (hF 2 rfl rfl (ax (fun U=>(aD gV rfl)) (ax (fun U=>(bF b2 rfl ((B.I U).cell rfl))) (ax (fun U=>(bQ aA rfl)) (ax (fun U=>(k1 rfl rfl)) (ax (fun U=>(cS rfl)) (cq rfl fun i' U=>?_))))))))
  replace B:=B.I U
  replace eb:=eb.I U
  replace E:=E.then U
  refine av cw ?_
  refine aX rfl (fun oG=>?_) (fun oG=>?_)
  ·refine b5 ?_
   refine h6 (bB jz rfl) (hv _ 4) rfl (fun db aH=>aH.elim) (fun oU iw aH=>?_) fun cN iw aH=>?_
   ·obtain⟨rfl,rfl⟩:=aH
    exact bw (aP (ff ⟨4,by rw [pq,QS (by omega)],by decide,rfl,E.mono (by simp)⟩))
   exact aH.elim
  obtain⟨c,aZ⟩:∃ c,s[ai aT s k]? = some c:=⟨_,List.getElem?_eq_getElem (by omega)⟩
  refine aB fun cy=>cn wide (by kernel_rfl) (hF 2 rfl rfl (ax (fun U=>(aD gV rfl)) (ax (fun U=>(bF b2 rfl ((B.I U).cell rfl))) (hF 2 rfl rfl (ax (fun U=>(aD dK rfl)) (ax (fun U=>(bF eg rfl ((B.I U).cell rfl))) (ax (fun U=>(bN aA rfl rfl aZ)) (ax (fun U=>(k1 rfl rfl)) (ax (fun U=>(cS rfl)) (cq rfl fun azz U=>?_))))))))))
  replace B:=B.I U
  replace eb:=eb.I U
  replace E:=E.then U
  refine av cy ?_
  refine aX rfl (fun Gi=>?_) (fun Gi=>?_)
  ·obtain rfl:c=34:=dT (by rw [Gi];rfl)
   rw [QT aZ] at pq
   refine aa fun b6=>aO rfl ?_
   refine h6 (bB OZ rfl) (Jd _ g s (ai aT s k) sk B bh g' (ag4.vu dY E).agP) rfl (fun db aH=>aH) (fun oU iw aH=>?_) fun cN iw aH=>?_
   ·obtain⟨e,he,cg,rfl,U⟩:=aH
    refine aP (bw (aP ?_))
    refine ff ⟨e,?_,cg,rfl,(E.trans U).mono (by simp)⟩
    rw [pq]
    cases h:dP s (ai aT s k)with
    | none=>rw [h] at he;cases he;rfl
    | some x=>rw [h] at he;cases he
   obtain⟨⟨t,ef⟩,he,⟨rfl,B⟩,U⟩:=aH
   have bW:dP s (ai aT s k)=some (t,ef):=by
    cases h:dP s (ai aT s k)with
    | none=>rw [h] at he;cases he
    | some x=>rw [h] at he;cases he;rfl
   rw [bW] at pq
   replace eb:=eb.mod U (by simpa using Ne.symm se)
   replace E:=E.trans U
   refine cG E (bB acV rfl) (oV _ t) fun nd U E=>?_
   replace B:=B.I U
   replace eb:=eb.I U
   refine aK au eb rfl rfl fun lF lW=>?_
   have pn:=lW.eq (cs':=[_,_,_,_,_,_]) rfl
   replace B:=B.mod lW.mod (by simpa using se)
   replace E:=E.own lW.mod xk
   exact a7 rfl (J b6 (bn (bw (aP (n' rfl au rfl (pn.cs rfl) rfl ⟨.inl (JV.aN t,ef),pq,⟨_,sk,cs,fp,rfl,H.tY B E,n1.of E,JV.bX (v:=JV.aN t) (al:=none) (am:=none) (cl:=0) (cm:=0) bq.eh bq.eh,(B8.of E (fun z hx=>(cP z hx).1) (fun z hx=>by simpa using (cP z hx).2.1))⟩,E.mono (by simp)⟩)))))
  have ams:¬ c=34:=fun e=>Gi (by rw [e];rfl)
  refine aB fun bR=>cn wide (by kernel_rfl) (hF 2 rfl rfl (ax (fun U=>(aD gV rfl)) (ax (fun U=>(bF b2 rfl ((B.I U).cell rfl))) (hF 2 rfl rfl (ax (fun U=>(aD dK rfl)) (ax (fun U=>(bF eg rfl ((B.I U).cell rfl))) (ax (fun U=>(bN aA rfl rfl aZ)) (ax (fun U=>(k1 rfl rfl)) (ax (fun U=>(cS rfl)) (cq rfl fun aws U=>?_))))))))))
  replace B:=B.I U
  replace eb:=eb.I U
  replace E:=E.then U
  refine av bR ?_
  refine aX rfl (fun Il=>?_) (fun Il=>?_)
  ·obtain rfl:c=91:=dT (by rw [Il];rfl)
   rw [QU aZ] at pq
   refine aa fun cv=>aO rfl (ah (ma (us:=[]) (cs:=[_]) ag0 ag1 rfl rfl) (eY rfl rfl rfl fun g5 iw fJ=>?_))
   have Wx:=fJ.le E
   have n6:=fJ.ne B
   have n7:=fJ.ne eb
   replace B:=B.I fJ.mod
   replace eb:=eb.I fJ.mod
   have hC:=eb.lt
   replace E:=E.then fJ.mod
   have EX:=fJ.ar
   refine ah (MB B6 rfl rfl) ?_
   refine h6 (bB O3 rfl) (OY B (H.own.mod E (fun x ae e=>xl x ae (by simpa using e))) xl bh g' bT) rfl (fun db aH=>aH) (fun oU nd aH=>?_) fun cN nd aH=>?_
   ·obtain⟨e,he,cg,rfl,U⟩:=aH
    refine aP (bw (aP ?_))
    refine ff ⟨e,?_,cg,rfl,(E.mono (by simp)).trans U⟩
    by_cases ug:cs.length=32
    ·rw [aL ug] at he
     rw [pq,aL (by omega)]
     cases he;rfl
    rw [ak ug] at he;cases he
   obtain⟨_,he,⟨_,ie,B,HQ,yN⟩,U⟩:=aH
   have ug:¬ cs.length=32:=fun h=>by rw [aL h] at he;cases he
   rw [ak (by omega)] at pq
   have eQ:cs.length+1≤32:=by omega
   have n8:g5∉g::bk sk:=fun h=>by
    rcases cB h with h | h
    ·exact n6 h.symm
    have:=H.lt g5 (by simp [h]);omega
   have HT:g2∉g::bk sk:=fun h=>by
    rcases cB h with h | h
    ·exact se h.symm
    have:=H.lt g2 (by simp [h]);omega
   replace eb:=eb.mod U HT
   replace EX:=EX.mod U n8
   have ag6:=E.size
   have MC:=fJ.ar.lt
   have wm:∀ x∈bk ie,x∈bk sk∨iw.heap.size≤x:=yN
   replace E:Mod (g::bk sk) w nd:=(E.mono (by simp)).trans U
   have z7:∀ x∈bk ie,x≠g2:=fun x ae e=>by
    subst e
    rcases yN x ae with h | h
    ·exact HT (by simp [h])
    omega
   have amt:∀ x∈bk ie,x≠g5:=fun x ae e=>by
    subst e
    rcases yN x ae with h | h
    ·exact n8 (by simp [h])
    omega
   have Jq:∀ x∈bk ie,x≠g:=fun x ae e=>by
    subst e
    rcases yN x ae with h | h
    ·exact xl x h rfl
    have:=H.rd.lt;have:=fJ.at_;omega
   have MD:∀ z∈Z,z∉g::bk sk:=fun z hx h=>by
    rcases cB h with h | h
    ·exact(cP z hx).2.1 h
    exact(cP z hx).2.2 h
   refine J cv (aB fun bV=>aa fun cE=>aO rfl ?_)
   have bC:ai aT s k+1≤s.length:=(List.getElem?_eq_some_iff.1 aZ).1
   refine cJ (bB sX rfl) (wi _ g s _ ie B bh bC 93) fun cN lF aH=>?_
   obtain⟨rfl,B,U⟩:=aH
   replace eb:=eb.mod U (by simpa using Ne.symm se)
   replace EX:=EX.mod U (by simpa using Ne.symm n6)
   replace HQ:=HQ.mod U (fun x ae e=>Jq x ae (by simpa using e))
   replace E:=E.trans (U.mono (by simp))
   refine J cE ?_
   refine a1 rfl (fun ag7=>?_) (fun ag7=>?_)
   ·rw [aL ag7] at pq B
    refine aa fun cI=>aO rfl (cJ (bB GN rfl) (Jl B (by simpa using HQ) EX (Ne.symm n6) Jq (by omega)) fun cN h2 aH=>?_)
    obtain⟨rfl,⟨asu,B,rV,km⟩,U⟩:=aH
    replace eb:=eb.mod U (by simpa using Ne.symm se)
    replace E:=E.trans (U.mono (by simp))
    refine aK au eb rfl rfl fun jJ fa=>?_
    have pn:=fa.eq (cs':=[_,_,_,_,_,_]) rfl
    replace B:=B.mod fa.mod (by simpa using se)
    replace E:=E.own fa.mod xk
    refine a7 rfl (J cI (bn (aP (bw (aP ?_)))))
    obtain⟨nc,po⟩:=H.OH E B (rV.mod fa.mod (fun x ae e=>z7 x (km▸ae) (by simpa using e))) (fun x ae=>(wm x (km▸ae)).imp id (fun h=>by have:=fJ.at_;omega))
    exact n' rfl au rfl (pn.cs rfl) rfl ⟨.inl (JV.de [],_),pq,⟨_,_,cs,fp,rfl,nc,po,JV.bX (v:=JV.de []) (al:=none) (am:=none) (cl:=0) (cm:=0) bq.eh bq.eh,(B8.of E (fun z hx=>(cP z hx).1) MD)⟩,E⟩
   rw [ak (by simpa using ag7)] at pq B
   refine b' (av bV (aa fun dr=>ah (ma (us:=[]) (cs:=[_,_,_,_,_,_]) dz bA rfl rfl) (aK au eb rfl rfl fun jJ fa=>?_)))
   have pn:=fa.eq (cs':=[_,_,_,_,_,_]) rfl
   replace B:=B.mod fa.mod (by simpa using se)
   replace EX:=EX.mod fa.mod (by simpa using Ne.symm n7)
   replace E:=E.own fa.mod xk
   refine a7 rfl (J dr (bn (bw (aP ?_))))
   obtain⟨nc,po⟩:=H.push (N:=iw.heap.size) (fm:=.L []) (c:=.iface 131 (.pointer (some ⟨g5,0,none⟩))) (m:=[g5]) E (by have:=fJ.at_;omega) (fun x ae=>by rw [dx ae];exact⟨Wx,MC⟩) B (HQ.mod fa.mod (fun x ae e=>z7 x ae (by simpa using e))) wm (fun A=>⟨g5,.slice none 0 0,rfl,⟨EX,⟨[],Own.nil _ _ _,ao.oJ⟩,by simp [bk]⟩,rfl⟩)
   exact n' rfl au rfl (pn.cs rfl) rfl ⟨.inr (.L [],_),pq,⟨_,_,_,_,rfl,rfl,nc,po,(B8.of E (fun z hx=>(cP z hx).1) MD)⟩,E⟩
  have amu:¬ c=91:=fun e=>Il (by rw [e];rfl)
  refine aB fun ec=>cn wide (by kernel_rfl) (hF 2 rfl rfl (ax (fun U=>(aD gV rfl)) (ax (fun U=>(bF b2 rfl ((B.I U).cell rfl))) (hF 2 rfl rfl (ax (fun U=>(aD dK rfl)) (ax (fun U=>(bF eg rfl ((B.I U).cell rfl))) (ax (fun U=>(bN aA rfl rfl aZ)) (ax (fun U=>(k1 rfl rfl)) (ax (fun U=>(cS rfl)) (cq rfl fun awt U=>?_))))))))))
  replace B:=B.I U
  replace eb:=eb.I U
  replace E:=E.then U
  refine av ec ?_
  refine aX rfl (fun B'=>?_) (fun B'=>?_)
  rotate_left
  ·have ag':¬ c=123:=fun e=>B' (by rw [e];rfl)
   refine b' (bw (av b4 ?_))
   rw [QW aZ ams amu ag'] at pq
   refine aa fun fT=>aO rfl ?_
   refine h6 (bB acU rfl) (Mw _ g s (ai aT s k) sk B bh g' (ag4.vu dY E) dY) rfl (fun db aH=>aH) (fun oU iw aH=>?_) fun cN iw aH=>?_
   ·obtain⟨e,he,cg,rfl,U⟩:=aH
    exact aP (ff ⟨e,by rw [pq,he],cg,rfl,(E.trans U).mono (by simp)⟩)
   obtain⟨⟨v,ef⟩,he,⟨us,rfl,aBn,B⟩,U⟩:=aH
   rw [he] at pq
   obtain⟨al,cl,am,cm,rfl,_,_⟩:=JV.aU (aBn [] w)
   replace eb:=eb.mod U (by simpa using Ne.symm se)
   replace E:=E.trans U
   refine aK au eb rfl rfl fun lF lW=>?_
   have pn:=lW.eq (cs':=[_,_,_,_,_,_]) rfl
   replace B:=B.mod lW.mod (by simpa using se)
   replace E:=E.own lW.mod xk
   exact a7 rfl (J fT (bn (n' rfl au rfl (pn.cs rfl) rfl ⟨.inl (v,ef),pq,⟨_,sk,cs,fp,rfl,H.tY B E,n1.of E,aBn _ _,(B8.of E (fun z hx=>(cP z hx).1) (fun z hx=>by simpa using (cP z hx).2.1))⟩,E.mono (by simp)⟩)))
  obtain rfl:c=123:=dT (by rw [B'];rfl)
  rw [QV aZ] at pq
  refine aa fun dG=>acW rfl fun b vn ss asv asw=>?_
  have asx:w.heap.size≤b:=by have:=E.size;omega
  replace B:=B.I asw
  replace eb:=eb.I asw
  replace E:=E.then asw
  have ag8:=GM B ss
  have amv:=GM eb ss
  refine ah (sY ag2 ag3 rfl rfl) (eY rfl rfl rfl fun g5 iw fJ=>?_)
  have Wx:=fJ.le E
  have n6:=fJ.ne B
  have n7:=fJ.ne eb
  replace B:=B.I fJ.mod
  replace eb:=eb.I fJ.mod
  replace ss:=ss.I fJ.mod
  have hC:=eb.lt
  have Jr:=ss.lt
  replace E:=E.then fJ.mod
  have EX:=fJ.ar
  have amw:=GM EX ss
  refine a7 rfl (J dG (aa fun eV=>aO rfl (aO rfl (ah (MB B7 rfl rfl) ?_))))
  refine h6 (bB O3 rfl) (OY B (H.own.mod E (fun x ae e=>xl x ae (by simpa using e))) xl bh g' bT) rfl (fun db aH=>aH) (fun oU nd aH=>?_) fun cN nd aH=>?_
  ·obtain⟨e,he,cg,rfl,U⟩:=aH
   refine aP (bw (aP ?_))
   refine ff ⟨e,?_,cg,rfl,(E.mono (by simp)).trans U⟩
   by_cases ug:cs.length=32
   ·rw [aL ug] at he
    rw [pq,aL (by omega)]
    cases he;rfl
   rw [ak ug] at he;cases he
  obtain⟨_,he,⟨_,ie,B,HQ,yN⟩,U⟩:=aH
  have ug:¬ cs.length=32:=fun h=>by rw [aL h] at he;cases he
  rw [ak (by omega)] at pq
  have eQ:cs.length+1≤32:=by omega
  have n8:g5∉g::bk sk:=fun h=>by
   rcases cB h with h | h
   ·exact n6 h.symm
   have:=H.lt g5 (by simp [h]);omega
  have amx:b∉g::bk sk:=fun h=>by
   rcases cB h with h | h
   ·exact ag8 h.symm
   have:=H.lt b (by simp [h]);omega
  have HT:g2∉g::bk sk:=fun h=>by
   rcases cB h with h | h
   ·exact se h.symm
   have:=H.lt g2 (by simp [h]);omega
  replace eb:=eb.mod U HT
  replace EX:=EX.mod U n8
  replace ss:=ss.mod U amx
  have ag6:=E.size
  have MC:=fJ.ar.lt
  have wm:∀ x∈bk ie,x∈bk sk∨iw.heap.size≤x:=yN
  replace E:Mod (g::bk sk) w nd:=(E.mono (by simp)).trans U
  have z7:∀ x∈bk ie,x≠g2:=fun x ae e=>by
   subst e
   rcases yN x ae with h | h
   ·exact HT (by simp [h])
   omega
  have amt:∀ x∈bk ie,x≠g5:=fun x ae e=>by
   subst e
   rcases yN x ae with h | h
   ·exact n8 (by simp [h])
   omega
  have QO:∀ x∈bk ie,x≠b:=fun x ae e=>by
   subst e
   rcases yN x ae with h | h
   ·exact amx (by simp [h])
   omega
  have Jq:∀ x∈bk ie,x≠g:=fun x ae e=>by
   subst e
   rcases yN x ae with h | h
   ·exact xl x h rfl
   have:=H.rd.lt;have:=fJ.at_;omega
  have MD:∀ z∈Z,z∉g::bk sk:=fun z hx h=>by
   rcases cB h with h | h
   ·exact(cP z hx).2.1 h
   exact(cP z hx).2.2 h
  refine J eV (aB fun eO=>aa fun eC=>aO rfl ?_)
  have bC:ai aT s k+1≤s.length:=(List.getElem?_eq_some_iff.1 aZ).1
  refine cJ (bB sX rfl) (wi _ g s _ ie B bh bC 125) fun cN lF aH=>?_
  obtain⟨rfl,B,U⟩:=aH
  replace eb:=eb.mod U (by simpa using Ne.symm se)
  replace EX:=EX.mod U (by simpa using Ne.symm n6)
  replace ss:=ss.mod U (by simpa using Ne.symm ag8)
  replace HQ:=HQ.mod U (fun x ae e=>Jq x ae (by simpa using e))
  replace E:=E.trans (U.mono (by simp))
  refine J eC ?_
  refine a1 rfl (fun ag9=>?_) (fun ag9=>?_)
  ·rw [aL ag9] at pq B
   refine mU fun asy eP=>b5 (aO rfl (cJ (bB GN rfl) (Jn (A:=[]) (wr:=w) (acc:=[]) (vs:=[]) B (by simpa using HQ) EX (Own.nil _ _ _) ao.oJ List.nodup_nil (Ne.symm n6) Jq (by simp [bk]) (by simp [bk]) (by omega) (by simp)) fun cN h2 aH=>?_))
   obtain⟨rfl,⟨asu,B,rV,km⟩,U,_,_⟩:=aH
   replace U:Mod [g] lF h2:=U
   replace eb:=eb.mod U (by simpa using Ne.symm se)
   replace E:=E.trans (U.mono (by simp))
   refine aK au eb rfl rfl fun jJ fa=>?_
   have pn:=fa.eq (cs':=[_,_,_,_,_,_]) rfl
   replace B:=B.mod fa.mod (by simpa using se)
   replace E:=E.own fa.mod xk
   refine a7 rfl (J eP (bn (aP (bw (aP ?_)))))
   obtain⟨nc,po⟩:=H.OH E B (rV.mod fa.mod (fun x ae e=>z7 x (km▸ae) (by simpa using e))) (fun x ae=>(wm x (km▸ae)).imp id (fun h=>by have:=fJ.at_;omega))
   exact n' rfl au rfl (pn.cs rfl) rfl ⟨.inl (JV.obj [],_),pq,⟨_,_,cs,fp,rfl,nc,po,JV.bX (v:=JV.obj []) (al:=none) (am:=none) (cl:=0) (cm:=0) bq.eh bq.eh,(B8.of E (fun z hx=>(cP z hx).1) MD)⟩,E⟩
  rw [ak (by simpa using ag9)] at pq B
  refine b' (av eO (mU fun asy eP=>b5 (aO rfl (aO rfl ?_))))
  refine h6 (bB Wv rfl) (O0 (K:=[]) (m:=[]) B EX ss (Ne.symm n6) ag8 amw (fun t=>by simp [look]) bh (dD bC) (ag4.mod E (fun x ae=>by
   rcases cB ae with rfl | ae
   ·exact dY
   exact asr x ae)) dY) rfl (fun db aH=>aH) (fun oU h2 aH=>?_) fun cN h2 aH=>?_
  ·obtain⟨e,he,cg,rfl,U⟩:=aH
   refine aP (bw (aP ?_))
   refine ff ⟨e,by rw [pq,he],cg,rfl,E.trans' U (fun x ae=>?_)⟩
   simp only [List.mem_cons,List.not_mem_nil,or_false] at ae
   rcases ae with rfl | rfl | rfl
   ·exact .inl (by simp)
   ·exact .inr Wx
   exact .inr asx
  obtain⟨⟨t,jt⟩,he,⟨rfl,B,EX,ss,_⟩,U⟩:=aH
  rw [he] at pq
  have Wy:∀ {x:Nat},x≠g→x≠g5→x≠b→x∉[g,g5,b]:=fun h1 aq bb=>by simp [h1,aq,bb]
  replace eb:=eb.mod U (Wy (Ne.symm se) n7 amv)
  replace HQ:=HQ.mod U (fun x ae=>Wy (Jq x ae) (amt x ae) (QO x ae))
  replace E:=E.trans' U (fun x ae=>by
   simp only [List.mem_cons,List.not_mem_nil,or_false] at ae
   rcases ae with rfl | rfl | rfl
   ·exact .inl (by simp)
   ·exact .inr Wx
   exact .inr asx)
  refine J eP (aa fun fw=>ah (ma (us:=[]) (cs:=[_,_,_,_,_,_]) dz bA rfl rfl) (aK au eb rfl rfl fun jJ fa=>?_))
  have pn:=fa.eq (cs':=[_,_,_,_,_,_]) rfl
  replace B:=B.mod fa.mod (by simpa using se)
  replace EX:=EX.mod fa.mod (by simpa using Ne.symm n7)
  replace ss:=ss.mod fa.mod (by simpa using Ne.symm amv)
  replace E:=E.own fa.mod xk
  refine a7 rfl (J fw (bn (bw (aP ?_))))
  obtain⟨nc,po⟩:=H.push (N:=iw.heap.size) (fm:=.M [] t) (c:=.iface 108 (.pointer (some ⟨g5,0,none⟩))) (m:=[g5,b]) E (by have:=fJ.at_;omega) (fun x ae=>by
   simp only [List.mem_cons,List.not_mem_nil,or_false] at ae
   rcases ae with rfl | rfl
   ·exact⟨Wx,MC⟩
   exact⟨asx,Jr⟩) B (HQ.mod fa.mod (fun x ae e=>z7 x ae (by simpa using e))) wm (fun A=>⟨g5,b,.slice none 0 0,rfl,⟨EX,ss,⟨[],Own.nil _ _ _,ao.oJ⟩,amw,by simp [bk],by simp [bk]⟩,rfl⟩)
  exact n' rfl au rfl (pn.cs rfl) rfl ⟨.inr (.M [] t,jt),pq,⟨_,_,_,_,rfl,rfl,nc,po,(B8.of E (fun z hx=>(cP z hx).1) MD)⟩,E⟩
theorem zG (p:UInt8→Bool) (s:ab):∀ (n k:Nat),s.length-k≤n→ai p s (ai p s k)=ai p s k
 | 0,k,h=>by
  have e:ai p s k=k:=gk (by omega)
  rw [e,e]
 | n+1,k,h=>by
  rcases Nat.lt_or_ge k s.length with hk | hk
  ·obtain⟨c,aZ⟩:∃ c,s[k]? = some c:=⟨_,List.getElem?_eq_getElem hk⟩
   cases cc:p c with
   | true=>rw [← fD aZ cc];exact zG p s n (k+1) (by omega)
   | false=>
    have e:=fU aZ cc
    rw [e,e]
  have e:ai p s k=k:=gk hk
  rw [e,e]
theorem qb {p:UInt8→Bool} {s:ab} {k:Nat}:ai p s (ai p s k)=ai p s k:=zG p s _ k (Nat.le_refl _)
def nF.sz:nF→Nat
 | .L acc=>acc.length
 | .M acc _=>acc.length
 | .A acc _=>acc.length
section
variable {s:ab} {k:Nat} {st:List nF} {r:tA}
theorem WB {e:Int} (h:jx s none k st r) (aW:oS s k st.length = .error e):r = .error e:=by
 cases h with
 | err h1=>rw [aW] at h1;injection h1 with h1;rw [h1]
 | whole h1 _=>rw [aW] at h1;cases h1
 | push h1 _=>rw [aW] at h1;cases h1
theorem MG {v:JV} {ef:Nat} (h:jx s none k st r) (aW:oS s k st.length = .ok (.inl (v,ef))):jx s (some v) ef st r:=by
 cases h with
 | err h1=>rw [aW] at h1;cases h1
 | whole h1 aq=>rw [aW] at h1;cases h1;exact aq
 | push h1 _=>rw [aW] at h1;cases h1
theorem Q7 {x:nF} {ef:Nat} (h:jx s none k st r) (aW:oS s k st.length = .ok (.inr (x,ef))):jx s none ef (x::st) r:=by
 cases h with
 | err h1=>rw [aW] at h1;cases h1
 | whole h1 aq=>rw [aW] at h1;cases h1
 | push h1 aq=>rw [aW] at h1;cases h1;exact aq
theorem Q9 {v:JV} (h:jx s (some v) k [] r):r = .ok (v,k):=by cases h;rfl
theorem Ra {v:JV} {acc:List JV} (h:jx s (some v) k (.L acc::st) r) (h1:aC s (ai aT s k) [93]=true):jx s (some (JV.de (acc ++ [v]))) (ai aT s k+1) st r:=by
 cases h with
 | OC _ bb=>exact bb
 | BN aq _ _=>rw [h1] at aq;cases aq
 | OD aq _=>rw [h1] at aq;cases aq
theorem MI {v:JV} {acc:List JV} (h:jx s (some v) k (.L acc::st) r) (h1:aC s (ai aT s k) [93]=false) (aq:aC s (ai aT s k) [44]=true):jx s none (ai aT s k+1) (.L (acc ++ [v])::st) r:=by
 cases h with
 | OC bb _=>rw [h1] at bb;cases bb
 | BN _ _ bb=>exact bb
 | OD _ bb=>rw [aq] at bb;cases bb
theorem Rb {v:JV} {acc:List JV} (h:jx s (some v) k (.L acc::st) r) (h1:aC s (ai aT s k) [93]=false) (aq:aC s (ai aT s k) [44]=false):r = .error 4:=by
 cases h with
 | OC bb _=>rw [h1] at bb;cases bb
 | BN _ bb _=>rw [aq] at bb;cases bb
 | OD _ bb=>rfl
theorem Rc {v:JV} {acc:List (ab×JV)} {t:ab} (h:jx s (some v) k (.M acc t::st) r) (h1:aC s (ai aT s k) [125]=true):jx s (some (JV.obj (e0 (acc ++ [(t,v)])))) (ai aT s k+1) st r:=by
 cases h with
 | IU _ bb=>exact bb
 | yy aq _ _ _=>rw [h1] at aq;cases aq
 | IV aq _ _=>rw [h1] at aq;cases aq
 | IW aq _=>rw [h1] at aq;cases aq
theorem MJ {v:JV} {acc:List (ab×JV)} {t t':ab} {kS:Nat} (h:jx s (some v) k (.M acc t::st) r) (h1:aC s (ai aT s k) [125]=false) (aq:aC s (ai aT s k) [44]=true) (bb:h5 s (ai aT s k+1) (e0 (acc ++ [(t,v)])) = .ok (t',kS)):jx s none kS (.M (acc ++ [(t,v)]) t'::st) r:=by
 cases h with
 | IU bP _=>rw [h1] at bP;cases bP
 | yy _ _ bP cZ=>rw [bb] at bP;cases bP;exact cZ
 | IV _ _ bP=>rw [bb] at bP;cases bP
 | IW _ bP=>rw [aq] at bP;cases bP
theorem Rf {v:JV} {acc:List (ab×JV)} {t:ab} {e:Int} (h:jx s (some v) k (.M acc t::st) r) (h1:aC s (ai aT s k) [125]=false) (aq:aC s (ai aT s k) [44]=true) (bb:h5 s (ai aT s k+1) (e0 (acc ++ [(t,v)])) = .error e):r = .error e:=by
 cases h with
 | IU bP _=>rw [h1] at bP;cases bP
 | yy _ _ bP cZ=>rw [bb] at bP;cases bP
 | IV _ _ bP=>rw [bb] at bP;injection bP with bP;rw [bP]
 | IW _ bP=>rw [aq] at bP;cases bP
theorem Re {v:JV} {acc:List (ab×JV)} {t:ab} (h:jx s (some v) k (.M acc t::st) r) (h1:aC s (ai aT s k) [125]=false) (aq:aC s (ai aT s k) [44]=false):r = .error 4:=by
 cases h with
 | IU bP _=>rw [h1] at bP;cases bP
 | yy _ bP _ _=>rw [aq] at bP;cases bP
 | IV _ bP _=>rw [aq] at bP;cases bP
 | IW _ bP=>rfl
theorem ahf {v:JV} {acc:List (ab×JV)} {t:ab} (h:jx s (some v) k (.A acc t::st) r):False:=by cases h
end
theorem Jv {s:ab} {k q:Nat} {v:JV} (h:iX s k=some (v,q)):k<q∧q≤s.length:=by
 unfold iX at h
 split at h
 ·rename_i h1;have:=b9 h1 (by decide);cases h;simp [JV.kM] at this;omega
 split at h
 ·rename_i h1;have:=b9 h1 (by decide);cases h;simp [JV.jT] at this;omega
 split at h
 ·rename_i h1;have:=b9 h1 (by decide);cases h;simp [JV.hP] at this;omega
 cases h
theorem WE {s:ab} {k n ef:Nat} {v:JV} (h:oS s k n = .ok (.inl (v,ef))) (hk:k≤s.length):k<ef∧ef≤s.length:=by
 have dY:=dc aT s k;have cb:=dD (p:=aT) hk;cases hw:iX s (ai aT s k)with
 | some x=>
  rw [yL hw] at h;cases h;have:=Jv hw;omega
 | none=>
  rw [yM hw] at h;unfold ri at h
  split at h
  ·cases bW:dP s (ai aT s k)with
   | none=>rw [bW] at h;cases h
   | some x=>
    rw [bW] at h;cases h;have:=mI bW;omega
  split at h
  rotate_left
  ·cases ae:jW s (ai aT s k)with
   | error e=>rw [ae] at h;cases h
   | ok x=>
    rw [ae] at h;cases h;have:=zy ae cb;omega
  split at h
  ·cases h
  rename_i bb bP
  have cZ:ai aT s k<s.length:=by
   rcases Nat.lt_or_ge (ai aT s k) s.length with fy | fy
   ·exact fy
   rw [fX fy (by simp),fX fy (by simp)] at bb;cases bb
  have lL:=dc aT s (ai aT s k+1)
  dsimp only at h
  split at h
  ·split at h
   ·rename_i lZ
    have:=b9 lZ (by simp);cases h;simp at this;omega
   cases h
  split at h
  ·rename_i lZ
   have:=b9 lZ (by simp);cases h;simp at this;omega
  cases ae:h5 s (ai aT s (ai aT s k+1)) [] with
  | error e=>rw [ae] at h;cases h
  | ok x=>rw [ae] at h;cases h
theorem WG {s:ab} {k n ef:Nat} {fm:nF} (h:oS s k n = .ok (.inr (fm,ef))) (hk:k≤s.length):k<ef∧ef≤s.length∧n≠32∧fm.sz=0:=by
 have dY:=dc aT s k;cases hw:iX s (ai aT s k)with
 | some x=>rw [yL hw] at h;cases h
 | none=>
  rw [yM hw] at h;unfold ri at h
  split at h
  ·cases bW:dP s (ai aT s k)with
   | none=>rw [bW] at h;cases h
   | some x=>rw [bW] at h;cases h
  split at h
  rotate_left
  ·cases ae:jW s (ai aT s k)with
   | error e=>rw [ae] at h;cases h
   | ok x=>rw [ae] at h;cases h
  split at h
  ·cases h
  rename_i bb bP
  have cZ:ai aT s k<s.length:=by
   rcases Nat.lt_or_ge (ai aT s k) s.length with fy | fy
   ·exact fy
   rw [fX fy (by simp),fX fy (by simp)] at bb;cases bb
  have lL:=dc aT s (ai aT s k+1);have l2:=dD (p:=aT) (show ai aT s k+1≤s.length by omega)
  dsimp only at h
  split at h
  ·split at h
   ·cases h
   cases h;exact⟨by omega,l2,bP,rfl⟩
  split at h
  ·cases h
  cases ae:h5 s (ai aT s (ai aT s k+1)) [] with
  | error e=>rw [ae] at h;cases h
  | ok x=>
   rw [ae] at h;cases h;have:=ra ae;exact⟨by omega,by omega,bP,rfl⟩
theorem Ae.amK {Z awk A:List Nat} {w:World} {fm:nF} {c:Value} {m:List Nat} (h:Ae (pk Z) A w fm c m):Ae (pk awk) A w fm c m:=by
 cases fm with
 | L acc=>obtain⟨g,eM,h1,aq,bb⟩:=h;exact⟨g,eM,h1,⟨aq.ar,aq.own,aq.aa9⟩,bb⟩
 | M acc t=>obtain⟨g,b,eM,h1,aq,bb⟩:=h;exact⟨g,b,eM,h1,⟨aq.ar,aq.map,aq.own,aq.amd,aq.aa9,aq.ame⟩,bb⟩
 | A acc t=>obtain⟨g,b,eM,h1,aq,bb⟩:=h;exact⟨g,b,eM,h1,⟨aq.ar,aq.map,aq.own,aq.amd,aq.aa9,aq.ame⟩,bb⟩
/-- a new block becomes private -/
theorem o9.amC {Z:List Nat} {w0 w w':World} {g k z:Nat} {s:ab} {st:List nF} {sk:Value} {cs:List Value} {fp:List Nat} (H:o9 (pk Z) w0 w g s k st sk cs fp) (hm:Mod [] w w') (cP:w.heap.size≤z) (hx:z<w'.heap.size) :
  ∃ jE,o9 (pk (z::Z)) w0 w' g s k st sk cs jE∧(∀ x∈jE,x∈fp∨x=z):=by
 have bM:=H.lt
 have key:∀ {A:List Nat} {st:List nF} {cs:List Value} {f:List Nat},qw (pk Z) A w st cs f→(∀ x∈f,x<w.heap.size)→∀ A',(∀ x∈A',x∈A∨w.heap.size≤x)→∃ Jw,qw (pk (z::Z)) A' w' st cs Jw∧∀ x,x∈Jw↔(x∈f∨x=z):=by
  intro A st
  induction st with
  | nil=>
   intro cs f h dn A' dy
   obtain⟨h1,aq,bb⟩:=h
   refine⟨z::Z,⟨h1,rfl,fun x ae=>?_⟩,fun x=>?_⟩
   ·rcases cB ae with rfl | ae
    ·exact hx
    exact Nat.lt_of_lt_of_le (bb x ae) hm.size
   rw [aq]
   simp only [List.mem_cons]
   exact Or.comm
  | cons fm st ea=>
   intro cs f h dn A' dy
   obtain⟨c,cs',m,f2,rfl,rfl,h1,aq,bb⟩:=h
   obtain⟨Jw,bP,cZ⟩:=ea aq (fun x ae=>dn x (by simp [ae])) A' dy
   refine⟨m++Jw,⟨c,cs',m,Jw,rfl,rfl,(h1.to hm (by simp) (by simp) dy).amK,bP,fun x ae h=>?_⟩,fun x=>?_⟩
   ·rcases(cZ x).1 h with h | h
    ·exact bb x ae h
    have:=dn x (by simp [ae]);omega
   simp only [List.mem_append,cZ]
   exact or_assoc.symm
 have al1:∀ Jw,(∀ x,x∈Jw↔(x∈fp∨x=z))→∀ x∈g::(bk sk++Jw),x∈g::(bk sk++fp)∨w.heap.size≤x:=fun Jw cZ x ae=>by
  simp only [List.mem_cons,List.mem_append,cZ] at ae ⊢
  rcases ae with ae | ae | ae | ae
  ·exact .inl (.inl ae)
  ·exact .inl (.inr (.inl ae))
  ·exact .inl (.inr (.inr ae))
  exact .inr (by omega)
 obtain⟨Jw,bP,cZ⟩:=key H.vj (fun x ae=>bM x (by simp [ae])) (g::(bk sk++fp) ++ [z]) (fun x ae=>by
  simp only [List.mem_append,List.mem_singleton] at ae
  rcases ae with ae | ae
  ·exact .inl ae
  exact .inr (by omega))
 refine⟨Jw,⟨H.rd.I hm,H.own.I hm,bP.to (Mod.refl [] _) (by simp) (fun x ae=>?_) (by simp),fun h=>?_,fun x ae h=>?_,fun x ae=>?_,H.mod.then hm⟩,fun x ae=>(cZ x).1 ae⟩
 ·simp only [List.mem_cons,List.mem_append,cZ,List.not_mem_nil,or_false] at ae ⊢
  rcases ae with ae | ae | ae | ae
  ·exact .inl (.inl (.inl ae))
  ·exact .inl (.inl (.inr (.inl ae)))
  ·exact .inl (.inl (.inr (.inr ae)))
  exact .inl (.inr ae)
 ·rcases List.mem_append.1 h with h | h
  ·exact H.vk (by simp [h])
  rcases(cZ g).1 h with h | h
  ·exact H.vk (by simp [h])
  have:=H.rd.lt;omega
 ·rcases(cZ x).1 h with h | h
  ·exact H.wH x ae h
  have:=bM x (by simp [ae]);omega
 rcases List.mem_append.1 ae with ae | ae
 ·exact H.uQ x (by simp [ae])
 rcases(cZ x).1 ae with h | h
 ·exact H.uQ x (by simp [h])
 have:=H.mod.size;omega
set_option maxRecDepth 10000
theorem six {us:List Value} (h:us.length=6):∃ a b c d e f,us = [a,b,c,d,e,f]:=by
 match us,h with
 | [a,b,c,d,e,f],_=>exact⟨a,b,c,d,e,f,rfl⟩
theorem aha:(aR.info? 108).bind (·.zero)=some (.pointer none):=by kernel_rfl
def ahb:=eW Tryz.func66
def Wz:=eW Tryz.func67
abbrev WA:=Option JV×List Value×Nat×List nF×Value×List Value×List Nat
abbrev amy:=Nat×List nF×Value×List Value×List Nat×List Nat
structure azA (tB w0 w:World) (g g2:Nat) (s:ab) (r:tA) (k:Nat) (st:List nF) (sk:Value) (cs:List Value) (fp Z:List Nat):Prop where
 run:jx s none k st r
 gC:o9 (pk Z) w0 w g s k st sk cs fp
 z2:g2∈Z
 fz:aF w g2 25 tk
 ahc:k≤s.length
 cl:cs.length≤32
 sz:∀ fm∈st,fm.sz≤k
 md:Mod [g] tB w
 QX:∀ z,z<tB.heap.size→z≠g→z∈Z
structure VI (tB w0 w:World) (g g2 g3:Nat) (s:ab) (r:tA) (Z:List Nat) (o8:Nat) (QY:Option JV) (us:List Value) (k:Nat) (st:List nF) (sk:Value) (cs:List Value) (fp:List Nat):Prop where
 run:jx s QY k st r
 gC:o9 (pk Z) w0 w g s k st sk cs fp
 z2:g2∈Z
 z3:g3∈Z
 n23:g2≠g3
 fz:aF w g2 25 tk
 mW:aF w g3 25 us
 ul:us.length=6
 aBg:∀ u∈us,u.oneCell'=true
 aBh:∀ v,QY=some v→ao (g::(bk sk++fp)) w v.D us
 ahc:k≤s.length
 o8:o8<k
 cl:cs.length≤32
 sz:∀ fm∈st,fm.sz+QY.isSome.toNat≤k
 md:Mod [g] tB w
def QZ (w:World):World:={w with heap:=#[]}
theorem ME {tB w w':World} {Z M:List Nat} {g k:Nat} {s:ab} {st:List nF} {sk:Value} {cs:List Value} {fp:List Nat} (QX:∀ z,z<tB.heap.size→z≠g→z∈Z) (md:Mod [g] tB w) (E:Mod M w w') (eX:∀ x∈M,x≠g→x∉Z):Mod [g] tB w':=
 ⟨E.os.trans md.os,E.tape.trans md.tape,E.output.trans md.output,Nat.le_trans md.size E.size,fun i hi ae=>(E.block i (Nat.lt_of_lt_of_le hi md.size) (fun h=>eX i h (by simpa using ae) (QX i hi (by simpa using ae)))).trans (md.block i hi ae)⟩
theorem Ca {tB w w':World} {Z:List Nat} {g k:Nat} {s:ab} {st:List nF} {sk:Value} {cs:List Value} {fp:List Nat} (QX:∀ z,z<tB.heap.size→z≠g→z∈Z) (md:Mod [g] tB w) (q:o9 (pk Z) (QZ tB) w' g s k st sk cs fp) (DN:B8 Z w w') (bh:w.heap.size≤w'.heap.size):Mod [g] tB w':=
 ⟨q.mod.os,q.mod.tape,q.mod.output,Nat.le_trans md.size bh,fun i hi ae=>(DN i (QX i hi (by simpa using ae))).trans (md.block i hi ae)⟩
theorem ahd {tB w:World} {Z:List Nat} {g k:Nat} {s:ab} {st:List nF} {sk:Value} {cs:List Value} {fp:List Nat} (QX:∀ z,z<tB.heap.size→z≠g→z∈Z) (gR:Env tB) (q:o9 (pk Z) (QZ tB) w g s k st sk cs fp):∀ x∈bk sk,QM<x:=fun x ae=>by
 rcases Nat.lt_or_ge x tB.heap.size with h | h
 ·by_cases dY:x=g
  ·subst dY;exact absurd (List.mem_append_left _ ae) q.vk
  exact absurd ae (q.Aj x (QX x h dY)).2.2
 exact Nat.lt_of_lt_of_le gR.sz h
theorem Q5 {tB:World} {g:Nat} {s:ab} {r:tA} (awu:aF tB g 71 [S s,.int .i64 ((0:Nat):Int),.slice none 0 0]) (bh:s.length≤65536) (gR:Env tB) (dY:QM<g) (bo:jx s none 0 [] r) :
  Calls aR 37 [.pointer (some ⟨g,0,none⟩)].toArray tB (Qy 95 [g] tB r (fun x u w'=>∃ us ie,u = .agg us.toArray∧ao (g::List.range tB.heap.size) w' x.1.D us∧aF w' g 71 [S s,.int .i64 (x.2:Int),ie]∧x.2≤s.length)):=by
 refine l9 Tryz.func37 rfl (aa fun asz=>bj bA rfl fun g2 aJ bZ=>?_)
 have xk:tB.heap.size≤g2:=bZ.le (Mod.refl [g] tB)
 have se:=bZ.ne awu
 have B:=awu.I bZ.mod
 obtain⟨acX,ahe⟩:∃ acX,acX=g2::(List.range tB.heap.size).filter (·≠g):=⟨_,rfl⟩
 have asA:o9 (pk acX) (QZ tB) aJ g s 0 [] (.slice none 0 0) [] acX:=o9.init (T:=pk acX) B ⟨bZ.mod.os,bZ.mod.tape,bZ.mod.output,Nat.zero_le _,fun i hi=>absurd hi (Nat.not_lt_zero _)⟩ (fun x ae=>by
  have ae:x∈acX:=ae
  rw [ahe] at ae
  rcases cB ae with rfl | ae
  ·exact⟨Nat.zero_le _,bZ.ar.lt,Ne.symm se⟩
  simp only [List.mem_filter,List.mem_range,decide_eq_true_eq] at ae
  exact⟨Nat.zero_le _,Nat.lt_of_lt_of_le ae.1 bZ.mod.size,ae.2⟩)
 have amz:∀ z,z<tB.heap.size→z≠g→z∈acX:=fun z h1 aq=>by
  rw [ahe]
  exact List.mem_cons_of_mem _ (by simp only [List.mem_filter,List.mem_range,decide_eq_true_eq];exact⟨h1,aq⟩)
 refine J asz (eN (bK (σ:=amy) (fun _=>[(0,.pointer (some ⟨g,0,none⟩)),(2,.pointer (some ⟨g2,0,none⟩))]) (fun x aJ=>azA tB (QZ tB) aJ g g2 s r x.1 x.2.1 x.2.2.1 x.2.2.2.1 x.2.2.2.2.1 x.2.2.2.2.2) (fun x=>s.length-x.1) (0,[],.slice none 0 0,[],acX,acX) ⟨bo,asA,by dsimp only;rw [ahe];simp,bZ.ar,by simp,by simp,by simp,bZ.mod.mono (by simp),amz⟩ ?_))
 rintro⟨k,st,sk,cs,fp,Z⟩ cX lI
 obtain⟨nu,H,z2,eb,nL,lJ,jV,md,QX⟩:=lI
 dsimp only at nu H z2 nL lJ jV QX
 refine eN (aa fun a6=>aO rfl ?_)
 have hlen:=H.len
 refine h6 (bB ahb rfl) (Ww H bh nL lJ (gR.vu dY md) dY (ahd QX gR H)) rfl (fun db aH=>aH) (fun oU gr aH=>?_) fun cN gr aH=>?_
 ·obtain⟨e,he,cg,rfl,U⟩:=aH
  exact aP (bw (aP (bw (ff ⟨e,WB nu he,cg,rfl,ME (k:=k) (s:=s) (st:=st) (sk:=sk) (cs:=cs) (fp:=fp) QX md U (fun x ae Q6 cP=>(cB ae).elim Q6 (fun h=>(H.Aj x cP).2.2 h))⟩))))
 obtain⟨x,ae,e8,U⟩:=aH
 obtain⟨QY,us,ef,st1,DO,fE,gB,rfl,WC,nc,DN,Cb,MF,WD,ae3,ae4,ae5,N7⟩:∃ QY us ef st1 DO fE gB,cN = .tuple #[.agg us.toArray,.bool (Option.isSome QY)]∧jx s QY ef st1 r∧o9 (pk Z) (QZ tB) gr g s ef st1 DO fE gB∧B8 Z cX gr∧us.length=6∧(∀ u∈us,u.oneCell'=true)∧(∀ v,QY=some v→ao (g::(bk DO++gB)) gr v.D us)∧ef≤s.length∧k<ef∧fE.length≤32∧(∀ fm∈st1,fm.sz+QY.isSome.toNat≤ef):=by
  rcases x with⟨v,ef⟩ | ⟨fm,ef⟩
  ·obtain⟨us,DO,fE,gB,h1,aq,bb,bP,cZ⟩:=e8
   have aW:=WE ae nL
   have fy:=JV.cells_one bP
   exact⟨some v,us,ef,st,DO,fE,gB,h1,MG nu ae,aq,cZ,fy.1,fy.2,fun v' bI=>by cases bI;exact bP,aW.2,aW.1,by rw [aq.len];omega,fun fm dn=>by have:=jV fm dn;simp;omega⟩
  obtain⟨us,DO,fE,gB,h1,aq,bb,bP,cZ⟩:=e8
  have aW:=WG ae nL
  subst aq
  exact⟨none,_,ef,fm::st,DO,fE,gB,h1,Q7 nu ae,bb,cZ,rfl,by simp [Value.oneCell'],fun v' bI=>(by cases bI),aW.2.1,aW.1,by rw [bb.len,List.length_cons];omega,fun f dn=>by
   rcases cB dn with rfl | dn
   ·rw [aW.2.2.2];simp
   have:=jV f dn;simp;omega⟩
 replace eb:aF gr g2 25 tk:=(DN g2 z2).trans eb
 replace md:=Ca QX md nc DN U.size
 obtain⟨hN,kR,Q8,MH,DB,Dq,rfl⟩:=six Cb
 refine aO rfl (ah (fo rfl rfl) (ah (fo rfl rfl) (bj bA rfl fun g3 h8 N4=>?_)))
 have pW:=N4.at_
 have amA:=md
 have n23:=N4.ne eb
 obtain⟨Af,po,amB⟩:=nc.amC N4.mod (Nat.le_of_eq pW.symm) N4.ar.lt
 refine oa (vs:=[_,_,_,_,_,_]) au N4.ar rfl rfl rfl MF (by simp) fun iS hd=>?_
 have e4:=hd.eq (cs':=[hN,kR,Q8,MH,DB,Dq]) rfl
 replace eb:=(eb.I N4.mod).mod hd.mod (by simpa using n23)
 have sZ:=po.OI (List.mem_cons_self ..) hd.mod
 replace md:=(md.then N4.mod).own hd.mod (by have:=md.size;omega)
 have ae6:∀ v,QY=some v→ao (g::(bk DO++Af)) iS v.D [hN,kR,Q8,MH,DB,Dq]:=fun v bI=>by
  have h1:ao (g::(bk DO++Af)) h8 v.D [hN,kR,Q8,MH,DB,Dq]:=ao.to N4.mod (by simp) (fun x ae=>by
   simp only [List.mem_cons,List.mem_append] at ae ⊢
   rcases ae with ae | ae | ae
   ·exact .inl (.inl ae)
   ·exact .inl (.inr (.inl ae))
   rcases amB x ae with h | h
   ·exact .inl (.inr (.inr h))
   exact .inr (by omega)) _ _ (WD v bI)
  exact h1.toM hd.mod (fun x ae=>by
   rw [dx ae]
   have:=po.vj.z g3 (List.mem_cons_self ..)
   simp [this])
 refine a7 rfl (J a6 (eN ?_))
 clear WD Cb e8 ae
 refine bK (σ:=WA) (fun x=>[(0,.pointer (some ⟨g,0,none⟩)),(2,.pointer (some ⟨g2,0,none⟩)),(3,.pointer (some ⟨g3,0,none⟩)),(4,.bool x.1.isSome)]) (fun x aJ=>VI tB (QZ tB) aJ g g2 g3 s r (g3::Z) k x.1 x.2.1 x.2.2.1 x.2.2.2.1 x.2.2.2.2.1 x.2.2.2.2.2.1 x.2.2.2.2.2.2) (fun x=>s.length-x.2.2.1) (QY,[hN,kR,Q8,MH,DB,Dq],ef,st1,DO,fE,Af) ⟨WC,sZ,List.mem_cons_of_mem _ z2,List.mem_cons_self ..,n23,eb,e4,rfl,MF,ae6,ae3,ae4,ae5,N7,md⟩ ?_
 have Js:∀ z,z<tB.heap.size→z≠g→z∈g3::Z:=fun z h1 aq=>List.mem_cons_of_mem _ (QX z h1 aq)
 have amD:tB.heap.size≤g3:=by have:=N4.le amA;exact this
 clear md amA QX
 clear nu H eb nL lJ jV nc po sZ e4 ae6 ae3 ae4 ae5 N7 WC amB hlen DN
 rintro⟨QY,us,nb,st,sk,cs,fp⟩ i' qW
 obtain⟨nu,H,z2,z3,n23,eb,e4,Cb,MF,WD,nL,bg,lJ,jV,md⟩:=qW
 dsimp only at nu H e4 Cb MF WD nL bg lJ jV
 have hlen:=H.len
 cases QY with
 | none=>
  exact mU fun K2 aQ=>mU fun K3 a'=>b5 (aO rfl (J a' (a1 rfl (fun vM=>absurd vM (by simp)) (fun vM=>bL (aP (aP (ch (bw (aw (σ:=amy) (s:=(k,_)) (nb,st,sk,cs,fp,g3::Z) ⟨nu,H,z2,eb,nL,lJ,fun fm dn=>by have:=jV fm dn;simpa using this,md,Js⟩)))))))))
 | some v=>
  have aBn:=WD v rfl
  refine mU fun K2 aQ=>mU fun K3 a'=>b5 (aO rfl (J a' ?_))
  refine a1 rfl (fun vM=>?_) (fun vM=>absurd vM (by simp))
  refine b' (av aQ (eN (aB fun bp=>aB fun bx=>?_)))
  have B:aF i' g 71 _:=H.rd
  obtain⟨ad,c0,bu,eQ,h3⟩:=H.own.form
  subst bu
  refine b5 (aj 2 rfl (ah (aD gW rfl) (ah (bF lC rfl (B.cell rfl)) (ah (bY nn rfl) (ah (k1 rfl rfl) (J bx ?_))))))
  have cP:=H.Aj
  obtain⟨hN,kR,Q8,MH,DB,Dq,rfl⟩:=six Cb
  cases st with
  | nil=>
   refine aX rfl (fun nH=>?_) (fun nH=>absurd (show((cs.length:Nat):Int)=0 by rw [hlen];rfl) nH)
   refine aa fun bO=>ah (br au rfl (e4.cs rfl)) (oa (vs:=[_,_,_,_,_,_]) au eb rfl rfl rfl MF (by simp) fun iw ml=>?_)
   have pn:=ml.eq (cs':=[_,_,_,_,_,_]) rfl
   have q:=H.OI z2 ml.mod
   refine J bO (bn (aP (bw (aP (bw (bw (aP (bw ?_))))))))
   have DJ:=H.vj.z g2 z2
   exact Jg rfl au rfl (pn.cs rfl) ⟨(v,nb),Q9 nu,⟨_,_,rfl,(aBn.toM ml.mod (fun x ae=>by rw [dx ae];simp [DJ])).eu (fun x ae=>by
    rcases cB ae with rfl | ae
    ·simp
    by_cases Q6:x=g
    ·simp [Q6]
    have:=H.vj.z x (Js x (List.mem_range.1 ae) Q6)
    simp [this]),q.rd,nL⟩,md.own ml.mod xk⟩
  | cons fm st=>
   refine aX rfl (fun nH=>absurd nH (by rw [hlen,List.length_cons];omega)) (fun nH=>b' (av bp (aa fun b4=>aO rfl (ah (br au rfl (e4.cs rfl)) ?_))))
   have Jt:=jV fm (List.mem_cons_self ..)
   have O4:∀ f∈st,f.sz+1≤nb:=fun f dn=>by have:=jV f (List.mem_cons_of_mem _ dn);simpa using this
   have g':ai aT s nb≤s.length:=dD nL
   have azB:=dc aT s nb
   cases fm with
   | A acc t=>exact absurd (ahf nu) id
   | L acc=>
    have ahg:acc.length≤1000000:=by simp [nF.sz] at Jt;omega
    refine cJ (bB Wz rfl) (acR H aBn lJ ahg) fun cN iw aH=>?_
    obtain⟨rfl,jE,nc,S1,DN⟩:=aH
    replace md:=Ca Js md nc DN S1.mod.size
    replace eb:aF iw g2 25 tk:=(DN g2 z2).trans eb
    replace e4:aF iw g3 25 _:=(DN g3 z3).trans e4
    have Bd:=nc.Aj
    refine a7 rfl (J b4 (mU fun agY cw=>mU fun yO cy=>b5 (aO rfl (aO rfl (cJ (bB sX rfl) (wi _ g s nb _ nc.rd bh nL 93) fun cN nd aH=>?_)))))
    obtain⟨rfl,B,U⟩:=aH
    have po:=nc.tY B U
    replace md:=md.trans U
    replace eb:=eb.mod U (by simpa using (Bd g2 z2).2.1)
    replace e4:=e4.mod U (by simpa using (Bd g3 z3).2.1)
    have tE:=po.Aj
    refine J cy ?_
    refine a1 rfl (fun kY=>?_) (fun kY=>?_)
    ·have kY:aC s (ai aT s nb) [93]=true:=kY
     have qZ:=b9 kY (by simp)
     have l6:ai aT s nb+1≤s.length:=by simpa using qZ
     rw [aL kY] at po
     refine mU fun ahh b6=>b5 (aO rfl (cJ (bB GN rfl) (acO po (by omega)) fun cN lF aH=>?_))
     obtain⟨ga,ie,cs',Af,rfl,sZ,S3,amE,DN⟩:=aH
     replace md:=Ca Js md sZ DN S3.mod.size
     replace eb:aF lF g2 25 tk:=(DN g2 z2).trans eb
     replace e4:aF lF g3 25 _:=(DN g3 z3).trans e4
     obtain⟨WH,Ju⟩:=JV.cells_one amE
     obtain⟨amF,amG,y3,y4,amH,y6,rfl⟩:=six WH
     refine oa (vs:=[_,_,_,_,_,_]) au e4 rfl rfl rfl Ju (by simp) fun h2 h9=>?_
     replace e4:=h9.eq (cs':=[amF,amG,y3,y4,amH,y6]) rfl
     replace eb:=eb.mod h9.mod (by simpa using n23)
     have aba:=sZ.OI z3 h9.mod
     replace md:=md.own h9.mod amD
     have DJ:=sZ.vj.z g3 z3
     refine J b6 (bL (aP (ch ?_)))
     have ahi:=sZ.len
     rw [List.length_cons] at hlen
     exact aw (σ:=WA) (s:=(some v,_,nb,_)) (some (JV.de (acc ++ [v])),[amF,amG,y3,y4,amH,y6],ai aT s nb+1,st,ie,cs',Af) ⟨Ra nu kY,aba,z2,z3,n23,eb,e4,rfl,Ju,fun v' bI=>by cases bI;exact amE.toM h9.mod (fun x ae=>by rw [dx ae];simp [DJ]),l6,by dsimp only;omega,by dsimp only;omega,fun f dn=>by have:=O4 f dn;simp;omega,md⟩
    have kY:aC s (ai aT s nb) [93]=false:=kY
    rw [ak (by rw [kY];simp)] at po
    refine b' (av cw (mU fun Ge bR=>mU fun asB cv=>b5 (aO rfl (cJ (bB sX rfl) (wi _ g s _ _ po.rd bh g' 44) fun cN lF aH=>?_))))
    obtain⟨rfl,B,U⟩:=aH
    have sZ:=po.tY B U
    replace md:=md.trans U
    rw [qb] at sZ
    replace eb:=eb.mod U (by simpa using (tE g2 z2).2.1)
    replace e4:=e4.mod U (by simpa using (tE g3 z3).2.1)
    refine ah (fC rfl) (J cv ?_)
    refine a1 rfl (fun gu=>?_) (fun gu=>?_)
    ·have gu:aC s (ai aT s nb) [44]=false:=by rw [qb] at gu;simpa using gu
     refine b5 ?_
     refine h6 (bB jz rfl) (hv _ 4) rfl (fun db aH=>aH.elim) (fun oU h2 aH=>?_) fun cN h2 aH=>?_
     ·obtain⟨rfl,rfl⟩:=aH
      exact aP (bw (aP (bw (bw (aP (bw (ff ⟨4,Rb nu kY gu,by decide,rfl,md⟩)))))))
     exact aH.elim
    have gu:aC s (ai aT s nb) [44]=true:=by rw [qb] at gu;simpa using gu
    rw [aL gu] at sZ
    have l6:ai aT s nb+1≤s.length:=by have:=b9 gu (by simp);simpa using this
    refine b' (av bR (mU fun asC bV=>mU fun ahj cE=>?_))
    obtain⟨g1,eM,vs,fE,gB,rfl,_⟩:=sZ.Ve
    obtain⟨ad,c0,bu,eQ,h3,C⟩:=sr sZ.own
    injection bu with bu ee kH
    subst bu
    subst kH
    have aba:=sZ
    have B:aF lF g 71 _:=sZ.rd
    refine cn wide (by kernel_rfl) (hF 2 rfl rfl (ax (fun U=>(aD gW rfl)) (ax (fun U=>(bF lC rfl ((B.I U).cell rfl))) (hF 2 rfl rfl (ax (fun U=>(aD gW rfl)) (ax (fun U=>(bF lC rfl ((B.I U).cell rfl))) (ax (fun U=>(bY nn rfl)) (ax (fun U=>(AU (r:=((fE.length:Nat):Int)) rfl rfl (by rw [wrap64_in _ (by simp at lJ;omega)];simp))) (ax (fun U=>(c8 vv rfl rfl (by simp;omega))) (ax (fun U=>(bF EW rfl (p' (C.mod U (by simp))))) (ax (fun U=>(MA B7 (show ¬ (131:Nat)=108 by decide) aha rfl)) (ax (fun U=>(fj rfl)) (ax (fun U=>(fo rfl rfl)) ?_)))))))))))))
    refine ax (fun U=>(fo rfl rfl)) (ax (fun U=>(cS rfl)) (ax (fun U=>(cS rfl)) (cq rfl fun h2 U=>?_)))
    replace eb:=eb.I U
    replace e4:=e4.I U
    refine av cE (mU fun ahk cI=>b5 (aO rfl (J cI (a1 rfl (fun vR=>absurd vR (by simp)) (fun vR=>b' (av bV (b5 (a7 rfl (cx (bw ?_))))))))))
    exact aw (σ:=WA) (s:=(some v,_,nb,_)) (none,[hN,kR,Q8,MH,DB,Dq],ai aT s nb+1,.L (acc ++ [v])::st,_,_,jE) ⟨MI nu kY gu,aba.I U,z2,z3,n23,eb,e4,rfl,MF,fun v' bI=>(by cases bI),l6,by dsimp only;omega,lJ,fun f dn=>by
     rcases cB dn with rfl | dn
     ·simp [nF.sz] at Jt ⊢;omega
     have:=O4 f dn;simp;omega,md.then U⟩
   | M acc t=>
    have ahg:acc.length≤1000000:=by simp [nF.sz] at Jt;omega
    refine cJ (bB Wz rfl) (acS H aBn lJ ahg) fun cN iw aH=>?_
    obtain⟨rfl,jE,nc,S1,DN⟩:=aH
    replace md:=Ca Js md nc DN S1.mod.size
    replace eb:aF iw g2 25 tk:=(DN g2 z2).trans eb
    replace e4:aF iw g3 25 _:=(DN g3 z3).trans e4
    have Bd:=nc.Aj
    refine a7 rfl (J b4 (mU fun agY cw=>mU fun yO cy=>b5 (aO rfl (aO rfl (cJ (bB sX rfl) (wi _ g s nb _ nc.rd bh nL 125) fun cN nd aH=>?_)))))
    obtain⟨rfl,B,U⟩:=aH
    have po:=nc.tY B U
    replace md:=md.trans U
    replace eb:=eb.mod U (by simpa using (Bd g2 z2).2.1)
    replace e4:=e4.mod U (by simpa using (Bd g3 z3).2.1)
    have tE:=po.Aj
    refine J cy ?_
    refine a1 rfl (fun kY=>?_) (fun kY=>?_)
    ·have kY:aC s (ai aT s nb) [125]=true:=kY
     have qZ:=b9 kY (by simp)
     have l6:ai aT s nb+1≤s.length:=by simpa using qZ
     rw [aL kY] at po
     refine mU fun ahh b6=>b5 (aO rfl (cJ (bB GN rfl) (acQ po (by omega) (by simp [nF.sz] at Jt ⊢;omega)) fun cN lF aH=>?_))
     obtain⟨ga,ie,cs',Af,rfl,sZ,S3,amE,DN⟩:=aH
     replace md:=Ca Js md sZ DN S3.mod.size
     replace eb:aF lF g2 25 tk:=(DN g2 z2).trans eb
     replace e4:aF lF g3 25 _:=(DN g3 z3).trans e4
     obtain⟨WH,Ju⟩:=JV.cells_one amE
     obtain⟨amF,amG,y3,y4,amH,y6,rfl⟩:=six WH
     refine oa (vs:=[_,_,_,_,_,_]) au e4 rfl rfl rfl Ju (by simp) fun h2 h9=>?_
     replace e4:=h9.eq (cs':=[amF,amG,y3,y4,amH,y6]) rfl
     replace eb:=eb.mod h9.mod (by simpa using n23)
     have aba:=sZ.OI z3 h9.mod
     replace md:=md.own h9.mod amD
     have DJ:=sZ.vj.z g3 z3
     refine J b6 (bL (aP (ch ?_)))
     have ahi:=sZ.len
     rw [List.length_cons] at hlen
     exact aw (σ:=WA) (s:=(some v,_,nb,_)) (some (JV.obj (e0 (acc ++ [(t,v)]))),[amF,amG,y3,y4,amH,y6],ai aT s nb+1,st,ie,cs',Af) ⟨Rc nu kY,aba,z2,z3,n23,eb,e4,rfl,Ju,fun v' bI=>by cases bI;exact amE.toM h9.mod (fun x ae=>by rw [dx ae];simp [DJ]),l6,by dsimp only;omega,by dsimp only;omega,fun f dn=>by have:=O4 f dn;simp;omega,md⟩
    have kY:aC s (ai aT s nb) [125]=false:=kY
    rw [ak (by rw [kY];simp)] at po
    refine b' (av cw (mU fun Ge bR=>mU fun asB cv=>b5 (aO rfl (cJ (bB sX rfl) (wi _ g s _ _ po.rd bh g' 44) fun cN lF aH=>?_))))
    obtain⟨rfl,B,U⟩:=aH
    have sZ:=po.tY B U
    replace md:=md.trans U
    rw [qb] at sZ
    replace eb:=eb.mod U (by simpa using (tE g2 z2).2.1)
    replace e4:=e4.mod U (by simpa using (tE g3 z3).2.1)
    refine ah (fC rfl) (J cv ?_)
    refine a1 rfl (fun gu=>?_) (fun gu=>?_)
    ·have gu:aC s (ai aT s nb) [44]=false:=by rw [qb] at gu;simpa using gu
     refine b5 ?_
     refine h6 (bB jz rfl) (hv _ 4) rfl (fun db aH=>aH.elim) (fun oU h2 aH=>?_) fun cN h2 aH=>?_
     ·obtain⟨rfl,rfl⟩:=aH
      exact aP (bw (aP (bw (bw (aP (bw (ff ⟨4,Re nu kY gu,by decide,rfl,md⟩)))))))
     exact aH.elim
    have gu:aC s (ai aT s nb) [44]=true:=by rw [qb] at gu;simpa using gu
    rw [aL gu] at sZ
    have l6:ai aT s nb+1≤s.length:=by have:=b9 gu (by simp);simpa using this
    refine b' (av bR (mU fun asC bV=>mU fun ahj cE=>?_))
    have kp:=sZ.Vg (fm:=.A (acc ++ [(t,v)]) t) (acc:=acc ++ [(t,v)]) (K:=(acc ++ [(t,v)]).map (fun q:ab×JV=>q.1)) (t:=t) (fun A w c m h=>h)
    obtain⟨g1,b,eM,vs,fE,gB,rfl,rfl,iu,hm,fs,B9,wG,se,n7,n8,HT,n10,QR,agV,_⟩:=kp
    obtain⟨ad,c0,bu,eQ,h3,C⟩:=sr sZ.own
    injection bu with bu ee kH
    subst bu
    subst kH
    have B:aF lF g 71 _:=sZ.rd
    refine cn wide (by kernel_rfl) (hF 2 rfl rfl (ax (fun U=>(aD gW rfl)) (ax (fun U=>(bF lC rfl ((B.I U).cell rfl))) (hF 2 rfl rfl (ax (fun U=>(aD gW rfl)) (ax (fun U=>(bF lC rfl ((B.I U).cell rfl))) (ax (fun U=>(bY nn rfl)) (ax (fun U=>(AU (r:=((fE.length:Nat):Int)) rfl rfl (by rw [wrap64_in _ (by simp at lJ;omega)];simp))) (ax (fun U=>(c8 vv rfl rfl (by simp;omega))) (ax (fun U=>(bF EW rfl (p' (C.mod U (by simp))))) (ax (fun U=>(O1 B7 rfl rfl)) (ax (fun U=>(fj rfl)) (ax (fun U=>(fo rfl rfl)) ?_)))))))))))))
    refine ax (fun U=>(fo rfl rfl)) (ax (fun U=>(cS rfl)) (ax (fun U=>(cS rfl)) (cq rfl fun h2 U=>?_)))
    replace eb:=eb.I U
    replace e4:=e4.I U
    refine av cE (mU fun ahk cI=>b5 (aO rfl (J cI ?_)))
    refine a1 rfl (fun vR=>?_) (fun vR=>absurd vR (by simp))
    refine b5 (aO rfl (aO rfl ?_))
    have ae7:=U
    have asD:aF h2 g 71 _:=B.I ae7
    refine h6 (bB Wv rfl) (O0 (K:=(acc ++ [(t,v)]).map (fun q:ab×JV=>q.1)) (m:=e0 (acc ++ [(t,v)])) asD (iu.I ae7) (hm.I ae7) se (Ne.symm n7) n8 (fun t=>Mp t _) bh l6 (gR.vu dY (md.then ae7)) dY) rfl (fun db aH=>aH) (fun oU jJ aH=>?_) fun cN jJ aH=>?_
    ·obtain⟨e,he,cg,rfl,U⟩:=aH
     refine aP (bw (aP (bw (bw (aP (bw ?_))))))
     exact ff ⟨e,Rf nu kY gu he,cg,rfl,ME (k:=k) (s:=s) (st:=st) (sk:=eM) (cs:=fE) (fp:=gB) Js (md.then ae7) U (fun x ae Q6 amI=>by
      simp only [List.mem_cons,List.not_mem_nil,or_false] at ae
      rcases ae with h | h | h
      ·exact Q6 h
      ·exact QR x amI (by simp [h])
      exact QR x amI (by simp [h]))⟩
    obtain⟨⟨t',jt⟩,he,⟨rfl,amr,asE,BI,dh⟩,U⟩:=aH
    have azC:=ra he
    have Wy:∀ {x:Nat},x≠g→x≠g1→x≠b→x∉[g,g1,b]:=fun h1 aq bb=>by simp [h1,aq,bb]
    have WI:∀ z∈g3::Z,z∉[g,g1,b]:=fun z hx=>Wy (tE z hx).2.1 (fun e=>QR z hx (by simp [e])) (fun e=>QR z hx (by simp [e]))
    replace eb:=eb.mod U (WI g2 z2)
    replace e4:=e4.mod U (WI g3 z3)
    have amJ:=ME (k:=k) (s:=s) (st:=st) (sk:=eM) (cs:=fE) (fp:=gB) Js (md.then ae7) U (fun x ae _ cP=>WI x cP ae)
    obtain⟨azD,_⟩:=agV jJ eM vs jt (.M (acc ++ [(t,v)]) t') (acc ++ [(t,v)]) _ t' ((ae7.mono (by simp)).trans (U.mono (by simp))) amr asE BI ((fs.I ae7).mod U (fun x ae=>Wy (n10 x ae) (fun e=>wG (e▸ae)) (fun e=>HT (e▸ae)))) (fun x ae=>.inl ae) B9 (fun A w c m h=>h)
    refine J bV (b5 (a7 rfl (cx (bw ?_))))
    exact aw (σ:=WA) (s:=(some v,_,nb,_)) (none,[hN,kR,Q8,MH,DB,Dq],jt,.M (acc ++ [(t,v)]) t'::st,_,_,_) ⟨MJ nu kY gu he,azD,z2,z3,n23,eb,e4,rfl,MF,fun v' bI=>(by cases bI),dh,by dsimp only;omega,lJ,fun f dn=>by
     rcases cB dn with rfl | dn
     ·simp [nF.sz] at Jt ⊢;omega
     have:=O4 f dn;simp;omega,amJ⟩
set_option maxRecDepth 10000
section
variable {P:Program} {fn:Func} {l:List (Nat×Value)} {w:World} {n:Nat} {ds:List Deferred} {aBn:Ending→World→Prop} {t t':Nat}
theorem rj {a:Act} {T Rg c:Nat} {ad tK:Addr} {vs:List Value} {v':Value} (aE:Has n ds l a) (bo:fn.results = #[.cell t T,.cell t' Rg]) (bW:lG P T c=true) (GO:pa P Rg=true) (bI:iF t l=some (.pointer (some ad))) (mX:iF t' l=some (.pointer (some tK)))
  (cu:vs.length=c) (aZ:pF w ad vs) (Cc:w.cell? tK=some v'):(results fn a.tmps).run P w = .ok (.tuple #[.agg vs.toArray,v']) w:=by
 simp [results,bo,aE.get _ _ bI,aE.get _ _ mX,asAddr,hY bW cu aZ,mm GO Cc]
end
/-- what the program's Parse hands back -/
noncomputable def iv (s:ab):JV:=match parse s with
 | .ok v=>v
 | .error _=>JV.fg
noncomputable def jY (s:ab):Int:=match parse s with
 | .ok _=>0
 | .error e=>e
def amL:=kT (tp aR 71 [(0,1),(1,1),(2,1)])
theorem amM:gX aR 71 [S [],.int .i64 0,.slice none 0 0]:=by unfold gX;kernel_rfl
def MK:=eW Tryz.func36
def ahl:=eW Tryz.func37
theorem WJ (w:World) (ge gs:Nat) (B:aF w ge 29 [.int .i64 0]):CallsD aR 36 [.pointer (some ⟨ge,0,none⟩),.pointer (some ⟨gs,0,none⟩)].toArray .returning w (fun e oO w'=>(∃ v,e = .returned v)∧oO = .returning∧Mod [] w w'):=by
 refine s0 Tryz.func36 rfl rfl rfl (l:=[(0,_),(1,_)]) ⟨rfl,rfl,trivial⟩ rfl rfl (.inl ⟨rfl,rfl,rfl⟩) (by rintro u w ⟨⟨v,bI⟩,_⟩;cases bI) fun K1 a6=>?_;have E:=Mod.refl [] w;refine cJ (bB GP rfl) (Cd _ _) fun cN aJ aH=>?_;obtain⟨_,U⟩:=aH;replace B:=B.I U;replace E:=E.then U;refine J a6 (aa fun aQ=>ah (bF qy rfl (B.cell rfl)) (ah (fO rfl rfl) (J aQ ?_)));refine aX rfl (fun cZ=>?_) (fun cZ=>?_)
 ·exact absurd rfl cZ
 exact b' (lP rfl ⟨⟨_,rfl⟩,rfl,E⟩)
theorem Jx (w:World) (ge gs:Nat) (z:Value) (e:Int) (ft:List Value) (vJ:ft.length=6) (B:aF w ge 29 [z]) (eb:aF w gs 25 ft) (cH:ge≠gs) (he:e≠0):CallsD aR 36 [.pointer (some ⟨ge,0,none⟩),.pointer (some ⟨gs,0,none⟩)].toArray (.panicking (EL 95 e)) w (fun eW oO w'=>(∃ v,eW = .returned v)∧oO = .panicking [{v:=.iface 95 (.agg #[.int .i64 e]),recovered:=true}]∧aF w' ge 29 [.int .i64 e]∧aF w' gs 25 tk∧Mod [ge,gs] w w'):=by
 refine s0 Tryz.func36 rfl rfl rfl (l:=[(0,_),(1,_)]) ⟨rfl,rfl,trivial⟩ rfl rfl (.inr ⟨rfl,rfl⟩) (by rintro u w ⟨⟨v,bI⟩,_⟩;cases bI) fun K1 a6=>?_;have E:=Mod.refl [ge,gs] w;refine cJ (bB GP rfl) (Ce _ ge z e B) fun cN aJ aH=>?_;obtain⟨uU,U⟩:=aH;replace E:=E.trans' U (fun x ae=>.inl (by simp at ae;simp [ae]));replace eb:=eb.mod U (by simp;exact fun h=>cH h.symm);clear B;have B:=uU;refine J a6 (aa fun aQ=>ah (bF qy rfl (B.cell rfl)) (ah (fO rfl rfl) (J aQ ?_)));refine aX rfl (fun cZ=>?_) (fun cZ=>?_)
 ·obtain⟨akR,z2,z3,z4,z5,arc,rfl⟩:=six vJ;refine b5 (ah (ma (us:=[]) (cs:=[_,_,_,_,_,_]) dz bA rfl rfl) (aK au eb rfl rfl fun lF lW=>?_));replace E:=E.trans' lW.mod (fun x ae=>.inl (by simp at ae;simp [ae]));replace B:=B.mod lW.mod (by simp;exact cH);have pn:=lW.eq (cs':=tk) rfl;exact cx (lP rfl ⟨⟨_,rfl⟩,rfl,B,pn,E⟩)
 exact absurd he cZ
theorem WK (w:World) (s:ab) (gR:Env w):Calls aR 16 [S s].toArray w (bH fun u w'=>∃ us,u = .tuple #[.agg us.toArray,.int .i64 (jY s)]∧ao (List.range w.heap.size) w' (iv s).D us∧Mod [] w w'):=by
 refine O5 Tryz.func16 rfl rfl rfl (l:=[(0,_)]) ⟨rfl,trivial⟩ ?_;have E:=Mod.refl [] w;refine aa fun a6=>bj bA rfl fun g2 aJ bZ=>?_;have HU:=bZ.le E;replace E:=E.then bZ.mod;have eb:=bZ.ar;refine bj ae8 rfl fun g3 cX cz=>?_;have Rh:=cz.le E;have n23:=cz.ne eb;replace eb:=eb.I cz.mod;replace E:=E.then cz.mod;have e4:=cz.ar;refine J a6 (aB fun aQ=>aa fun a'=>aO rfl (ah (bQ aA rfl) (ah (hV rfl rfl) (J a' ?_))));refine aX rfl (fun lL=>?_) (fun lL=>?_)
 ·have cc:parse s = .error 3:=by unfold parse;rw [aL (by omega)]
  refine aa fun bp=>ah (ma (us:=[]) (cs:=[_,_,_,_,_,_]) dz bA rfl rfl) (aK au eb rfl rfl fun gr rW=>?_);have pn:=rW.eq (cs':=tk) rfl;replace e4:=e4.mod rW.mod (by simpa using Ne.symm n23);replace E:=E.own rW.mod HU;refine cL qy e4 rfl rfl fun h8 j0=>?_;replace pn:=pn.mod j0.mod (by simpa using n23);replace E:=E.own j0.mod Rh;have acY:=j0.eq (cs':=[.int .i64 3]) rfl;exact J bp (bn (aP (GQ fun a aE=>⟨_,rj aE rfl au qy rfl rfl rfl (pn.cs rfl) (acY.cell rfl),⟨_,by unfold jY;rw [cc],by unfold iv;rw [cc];exact JV.b3,E⟩⟩)))
 have bh:s.length≤65536:=by omega
 refine b' (av aQ (aa fun bx=>ah (WL rfl rfl) (Jy rfl (J bx (aa fun bO=>aO rfl (ah (sY amL amM rfl rfl) (eY rfl rfl rfl fun g4 gr dF=>?_)))))));have aqv:=dF.le E;have n24:=dF.ne eb;have n34:=dF.ne e4;replace eb:=eb.I dF.mod;replace e4:=e4.I dF.mod;replace E:=E.then dF.mod;have B:aF gr g4 71 [S s,.int .i64 ((0:Nat):Int),.slice none 0 0]:=dF.ar;have amN:QM<g4:=Nat.lt_of_lt_of_le gR.sz aqv;refine a7 rfl (J bO (aa fun b4=>aO rfl ?_))
 have Cf:parse s=match vZ s with
  | .error e=>.error e
  | .ok (v,k)=>if ai aT s k<s.length then .error 4 else .ok v:=by unfold parse;rw [ak (by omega)];rfl
 refine h6 (bB ahl rfl) (Q5 B bh (gR.I E) amN (UP s)) rfl (fun db aH=>aH) (fun oU h8 aH=>?_) fun cN h8 aH=>?_
 ·obtain⟨e,he,cg,rfl,U⟩:=aH;rw [he] at Cf;replace eb:=eb.mod U (by simpa using n24);replace e4:=e4.mod U (by simpa using n34);replace E:=E.own U aqv;refine aP (yP fun a aE=>uh (by simp) MK (Jx _ g3 g2 _ e _ rfl e4 eb (Ne.symm n23) cg) fun eW akr lF l2=>?_);obtain⟨⟨v9,rfl⟩,rfl,e4,eb,Dv⟩:=l2;exact⟨v9,rfl,rfl,_,rj aE rfl au qy rfl rfl rfl (eb.cs rfl) (e4.cell rfl),⟨_,by unfold jY;rw [Cf],by unfold iv;rw [Cf];exact JV.b3,E.trans' Dv (fun x ae=>.inr (by simp at ae;rcases ae with rfl | rfl <;> assumption))⟩⟩
 obtain⟨⟨v,k⟩,he,⟨us,sk,rfl,aBn,B,hk⟩,U⟩:=aH;rw [he] at Cf
 dsimp only at Cf aBn B hk
 obtain⟨fy,Ab⟩:=JV.cells_one aBn;obtain⟨hN,kR,Q8,MH,DB,Dq,rfl⟩:=six fy;replace eb:=eb.mod U (by simpa using n24);replace e4:=e4.mod U (by simpa using n34);replace E:=E.own U aqv;have WM:∀ x∈g2::g3::List.range w.heap.size,x∈g4::List.range gr.heap.size:=fun x ae=>by
  have h1:=(bZ.mod.trans (cz.mod.trans dF.mod)).size;have aq:=bZ.ar.lt;have bb:=cz.ar.lt;have bP:=cz.mod.size;have cZ:=dF.mod.size;simp only [List.mem_cons,List.mem_range] at ae ⊢;rcases ae with rfl | rfl | ae <;> right <;> omega
 have z1:ao (g2::g3::g4::List.range w.heap.size) h8 v.D [hN,kR,Q8,MH,DB,Dq]:=aBn.eu (fun x ae=>by
  rcases cB ae with rfl | ae
  ·exact WM _ (by simp)
  rcases cB ae with rfl | ae
  ·exact WM _ (by simp)
  rcases cB ae with rfl | ae
  ·simp
  exact WM _ (by simp only [List.mem_cons];exact .inr (.inr ae)))
 refine oa (vs:=[_,_,_,_,_,_]) au eb rfl rfl rfl Ab (by simp) fun iS hd=>?_;replace eb:=hd.eq (cs':=[hN,kR,Q8,MH,DB,Dq]) rfl;replace B:=B.mod hd.mod (by simpa using Ne.symm n24);replace e4:=e4.mod hd.mod (by simpa using Ne.symm n23);replace z1:=z1.toM hd.mod (fun x ae=>by rw [dx ae];simp);replace E:=E.own hd.mod HU;refine J b4 (aB fun cw=>aa fun cy=>aO rfl (cJ (bB GL rfl) (xj _ g4 s k sk B bh hk) fun cN i' aH=>?_));obtain⟨B,U⟩:=aH;replace eb:=eb.mod U (by simpa using n24);replace e4:=e4.mod U (by simpa using n34);replace z1:=z1.toM U (fun x ae=>by rw [dx ae];simp);replace E:=E.own U aqv;refine J cy (aa fun b6=>aj 2 rfl (ah (aD dK rfl) (ah (bF eg rfl (B.cell rfl)) (aO rfl (ah (bQ aA rfl) (ah (cT rfl rfl) (J b6 ?_)))))));refine aX rfl (fun pL=>?_) (fun pL=>?_)
 ·rw [aL (by omega)] at Cf;refine b5 ?_;refine h6 (bB jz rfl) (hv _ 4) rfl (fun db aH=>aH.elim) (fun oU iw aH=>?_) fun cN iw aH=>?_
  ·obtain⟨rfl,rfl⟩:=aH;refine aP (yP fun a aE=>uh (by simp) MK (Jx _ g3 g2 _ 4 _ rfl e4 eb (Ne.symm n23) (by decide)) fun eW akr lF l2=>?_);obtain⟨⟨v9,rfl⟩,rfl,e4,eb,Dv⟩:=l2;exact⟨v9,rfl,rfl,_,rj aE rfl au qy rfl rfl rfl (eb.cs rfl) (e4.cell rfl),⟨_,by unfold jY;rw [Cf],by unfold iv;rw [Cf];exact JV.b3,E.trans' Dv (fun x ae=>.inr (by simp at ae;rcases ae with rfl | rfl <;> assumption))⟩⟩
  exact aH.elim
 rw [ak (by omega)] at Cf;refine b' (av cw (aa fun bR=>ah (br au rfl (eb.cs rfl)) (oa (vs:=[_,_,_,_,_,_]) au eb rfl rfl rfl Ab (by simp) fun iw ml=>?_)));replace eb:=ml.eq (cs':=[hN,kR,Q8,MH,DB,Dq]) rfl;replace e4:=e4.mod ml.mod (by simpa using Ne.symm n23);replace z1:=z1.toM ml.mod (fun x ae=>by rw [dx ae];simp);replace E:=E.own ml.mod HU;refine cL qy e4 rfl rfl fun nd lY=>?_;replace eb:=eb.mod lY.mod (by simpa using n23);have acY:=lY.eq (cs':=[.int .i64 0]) rfl;replace z1:=z1.toM lY.mod (fun x ae=>by rw [dx ae];simp);replace E:=E.own lY.mod Rh;refine J bR (bn (GQ fun a aE=>uh (by simp) MK (WJ _ g3 g2 acY) fun eW akr lF l2=>?_));obtain⟨⟨v9,rfl⟩,rfl,Dv⟩:=l2;exact⟨v9,rfl,rfl,_,rj aE rfl au qy rfl rfl rfl ((eb.I Dv).cs rfl) ((acY.I Dv).cell rfl),⟨_,by unfold jY;rw [Cf],by unfold iv;rw [Cf];exact(z1.b1 Dv).eu (fun x ae=>by simp only [List.mem_cons];exact .inr (.inr (.inr ae))),E.then Dv⟩⟩
end Go.Proofs.YtkjgljnkocnnpaaGreatDoor.V
set_option maxRecDepth 10000
namespace Go.Proofs.YtkjgljnkocnnpaaGreatDoor.V
open Go
end Go.Proofs.YtkjgljnkocnnpaaGreatDoor.V
set_option maxRecDepth 10000
namespace Go.Proofs.YtkjgljnkocnnpaaGreatDoor.V
open Go Go.Proofs
def ahm:=eW Tryz.func16
end Go.Proofs.YtkjgljnkocnnpaaGreatDoor.V
namespace Go.Proofs.YtkjgljnkocnnpaaGreatDoor.V
open Go
theorem Mm {l l':ab} (cg:(aM l).2≠0) (h:l.take (aM l).2 <+: l'):aM l'=aM l:=by
 cases l with
 | nil=>exact absurd rfl cg
 | cons b r=>
  obtain⟨y,rfl⟩:=h
  by_cases aW:b.toNat<128
  ·rw [hs aW];show aM ((b::r).take 1++y)=_;exact hs aW
  obtain⟨n,lo,c,hH⟩:∃ n lo c,gQ b.toNat=(n,lo,c):=⟨_,_,_,rfl⟩
  by_cases cu:n=0∨(b::r).length<n
  ·exact absurd (by rw [ht aW hH cu]) cg
  have aq:(aM (b::r)).2=n:=by
   rw [p8 aW hH cu] at cg ⊢
   split at cg
   ·exact absurd rfl cg
   split at cg
   ·exact absurd rfl cg
   rename_i aZ;rw [ak aZ]
  rw [aq,p8 aW hH cu];obtain⟨m,rfl⟩:∃ m,n=m+1:=⟨n-1,by omega⟩;simp only [List.length_cons] at cu;rw [List.take_succ_cons,List.cons_append,p8 aW hH (by simp only [List.length_cons,List.length_append,List.length_take];omega)];rw [show m+1-1=m from rfl,List.take_append_of_le_length (by rw [List.length_take];omega),List.take_take,Nat.min_self]
theorem EC:∀ k,k<16→gP (kd.getD k 0)=some k:=by decide
theorem tV {b:UInt8} (h:b.toNat<128):fl b.toNat = [b]:=by
 have:=sQ (l:=[b]) (by simp) (by rw [hs h];simp);rw [hs h] at this;simpa using this
theorem Qs {f:Nat} {b:UInt8} {X:ab} {i:Nat} {out:ab} (aW:b.toNat<128):gx (f+1) (kg b++X) i out=gx f X (i+(kg b).length) (out ++ [b]):=by
 have two:∀ x:UInt8,l5 x=some b.toNat→kg b = [92,x]→gx (f+1) (kg b++X) i out=gx f X (i+(kg b).length) (out ++ [b]):=by
  intro x ae he;have bo:fK (92::x::X)=(b.toNat,2):=by
   unfold fK;simp only;rw [ae]
  rw [he];show gx (f+1) (92::(x::X)) i out=_;rw [gx,ak (by decide),aL rfl];simp only;rw [bo,ak (by simp),tV aW];rfl
 unfold kg at two ⊢
 by_cases h1:b=34∨b=92
 ·rw [aL h1] at two ⊢;rcases h1 with rfl | rfl
  ·exact two 34 rfl rfl
  exact two 92 rfl rfl
 rw [ak h1] at two ⊢
 by_cases aq:b=8
 ·rw [aL aq] at two ⊢;subst aq;exact two 98 rfl rfl
 rw [ak aq] at two ⊢
 by_cases bb:b=9
 ·rw [aL bb] at two ⊢;subst bb;exact two 116 rfl rfl
 rw [ak bb] at two ⊢
 by_cases bP:b=10
 ·rw [aL bP] at two ⊢;subst bP;exact two 110 rfl rfl
 rw [ak bP] at two ⊢
 by_cases cZ:b=12
 ·rw [aL cZ] at two ⊢;subst cZ;exact two 102 rfl rfl
 rw [ak cZ] at two ⊢
 by_cases fy:b=13
 ·rw [aL fy] at two ⊢;subst fy;exact two 114 rfl rfl
 rw [ak fy] at two ⊢;clear two
 by_cases lL:b.toNat<32
 rotate_left
 ·rw [ak lL];show gx (f+1) (b::X) i out=_;have tW:b≠34:=fun h=>h1 (.inl h);have Gx:b≠92:=fun h=>h1 (.inr h);rw [gx,ak tW,ak Gx];simp only;rw [hs aW,ak (by simp;omega),tV aW];rfl
 rw [aL lL];have d1:=EC (b.toNat / 16) (by omega);have d2:=EC (b.toNat % 16) (by omega);generalize kd.getD (b.toNat / 16) 0=x at d1;generalize kd.getD (b.toNat % 16) 0=y at d2;have bo:fK (92::117::48::48::x::y::X)=(b.toNat,6):=by
  have hu:ej (92::117::48::48::x::y::X)=some b.toNat:=by
   show e' 4 (48::48::x::y::X) 0=_;have ED:gP 48=some 0:=rfl;simp only [e',ED,d1,d2]
   congr 1
   omega
  unfold fK;simp only;rw [show l5 117=none from rfl];simp only;rw [hu];simp only;rw [ak (by omega),aL (by omega)]
 show gx (f+1) (92::(117::48::48::x::y::X)) i out=_;rw [gx,ak (by decide),aL rfl];simp only;rw [bo,ak (by simp),tV aW];rfl
theorem BQ (c:UInt8) (t:ab):dI (c::t)=kg c++dI t:=by simp [dI]
theorem Qt (a b:ab):dI (a++b)=dI a++dI b:=by simp [dI]
theorem EE (c:UInt8):1≤(kg c).length:=by
 unfold kg
 repeat' split
 all_goals simp
theorem yz:∀ (N:Nat) (t:ab),t.length≤N→cC t=true→∀ (f i:Nat) (out rest:ab),(dI t).length+1≤f→gx f (dI t++34::rest) i out=some (out++t,i+(dI t).length+1)
 | N,[],_,_,f,i,out,rest,dn=>by
  obtain⟨g,rfl⟩:∃ g,f=g+1:=⟨f-1,by omega⟩
  show gx (g+1) (34::rest) i out=_
  rw [gx,aL rfl]
  simp [dI]
 | 0,b::r,h,_,_,_,_,_,_=>by simp at h
 | N+1,b::r,gy,bI,f,i,out,rest,dn=>by
  have cH:(b::r)≠[]:=by simp
  have cg:=BR cH bI
  have mX:=bI
  rw [mq cH cg] at mX
  obtain⟨g,rfl⟩:∃ g,f=g+1:=⟨f-1,by omega⟩
  by_cases aZ:(aM (b::r)).1<128
  ·obtain⟨x,ae,agB⟩:=nZ cH cg aZ
   have oN:(aM (b::r)).2=1:=by
    have:=kZ List.length ae
    rw [List.length_take,List.length_singleton] at this
    have:=kC (b::r)
    omega
   rw [oN] at ae mX
   simp only [List.take_succ_cons,List.take_zero,List.cons.injEq,and_true] at ae
   subst ae
   rw [List.drop_succ_cons,List.drop_zero] at mX
   have e8:=EE b
   rw [BQ,List.length_append] at dn
   rw [BQ,List.append_assoc,Qs (by omega),yz N r (by simpa using gy) mX g _ _ rest (by omega)]
   simp only [List.length_append,List.append_assoc,List.singleton_append,Option.some.injEq,Prod.mk.injEq,true_and]
   omega
  have aW:=zA cH cg (by omega)
  have hle:=kC (b::r)
  generalize cu:(aM (b::r)).2=n at *
  have kx:dI (b::r)=(b::r).take n++dI ((b::r).drop n):=by
   conv=>lhs;rw [← List.take_append_drop n (b::r)]
   rw [Qt,EF aW]
  have tt:aM ((b::r).take n++(dI ((b::r).drop n)++34::rest))=aM (b::r):=Mm (by omega) (by rw [cu];exact List.prefix_append _ _)
  have ama:fl (aM (b::r)).1=(b::r).take n:=by rw [sQ cH (by omega),cu]
  have cb:((b::r).take n).length=n:=by rw [List.length_take];omega
  have UT:(b::r).take n=b::(r.take (n-1)):=by
   obtain⟨m,rfl⟩:∃ m,n=m+1:=⟨n-1,by omega⟩
   rfl
  have Gy:128≤b.toNat:=aW b (by rw [UT];simp)
  rw [kx,List.length_append,cb] at dn
  rw [kx,List.append_assoc]
  have agC:gx (g+1) ((b::r).take n++(dI ((b::r).drop n)++34::rest)) i out=gx g (dI ((b::r).drop n)++34::rest) (i+n) (out++(b::r).take n):=by
   have amb:((b::r).take n++(dI ((b::r).drop n)++34::rest)).drop n=dI ((b::r).drop n)++34::rest:=List.drop_left' cb
   generalize akq:(b::r).take n++(dI ((b::r).drop n)++34::rest)=Z at tt amb ⊢
   cases Z with
   | nil=>rw [UT] at akq;cases akq
   | cons z awk=>
    have cP:z=b:=by
     rw [UT] at akq
     injection akq with akq
     exact akq.symm
    subst cP
    have tW:¬ z=34:=fun h=>by rw [h] at Gy;revert Gy;decide
    have Gx:¬ z=92:=fun h=>by rw [h] at Gy;revert Gy;decide
    rw [gx,ak tW,ak Gx]
    simp only
    rw [tt,cu,ak (by omega),amb,ama]
  rw [agC,yz N _ (by rw [List.length_drop];simp only [List.length_cons] at gy ⊢;omega) mX g _ _ rest (by omega)]
  simp only [List.length_append,cb,List.append_assoc,List.take_append_drop,Option.some.injEq,Prod.mk.injEq,true_and]
  omega
theorem EG {s t rest:ab} {k:Nat} (bI:cC t=true) (h:s.drop k=cM t++rest):dP s k=some (t,k+(cM t).length):=by
 have fW:s.drop k=34::(dI t++34::rest):=by rw [h];simp [cM]
 have hk:s[k]? = some 34:=by
  have:=kZ (fun l=>l[0]?) fW;simpa [List.getElem?_drop] using this
 have bT:s.drop (k+1)=dI t++34::rest:=by
  rw [gn hk] at fW;injection fW
 have hlen:=kZ List.length fW;simp only [List.length_drop,List.length_cons,List.length_append] at hlen;unfold dP;rw [aL hk,bT,yz t.length t (Nat.le_refl _) bI _ _ _ _ (by omega)];simp only [cM,List.length_append,List.length_cons,List.length_nil,List.nil_append,Option.some.injEq,Prod.mk.injEq,true_and];omega
theorem w6 (s:ab):∀ f:Nat,(∀ k deep r,jl f s k deep=some r→jl (f+1) s k deep=some r)∧
  (∀ k deep acc r,oP f s k deep acc=some r→oP (f+1) s k deep acc=some r)∧
  (∀ k deep m r,oQ f s k deep m=some r→oQ (f+1) s k deep m=some r)
 | 0=>⟨fun _ _ _ h=>by simp [jl] at h,fun _ _ _ _ h=>by simp [oP] at h,fun _ _ _ _ h=>by simp [oQ] at h⟩
 | f+1=>by
  obtain⟨tu,w2,w3⟩:=w6 s f
  refine⟨fun o8 deep r h=>?_,fun k deep acc r h=>?_,fun k deep m r h=>?_⟩
  ·rw [jl] at h ⊢
   generalize ai aT s o8=k at h ⊢
   dsimp only at h ⊢
   split at h
   ·rename_i c;rw [aL c];exact h
   rename_i c;rw [ak c]
   split at h
   ·rename_i c;rw [aL c];exact h
   rename_i c;rw [ak c]
   split at h
   ·rename_i c;rw [aL c];exact h
   rename_i c;rw [ak c]
   split at h
   ·rename_i c;rw [aL c];exact h
   rename_i c;rw [ak c]
   split at h
   ·rename_i c;rw [aL c]
    split at h
    ·rename_i c;rw [aL c];exact h
    rename_i c;rw [ak c]
    split at h
    ·rename_i c;rw [aL c]
     split at h
     ·rename_i c;rw [aL c];exact h
     rename_i c;rw [ak c]
     exact w2 _ _ _ _ h
    rename_i c;rw [ak c]
    split at h
    ·rename_i c;rw [aL c];exact h
    rename_i c;rw [ak c]
    exact w3 _ _ _ _ h
   rename_i c;rw [ak c];exact h
  ·rw [oP] at h ⊢
   split at h
   ·cases h
   ·rename_i e bI;rw [tu _ _ _ bI];exact h
   rename_i y jt bI
   rw [tu _ _ _ bI]
   dsimp only at h ⊢
   split at h
   ·rename_i c;rw [aL c];exact h
   rename_i c;rw [ak c]
   split at h
   ·rename_i c;rw [aL c];exact w2 _ _ _ _ h
   rename_i c;rw [ak c];exact h
  rw [oQ] at h ⊢
  split at h
  ·rename_i e hk;exact h
  rename_i t ef hk
  split at h
  ·cases h
  ·rename_i e bI;rw [tu _ _ _ bI];exact h
  rename_i y jt bI
  rw [tu _ _ _ bI]
  dsimp only at h ⊢
  split at h
  ·rename_i c;rw [aL c];exact h
  rename_i c;rw [ak c]
  split at h
  ·rename_i c;rw [aL c];exact w3 _ _ _ _ h
  rename_i c;rw [ak c];exact h
theorem AI {s:ab} {f g k deep:Nat} {r:tA} (h:jl f s k deep=some r) (dY:f≤g):jl g s k deep=some r:=by
 induction g with
 | zero=>
  obtain rfl:f=0:=by omega
  exact h
 | succ g ea=>
  rcases Nat.lt_or_ge g f with h1 | h1
  ·obtain rfl:f=g+1:=by omega
   exact h
  exact(w6 s g).1 _ _ _ (ea h1)
theorem aco {s:ab} {f g k deep:Nat} {acc:List JV} {r:tA} (h:oP f s k deep acc=some r) (dY:f≤g):oP g s k deep acc=some r:=by
 induction g with
 | zero=>
  obtain rfl:f=0:=by omega
  exact h
 | succ g ea=>
  rcases Nat.lt_or_ge g f with h1 | h1
  ·obtain rfl:f=g+1:=by omega
   exact h
  exact(w6 s g).2.1 _ _ _ _ (ea h1)
theorem acp {s:ab} {f g k deep:Nat} {acc:List (ab×JV)} {r:tA} (h:oQ f s k deep acc=some r) (dY:f≤g):oQ g s k deep acc=some r:=by
 induction g with
 | zero=>
  obtain rfl:f=0:=by omega
  exact h
 | succ g ea=>
  rcases Nat.lt_or_ge g f with h1 | h1
  ·obtain rfl:f=g+1:=by omega
   exact h
  exact(w6 s g).2.2 _ _ _ _ (ea h1)
theorem UU {s:ab} {f g k deep:Nat} {r Qn:tA} (h:jl f s k deep=some r) (fW:jl g s k deep=some Qn):r=Qn:=by
 have h1:=AI h (Nat.le_max_left f g);have aq:=AI fW (Nat.le_max_right f g);rw [h1] at aq;injection aq
theorem ep {s:ab} {k:Nat} {c:UInt8} {r:ab} (h:s.drop k=c::r):s[k]? = some c∧s.drop (k+1)=r:=by
 have hk:s[k]? = some c:=by
  have:=kZ (fun l=>l[0]?) h;simpa [List.getElem?_drop] using this
 rw [gn hk] at h;injection h with _ h
 exact⟨hk,h⟩
theorem n0 {s a r:ab} {k:Nat} (h:s.drop k=a++r):s.drop (k+a.length)=r:=by
 rw [← List.drop_drop,h,List.drop_left' rfl]
theorem cQ {s r t:ab} {k:Nat} {c d:UInt8} (h:s.drop k=c::r) (bT:d≠c):aC s k (d::t)=false:=by
 rw [aC,h,List.isPrefixOf,beq_eq_false_iff_ne.2 bT];rfl
theorem yA {s t r:ab} {k:Nat} (h:s.drop k=t++r):aC s k t=true:=by
 rw [yx,h,List.take_left' rfl]
theorem ic {s r:ab} {k:Nat} {c:UInt8} (h:s.drop k=c::r) (aZ:aT c=false):ai aT s k=k:=fU (ep h).1 aZ
def UW (c:UInt8):Prop:=aT c=false∧c≠93∧c≠125
def ar0 (r:ab):Prop:=∀ c,r[0]? = some c→cU c=false
def LG (v:JV) (deep:Nat) (t:ab):Prop:=(∃ c r,t=c::r∧UW c)∧∀ s k rest,s.drop k=t++rest→ar0 rest→∃ f,jl f s k deep=some (.ok (v,k+t.length))
theorem Mn (n:Int):∃ c r,Lib.itoa n=c::r∧(c=45∨ct c=true):=by
 unfold Lib.itoa
 split
 ·exact⟨45,_,rfl,.inl rfl⟩
 cases h:Lib.decDigits n.toNat with
 | nil=>exact absurd h (uP _)
 | cons c r=>exact⟨c,r,rfl,.inr (sg n.toNat c (by rw [h];simp))⟩
theorem agD {c:UInt8} (h:c=45∨ct c=true) (d:UInt8) (bT:¬ (d.toNat=45∨(48≤d.toNat∧d.toNat≤57))):d≠c:=by
 intro e;subst e;apply bT;rcases h with rfl | h
 ·left;rfl
 right;simp only [ct,Bool.and_eq_true,decide_eq_true_eq] at h;exact h
theorem acq {deep:Nat}:LG JV.fg deep JV.kM:=by
 refine⟨⟨110,_,rfl,by decide,by decide,by decide⟩,fun s k rest h _=>⟨1,?_⟩⟩;have hw:=ic (c:=110) h rfl;rw [jl];simp only;rw [hw,aL (yA h)];rfl
theorem UX {deep:Nat}:LG (.mk 1 true 0 [] [] []) deep JV.jT:=by
 refine⟨⟨116,_,rfl,by decide,by decide,by decide⟩,fun s k rest h _=>⟨1,?_⟩⟩;have hw:=ic (c:=116) h rfl;rw [jl];simp only;rw [hw,cQ (c:=116) h (by decide),ak (by simp),aL (yA h)];rfl
theorem Qu {deep:Nat}:LG (.mk 1 false 0 [] [] []) deep JV.hP:=by
 refine⟨⟨102,_,rfl,by decide,by decide,by decide⟩,fun s k rest h _=>⟨1,?_⟩⟩;have hw:=ic (c:=102) h rfl;rw [jl];simp only;rw [hw,cQ (c:=102) h (by decide),ak (by simp),cQ (c:=102) h (by decide),ak (by simp),aL (yA h)];rfl
theorem acr {deep:Nat} {n:Int} (cg : -9007199254740991≤n) (h1:n≤9007199254740991):LG (JV.hr n) deep (Lib.itoa n):=by
 obtain⟨c,r,aZ,bT⟩:=Mn n;have cH:=fun d tX=>agD bT d tX;refine⟨⟨c,r,aZ,?_,(cH 93 (by decide)).symm,(cH 125 (by decide)).symm⟩,fun s k rest h bo=>⟨1,?_⟩⟩
 ·unfold aT;rw [beq_eq_false_iff_ne.2 (cH 32 (by decide)).symm,beq_eq_false_iff_ne.2 (cH 9 (by decide)).symm,beq_eq_false_iff_ne.2 (cH 10 (by decide)).symm,beq_eq_false_iff_ne.2 (cH 13 (by decide)).symm];rfl
 have g':aT c=false:=by
  unfold aT;rw [beq_eq_false_iff_ne.2 (cH 32 (by decide)).symm,beq_eq_false_iff_ne.2 (cH 9 (by decide)).symm,beq_eq_false_iff_ne.2 (cH 10 (by decide)).symm,beq_eq_false_iff_ne.2 (cH 13 (by decide)).symm];rfl
 have bh:s.drop k=c::(r++rest):=by rw [h,aZ];rfl
 rw [jl];simp only;rw [ic bh g',cQ bh (cH 110 (by decide)),cQ bh (cH 116 (by decide)),cQ bh (cH 102 (by decide)),cQ bh (cH 34 (by decide)),cQ bh (cH 91 (by decide)),cQ bh (cH 123 (by decide))];simp only [Bool.false_eq_true,if_false,Bool.or_self];rw [Ml cg h1 h bo]
theorem v8 (t:ab):cM t=34::(dI t ++ [34]):=rfl
theorem acs {deep:Nat} {t:ab} (bI:cC t=true):LG (JV.aN t) deep (cM t):=by
 refine⟨⟨34,_,v8 t,by decide,by decide,by decide⟩,fun s k rest h _=>⟨1,?_⟩⟩;have bh:s.drop k=34::(dI t ++ [34]++rest):=by rw [h,v8];rfl
 rw [jl];simp only;rw [ic bh rfl,cQ bh (by decide),cQ bh (by decide),cQ bh (by decide)];simp only [Bool.false_eq_true,if_false];rw [aL (gK.2 (ep bh).1),EG bI h]
theorem EH {s t rest:ab} {k:Nat} {m:List (ab×JV)} (bI:cC t=true) (cu:look m t=none) (h:s.drop k=cM t++58::rest):h5 s k m = .ok (t,k+(cM t).length+1):=by
 have bh:s.drop k=34::(dI t ++ [34]++58::rest):=by rw [h,v8];rfl
 have aq:s.drop (k+(cM t).length)=58::rest:=n0 h;unfold h5;rw [ic bh rfl,EG bI h];simp only;rw [cu,ak (by simp),ic aq rfl,aL (gK.2 (ep aq).1)]
def UY (l:List JV) (deep:Nat) (t:ab):Prop:=∀ s k acc rest,s.drop k=t++93::rest→∃ f,oP f s k (deep+1) acc=some (.ok (JV.de (acc++l),k+t.length+1))
theorem UZ {x:JV} {deep:Nat} {t:ab} (h:LG x (deep+1) t):UY [x] deep t:=fun s k acc rest bh=>by
 obtain⟨f,dn⟩:=h.2 s k _ bh (fun c aZ=>by simp at aZ;subst aZ;rfl);refine⟨f+1,?_⟩;have aq:s.drop (k+t.length)=93::rest:=n0 bh;rw [oP,dn];simp only;rw [ic aq rfl,aL (gK.2 (ep aq).1)]
theorem Qv {x:JV} {l:List JV} {deep:Nat} {t t':ab} (h:LG x (deep+1) t) (fW:UY l deep t'):UY (x::l) deep (t ++ [44]++t'):=fun s k acc rest bh=>by
 have k7:s.drop k=t++44::(t'++93::rest):=by rw [bh];simp
 obtain⟨f,dn⟩:=h.2 s k _ k7 (fun c aZ=>by simp at aZ;subst aZ;rfl);have aq:s.drop (k+t.length)=44::(t'++93::rest):=n0 k7;obtain⟨g,dY⟩:=fW s (k+t.length+1) (acc ++ [x]) rest (ep aq).2;refine⟨max f g+1,?_⟩;rw [oP,AI dn (Nat.le_max_left f g)];simp only;rw [ic aq rfl,cQ aq (by decide),ak (by simp),aL (gK.2 (ep aq).1),aco dY (Nat.le_max_right f g)];simp only [List.append_assoc,List.singleton_append,List.length_append,List.length_cons,List.length_nil,Option.some.injEq,Except.ok.injEq,Prod.mk.injEq,true_and];omega
def U' (m:List (ab×JV)) (deep:Nat) (t:ab):Prop:=∀ s k m0 rest,s.drop k=t++125::rest→(∀ p∈m0,∀ q∈m,fx p.1 q.1=true)→et m0→∃ f,oQ f s k (deep+1) m0=some (.ok (JV.obj (m0++m),k+t.length+1))
theorem BS {m0:List (ab×JV)} {t:ab} {x:JV} (h:∀ p∈m0,fx p.1 t=true):dO m0 t x=m0 ++ [(t,x)]∧look m0 t=none:=by
 constructor
 ·unfold dO;rw [List.filter_eq_self.2 h,List.filter_eq_nil_iff.2 (fun p cc e=>by
   have h1:=h p cc;have:=hL h1 e;rw [dJ] at this;cases this)]
  simp
 refine iq fun j y ba e=>?_;have:=h y (List.mem_of_getElem? ba);rw [e,dJ] at this;cases this
theorem Va {m0:List (ab×JV)} {t:ab} {x:JV} (aE:et m0) (h:∀ p∈m0,fx p.1 t=true):et (m0 ++ [(t,x)]):=by
 rw [← (BS (x:=x) h).1];exact p9 aE
theorem Vb {x:ab×JV} {deep:Nat} {t:ab} (bI:cC x.1=true) (h:LG x.2 (deep+1) t):U' [x] deep (cM x.1 ++ [58]++t):=fun s k m0 rest bh hm aE=>by
 have k7:s.drop k=cM x.1++58::(t++125::rest):=by rw [bh];simp
 obtain⟨cc,cb⟩:=BS (x:=x.2) (fun p cc=>hm p cc x (by simp));have bb:s.drop (k+(cM x.1).length+1)=t++125::rest:=(ep (n0 k7)).2;obtain⟨f,dn⟩:=h.2 s _ _ bb (fun c aZ=>by simp at aZ;subst aZ;rfl);have aq:s.drop (k+(cM x.1).length+1+t.length)=125::rest:=n0 bb;refine⟨f+1,?_⟩;rw [oQ,EH bI cb k7];simp only;rw [dn];simp only;rw [ic aq rfl,aL (gK.2 (ep aq).1),cc];simp only [List.length_append,List.length_cons,List.length_nil,Option.some.injEq,Except.ok.injEq,Prod.mk.injEq,true_and];omega
theorem Qw {x:ab×JV} {m:List (ab×JV)} {deep:Nat} {t t':ab} (bI:cC x.1=true) (ae:∀ q∈m,fx x.1 q.1=true) (h:LG x.2 (deep+1) t) (fW:U' m deep t'):U' (x::m) deep (cM x.1 ++ [58]++t ++ [44]++t'):=fun s k m0 rest bh hm aE=>by
 have k7:s.drop k=cM x.1++58::(t++44::(t'++125::rest)):=by rw [bh];simp
 have amc:∀ p∈m0,fx p.1 x.1=true:=fun p cc=>hm p cc x (by simp);obtain⟨cc,cb⟩:=BS (x:=x.2) amc;have bb:s.drop (k+(cM x.1).length+1)=t++44::(t'++125::rest):=(ep (n0 k7)).2;obtain⟨f,dn⟩:=h.2 s _ _ bb (fun c aZ=>by simp at aZ;subst aZ;rfl);have aq:s.drop (k+(cM x.1).length+1+t.length)=44::(t'++125::rest):=n0 bb;obtain⟨g,dY⟩:=fW s (k+(cM x.1).length+1+t.length+1) (m0 ++ [(x.1,x.2)]) rest (ep aq).2 (fun p cc q e8=>by
  rcases List.mem_append.1 cc with cc | cc
  ·exact hm p cc q (by simp [e8])
  simp only [List.mem_singleton] at cc;subst cc;exact ae q e8) (Va aE amc)
 refine⟨max f g+1,?_⟩;rw [oQ,EH bI cb k7];simp only;rw [AI dn (Nat.le_max_left f g)];simp only;rw [ic aq rfl,cQ aq (by decide),ak (by simp),aL (gK.2 (ep aq).1),cc,acp dY (Nat.le_max_right f g)];simp only [List.append_assoc,List.singleton_append,List.length_append,List.length_cons,List.length_nil,Option.some.injEq,Except.ok.injEq,Prod.mk.injEq,true_and,List.cons_append,List.nil_append];omega
theorem Vc {deep:Nat} (bT:deep≠32):LG (JV.de []) deep [91,93]:=by
 refine⟨⟨91,_,rfl,by decide,by decide,by decide⟩,fun s k rest h _=>⟨1,?_⟩⟩;have bh:s.drop k=91::(93::rest):=h;have aq:=(ep bh).2;rw [jl];simp only;rw [ic bh rfl,cQ bh (by decide),cQ bh (by decide),cQ bh (by decide),cQ bh (by decide)];simp only [Bool.false_eq_true,if_false];rw [gK.2 (ep bh).1,Bool.true_or,aL rfl,ak bT,aL rfl,ic aq rfl,aL (gK.2 (ep aq).1)];rfl
theorem Vd {deep:Nat} (bT:deep≠32):LG (JV.obj []) deep [123,125]:=by
 refine⟨⟨123,_,rfl,by decide,by decide,by decide⟩,fun s k rest h _=>⟨1,?_⟩⟩;have bh:s.drop k=123::(125::rest):=h;have aq:=(ep bh).2;rw [jl];simp only;rw [ic bh rfl,cQ bh (by decide),cQ bh (by decide),cQ bh (by decide),cQ bh (by decide),cQ (d:=91) bh (by decide)];simp only [Bool.false_eq_true,if_false];rw [gK.2 (ep bh).1,Bool.or_true,aL rfl,ak bT,ic aq rfl,aL (gK.2 (ep aq).1)];rfl
theorem acu {l:List JV} {deep:Nat} {c:UInt8} {r:ab} (bT:deep≠32) (aZ:UW c) (h:UY l deep (c::r)):LG (JV.de l) deep (91::((c::r) ++ [93])):=by
 refine⟨⟨91,_,rfl,by decide,by decide,by decide⟩,fun s k rest bh _=>?_⟩;have k7:s.drop k=91::((c::r)++93::rest):=by rw [bh];simp
 have aq:=(ep k7).2;obtain⟨f,dn⟩:=h s (k+1) [] rest aq;refine⟨f+1,?_⟩;have Gz:s.drop (k+1)=c::(r++93::rest):=aq;rw [jl];simp only;rw [ic k7 rfl,cQ k7 (by decide),cQ k7 (by decide),cQ k7 (by decide),cQ k7 (by decide)];simp only [Bool.false_eq_true,if_false];rw [gK.2 (ep k7).1,Bool.true_or,aL rfl,ak bT,aL rfl,ic Gz aZ.1,cQ Gz aZ.2.1.symm,ak (by simp),dn];simp only [List.nil_append,List.length_append,List.length_cons,List.length_nil,Option.some.injEq,Except.ok.injEq,Prod.mk.injEq,true_and];omega
theorem acv {m:List (ab×JV)} {deep:Nat} {c:UInt8} {r:ab} (bT:deep≠32) (aZ:UW c) (h:U' m deep (c::r)):LG (JV.obj m) deep (123::((c::r) ++ [125])):=by
 refine⟨⟨123,_,rfl,by decide,by decide,by decide⟩,fun s k rest bh _=>?_⟩;have k7:s.drop k=123::((c::r)++125::rest):=by rw [bh];simp
 have aq:=(ep k7).2;obtain⟨f,dn⟩:=h s (k+1) [] rest aq (by simp) List.Pairwise.nil;refine⟨f+1,?_⟩;have Gz:s.drop (k+1)=c::(r++125::rest):=aq;rw [jl];simp only;rw [ic k7 rfl,cQ k7 (by decide),cQ k7 (by decide),cQ k7 (by decide),cQ k7 (by decide),cQ (d:=91) k7 (by decide)];simp only [Bool.false_eq_true,if_false];rw [gK.2 (ep k7).1,Bool.or_true,aL rfl,ak bT,ic Gz aZ.1,cQ Gz aZ.2.2.symm,ak (by simp),dn];simp only [List.nil_append,List.length_append,List.length_cons,List.length_nil,Option.some.injEq,Except.ok.injEq,Prod.mk.injEq,true_and];omega
theorem zB {b s gv:ab} (h:gm b s = .ok gv):cC s=true∧gv=b++cM s:=by
 unfold gm at h
 split at h
 ·cases h
 split at h
 ·rename_i bI
  exact⟨bI,(gF h).1⟩
 cases h
theorem Mo {s:ab} (h:∀ c:ab,(c++cM s).length≤65536→gm c s = .ok (c++cM s)) (cb:(cM s).length≤65536):cC s=true:=(zB (h [] (by simpa using cb))).1
namespace JV
theorem Qx {v:JV} (h:v.list.length=0):v.list = []:=List.eq_nil_of_length_eq_zero h
theorem map_nil {v:JV} (h:v.map.length=0):v.map = []:=List.eq_nil_of_length_eq_zero h
theorem mJ {v:JV} (h:v.bare=true):(v.kind=1∨v.is=false)∧(v.kind=2∨v.num=0)∧(v.kind=3∨v.str = [])∧(v.kind=4∨v.list = [])∧(v.kind=5∨v.map = []):=by
 unfold bare at h;simp only [Bool.and_eq_true,Bool.or_eq_true,decide_eq_true_eq,Bool.not_eq_true',decide_eq_false_iff_not] at h;obtain⟨⟨⟨⟨⟨⟨cg,h1⟩,aq⟩,bb⟩,bP⟩,cZ⟩,fy⟩:=h;exact⟨h1,aq,bb,bP.imp id Qx,cZ.imp id map_nil⟩
theorem mk_eq {v:JV} {k n:Int} {i:Bool} {s:ab} {l:List JV} {m:List (ab×JV)} (h1:v.kind=k) (aq:v.is=i) (bb:v.num=n) (bP:v.str=s) (cZ:v.list=l) (fy:v.map=m):v = .mk k i n s l m:=by
 rw [eta v,h1,aq,bb,bP,cZ,fy]
end JV
theorem pT {b t gv:ab} (h:cK (b++t) = .ok gv):gv=b++t:=(gF h).1
theorem IY {N:Nat} (ea:∀ (v:JV) (deep:Nat) (b gv:ab),v.sz≤N→JV.wr v deep b = .ok gv→∃ t,gv=b++t∧LG v deep t) :
  ∀ (x:JV) (l:List JV) (deep:Nat) (fst:Bool) (b gv:ab),(∀ y∈x::l,y.sz≤N)→JV.ji (x::l) deep fst b = .ok gv→∃ t,gv=b++(if fst then [] else [44])++t∧(∃ c r,t=c::r∧UW c)∧UY (x::l) deep t
 | x,l,deep,fst,b,gv,gy,h=>by
  rw [JV.mu] at h
  obtain⟨dN,h1,h⟩:=dU h
  obtain⟨fz,aq,h⟩:=dU h
  obtain⟨t,rfl,aW⟩:=ea _ _ _ _ (gy x (by simp)) aq
  have bu:dN=b++(if fst then [] else [44]):=by
   cases fst with
   | true=>injection h1 with h1;subst h1;simp
   | false=>exact pT h1
  subst bu
  cases l with
  | nil=>
   rw [JV.ji] at h
   injection h with h
   exact⟨t,h.symm,aW.1,UZ aW⟩
  | cons y l=>
   obtain⟨t',rfl,_,wa⟩:=IY ea y l deep false _ _ (fun z cP=>gy z (by simp [cB cP])) h
   refine⟨t ++ [44]++t',by simp,?_,Qv aW wa⟩
   obtain⟨c,r,rfl,aZ⟩:=aW.1
   exact⟨c,_,rfl,aZ⟩
theorem IZ {N:Nat} (ea:∀ (v:JV) (deep:Nat) (b gv:ab),v.sz≤N→JV.wr v deep b = .ok gv→∃ t,gv=b++t∧LG v deep t) :
  ∀ (x:ab×JV) (m:List (ab×JV)) (deep:Nat) (prev:Option ab) (b gv:ab),gv.length≤65536→(∀ y∈x::m,y.2.sz≤N)→JV.gA (x::m) deep prev b = .ok gv→∃ t,gv=b++JV.comma prev++t∧(∃ c r,t=c::r∧UW c)∧U' (x::m) deep t
 | x,m,deep,prev,b,gv,cb,gy,h=>by
  obtain⟨_,fz,aq,bb,bW,e8⟩:=JV.w7 h
  have bI:cC x.1=true:=Mo bW (by simp only [List.length_append] at e8 ⊢;omega)
  obtain⟨t,rfl,aW⟩:=ea _ _ _ _ (gy x (by simp)) aq
  cases m with
  | nil=>
   rw [JV.gA] at bb
   injection bb with bb
   exact⟨cM x.1 ++ [58]++t,by rw [← bb];simp,⟨34,_,rfl,by decide,by decide,by decide⟩,Vb bI aW⟩
  | cons y m=>
   have ae:=(JV.w8 _ _ _ _ _ bb).2 x.1 rfl
   obtain⟨t',rfl,_,wa⟩:=IZ ea y m deep (some x.1) _ _ cb (fun z cP=>gy z (by simp [cB cP])) bb
   exact⟨cM x.1 ++ [58]++t ++ [44]++t',by simp [JV.comma],⟨34,_,rfl,by decide,by decide,by decide⟩,Qw bI ae aW wa⟩
theorem EI:∀ (N:Nat) (v:JV) (deep:Nat) (b gv:ab),v.sz≤N→JV.wr v deep b = .ok gv→∃ t,gv=b++t∧LG v deep t
 | 0,v,_,_,_,h,_=>absurd (JV.ql v) (by omega)
 | N+1,v,deep,b,gv,gy,h=>by
  have ea:=EI N
  have hlen:gv.length≤65536:=(JV.fit h).elim fun t bW=>bW.2.1
  rw [JV.en] at h
  split at h
  ·cases h
  rename_i aW
  have aW:v.bare=true:=by simpa using aW
  have pg:=@JV.sR v aW
  obtain⟨Gv,HS,OF,LH,I0⟩:=JV.mJ aW
  split at h
  ·rename_i o8
   obtain rfl:v=JV.fg:=JV.mk_eq o8 (Gv.resolve_left (by omega)) (HS.resolve_left (by omega)) (OF.resolve_left (by omega)) (LH.resolve_left (by omega)) (I0.resolve_left (by omega))
   exact⟨_,pT h,acq⟩
  rename_i o8
  split at h
  ·rename_i ef
   cases hi:v.is with
   | true=>
    obtain rfl:v = .mk 1 true 0 [] [] []:=JV.mk_eq ef hi (HS.resolve_left (by omega)) (OF.resolve_left (by omega)) (LH.resolve_left (by omega)) (I0.resolve_left (by omega))
    exact⟨_,pT h,UX⟩
   | false=>
    obtain rfl:v = .mk 1 false 0 [] [] []:=JV.mk_eq ef hi (HS.resolve_left (by omega)) (OF.resolve_left (by omega)) (LH.resolve_left (by omega)) (I0.resolve_left (by omega))
    exact⟨_,pT h,Qu⟩
  rename_i ef
  split at h
  ·rename_i jt
   obtain⟨ack,wG⟩:=yq aW jt
   have bI:v=JV.hr v.num:=JV.mk_eq jt (Gv.resolve_left (by omega)) rfl (OF.resolve_left (by omega)) (LH.resolve_left (by omega)) (I0.resolve_left (by omega))
   rw [bI]
   exact⟨_,pT h,acr ack wG⟩
  rename_i jt
  split at h
  ·rename_i pA
   have bI:v=JV.aN v.str:=JV.mk_eq pA (Gv.resolve_left (by omega)) (HS.resolve_left (by omega)) rfl (LH.resolve_left (by omega)) (I0.resolve_left (by omega))
   obtain⟨h1,aq⟩:=zB h
   rw [bI]
   exact⟨_,aq,acs h1⟩
  rename_i pA
  split at h
  ·cases h
  rename_i bT
  split at h
  ·rename_i vY
   have bI:v=JV.de v.list:=JV.mk_eq vY (Gv.resolve_left (by omega)) (HS.resolve_left (by omega)) (OF.resolve_left (by omega)) rfl (I0.resolve_left (by omega))
   obtain⟨dN,h1,bb⟩:=dU h
   obtain⟨fz,aq,bP⟩:=dU bb
   have bu:=pT h1
   have EJ:=pT bP
   clear bb bP h1 h
   subst bu
   subst EJ
   have jV:∀ y∈v.list,y.sz≤N:=fun y ba=>by have:=JV.il ba;omega
   rw [bI]
   cases cb:v.list with
   | nil=>
    rw [cb,JV.ji] at aq
    injection aq with aq
    subst aq
    exact⟨[91,93],by simp,Vc bT⟩
   | cons x l=>
    rw [cb] at aq jV
    obtain⟨t,rfl,⟨c,r,rfl,aZ⟩,ev⟩:=IY ea x l deep true _ _ jV aq
    exact⟨91::((c::r) ++ [93]),by simp,acu bT aZ ev⟩
  rename_i vY
  have qX:v.kind=5:=by omega
  have bI:v=JV.obj v.map:=JV.mk_eq qX (Gv.resolve_left (by omega)) (HS.resolve_left (by omega)) (OF.resolve_left (by omega)) (LH.resolve_left (by omega)) rfl
  obtain⟨dN,h1,bb⟩:=dU h
  obtain⟨fz,aq,bP⟩:=dU bb
  have bu:=pT h1
  have EJ:=pT bP
  clear bb bP h1 h
  subst bu
  subst EJ
  have jV:∀ y∈v.map,y.2.sz≤N:=fun y ba=>by have:=JV.hU ba;omega
  rw [bI]
  cases cb:v.map with
  | nil=>
   rw [cb,JV.gA] at aq
   injection aq with aq
   subst aq
   exact⟨[123,125],by simp,Vd bT⟩
  | cons x m=>
   rw [cb] at aq jV
   obtain⟨t,rfl,⟨c,r,rfl,aZ⟩,ev⟩:=IZ ea x m deep none _ _ (by simp only [List.length_append] at hlen ⊢;omega) jV aq
   exact⟨123::((c::r) ++ [125]),by simp [JV.comma],acv bT aZ ev⟩
theorem acw {s:ab} {f:Nat} {r:tA} (h:jl f s 0 0=some r):vZ s=r:=UU (w4 s) h
theorem EK {v:JV} {t:ab} (h:v.wr 0 [] = .ok t):parse t = .ok v:=by
 obtain⟨t',e,ev⟩:=EI v.sz v 0 [] t (Nat.le_refl _) h;rw [List.nil_append] at e;subst e;have hlen:t.length≤65536:=(JV.fit h).elim fun t bW=>bW.2.1;obtain⟨f,dn⟩:=ev.2 t 0 [] (by simp) (fun c aZ=>by simp at aZ);unfold parse;rw [ak (by omega),acw dn];simp only;rw [gk (by omega),ak (by omega)]
end Go.Proofs.YtkjgljnkocnnpaaGreatDoor.V
set_option maxRecDepth 10000
namespace Go.Proofs.YtkjgljnkocnnpaaGreatDoor.V
open Go Go.Proofs
end Go.Proofs.YtkjgljnkocnnpaaGreatDoor.V
set_option maxRecDepth 100000
namespace Go.Proofs.YtkjgljnkocnnpaaGreatDoor.V
open Go Go.Proofs Go.Lib
theorem IL:Go.Pinned.utf8First=Lib.firstData:=by kernel_rfl
theorem Qk:(Go.Proofs.YtkjgljnkocnnpaaGreatDoor.Rows.laid_unicode_utf8_acceptRanges:DataW Unit)=Lib.acceptData:=by kernel_rfl
theorem alZ {W:World} (bb:VarReads aR W "unicode/utf8.first" Lib.firstData) (bP:VarReads aR W "unicode/utf8.acceptRanges" Lib.acceptData):Ad W:=
 utf8Tabs_of_reads (P:=aR) (ρ:=Tryz.wX) {Tryz.IE with} ⟨by kernel_rfl,by kernel_rfl,by kernel_rfl,by kernel_rfl,by kernel_rfl,by kernel_rfl,by kernel_rfl⟩ bb bP
theorem IM {P:Program} {wG:String} {d1:DataW Unit} {rest:List (String×DataW Unit)} {W:World} (h:laidMet P ((wG,d1)::rest) W):laidMet P rest W:=by
 obtain⟨gC,⟨g,t,cs,fuel,p,q,_,_,_,_,e8,rfl⟩,cu,aZ⟩:=h;exact⟨q,e8,(List.nodup_append.1 cu).2.1,fun b off aW=>aZ b off (List.mem_append_right _ aW)⟩
theorem UG {W:World} {n azq:String} {d:DataW Unit} {g t:Nat} {ms:Array (String×TypeId)} (h:VarReads aR W n (.iface azq d)) (dY:aR.globalNamed n=some g) (ba:(aR.globals[g]?).map (·.type)=some t) (bW:aR.underlying t=some (.interface ms)):∃ u v,W.cell? ⟨g,0,none⟩=some (.iface u v):=by
 obtain⟨HR,t',cs,fuel,p,h1,aq,bb,bP⟩:=h;rw [dY] at h1;injection h1 with h1
 subst h1;rw [ba] at aq;injection aq with aq
 subst aq;have mr:∃ u v,cs.toList = [.iface u v]:=by
  cases fuel with
  | zero=>simp [DataW.trod] at bP
  | succ fuel=>
   unfold DataW.trod at bP;simp only [bW] at bP
   split at bP <;> first | (exact⟨_,_,by assumption⟩) | (simp at bP;done) | (rename_i bu ee;exact⟨_,_,ee⟩) | simp_all
 obtain⟨u,v,mr⟩:=mr;refine⟨u,v,?_⟩;unfold World.var? at bb;rw [dY] at bb;simp only [Option.bind_some] at bb;unfold World.cell?
 split at bb
 ·rename_i c t f kf
  injection bb with bb
  subst bb;rw [kf];have:c = #[.iface u v]:=by rw [← Array.toList_inj];exact mr
  subst this;rfl
 cases bb
theorem agr {W:World} (h:laidMet aR Go.Proofs.YtkjgljnkocnnpaaGreatDoor.Rows.eventReadsRow.laid W):Env W:=by
 have j1:Ad W:=alZ (IL▸laidMet.reads h (.tail _ (.tail _ (.tail _ (.tail _ (.tail _ (.tail _ (.head _)))))))) (Qk▸laidMet.reads h (.tail _ (.tail _ (.tail _ (.head _)))));have dR:=UG (g:=3) (laidMet.reads h (.tail _ (.tail _ (.tail _ (.tail _ (.head _)))))) (by kernel_rfl) (by kernel_rfl) sN;have lX:=UG (g:=2) (laidMet.reads h (.tail _ (.tail _ (.tail _ (.tail _ (.tail _ (.head _))))))) (by kernel_rfl) (by kernel_rfl) sN;obtain⟨hN,v1,h1⟩:=dR;obtain⟨kR,v2,aq⟩:=lX;refine⟨?_,j1,⟨⟨_,aq,.inr ⟨_,_,rfl⟩⟩,⟨_,h1,.inr ⟨_,_,rfl⟩⟩⟩,?_⟩
 ·exact Lib.tabIs_of_head (rest:=_) Uj (by kernel_rfl) Tryz.underlying202 sd (by kernel_rfl) (by kernel_rfl) (IM (IM h))
 have cg:=(j1.2 0 (by decide)).1;rcases Nat.lt_or_ge 5 W.heap.size with cb | cb
 ·exact cb
 unfold World.cell? at cg;rw [Array.getElem?_eq_none cb] at cg;cases cg
end Go.Proofs.YtkjgljnkocnnpaaGreatDoor.V
set_option maxRecDepth 10000
namespace Go.Proofs.YtkjgljnkocnnpaaGreatDoor.V
open Go Go.Proofs
section
variable {H:Type} {enc:TypeId×Value→H} {w:World}
theorem ace (n:Nat):me enc aR w n 25 JV.D JV.ok:=by
 induction n using Nat.strongRecOn with
 | ind n ea=>
  cases n with
  | zero=>exact me.zero
  | succ n=>
   have cb:me enc aR w n 22 (fun xs:List JV=>[.jH 6 (xs.map JV.D)]) (fun xs=>(∀ x∈xs,x.ok)∧xs.length*88≤140737488351232):=by
    cases n with
    | zero=>exact me.zero
    | succ n=>exact CE hJ (by kernel_rfl) (by kernel_rfl) (by decide) (ea n (by omega))
   have hm:me enc aR w n 23 (fun xs:List (List UInt8×JV)=>[.jH 7 (xs.map JV.jq)]) (fun xs=>(∀ x∈xs,x.1.length≤140737488351232∧x.2.ok)∧xs.length*104≤140737488351232):=by
    cases n with
    | zero=>exact me.zero
    | succ n=>
     refine CE cO (by kernel_rfl) (by kernel_rfl) (by decide) ?_;cases n with
     | zero=>exact me.zero
     | succ n=>
      exact me.to (zS (tot:=7) Tryz.underlying38 (by kernel_rfl) (mR (k:=1) rfl (by kernel_rfl) (BJ aA) (mR (k:=6) rfl (by kernel_rfl) (ea n (by omega)) Kd))) (fun p=>(p.1,p.2.1)) (fun p=>by simp [JV.jq]) (fun p h=>⟨h.1,h.2.1⟩)
   refine me.to (zS (tot:=6) Tryz.underlying25 (by kernel_rfl) (mR (k:=1) rfl (by kernel_rfl) (Kc gj) (mR (k:=1) rfl (by kernel_rfl) (RW LN) (mR (k:=1) rfl (by kernel_rfl) (Kc gj) (mR (k:=1) rfl (by kernel_rfl) (BJ aA) (mR (k:=1) rfl (by kernel_rfl) cb (mR (k:=1) rfl (by kernel_rfl) hm Kd))))))) (fun p=>JV.mk p.1 p.2.1 p.2.2.1 p.2.2.2.1 p.2.2.2.2.1 p.2.2.2.2.2.1) (fun p=>by rw [JV.JI];rfl) (fun p h=>?_);obtain⟨h1,aq,bb,bP,cZ,fy,_⟩:=h;rw [JV.ok_eq];refine⟨bP,?_,?_,cZ.1,fy.1⟩
   ·have:=cZ.2;show p.2.2.2.2.1.length≤_;omega
   have:=fy.2;show p.2.2.2.2.2.1.length≤_;omega
end
end Go.Proofs.YtkjgljnkocnnpaaGreatDoor.V
namespace Go.Proofs.YtkjgljnkocnnpaaGreatDoor.V
open Go
theorem EU {l:List (ab×JV)}:(JV.obj l).bare=true:=by
 simp [JV.bare,JV.obj,JV.kind,JV.is,JV.num,JV.str,JV.list,JV.map]
theorem Vv {s:ab} {k:Nat} {m:List (ab×JV)} {e:Int} (h:h5 s k m = .error e):e≠0:=by
 unfold h5 at h
 split at h
 ·injection h with h;omega
 split at h
 ·injection h with h;omega
 split at h
 ·cases h
 injection h with h;omega
theorem Vw {s:ab} {k:Nat} {e:Int} (h:jW s k = .error e):e≠0:=by
 unfold jW at h;cases cu:iU ((s.drop k).take (ai cU s k-k))with
 | ok n=>rw [cu] at h;cases h
 | error yu=>
  rw [cu] at h;injection h with h
  subst h;unfold iU at cu
  split at cu
  ·injection cu with cu;omega
  split at cu
  ·injection cu with cu;omega
  cases cu
theorem Vx (s:ab):∀ f:Nat,(∀ k deep e,jl f s k deep=some (.error e)→e≠0)∧(∀ k deep acc e,oP f s k deep acc=some (.error e)→e≠0)∧(∀ k deep m e,oQ f s k deep m=some (.error e)→e≠0)
 | 0=>⟨fun _ _ _ h=>by simp [jl] at h,fun _ _ _ _ h=>by simp [oP] at h,fun _ _ _ _ h=>by simp [oQ] at h⟩
 | f+1=>by
  obtain⟨tu,w2,w3⟩:=Vx s f
  refine⟨fun o8 deep e h=>?_,fun k deep acc e h=>?_,fun k deep m e h=>?_⟩
  ·rw [jl] at h
   generalize ai aT s o8=k at h
   dsimp only at h
   split at h;· cases h
   split at h;· cases h
   split at h;· cases h
   split at h
   ·split at h
    ·injection h with h;injection h with h;omega
    cases h
   split at h
   ·split at h
    ·injection h with h;injection h with h;omega
    split at h
    ·split at h
     ·cases h
     exact w2 _ _ _ _ h
    split at h
    ·cases h
    exact w3 _ _ _ _ h
   injection h with h
   exact Vw h
  ·rw [oP] at h
   split at h
   ·cases h
   ·rename_i h1
    injection h with h;injection h with h;subst h
    exact tu _ _ _ h1
   dsimp only at h
   split at h
   ·cases h
   split at h
   ·exact w2 _ _ _ _ h
   injection h with h;injection h with h;omega
  rw [oQ] at h
  split at h
  ·rename_i h1
   injection h with h;injection h with h;subst h
   exact Vv h1
  split at h
  ·cases h
  ·rename_i h1
   injection h with h;injection h with h;subst h
   exact tu _ _ _ h1
  dsimp only at h
  split at h
  ·cases h
  split at h
  ·exact w3 _ _ _ _ h
  injection h with h;injection h with h;omega
end Go.Proofs.YtkjgljnkocnnpaaGreatDoor.V
set_option maxRecDepth 10000
namespace Go.Proofs.YtkjgljnkocnnpaaGreatDoor.V
open Go Go.Proofs
theorem r2 (v:JV):JV.pG v v=true:=JV.wJ.2 rfl
end Go.Proofs.YtkjgljnkocnnpaaGreatDoor.V
namespace Go.Proofs.YtkjgljnkocnnpaaGreatDoor.V
open Go
def c6 (m:List (ab×JV)) (k:ab):List (ab×JV):=m.filter fun q=>decide (q.1≠k)
theorem N8:∀ {m:List (ab×JV)} {p:Nat} {y:ab×JV},et m→m[p]? = some y→c6 m y.1=m.take p++m.drop (p+1)
 | [],_,_,_,h=>by simp at h
 | a::r,0,y,aE,h=>by
  injection h with h
  subst h
  have bo:=(List.pairwise_cons.1 aE).1
  unfold c6
  rw [List.filter_cons,ak (by simp)]
  simp only [List.take_zero,List.nil_append,List.drop_succ_cons,List.drop_zero]
  exact List.filter_eq_self.2 fun b aW=>decide_eq_true fun e=>by
   have:=bo b aW
   rw [e,dJ] at this
   cases this
 | a::r,p+1,y,aE,h=>by
  have fW:r[p]? = some y:=by simpa using h
  have ea:=N8 (List.pairwise_cons.1 aE).2 fW
  have cH:a.1≠y.1:=fun e=>by
   have:=(List.pairwise_cons.1 aE).1 y (List.mem_of_getElem? fW)
   rw [e,dJ] at this
   cases this
  unfold c6 at ea ⊢
  rw [List.filter_cons,aL (decide_eq_true cH),ea]
  simp
theorem PU {m:List (ab×JV)} {k:ab} (h:look m k=none):c6 m k=m:=
 List.filter_eq_self.2 fun q e8=>decide_eq_true (s6 h q e8)
theorem JV.PT {A:List Nat} {w:World} {m:List (ab×JV)} {vs:List Value} {i:Nat} (h:ao A w (m.map JV.jq).flatten vs) (hi:i<m.length) :
  ao A w ((m.take i++m.drop (i+1)).map JV.jq).flatten (vs.take (i*7)++vs.drop ((i+1)*7)):=by
 obtain⟨h1,_⟩:=ao.uo (i:=i) (JV.s7 m) (by simpa using Nat.le_of_lt hi) h
 obtain⟨_,aq⟩:=ao.uo (i:=i+1) (JV.s7 m) (by rw [List.length_map];omega) h
 rw [List.map_append,List.flatten_append,List.map_take,List.map_drop]
 exact h1.append aq
end Go.Proofs.YtkjgljnkocnnpaaGreatDoor.V
