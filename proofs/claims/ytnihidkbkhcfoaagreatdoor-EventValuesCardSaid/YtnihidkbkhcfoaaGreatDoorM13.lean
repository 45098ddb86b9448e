/-
  A part of the proof: the reader's value, walked; json.Parse, walked; two texts read: the law's own example, a number with a point; the canonical text of the law's own example; a text between quotes, read; a value's canonical text, read, is the value; a value with a canonical text is read from it as it is; what the row lays, as the reading asks for it; no writing fails with the number 0; what is read has a canonical text, unless it is too long; a map without one of its keys; an event out of a JSON value, taken member by member, in plain Lean; bytes as letters, six bits by six; six bits out of a number, a byte put behind a number, in the words of the machine's kinds; an append in the place of an own slice's rest; a slice with three bounds; an event's value without some of its members. No condition of its own.
-/
import Derived.Test.YtnihidkbkhcfoaaGreatDoorM12
import Derived.Test.YtnihidkbkhcfoaaGreatDoorM7
import Derived.Test.YtnihidkbkhcfoaaGreatDoorM8
import Derived.Test.YtnihidkbkhcfoaaGreatDoorM3
import Derived.Test.YtnihidkbkhcfoaaGreatDoorM6
import Derived.Test.YtnihidkbkhcfoaaGreatDoorM10
import Derived.Test.YtnihidkbkhcfoaaGreatDoorM4
import Derived.Test.YtnihidkbkhcfoaaGreatDoorRows
import Derived.Lib.LaidTab
import Derived.Lib.LaidU8
import Derived.Test.YtnihidkbkhcfoaaGreatDoorM1
import Derived.Test.YtnihidkbkhcfoaaGreatDoorM5
import Derived.Test.YtnihidkbkhcfoaaGreatDoorProg
import Derived.Test.YtnihidkbkhcfoaaGreatDoorM9
import Derived.Test.YtnihidkbkhcfoaaGreatDoorM2
set_option linter.unusedVariables false
set_option linter.unusedSimpArgs false
set_option maxRecDepth 10000
namespace Go.Proofs.YtnihidkbkhcfoaaGreatDoor.V
open Go Go.Proofs
theorem six {us:List Value} (h:us.length=6):∃ a b c d e f,us = [a,b,c,d,e,f]:=by
 match us,h with
 | [a,b,c,d,e,f],_=>exact⟨a,b,c,d,e,f,rfl⟩
theorem acy:(Tryz.prog.info? 129).bind (·.zero)=some (.pointer none):=by kernel_rfl
theorem Xd:aP Tryz.prog 106:=aP.of Tryz.func106 (by kernel_rfl) (by kernel_rfl)
theorem K8:aP Tryz.prog 107:=aP.of Tryz.func107 (by kernel_rfl) (by kernel_rfl)
abbrev QT:=Option JV×List Value×Nat×List lU×Value×List Value×List Nat
abbrev agW:=Nat×List lU×Value×List Value×List Nat×List Nat
structure aqw (rC w0 w:World) (g g2:Nat) (s:aa) (r:A6) (k:Nat) (st:List lU) (sk:Value) (cs:List Value) (fp Z:List Nat):Prop where
 run:hV s none k st r
 h9:nn (nv Z) w0 w g s k st sk cs fp
 z2:g2∈Z
 eI:aE w g2 25 rf
 acz:k≤s.length
 cl:cs.length≤32
 sz:∀ fm∈st,fm.sz≤k
 md:Mod [g] rC w
 MV:∀ z,z<rC.heap.size→z≠g→z∈Z
structure VI (rC w0 w:World) (g g2 g3:Nat) (s:aa) (r:A6) (Z:List Nat) (rb:Nat) (MW:Option JV) (us:List Value) (k:Nat) (st:List lU) (sk:Value) (cs:List Value) (fp:List Nat):Prop where
 run:hV s MW k st r
 h9:nn (nv Z) w0 w g s k st sk cs fp
 z2:g2∈Z
 z3:g3∈Z
 n23:g2≠g3
 eI:aE w g2 25 rf
 lq:aE w g3 25 us
 ul:us.length=6
 arT:∀ u∈us,u.oneCell'=true
 arU:∀ v,MW=some v→ao (g::(aY sk++fp)) w v.D us
 acz:k≤s.length
 rb:rb<k
 cl:cs.length≤32
 sz:∀ fm∈st,fm.sz+MW.isSome.toNat≤k
 md:Mod [g] rC w
def MX (w:World):World:={w with heap:=#[]}
theorem IN {rC w w':World} {Z M:List Nat} {g k:Nat} {s:aa} {st:List lU} {sk:Value} {cs:List Value} {fp:List Nat} (MV:∀ z,z<rC.heap.size→z≠g→z∈Z) (md:Mod [g] rC w) (E:Mod M w w') (eW:∀ x∈M,x≠g→x∉Z):Mod [g] rC w':=
 ⟨E.os.trans md.os,E.tape.trans md.tape,E.output.trans md.output,Nat.le_trans md.size E.size,fun i hi ae=>(E.block i (Nat.lt_of_lt_of_le hi md.size) (fun h=>eW i h (by simpa using ae) (MV i hi (by simpa using ae)))).trans (md.block i hi ae)⟩
theorem zv {rC w w':World} {Z:List Nat} {g k:Nat} {s:aa} {st:List lU} {sk:Value} {cs:List Value} {fp:List Nat} (MV:∀ z,z<rC.heap.size→z≠g→z∈Z) (md:Mod [g] rC w) (q:nn (nv Z) (MX rC) w' g s k st sk cs fp) (Bb:zu Z w w') (bb:w.heap.size≤w'.heap.size):Mod [g] rC w':=
 ⟨q.mod.os,q.mod.tape,q.mod.output,Nat.le_trans md.size bb,fun i hi ae=>(Bb i (MV i hi (by simpa using ae))).trans (md.block i hi ae)⟩
theorem acA {rC w:World} {Z:List Nat} {g k:Nat} {s:aa} {st:List lU} {sk:Value} {cs:List Value} {fp:List Nat} (MV:∀ z,z<rC.heap.size→z≠g→z∈Z) (e1:Env rC) (q:nn (nv Z) (MX rC) w g s k st sk cs fp):∀ x∈aY sk,MK<x:=fun x ae=>by
 rcases Nat.lt_or_ge x rC.heap.size with h | h
 ·by_cases dv:x=g
  ·subst dv;exact absurd (List.mem_append_left _ ae) q.s0
  exact absurd ae (q.xK x (MV x h dv)).2.2
 exact Nat.lt_of_lt_of_le e1.sz h
theorem MY {rC:World} {g:Nat} {s:aa} {r:A6} (aoS:aE rC g 75 [S s,.int .i64 ((0:Nat):Int),.slice none 0 0]) (bb:s.length≤65536) (e1:Env rC) (dv:MK<g) (bl:hV s none 0 [] r) :
  Calls Tryz.prog 60 [.pointer (some ⟨g,0,none⟩)].toArray rC (My 124 [g] rC r (fun x u w'=>∃ us gI,u = .agg us.toArray∧ao (g::List.range rC.heap.size) w' x.1.D us∧aE w' g 75 [S s,.int .i64 (x.2:Int),gI]∧x.2≤s.length)):=by
 refine enter Tryz.func60 rfl rfl rfl (l:=[(0,_)]) ⟨rfl,trivial⟩ (ab fun aln=>bp cA rfl fun g2 aB bT=>?_)
 have uR:rC.heap.size≤g2:=bT.le (Mod.refl [g] rC)
 have nm:=bT.ne aoS
 have B:=aoS.I bT.mod
 obtain⟨Xe,acB⟩:∃ Xe,Xe=g2::(List.range rC.heap.size).filter (·≠g):=⟨_,rfl⟩
 have alo:nn (nv Xe) (MX rC) aB g s 0 [] (.slice none 0 0) [] Xe:=nn.init (T:=nv Xe) B ⟨bT.mod.os,bT.mod.tape,bT.mod.output,Nat.zero_le _,fun i hi=>absurd hi (Nat.not_lt_zero _)⟩ (fun x ae=>by
  have ae:x∈Xe:=ae
  rw [acB] at ae
  rcases List.mem_cons.1 ae with rfl | ae
  ·exact⟨Nat.zero_le _,bT.aA.lt,Ne.symm nm⟩
  simp only [List.mem_filter,List.mem_range,decide_eq_true_eq] at ae
  exact⟨Nat.zero_le _,Nat.lt_of_lt_of_le ae.1 bT.mod.size,ae.2⟩)
 have agX:∀ z,z<rC.heap.size→z≠g→z∈Xe:=fun z h1 aq=>by
  rw [acB]
  exact List.mem_cons_of_mem _ (by simp only [List.mem_filter,List.mem_range,decide_eq_true_eq];exact⟨h1,aq⟩)
 refine J aln (eE (bX (σ:=agW) (fun _=>[(0,.pointer (some ⟨g,0,none⟩)),(2,.pointer (some ⟨g2,0,none⟩))]) (fun x aB=>aqw rC (MX rC) aB g g2 s r x.1 x.2.1 x.2.2.1 x.2.2.2.1 x.2.2.2.2.1 x.2.2.2.2.2) (fun x=>s.length-x.1) (0,[],.slice none 0 0,[],Xe,Xe) ⟨rfl,rfl,trivial⟩ ⟨bl,alo,by dsimp only;rw [acB];simp,bT.aA,by simp,by simp,by simp,bT.mod.mono (by simp),agX⟩ ?_))
 rintro⟨k,st,sk,cs,fp,Z⟩ cO ox
 obtain⟨lH,H,z2,dy,mR,lA,ij,md,MV⟩:=ox
 dsimp only at lH H z2 mR lA ij MV
 refine eE (ab fun aV=>aG rfl ?_)
 have hlen:=H.len
 refine fP (bE Xd rfl) (QQ H bb mR lA (e1.oK dv md) dv (acA MV e1 H)) rfl (fun cH az=>az) (fun lV gb az=>?_) fun cK gb az=>?_
 ·obtain⟨e,he,b3,rfl,R⟩:=az
  exact aR (by simp) (bz (by simp) (aR (by simp) (bz (by simp) (ea ⟨e,QU lH he,b3,rfl,IN (k:=k) (s:=s) (st:=st) (sk:=sk) (cs:=cs) (fp:=fp) MV md R (fun x ae MZ di=>(List.mem_cons.1 ae).elim MZ (fun h=>(H.xK x di).2.2 h))⟩))))
 obtain⟨x,ae,e2,R⟩:=az
 obtain⟨MW,us,dX,st1,Bc,eM,fg,rfl,QV,sE,Bb,zw,IP,QW,aai,aaj,aak,Kc⟩:∃ MW us dX st1 Bc eM fg,cK = .tuple #[.agg us.toArray,.bool (Option.isSome MW)]∧hV s MW dX st1 r∧nn (nv Z) (MX rC) gb g s dX st1 Bc eM fg∧zu Z cO gb∧us.length=6∧(∀ u∈us,u.oneCell'=true)∧(∀ v,MW=some v→ao (g::(aY Bc++fg)) gb v.D us)∧dX≤s.length∧k<dX∧eM.length≤32∧(∀ fm∈st1,fm.sz+MW.isSome.toNat≤dX):=by
  rcases x with⟨v,dX⟩ | ⟨fm,dX⟩
  ·obtain⟨us,Bc,eM,fg,h1,aq,aT,bL,cN⟩:=e2
   have aQ:=QX ae mR
   have eU:=JV.cells_one bL
   exact⟨some v,us,dX,st,Bc,eM,fg,h1,IQ lH ae,aq,cN,eU.1,eU.2,fun v' bK=>by cases bK;exact bL,aQ.2,aQ.1,by rw [aq.len];omega,fun fm dK=>by have:=ij fm dK;simp;omega⟩
  obtain⟨us,Bc,eM,fg,h1,aq,aT,bL,cN⟩:=e2
  have aQ:=QY ae mR
  subst aq
  exact⟨none,_,dX,fm::st,Bc,eM,fg,h1,M0 lH ae,aT,cN,rfl,by simp [Value.oneCell'],fun v' bK=>(by cases bK),aQ.2.1,aQ.1,by rw [aT.len,List.length_cons];omega,fun f dK=>by
   rcases List.mem_cons.1 dK with rfl | dK
   ·rw [aQ.2.2.2];simp
   have:=ij f dK;simp;omega⟩
 replace dy:aE gb g2 25 rf:=(Bb g2 z2).trans dy
 replace md:=zv MV md sE Bb R.size
 obtain⟨gj,jw,M1,IS,A0,AK,rfl⟩:=six zw
 refine aG rfl (ag (eD rfl rfl) (ag (eD rfl rfl) (bp cA rfl fun g3 iu N4=>?_)))
 have IF:=N4.at_
 have agY:=md
 have n23:=N4.ne dy
 obtain⟨xH,re,agZ⟩:=sE.ag0 N4.mod (Nat.le_of_eq IF.symm) N4.aA.lt
 refine bm (vs:=[_,_,_,_,_,_]) aJ N4.aA rfl rfl rfl IP (by simp) fun js hs=>?_
 have ek:=hs.eq (cs':=[gj,jw,M1,IS,A0,AK]) rfl
 replace dy:=(dy.I N4.mod).mod hs.mod (by simpa using n23)
 have xi:=re.KH (List.mem_cons_self ..) hs.mod
 replace md:=(md.then N4.mod).own hs.mod (by have:=md.size;omega)
 have aal:∀ v,MW=some v→ao (g::(aY Bc++xH)) js v.D [gj,jw,M1,IS,A0,AK]:=fun v bK=>by
  have h1:ao (g::(aY Bc++xH)) iu v.D [gj,jw,M1,IS,A0,AK]:=ao.to N4.mod (by simp) (fun x ae=>by
   simp only [List.mem_cons,List.mem_append] at ae ⊢
   rcases ae with ae | ae | ae
   ·exact .inl (.inl ae)
   ·exact .inl (.inr (.inl ae))
   rcases agZ x ae with h | h
   ·exact .inl (.inr (.inr h))
   exact .inr (by omega)) _ _ (QW v bK)
  exact h1.toM hs.mod (fun x ae=>by
   rw [List.mem_singleton.1 ae]
   have:=re.sZ.z g3 (List.mem_cons_self ..)
   simp [this])
 refine aU rfl (J aV (eE ?_))
 clear QW zw e2 ae
 refine bX (σ:=QT) (fun x=>[(0,.pointer (some ⟨g,0,none⟩)),(2,.pointer (some ⟨g2,0,none⟩)),(3,.pointer (some ⟨g3,0,none⟩)),(4,.bool x.1.isSome)]) (fun x aB=>VI rC (MX rC) aB g g2 g3 s r (g3::Z) k x.1 x.2.1 x.2.2.1 x.2.2.2.1 x.2.2.2.2.1 x.2.2.2.2.2.1 x.2.2.2.2.2.2) (fun x=>s.length-x.2.2.1) (MW,[gj,jw,M1,IS,A0,AK],dX,st1,Bc,eM,xH) ⟨rfl,rfl,rfl,rfl,trivial⟩ ⟨QV,xi,List.mem_cons_of_mem _ z2,List.mem_cons_self ..,n23,dy,ek,rfl,IP,aal,aai,aaj,aak,Kc,md⟩ ?_
 have F3:∀ z,z<rC.heap.size→z≠g→z∈g3::Z:=fun z h1 aq=>List.mem_cons_of_mem _ (MV z h1 aq)
 have ag1:rC.heap.size≤g3:=by have:=N4.le agY;exact this
 clear md agY MV
 clear lH H dy mR lA ij sE re xi ek aal aai aaj aak Kc QV agZ hlen Bb
 rintro⟨MW,us,lv,st,sk,cs,fp⟩ jD pa
 obtain⟨lH,H,z2,z3,n23,dy,ek,zw,IP,QW,mR,aS,lA,ij,md⟩:=pa
 dsimp only at lH H ek zw IP QW mR aS lA ij
 have hlen:=H.len
 cases MW with
 | none=>
  exact nj fun K2 aL=>nj fun K3 aX=>bP (aG rfl (J aX (a1 rfl (fun ts=>absurd ts (by simp)) (fun ts=>bo (aR (by simp) (aR (by simp) (bU (bz (by simp) (fK (σ:=agW) (s:=(k,_)) (lv,st,sk,cs,fp,g3::Z) ⟨rfl,rfl,trivial⟩ ⟨lH,H,z2,dy,mR,lA,fun fm dK=>by have:=ij fm dK;simpa using this,md,F3⟩ (by dsimp only;omega))))))))))
 | some v=>
  have arZ:=QW v rfl
  refine nj fun K2 aL=>nj fun K3 aX=>bP (aG rfl (J aX ?_))
  refine a1 rfl (fun ts=>?_) (fun ts=>absurd ts (by simp))
  refine b8 (au aL (eE (ax fun bt=>ax fun bN=>?_)))
  have B:aE jD g 75 _:=H.rd
  obtain⟨ad,c0,bk,fA,gB⟩:=H.own.form
  subst bk
  refine bP (ak 2 rfl (ag (av fD rfl) (ag (bg kj rfl (B.cell rfl)) (ag (bs Tryz.underlying73 rfl) (ag (lS rfl rfl) (J bN ?_))))))
  have di:=H.xK
  obtain⟨gj,jw,M1,IS,A0,AK,rfl⟩:=six zw
  cases st with
  | nil=>
   refine aK rfl (fun nK=>?_) (fun nK=>absurd (show((cs.length:Nat):Int)=0 by rw [hlen];rfl) nK)
   refine ab fun b2=>ag (bc (vs:=[_,_,_,_,_,_]) aJ rfl rfl (ek.cs rfl)) (bm (vs:=[_,_,_,_,_,_]) aJ dy rfl rfl rfl IP (by simp) fun iv o8=>?_)
   have nw:=o8.eq (cs':=[_,_,_,_,_,_]) rfl
   have q:=H.KH z2 o8.mod
   refine J b2 (ba (aR (by simp) (bz (by simp) (aR (by simp) (bz (by simp) (bz (by simp) (aR (by simp) (bz (by simp) ?_))))))))
   have A8:=H.sZ.z g2 z2
   exact IG (vs:=[_,_,_,_,_,_]) rfl aJ rfl rfl (nw.cs rfl) ⟨(v,lv),M3 lH,⟨_,_,rfl,(arZ.toM o8.mod (fun x ae=>by rw [List.mem_singleton.1 ae];simp [A8])).e6 (fun x ae=>by
    rcases List.mem_cons.1 ae with rfl | ae
    ·simp
    by_cases MZ:x=g
    ·simp [MZ]
    have:=H.sZ.z x (F3 x (List.mem_range.1 ae) MZ)
    simp [this]),q.rd,mR⟩,md.own o8.mod uR⟩
  | cons fm st=>
   refine aK rfl (fun nK=>absurd nK (by rw [hlen,List.length_cons];omega)) (fun nK=>b8 (au bt (ab fun cd=>aG rfl (ag (bc (vs:=[_,_,_,_,_,_]) aJ rfl rfl (ek.cs rfl)) ?_))))
   have F4:=ij fm (List.mem_cons_self ..)
   have K9:∀ f∈st,f.sz+1≤lv:=fun f dK=>by have:=ij f (List.mem_cons_of_mem _ dK);simpa using this
   have nT:ai aW s lv≤s.length:=cw mR
   have aqx:=b' aW s lv
   cases fm with
   | A acc t=>exact absurd (acC lH) id
   | L acc=>
    have acD:acc.length≤1000000:=by simp [lU.sz] at F4;omega
    refine fv (bE K8 rfl) (W7 H arZ lA acD) rfl fun cK iv az=>?_
    obtain⟨rfl,h6,sE,S1,Bb⟩:=az
    replace md:=zv F3 md sE Bb S1.mod.size
    replace dy:aE iv g2 25 rf:=(Bb g2 z2).trans dy
    replace ek:aE iv g3 25 _:=(Bb g3 z3).trans ek
    have CU:=sE.xK
    refine aU rfl (J cd (nj fun acj cD=>nj fun wx cJ=>bP (aG rfl (aG rfl (fv (bE oM rfl) (tP _ g s lv _ sE.rd bb mR 93) rfl fun cK oj az=>?_)))))
    obtain⟨rfl,B,R⟩:=az
    have re:=sE.rW B R
    replace md:=md.trans R
    replace dy:=dy.mod R (by simpa using (CU g2 z2).2.1)
    replace ek:=ek.mod R (by simpa using (CU g3 z3).2.1)
    have tq:=re.xK
    refine J cJ ?_
    refine a1 rfl (fun jC=>?_) (fun jC=>?_)
    ·have jC:aC s (ai aW s lv) [93]=true:=jC
     have wi:=cY jC (by simp)
     have qf:ai aW s lv+1≤s.length:=by simpa using wi
     rw [if_pos jC] at re
     refine nj fun alp cf=>bP (aG rfl (fv (bE x6 rfl) (WY re (by omega)) rfl fun cK l1 az=>?_))
     obtain⟨gd,gI,cs',xH,rfl,xi,S3,ag2,Bb⟩:=az
     replace md:=zv F3 md xi Bb S3.mod.size
     replace dy:aE l1 g2 25 rf:=(Bb g2 z2).trans dy
     replace ek:aE l1 g3 25 _:=(Bb g3 z3).trans ek
     obtain⟨QZ,F5⟩:=JV.cells_one ag2
     obtain⟨ag3,ag4,y3,y4,ag5,y6,rfl⟩:=six QZ
     refine bm (vs:=[_,_,_,_,_,_]) aJ ek rfl rfl rfl F5 (by simp) fun iw jG=>?_
     replace ek:=jG.eq (cs':=[ag3,ag4,y3,y4,ag5,y6]) rfl
     replace dy:=dy.mod jG.mod (by simpa using n23)
     have UJ:=xi.KH z3 jG.mod
     replace md:=md.own jG.mod ag1
     have A8:=xi.sZ.z g3 z3
     refine J cf (bo (aR (by simp) (bU ?_)))
     have acE:=xi.len
     rw [List.length_cons] at hlen
     exact fK (σ:=QT) (s:=(some v,_,lv,_)) (some (JV.cT (acc ++ [v])),[ag3,ag4,y3,y4,ag5,y6],ai aW s lv+1,st,gI,cs',xH) ⟨rfl,rfl,rfl,rfl,trivial⟩ ⟨M4 lH jC,UJ,z2,z3,n23,dy,ek,rfl,F5,fun v' bK=>by cases bK;exact ag2.toM jG.mod (fun x ae=>by rw [List.mem_singleton.1 ae];simp [A8]),qf,by dsimp only;omega,by dsimp only;omega,fun f dK=>by have:=K9 f dK;simp;omega,md⟩ (by dsimp only;omega)
    have jC:aC s (ai aW s lv) [93]=false:=jC
    rw [if_neg (by rw [jC];simp)] at re
    refine b8 (au cD (nj fun H7 b1=>nj fun alq cX=>bP (aG rfl (fv (bE oM rfl) (tP _ g s _ _ re.rd bb nT 44) rfl fun cK l1 az=>?_))))
    obtain⟨rfl,B,R⟩:=az
    have xi:=re.rW B R
    replace md:=md.trans R
    rw [n'] at xi
    replace dy:=dy.mod R (by simpa using (tq g2 z2).2.1)
    replace ek:=ek.mod R (by simpa using (tq g3 z3).2.1)
    refine ag (e4 rfl) (J cX ?_)
    refine a1 rfl (fun ib=>?_) (fun ib=>?_)
    ·have ib:aC s (ai aW s lv) [44]=false:=by rw [n'] at ib;simpa using ib
     refine bP ?_
     refine fP (bE gf rfl) (eT _ 4) rfl (fun cH az=>az.elim) (fun lV iw az=>?_) fun cK iw az=>?_
     ·obtain⟨rfl,rfl⟩:=az
      exact aR (by simp) (bz (by simp) (aR (by simp) (bz (by simp) (bz (by simp) (aR (by simp) (bz (by simp) (ea ⟨4,M5 lH jC ib,by decide,rfl,md⟩)))))))
     exact az.elim
    have ib:aC s (ai aW s lv) [44]=true:=by rw [n'] at ib;simpa using ib
    rw [if_pos ib] at xi
    have qf:ai aW s lv+1≤s.length:=by have:=cY ib (by simp);simpa using this
    refine b8 (au b1 (nj fun alr cb=>nj fun acF cU=>?_))
    obtain⟨g1,eu,vs,eM,fg,rfl,_⟩:=xi.Qf
    obtain⟨ad,c0,bk,fA,gB,C⟩:=qj xi.own
    injection bk with bk bZ kO
    subst bk
    subst kO
    have UJ:=xi
    have B:aE l1 g 75 _:=xi.rd
    refine bQ wide (by kernel_rfl) (f' 2 rfl rfl (aj (fun R=>(av fD rfl)) (aj (fun R=>(bg kj rfl ((B.I R).cell rfl))) (f' 2 rfl rfl (aj (fun R=>(av fD rfl)) (aj (fun R=>(bg kj rfl ((B.I R).cell rfl))) (aj (fun R=>(bs Tryz.underlying73 rfl)) (aj (fun R=>(ew (r:=((eM.length:Nat):Int)) rfl rfl (by rw [wrap64_in _ (by simp at lA;omega)];simp))) (aj (fun R=>(ca tb rfl rfl (by simp;omega))) (aj (fun R=>(bg B5 rfl (n5 (C.mod R (by simp))))) (aj (fun R=>(IK zt (show ¬ (163:Nat)=129 by decide) acy rfl)) (aj (fun R=>(d' rfl)) (aj (fun R=>(eD rfl rfl)) ?_)))))))))))))
    refine aj (fun R=>(eD rfl rfl)) (aj (fun R=>(cq rfl)) (aj (fun R=>(cq rfl)) (bS rfl fun iw R=>?_)))
    replace dy:=dy.I R
    replace ek:=ek.I R
    refine au cU (nj fun acG dj=>bP (aG rfl (J dj (a1 rfl (fun vV=>absurd vV (by simp)) (fun vV=>b8 (au cb (bP (aU rfl (cF (bz (by simp) ?_))))))))))
    exact fK (σ:=QT) (s:=(some v,_,lv,_)) (none,[gj,jw,M1,IS,A0,AK],ai aW s lv+1,.L (acc ++ [v])::st,_,_,h6) ⟨rfl,rfl,rfl,rfl,trivial⟩ ⟨IT lH jC ib,UJ.I R,z2,z3,n23,dy,ek,rfl,IP,fun v' bK=>(by cases bK),qf,by dsimp only;omega,lA,fun f dK=>by
     rcases List.mem_cons.1 dK with rfl | dK
     ·simp [lU.sz] at F4 ⊢;omega
     have:=K9 f dK;simp;omega,md.then R⟩ (by dsimp only;omega)
   | M acc t=>
    have acD:acc.length≤1000000:=by simp [lU.sz] at F4;omega
    refine fv (bE K8 rfl) (W9 H arZ lA acD) rfl fun cK iv az=>?_
    obtain⟨rfl,h6,sE,S1,Bb⟩:=az
    replace md:=zv F3 md sE Bb S1.mod.size
    replace dy:aE iv g2 25 rf:=(Bb g2 z2).trans dy
    replace ek:aE iv g3 25 _:=(Bb g3 z3).trans ek
    have CU:=sE.xK
    refine aU rfl (J cd (nj fun acj cD=>nj fun wx cJ=>bP (aG rfl (aG rfl (fv (bE oM rfl) (tP _ g s lv _ sE.rd bb mR 125) rfl fun cK oj az=>?_)))))
    obtain⟨rfl,B,R⟩:=az
    have re:=sE.rW B R
    replace md:=md.trans R
    replace dy:=dy.mod R (by simpa using (CU g2 z2).2.1)
    replace ek:=ek.mod R (by simpa using (CU g3 z3).2.1)
    have tq:=re.xK
    refine J cJ ?_
    refine a1 rfl (fun jC=>?_) (fun jC=>?_)
    ·have jC:aC s (ai aW s lv) [125]=true:=jC
     have wi:=cY jC (by simp)
     have qf:ai aW s lv+1≤s.length:=by simpa using wi
     rw [if_pos jC] at re
     refine nj fun alp cf=>bP (aG rfl (fv (bE x6 rfl) (W6 re (by omega) (by simp [lU.sz] at F4 ⊢;omega)) rfl fun cK l1 az=>?_))
     obtain⟨gd,gI,cs',xH,rfl,xi,S3,ag2,Bb⟩:=az
     replace md:=zv F3 md xi Bb S3.mod.size
     replace dy:aE l1 g2 25 rf:=(Bb g2 z2).trans dy
     replace ek:aE l1 g3 25 _:=(Bb g3 z3).trans ek
     obtain⟨QZ,F5⟩:=JV.cells_one ag2
     obtain⟨ag3,ag4,y3,y4,ag5,y6,rfl⟩:=six QZ
     refine bm (vs:=[_,_,_,_,_,_]) aJ ek rfl rfl rfl F5 (by simp) fun iw jG=>?_
     replace ek:=jG.eq (cs':=[ag3,ag4,y3,y4,ag5,y6]) rfl
     replace dy:=dy.mod jG.mod (by simpa using n23)
     have UJ:=xi.KH z3 jG.mod
     replace md:=md.own jG.mod ag1
     have A8:=xi.sZ.z g3 z3
     refine J cf (bo (aR (by simp) (bU ?_)))
     have acE:=xi.len
     rw [List.length_cons] at hlen
     exact fK (σ:=QT) (s:=(some v,_,lv,_)) (some (JV.obj (ei (acc ++ [(t,v)]))),[ag3,ag4,y3,y4,ag5,y6],ai aW s lv+1,st,gI,cs',xH) ⟨rfl,rfl,rfl,rfl,trivial⟩ ⟨M6 lH jC,UJ,z2,z3,n23,dy,ek,rfl,F5,fun v' bK=>by cases bK;exact ag2.toM jG.mod (fun x ae=>by rw [List.mem_singleton.1 ae];simp [A8]),qf,by dsimp only;omega,by dsimp only;omega,fun f dK=>by have:=K9 f dK;simp;omega,md⟩ (by dsimp only;omega)
    have jC:aC s (ai aW s lv) [125]=false:=jC
    rw [if_neg (by rw [jC];simp)] at re
    refine b8 (au cD (nj fun H7 b1=>nj fun alq cX=>bP (aG rfl (fv (bE oM rfl) (tP _ g s _ _ re.rd bb nT 44) rfl fun cK l1 az=>?_))))
    obtain⟨rfl,B,R⟩:=az
    have xi:=re.rW B R
    replace md:=md.trans R
    rw [n'] at xi
    replace dy:=dy.mod R (by simpa using (tq g2 z2).2.1)
    replace ek:=ek.mod R (by simpa using (tq g3 z3).2.1)
    refine ag (e4 rfl) (J cX ?_)
    refine a1 rfl (fun ib=>?_) (fun ib=>?_)
    ·have ib:aC s (ai aW s lv) [44]=false:=by rw [n'] at ib;simpa using ib
     refine bP ?_
     refine fP (bE gf rfl) (eT _ 4) rfl (fun cH az=>az.elim) (fun lV iw az=>?_) fun cK iw az=>?_
     ·obtain⟨rfl,rfl⟩:=az
      exact aR (by simp) (bz (by simp) (aR (by simp) (bz (by simp) (bz (by simp) (aR (by simp) (bz (by simp) (ea ⟨4,M7 lH jC ib,by decide,rfl,md⟩)))))))
     exact az.elim
    have ib:aC s (ai aW s lv) [44]=true:=by rw [n'] at ib;simpa using ib
    rw [if_pos ib] at xi
    have qf:ai aW s lv+1≤s.length:=by have:=cY ib (by simp);simpa using this
    refine b8 (au b1 (nj fun alr cb=>nj fun acF cU=>?_))
    have jR:=xi.Qh (fm:=.A (acc ++ [(t,v)]) t) (acc:=acc ++ [(t,v)]) (K:=(acc ++ [(t,v)]).map (fun q:aa×JV=>q.1)) (t:=t) (fun A w c m h=>h)
    obtain⟨g1,b,eu,vs,eM,fg,rfl,rfl,gM,hm,eR,DE,rB,nm,n7,n8,IJ,n10,MO,acg,_⟩:=jR
    obtain⟨ad,c0,bk,fA,gB,C⟩:=qj xi.own
    injection bk with bk bZ kO
    subst bk
    subst kO
    have B:aE l1 g 75 _:=xi.rd
    refine bQ wide (by kernel_rfl) (f' 2 rfl rfl (aj (fun R=>(av fD rfl)) (aj (fun R=>(bg kj rfl ((B.I R).cell rfl))) (f' 2 rfl rfl (aj (fun R=>(av fD rfl)) (aj (fun R=>(bg kj rfl ((B.I R).cell rfl))) (aj (fun R=>(bs Tryz.underlying73 rfl)) (aj (fun R=>(ew (r:=((eM.length:Nat):Int)) rfl rfl (by rw [wrap64_in _ (by simp at lA;omega)];simp))) (aj (fun R=>(ca tb rfl rfl (by simp;omega))) (aj (fun R=>(bg B5 rfl (n5 (C.mod R (by simp))))) (aj (fun R=>(KY zt rfl rfl)) (aj (fun R=>(d' rfl)) (aj (fun R=>(eD rfl rfl)) ?_)))))))))))))
    refine aj (fun R=>(eD rfl rfl)) (aj (fun R=>(cq rfl)) (aj (fun R=>(cq rfl)) (bS rfl fun iw R=>?_)))
    replace dy:=dy.I R
    replace ek:=ek.I R
    refine au cU (nj fun acG dj=>bP (aG rfl (J dj ?_)))
    refine a1 rfl (fun vV=>?_) (fun vV=>absurd vV (by simp))
    refine bP (aG rfl (aG rfl ?_))
    have aam:=R
    have als:aE iw g 75 _:=B.I aam
    refine fP (bE K0 rfl) (KX (K:=(acc ++ [(t,v)]).map (fun q:aa×JV=>q.1)) (m:=ei (acc ++ [(t,v)])) als (gM.I aam) (hm.I aam) nm (Ne.symm n7) n8 (fun t=>Iy t _) bb qf (e1.oK dv (md.then aam)) dv) rfl (fun cH az=>az) (fun lV kl az=>?_) fun cK kl az=>?_
    ·obtain⟨e,he,b3,rfl,R⟩:=az
     refine aR (by simp) (bz (by simp) (aR (by simp) (bz (by simp) (bz (by simp) (aR (by simp) (bz (by simp) ?_))))))
     exact ea ⟨e,M8 lH jC ib he,b3,rfl,IN (k:=k) (s:=s) (st:=st) (sk:=eu) (cs:=eM) (fp:=fg) F3 (md.then aam) R (fun x ae MZ ag6=>by
      simp only [List.mem_cons,List.not_mem_nil,or_false] at ae
      rcases ae with h | h | h
      ·exact MZ h
      ·exact MO x ag6 (by simp [h])
      exact MO x ag6 (by simp [h]))⟩
    obtain⟨⟨t',j3⟩,he,⟨rfl,agP,alu,Dp,bD⟩,R⟩:=az
    have aqy:=ps he
    have QS:∀ {x:Nat},x≠g→x≠g1→x≠b→x∉[g,g1,b]:=fun h1 aq aT=>by simp [h1,aq,aT]
    have Q5:∀ z∈g3::Z,z∉[g,g1,b]:=fun z fY=>QS (tq z fY).2.1 (fun e=>MO z fY (by simp [e])) (fun e=>MO z fY (by simp [e]))
    replace dy:=dy.mod R (Q5 g2 z2)
    replace ek:=ek.mod R (Q5 g3 z3)
    have ag7:=IN (k:=k) (s:=s) (st:=st) (sk:=eu) (cs:=eM) (fp:=fg) F3 (md.then aam) R (fun x ae _ di=>Q5 x di ae)
    obtain⟨aqz,_⟩:=acg kl eu vs j3 (.M (acc ++ [(t,v)]) t') (acc ++ [(t,v)]) _ t' ((aam.mono (by simp)).trans (R.mono (by simp))) agP alu Dp ((eR.I aam).mod R (fun x ae=>QS (n10 x ae) (fun e=>rB (e▸ae)) (fun e=>IJ (e▸ae)))) (fun x ae=>.inl ae) DE (fun A w c m h=>h)
    refine J cb (bP (aU rfl (cF (bz (by simp) ?_))))
    exact fK (σ:=QT) (s:=(some v,_,lv,_)) (none,[gj,jw,M1,IS,A0,AK],j3,.M (acc ++ [(t,v)]) t'::st,_,_,_) ⟨rfl,rfl,rfl,rfl,trivial⟩ ⟨IU lH jC ib he,aqz,z2,z3,n23,dy,ek,rfl,IP,fun v' bK=>(by cases bK),bD,by dsimp only;omega,lA,fun f dK=>by
     rcases List.mem_cons.1 dK with rfl | dK
     ·simp [lU.sz] at F4 ⊢;omega
     have:=K9 f dK;simp;omega,ag7⟩ (by dsimp only;omega)
set_option maxRecDepth 10000
section
variable {P:Program} {fn:Func} {l:List (Nat×Value)} {w:World} {n:Nat} {ds:List Deferred} {arZ:Ending→World→Prop} {t t':Nat}
theorem py {a:Act} {T M9 c:Nat} {ad rK:Addr} {vs:List Value} {v':Value} (ay:Has n ds l a) (bl:fn.results = #[.cell t T,.cell t' M9]) (cc:rF P T c=true) (DH:nL P M9=true) (bK:iM t l=some (.pointer (some ad))) (qc:iM t' l=some (.pointer (some rK)))
  (cj:vs.length=c) (bh:q7 w ad vs) (zx:w.cell? rK=some v'):(results fn a.tmps).run P w = .ok (.tuple #[.agg vs.toArray,v']) w:=by
 simp [results,bl,ay.get _ _ bK,ay.get _ _ qc,asAddr,ht cc cj bh,kN DH zx]
end
/-- what the program's Parse hands back -/
noncomputable def pz (s:aa):JV:=match parse s with
 | .ok v=>v
 | .error _=>JV.gN
noncomputable def rh (s:aa):Int:=match parse s with
 | .ok _=>0
 | .error e=>e
theorem ag9:vM Tryz.prog 75 [(0,1),(1,1),(2,1)]=true:=by kernel_rfl
theorem ag':hD Tryz.prog 75 [S [],.int .i64 0,.slice none 0 0]:=by unfold hD;kernel_rfl
theorem IV:aP Tryz.prog 58:=aP.of Tryz.func58 (by kernel_rfl) (by kernel_rfl)
theorem acH:aP Tryz.prog 60:=aP.of Tryz.func60 (by kernel_rfl) (by kernel_rfl)
theorem Q6 (w:World) (ge gs:Nat) (B:aE w ge 33 [.int .i64 0]):CallsD Tryz.prog 58 [.pointer (some ⟨ge,0,none⟩),.pointer (some ⟨gs,0,none⟩)].toArray .returning w (fun e kV w'=>(∃ v,e = .returned v)∧kV = .returning∧Mod [] w w'):=by
 refine qO Tryz.func58 rfl rfl rfl (l:=[(0,_),(1,_)]) ⟨rfl,rfl,trivial⟩ rfl rfl (.inl ⟨rfl,rfl,rfl⟩) (by rintro u w ⟨⟨v,bK⟩,_⟩;cases bK) fun K1 aV=>?_;have E:=Mod.refl [] w;refine fv (bE DI rfl) (zy _ _) rfl fun cK aB az=>?_;obtain⟨_,R⟩:=az;replace B:=B.I R;replace E:=E.then R;refine J aV (ab fun aL=>ag (bg oN rfl (B.cell rfl)) (ag (fj rfl rfl) (J aL ?_)));refine aK rfl (fun cN=>?_) (fun cN=>?_)
 ·exact absurd rfl cN
 exact b8 (kp rfl ⟨⟨_,rfl⟩,rfl,E⟩)
theorem F8 (w:World) (ge gs:Nat) (z:Value) (e:Int) (gC:List Value) (tp:gC.length=6) (B:aE w ge 33 [z]) (dy:aE w gs 25 gC) (bY:ge≠gs) (he:e≠0):CallsD Tryz.prog 58 [.pointer (some ⟨ge,0,none⟩),.pointer (some ⟨gs,0,none⟩)].toArray (.panicking (BW 124 e)) w (fun K' kV w'=>(∃ v,K' = .returned v)∧kV = .panicking [{v:=.iface 124 (.agg #[.int .i64 e]),recovered:=true}]∧aE w' ge 33 [.int .i64 e]∧aE w' gs 25 rf∧Mod [ge,gs] w w'):=by
 refine qO Tryz.func58 rfl rfl rfl (l:=[(0,_),(1,_)]) ⟨rfl,rfl,trivial⟩ rfl rfl (.inr ⟨rfl,rfl⟩) (by rintro u w ⟨⟨v,bK⟩,_⟩;cases bK) fun K1 aV=>?_;have E:=Mod.refl [ge,gs] w;refine fv (bE DI rfl) (zz _ ge z e B) rfl fun cK aB az=>?_;obtain⟨sD,R⟩:=az;replace E:=E.trans' R (fun x ae=>.inl (by simp at ae;simp [ae]));replace dy:=dy.mod R (by simp;exact fun h=>bY h.symm);clear B;have B:=sD;refine J aV (ab fun aL=>ag (bg oN rfl (B.cell rfl)) (ag (fj rfl rfl) (J aL ?_)));refine aK rfl (fun cN=>?_) (fun cN=>?_)
 ·obtain⟨ajX,z2,z3,z4,z5,ajY,rfl⟩:=six tp;refine bP (ag (a7 (us:=[]) (cs:=[_,_,_,_,_,_]) gT cA rfl rfl) (bm (vs:=[_,_,_,_,_,_]) aJ dy rfl rfl rfl (by simp [Value.oneCell']) (by simp) fun l1 om=>?_));replace E:=E.trans' om.mod (fun x ae=>.inl (by simp at ae;simp [ae]));replace B:=B.mod om.mod (by simp;exact bY);have nw:=om.eq (cs':=rf) rfl;exact cF (kp rfl ⟨⟨_,rfl⟩,rfl,B,nw,E⟩)
 exact absurd he cN
theorem Q7 (w:World) (s:aa) (e1:Env w):Calls Tryz.prog 22 [S s].toArray w (bM fun u w'=>∃ us,u = .tuple #[.agg us.toArray,.int .i64 (rh s)]∧ao (List.range w.heap.size) w' (pz s).D us∧Mod [] w w'):=by
 refine La Tryz.func22 rfl rfl rfl (l:=[(0,_)]) ⟨rfl,trivial⟩ ?_;have E:=Mod.refl [] w;refine ab fun aV=>bp cA rfl fun g2 aB bT=>?_;have IW:=bT.le E;replace E:=E.then bT.mod;have dy:=bT.aA;refine bp aan rfl fun g3 cO cW=>?_;have M':=cW.le E;have n23:=cW.ne dy;replace dy:=dy.I cW.mod;replace E:=E.then cW.mod;have ek:=cW.aA;refine J aV (ax fun aL=>ab fun aX=>aG rfl (ag (br Tryz.underlying9 rfl) (ag (gq rfl rfl) (J aX ?_))));refine aK rfl (fun kB=>?_) (fun kB=>?_)
 ·have cn:parse s = .error 3:=by unfold parse;rw [if_pos (by omega)]
  refine ab fun bt=>ag (a7 (us:=[]) (cs:=[_,_,_,_,_,_]) gT cA rfl rfl) (bm (vs:=[_,_,_,_,_,_]) aJ dy rfl rfl rfl (by simp [Value.oneCell']) (by simp) fun gb sw=>?_);have nw:=sw.eq (cs':=rf) rfl;replace ek:=ek.mod sw.mod (by simpa using Ne.symm n23);replace E:=E.own sw.mod IW;refine dZ oN ek rfl rfl rfl (by simp) fun iu kS=>?_;replace nw:=nw.mod kS.mod (by simpa using n23);replace E:=E.own kS.mod M';have Xf:=kS.eq (cs':=[.int .i64 3]) rfl;exact J bt (ba (aR (by simp) (DJ fun a ay=>⟨_,py ay rfl aJ oN rfl rfl rfl (nw.cs rfl) (Xf.cell rfl),⟨_,by unfold rh;rw [cn],by unfold pz;rw [cn];exact JV.gO,E⟩⟩)))
 have bb:s.length≤65536:=by omega
 refine b8 (au aL (ab fun bN=>ag (Q8 rfl rfl) (F9 rfl (J bN (ab fun b2=>aG rfl (ag (a7 (cs:=[_,_,_]) ag9 ag' rfl rfl) (ep rfl rfl rfl fun g4 gb eP=>?_)))))));have ajv:=eP.le E;have n24:=eP.ne dy;have n34:=eP.ne ek;replace dy:=dy.I eP.mod;replace ek:=ek.I eP.mod;replace E:=E.then eP.mod;have B:aE gb g4 75 [S s,.int .i64 ((0:Nat):Int),.slice none 0 0]:=eP.aA;have aha:MK<g4:=Nat.lt_of_lt_of_le e1.sz ajv;refine aU rfl (J b2 (ab fun cd=>aG rfl ?_))
 have zA:parse s=match Ir s with
  | .error e=>.error e
  | .ok (v,k)=>if ai aW s k<s.length then .error 4 else .ok v:=by unfold parse;rw [if_neg (by omega)];rfl
 refine fP (bE acH rfl) (MY B bb (e1.I E) aha (P1 s)) rfl (fun cH az=>az) (fun lV iu az=>?_) fun cK iu az=>?_
 ·obtain⟨e,he,b3,rfl,R⟩:=az;rw [he] at zA;replace dy:=dy.mod R (by simpa using n24);replace ek:=ek.mod R (by simpa using n34);replace E:=E.own R ajv;refine aR (by simp) (wy fun a ay=>r3 (by simp) IV (F8 _ g3 g2 _ e _ rfl ek dy (Ne.symm n23) b3) fun K' ae3 l1 k9=>?_);obtain⟨⟨v9,rfl⟩,rfl,ek,dy,AQ⟩:=k9;exact⟨v9,rfl,rfl,_,py ay rfl aJ oN rfl rfl rfl (dy.cs rfl) (ek.cell rfl),⟨_,by unfold rh;rw [zA],by unfold pz;rw [zA];exact JV.gO,E.trans' AQ (fun x ae=>.inr (by simp at ae;rcases ae with rfl | rfl <;> assumption))⟩⟩
 obtain⟨⟨v,k⟩,he,⟨us,sk,rfl,arZ,B,hk⟩,R⟩:=az;rw [he] at zA
 dsimp only at zA arZ B hk
 obtain⟨eU,rp⟩:=JV.cells_one arZ;obtain⟨gj,jw,M1,IS,A0,AK,rfl⟩:=six eU;replace dy:=dy.mod R (by simpa using n24);replace ek:=ek.mod R (by simpa using n34);replace E:=E.own R ajv;have Q9:∀ x∈g2::g3::List.range w.heap.size,x∈g4::List.range gb.heap.size:=fun x ae=>by
  have h1:=(bT.mod.trans (cW.mod.trans eP.mod)).size;have aq:=bT.aA.lt;have aT:=cW.aA.lt;have bL:=cW.mod.size;have cN:=eP.mod.size;simp only [List.mem_cons,List.mem_range] at ae ⊢;rcases ae with rfl | rfl | ae <;> right <;> omega
 have xw:ao (g2::g3::g4::List.range w.heap.size) iu v.D [gj,jw,M1,IS,A0,AK]:=arZ.e6 (fun x ae=>by
  rcases List.mem_cons.1 ae with rfl | ae
  ·exact Q9 _ (by simp)
  rcases List.mem_cons.1 ae with rfl | ae
  ·exact Q9 _ (by simp)
  rcases List.mem_cons.1 ae with rfl | ae
  ·simp
  exact Q9 _ (by simp only [List.mem_cons];exact .inr (.inr ae)))
 refine bm (vs:=[_,_,_,_,_,_]) aJ dy rfl rfl rfl rp (by simp) fun js hs=>?_;replace dy:=hs.eq (cs':=[gj,jw,M1,IS,A0,AK]) rfl;replace B:=B.mod hs.mod (by simpa using Ne.symm n24);replace ek:=ek.mod hs.mod (by simpa using Ne.symm n23);replace xw:=xw.toM hs.mod (fun x ae=>by rw [List.mem_singleton.1 ae];simp);replace E:=E.own hs.mod IW;refine J cd (ax fun cD=>ab fun cJ=>aG rfl (fv (bE DD rfl) (uQ _ g4 s k sk B bb hk) rfl fun cK jD az=>?_));obtain⟨B,R⟩:=az;replace dy:=dy.mod R (by simpa using n24);replace ek:=ek.mod R (by simpa using n34);replace xw:=xw.toM R (fun x ae=>by rw [List.mem_singleton.1 ae];simp);replace E:=E.own R ajv;refine J cJ (ab fun cf=>ak 2 rfl (ag (av c6 rfl) (ag (bg dN rfl (B.cell rfl)) (aG rfl (ag (br Tryz.underlying9 rfl) (ag (cL rfl rfl) (J cf ?_)))))));refine aK rfl (fun AX=>?_) (fun AX=>?_)
 ·rw [if_pos (by omega)] at zA;refine bP ?_;refine fP (bE gf rfl) (eT _ 4) rfl (fun cH az=>az.elim) (fun lV iv az=>?_) fun cK iv az=>?_
  ·obtain⟨rfl,rfl⟩:=az;refine aR (by simp) (wy fun a ay=>r3 (by simp) IV (F8 _ g3 g2 _ 4 _ rfl ek dy (Ne.symm n23) (by decide)) fun K' ae3 l1 k9=>?_);obtain⟨⟨v9,rfl⟩,rfl,ek,dy,AQ⟩:=k9;exact⟨v9,rfl,rfl,_,py ay rfl aJ oN rfl rfl rfl (dy.cs rfl) (ek.cell rfl),⟨_,by unfold rh;rw [zA],by unfold pz;rw [zA];exact JV.gO,E.trans' AQ (fun x ae=>.inr (by simp at ae;rcases ae with rfl | rfl <;> assumption))⟩⟩
  exact az.elim
 rw [if_neg (by omega)] at zA;refine b8 (au cD (ab fun b1=>ag (bc (vs:=[_,_,_,_,_,_]) aJ rfl rfl (dy.cs rfl)) (bm (vs:=[_,_,_,_,_,_]) aJ dy rfl rfl rfl rp (by simp) fun iv o8=>?_)));replace dy:=o8.eq (cs':=[gj,jw,M1,IS,A0,AK]) rfl;replace ek:=ek.mod o8.mod (by simpa using Ne.symm n23);replace xw:=xw.toM o8.mod (fun x ae=>by rw [List.mem_singleton.1 ae];simp);replace E:=E.own o8.mod IW;refine dZ oN ek rfl rfl rfl (by simp) fun oj nF=>?_;replace dy:=dy.mod nF.mod (by simpa using n23);have Xf:=nF.eq (cs':=[.int .i64 0]) rfl;replace xw:=xw.toM nF.mod (fun x ae=>by rw [List.mem_singleton.1 ae];simp);replace E:=E.own nF.mod M';refine J b1 (ba (DJ fun a ay=>r3 (by simp) IV (Q6 _ g3 g2 Xf) fun K' ae3 l1 k9=>?_));obtain⟨⟨v9,rfl⟩,rfl,AQ⟩:=k9;exact⟨v9,rfl,rfl,_,py ay rfl aJ oN rfl rfl rfl ((dy.I AQ).cs rfl) ((Xf.I AQ).cell rfl),⟨_,by unfold rh;rw [zA],by unfold pz;rw [zA];exact(xw.bG AQ).e6 (fun x ae=>by simp only [List.mem_cons];exact .inr (.inr (.inr ae))),E.then AQ⟩⟩
end Go.Proofs.YtnihidkbkhcfoaaGreatDoor.V
set_option maxRecDepth 10000
namespace Go.Proofs.YtnihidkbkhcfoaaGreatDoor.V
open Go
end Go.Proofs.YtnihidkbkhcfoaaGreatDoor.V
set_option maxRecDepth 10000
namespace Go.Proofs.YtnihidkbkhcfoaaGreatDoor.V
open Go Go.Proofs
theorem acI:aP Tryz.prog 22:=aP.of Tryz.func22 (by kernel_rfl) (by kernel_rfl)
end Go.Proofs.YtnihidkbkhcfoaaGreatDoor.V
namespace Go.Proofs.YtnihidkbkhcfoaaGreatDoor.V
open Go
theorem Iu {l l':aa} (b3:(aI l).2≠0) (h:l.take (aI l).2 <+: l'):aI l'=aI l:=by
 cases l with
 | nil=>exact absurd rfl b3
 | cons b r=>
  obtain⟨y,rfl⟩:=h
  by_cases aQ:b.toNat<128
  ·rw [fW aQ];show aI ((b::r).take 1++y)=_;exact fW aQ
  obtain⟨n,lo,c,hH⟩:∃ n lo c,eh b.toNat=(n,lo,c):=⟨_,_,_,rfl⟩
  by_cases cj:n=0∨(b::r).length<n
  ·exact absurd (by rw [fX aQ hH cj]) b3
  have aq:(aI (b::r)).2=n:=by
   rw [n1 aQ hH cj] at b3 ⊢
   split at b3
   ·exact absurd rfl b3
   split at b3
   ·exact absurd rfl b3
   rename_i bh;rw [if_neg bh]
  rw [aq,n1 aQ hH cj];obtain⟨m,rfl⟩:∃ m,n=m+1:=⟨n-1,by omega⟩;simp only [List.length_cons] at cj;rw [List.take_succ_cons,List.cons_append,n1 aQ hH (by simp only [List.length_cons,List.length_append,List.length_take];omega)];rw [show m+1-1=m from rfl,List.take_append_of_le_length (by rw [List.length_take];omega),List.take_take,Nat.min_self]
theorem BO:∀ k,k<16→kC (iH.getD k 0)=some k:=by decide
theorem rU {b:UInt8} (h:b.toNat<128):jf b.toNat = [b]:=by
 have:=qH (l:=[b]) (by simp) (by rw [fW h];simp);rw [fW h] at this;simpa using this
theorem Ms {f:Nat} {b:UInt8} {X:aa} {i:Nat} {out:aa} (aQ:b.toNat<128):fU (f+1) (iK b++X) i out=fU f X (i+(iK b).length) (out ++ [b]):=by
 have two:∀ x:UInt8,rT x=some b.toNat→iK b = [92,x]→fU (f+1) (iK b++X) i out=fU f X (i+(iK b).length) (out ++ [b]):=by
  intro x ae he;have bl:lE (92::x::X)=(b.toNat,2):=by
   unfold lE;simp only;rw [ae]
  rw [he];show fU (f+1) (92::(x::X)) i out=_;rw [fU,if_neg (by decide),if_pos rfl];simp only;rw [bl,if_neg (by simp),rU aQ];rfl
 unfold iK at two ⊢
 by_cases h1:b=34∨b=92
 ·rw [if_pos h1] at two ⊢;rcases h1 with rfl | rfl
  ·exact two 34 rfl rfl
  exact two 92 rfl rfl
 rw [if_neg h1] at two ⊢
 by_cases aq:b=8
 ·rw [if_pos aq] at two ⊢;subst aq;exact two 98 rfl rfl
 rw [if_neg aq] at two ⊢
 by_cases aT:b=9
 ·rw [if_pos aT] at two ⊢;subst aT;exact two 116 rfl rfl
 rw [if_neg aT] at two ⊢
 by_cases bL:b=10
 ·rw [if_pos bL] at two ⊢;subst bL;exact two 110 rfl rfl
 rw [if_neg bL] at two ⊢
 by_cases cN:b=12
 ·rw [if_pos cN] at two ⊢;subst cN;exact two 102 rfl rfl
 rw [if_neg cN] at two ⊢
 by_cases eU:b=13
 ·rw [if_pos eU] at two ⊢;subst eU;exact two 114 rfl rfl
 rw [if_neg eU] at two ⊢;clear two
 by_cases kB:b.toNat<32
 rotate_left
 ·rw [if_neg kB];show fU (f+1) (b::X) i out=_;have y8:b≠34:=fun h=>h1 (.inl h);have abI:b≠92:=fun h=>h1 (.inr h);rw [fU,if_neg y8,if_neg abI];simp only;rw [fW aQ,if_neg (by simp;omega),rU aQ];rfl
 rw [if_pos kB];have d1:=BO (b.toNat / 16) (by omega);have d2:=BO (b.toNat % 16) (by omega);generalize iH.getD (b.toNat / 16) 0=x at d1;generalize iH.getD (b.toNat % 16) 0=y at d2;have bl:lE (92::117::48::48::x::y::X)=(b.toNat,6):=by
  have hu:nG (92::117::48::48::x::y::X)=some b.toNat:=by
   show eK 4 (48::48::x::y::X) 0=_;have BP:kC 48=some 0:=rfl;simp only [eK,BP,d1,d2]
   congr 1
   omega
  unfold lE;simp only;rw [show rT 117=none from rfl];simp only;rw [hu];simp only;rw [if_neg (by omega),if_pos (by omega)]
 show fU (f+1) (92::(117::48::48::x::y::X)) i out=_;rw [fU,if_neg (by decide),if_pos rfl];simp only;rw [bl,if_neg (by simp),rU aQ];rfl
theorem y9 (c:UInt8) (t:aa):c7 (c::t)=iK c++c7 t:=by simp [c7]
theorem Mt (a b:aa):c7 (a++b)=c7 a++c7 b:=by simp [c7]
theorem BQ (c:UInt8):1≤(iK c).length:=by
 unfold iK
 repeat' split
 all_goals simp
theorem v8:∀ (N:Nat) (t:aa),t.length≤N→ck t=true→∀ (f i:Nat) (out rest:aa),(c7 t).length+1≤f→fU f (c7 t++34::rest) i out=some (out++t,i+(c7 t).length+1)
 | N,[],_,_,f,i,out,rest,dK=>by
  obtain⟨g,rfl⟩:∃ g,f=g+1:=⟨f-1,by omega⟩
  show fU (g+1) (34::rest) i out=_
  rw [fU,if_pos rfl]
  simp [c7]
 | 0,b::r,h,_,_,_,_,_,_=>by simp at h
 | N+1,b::r,h5,bK,f,i,out,rest,dK=>by
  have bY:(b::r)≠[]:=by simp
  have b3:=y' bY bK
  have qc:=bK
  rw [kT bY b3] at qc
  obtain⟨g,rfl⟩:∃ g,f=g+1:=⟨f-1,by omega⟩
  by_cases bh:(aI (b::r)).1<128
  ·obtain⟨x,ae,abJ⟩:=mc bY b3 bh
   have kU:(aI (b::r)).2=1:=by
    have:=congrArg List.length ae
    rw [List.length_take,List.length_singleton] at this
    have:=j8 (b::r)
    omega
   rw [kU] at ae qc
   simp only [List.take_succ_cons,List.take_zero,List.cons.injEq,and_true] at ae
   subst ae
   rw [List.drop_succ_cons,List.drop_zero] at qc
   have e2:=BQ b
   rw [y9,List.length_append] at dK
   rw [y9,List.append_assoc,Ms (by omega),v8 N r (by simpa using h5) qc g _ _ rest (by omega)]
   simp only [List.length_append,List.append_assoc,List.singleton_append,Option.some.injEq,Prod.mk.injEq,true_and]
   omega
  have aQ:=xa bY b3 (by omega)
  have hle:=j8 (b::r)
  generalize cj:(aI (b::r)).2=n at *
  have za:c7 (b::r)=(b::r).take n++c7 ((b::r).drop n):=by
   conv=>lhs;rw [← List.take_append_drop n (b::r)]
   rw [Mt,BR aQ]
  have rq:aI ((b::r).take n++(c7 ((b::r).drop n)++34::rest))=aI (b::r):=Iu (by omega) (by rw [cj];exact List.prefix_append _ _)
  have agn:jf (aI (b::r)).1=(b::r).take n:=by rw [qH bY (by omega),cj]
  have cg:((b::r).take n).length=n:=by rw [List.length_take];omega
  have P5:(b::r).take n=b::(r.take (n-1)):=by
   obtain⟨m,rfl⟩:∃ m,n=m+1:=⟨n-1,by omega⟩
   rfl
  have Dr:128≤b.toNat:=aQ b (by rw [P5];simp)
  rw [za,List.length_append,cg] at dK
  rw [za,List.append_assoc]
  have abK:fU (g+1) ((b::r).take n++(c7 ((b::r).drop n)++34::rest)) i out=fU g (c7 ((b::r).drop n)++34::rest) (i+n) (out++(b::r).take n):=by
   have ago:((b::r).take n++(c7 ((b::r).drop n)++34::rest)).drop n=c7 ((b::r).drop n)++34::rest:=List.drop_left' cg
   generalize ae2:(b::r).take n++(c7 ((b::r).drop n)++34::rest)=Z at rq ago ⊢
   cases Z with
   | nil=>rw [P5] at ae2;cases ae2
   | cons z aoL=>
    have di:z=b:=by
     rw [P5] at ae2
     injection ae2 with ae2
     exact ae2.symm
    subst di
    have y8:¬ z=34:=fun h=>by rw [h] at Dr;revert Dr;decide
    have abI:¬ z=92:=fun h=>by rw [h] at Dr;revert Dr;decide
    rw [fU,if_neg y8,if_neg abI]
    simp only
    rw [rq,cj,if_neg (by omega),ago,agn]
  rw [abK,v8 N _ (by rw [List.length_drop];simp only [List.length_cons] at h5 ⊢;omega) qc g _ _ rest (by omega)]
  simp only [List.length_append,cg,List.append_assoc,List.take_append_drop,Option.some.injEq,Prod.mk.injEq,true_and]
  omega
theorem BS {s t rest:aa} {k:Nat} (bK:ck t=true) (h:s.drop k=cv t++rest):e9 s k=some (t,k+(cv t).length):=by
 have fh:s.drop k=34::(c7 t++34::rest):=by rw [h];simp [cv]
 have hk:s[k]? = some 34:=by
  have:=congrArg (fun l=>l[0]?) fh;simpa [List.getElem?_drop] using this
 have bV:s.drop (k+1)=c7 t++34::rest:=by
  rw [gk hk] at fh;injection fh
 have hlen:=congrArg List.length fh;simp only [List.length_drop,List.length_cons,List.length_append] at hlen;unfold e9;rw [if_pos hk,bV,v8 t.length t (Nat.le_refl _) bK _ _ _ _ (by omega)];simp only [cv,List.length_append,List.length_cons,List.length_nil,List.nil_append,Option.some.injEq,Prod.mk.injEq,true_and];omega
theorem uI (s:aa):∀ f:Nat,(∀ k deep r,kD f s k deep=some r→kD (f+1) s k deep=some r)∧
  (∀ k deep acc r,qE f s k deep acc=some r→qE (f+1) s k deep acc=some r)∧
  (∀ k deep m r,qF f s k deep m=some r→qF (f+1) s k deep m=some r)
 | 0=>⟨fun _ _ _ h=>by simp [kD] at h,fun _ _ _ _ h=>by simp [qE] at h,fun _ _ _ _ h=>by simp [qF] at h⟩
 | f+1=>by
  obtain⟨tG,y0,y1⟩:=uI s f
  refine⟨fun rb deep r h=>?_,fun k deep acc r h=>?_,fun k deep m r h=>?_⟩
  ·rw [kD] at h ⊢
   generalize ai aW s rb=k at h ⊢
   dsimp only at h ⊢
   split at h
   ·rename_i c;rw [if_pos c];exact h
   rename_i c;rw [if_neg c]
   split at h
   ·rename_i c;rw [if_pos c];exact h
   rename_i c;rw [if_neg c]
   split at h
   ·rename_i c;rw [if_pos c];exact h
   rename_i c;rw [if_neg c]
   split at h
   ·rename_i c;rw [if_pos c];exact h
   rename_i c;rw [if_neg c]
   split at h
   ·rename_i c;rw [if_pos c]
    split at h
    ·rename_i c;rw [if_pos c];exact h
    rename_i c;rw [if_neg c]
    split at h
    ·rename_i c;rw [if_pos c]
     split at h
     ·rename_i c;rw [if_pos c];exact h
     rename_i c;rw [if_neg c]
     exact y0 _ _ _ _ h
    rename_i c;rw [if_neg c]
    split at h
    ·rename_i c;rw [if_pos c];exact h
    rename_i c;rw [if_neg c]
    exact y1 _ _ _ _ h
   rename_i c;rw [if_neg c];exact h
  ·rw [qE] at h ⊢
   split at h
   ·cases h
   ·rename_i e bK;rw [tG _ _ _ bK];exact h
   rename_i y j3 bK
   rw [tG _ _ _ bK]
   dsimp only at h ⊢
   split at h
   ·rename_i c;rw [if_pos c];exact h
   rename_i c;rw [if_neg c]
   split at h
   ·rename_i c;rw [if_pos c];exact y0 _ _ _ _ h
   rename_i c;rw [if_neg c];exact h
  rw [qF] at h ⊢
  split at h
  ·rename_i e hk;exact h
  rename_i t dX hk
  split at h
  ·cases h
  ·rename_i e bK;rw [tG _ _ _ bK];exact h
  rename_i y j3 bK
  rw [tG _ _ _ bK]
  dsimp only at h ⊢
  split at h
  ·rename_i c;rw [if_pos c];exact h
  rename_i c;rw [if_neg c]
  split at h
  ·rename_i c;rw [if_pos c];exact y1 _ _ _ _ h
  rename_i c;rw [if_neg c];exact h
theorem xX {s:aa} {f g k deep:Nat} {r:A6} (h:kD f s k deep=some r) (dv:f≤g):kD g s k deep=some r:=by
 induction g with
 | zero=>
  obtain rfl:f=0:=by omega
  exact h
 | succ g dF=>
  rcases Nat.lt_or_ge g f with h1 | h1
  ·obtain rfl:f=g+1:=by omega
   exact h
  exact(uI s g).1 _ _ _ (dF h1)
theorem WE {s:aa} {f g k deep:Nat} {acc:List JV} {r:A6} (h:qE f s k deep acc=some r) (dv:f≤g):qE g s k deep acc=some r:=by
 induction g with
 | zero=>
  obtain rfl:f=0:=by omega
  exact h
 | succ g dF=>
  rcases Nat.lt_or_ge g f with h1 | h1
  ·obtain rfl:f=g+1:=by omega
   exact h
  exact(uI s g).2.1 _ _ _ _ (dF h1)
theorem WG {s:aa} {f g k deep:Nat} {acc:List (aa×JV)} {r:A6} (h:qF f s k deep acc=some r) (dv:f≤g):qF g s k deep acc=some r:=by
 induction g with
 | zero=>
  obtain rfl:f=0:=by omega
  exact h
 | succ g dF=>
  rcases Nat.lt_or_ge g f with h1 | h1
  ·obtain rfl:f=g+1:=by omega
   exact h
  exact(uI s g).2.2 _ _ _ _ (dF h1)
theorem P6 {s:aa} {f g k deep:Nat} {r Mn:A6} (h:kD f s k deep=some r) (fh:kD g s k deep=some Mn):r=Mn:=by
 have h1:=xX h (Nat.le_max_left f g);have aq:=xX fh (Nat.le_max_right f g);rw [h1] at aq;injection aq
theorem dJ {s:aa} {k:Nat} {c:UInt8} {r:aa} (h:s.drop k=c::r):s[k]? = some c∧s.drop (k+1)=r:=by
 have hk:s[k]? = some c:=by
  have:=congrArg (fun l=>l[0]?) h;simpa [List.getElem?_drop] using this
 rw [gk hk] at h;injection h with _ h
 exact⟨hk,h⟩
theorem me {s a r:aa} {k:Nat} (h:s.drop k=a++r):s.drop (k+a.length)=r:=by
 rw [← List.drop_drop,h,List.drop_left' rfl]
theorem cx {s r t:aa} {k:Nat} {c d:UInt8} (h:s.drop k=c::r) (bV:d≠c):aC s k (d::t)=false:=by
 rw [aC,h,List.isPrefixOf,beq_eq_false_iff_ne.2 bV];rfl
theorem wa {s t r:aa} {k:Nat} (h:s.drop k=t++r):aC s k t=true:=by
 rw [BL,h,List.take_left' rfl]
theorem gG {s r:aa} {k:Nat} {c:UInt8} (h:s.drop k=c::r) (bh:aW c=false):ai aW s k=k:=lj (dJ h).1 bh
def P7 (c:UInt8):Prop:=aW c=false∧c≠93∧c≠125
def akJ (r:aa):Prop:=∀ c,r[0]? = some c→eJ c=false
def HN (v:JV) (deep:Nat) (t:aa):Prop:=(∃ c r,t=c::r∧P7 c)∧∀ s k rest,s.drop k=t++rest→akJ rest→∃ f,kD f s k deep=some (.ok (v,k+t.length))
theorem Iv (n:Int):∃ c r,Lib.itoa n=c::r∧(c=45∨bx c=true):=by
 unfold Lib.itoa
 split
 ·exact⟨45,_,rfl,.inl rfl⟩
 cases h:Lib.decDigits n.toNat with
 | nil=>exact absurd h (sA _)
 | cons c r=>exact⟨c,r,rfl,.inr (qb n.toNat c (by rw [h];simp))⟩
theorem abL {c:UInt8} (h:c=45∨bx c=true) (d:UInt8) (bV:¬ (d.toNat=45∨(48≤d.toNat∧d.toNat≤57))):d≠c:=by
 intro e;subst e;apply bV;rcases h with rfl | h
 ·left;rfl
 right;simp only [bx,Bool.and_eq_true,decide_eq_true_eq] at h;exact h
theorem WH {deep:Nat}:HN JV.gN deep JV.jS:=by
 refine⟨⟨110,_,rfl,by decide,by decide,by decide⟩,fun s k rest h _=>⟨1,?_⟩⟩;have hw:=gG (c:=110) h rfl;rw [kD];simp only;rw [hw,if_pos (wa h)];rfl
theorem P8 {deep:Nat}:HN (.mk 1 true 0 [] [] []) deep JV.iT:=by
 refine⟨⟨116,_,rfl,by decide,by decide,by decide⟩,fun s k rest h _=>⟨1,?_⟩⟩;have hw:=gG (c:=116) h rfl;rw [kD];simp only;rw [hw,cx (c:=116) h (by decide),if_neg (by simp),if_pos (wa h)];rfl
theorem Mu {deep:Nat}:HN (.mk 1 false 0 [] [] []) deep JV.gE:=by
 refine⟨⟨102,_,rfl,by decide,by decide,by decide⟩,fun s k rest h _=>⟨1,?_⟩⟩;have hw:=gG (c:=102) h rfl;rw [kD];simp only;rw [hw,cx (c:=102) h (by decide),if_neg (by simp),cx (c:=102) h (by decide),if_neg (by simp),if_pos (wa h)];rfl
theorem WI {deep:Nat} {n:Int} (b3 : -9007199254740991≤n) (h1:n≤9007199254740991):HN (JV.hl n) deep (Lib.itoa n):=by
 obtain⟨c,r,bh,bV⟩:=Iv n;have bY:=fun d rV=>abL bV d rV;refine⟨⟨c,r,bh,?_,(bY 93 (by decide)).symm,(bY 125 (by decide)).symm⟩,fun s k rest h bl=>⟨1,?_⟩⟩
 ·unfold aW;rw [beq_eq_false_iff_ne.2 (bY 32 (by decide)).symm,beq_eq_false_iff_ne.2 (bY 9 (by decide)).symm,beq_eq_false_iff_ne.2 (bY 10 (by decide)).symm,beq_eq_false_iff_ne.2 (bY 13 (by decide)).symm];rfl
 have nT:aW c=false:=by
  unfold aW;rw [beq_eq_false_iff_ne.2 (bY 32 (by decide)).symm,beq_eq_false_iff_ne.2 (bY 9 (by decide)).symm,beq_eq_false_iff_ne.2 (bY 10 (by decide)).symm,beq_eq_false_iff_ne.2 (bY 13 (by decide)).symm];rfl
 have bb:s.drop k=c::(r++rest):=by rw [h,bh];rfl
 rw [kD];simp only;rw [gG bb nT,cx bb (bY 110 (by decide)),cx bb (bY 116 (by decide)),cx bb (bY 102 (by decide)),cx bb (bY 34 (by decide)),cx bb (bY 91 (by decide)),cx bb (bY 123 (by decide))];simp only [Bool.false_eq_true,if_false,Bool.or_self];rw [It b3 h1 h bl]
theorem tH (t:aa):cv t=34::(c7 t ++ [34]):=rfl
theorem WJ {deep:Nat} {t:aa} (bK:ck t=true):HN (JV.aN t) deep (cv t):=by
 refine⟨⟨34,_,tH t,by decide,by decide,by decide⟩,fun s k rest h _=>⟨1,?_⟩⟩;have bb:s.drop k=34::(c7 t ++ [34]++rest):=by rw [h,tH];rfl
 rw [kD];simp only;rw [gG bb rfl,cx bb (by decide),cx bb (by decide),cx bb (by decide)];simp only [Bool.false_eq_true,if_false];rw [if_pos (gl.2 (dJ bb).1),BS bK h]
theorem BT {s t rest:aa} {k:Nat} {m:List (aa×JV)} (bK:ck t=true) (cj:look m t=none) (h:s.drop k=cv t++58::rest):jT s k m = .ok (t,k+(cv t).length+1):=by
 have bb:s.drop k=34::(c7 t ++ [34]++58::rest):=by rw [h,tH];rfl
 have aq:s.drop (k+(cv t).length)=58::rest:=me h;unfold jT;rw [gG bb rfl,BS bK h];simp only;rw [cj,if_neg (by simp),gG aq rfl,if_pos (gl.2 (dJ aq).1)]
def P9 (l:List JV) (deep:Nat) (t:aa):Prop:=∀ s k acc rest,s.drop k=t++93::rest→∃ f,qE f s k (deep+1) acc=some (.ok (JV.cT (acc++l),k+t.length+1))
theorem P' {x:JV} {deep:Nat} {t:aa} (h:HN x (deep+1) t):P9 [x] deep t:=fun s k acc rest bb=>by
 obtain⟨f,dK⟩:=h.2 s k _ bb (fun c bh=>by simp at bh;subst bh;rfl);refine⟨f+1,?_⟩;have aq:s.drop (k+t.length)=93::rest:=me bb;rw [qE,dK];simp only;rw [gG aq rfl,if_pos (gl.2 (dJ aq).1)]
theorem Mv {x:JV} {l:List JV} {deep:Nat} {t t':aa} (h:HN x (deep+1) t) (fh:P9 l deep t'):P9 (x::l) deep (t ++ [44]++t'):=fun s k acc rest bb=>by
 have jr:s.drop k=t++44::(t'++93::rest):=by rw [bb];simp
 obtain⟨f,dK⟩:=h.2 s k _ jr (fun c bh=>by simp at bh;subst bh;rfl);have aq:s.drop (k+t.length)=44::(t'++93::rest):=me jr;obtain⟨g,dv⟩:=fh s (k+t.length+1) (acc ++ [x]) rest (dJ aq).2;refine⟨max f g+1,?_⟩;rw [qE,xX dK (Nat.le_max_left f g)];simp only;rw [gG aq rfl,cx aq (by decide),if_neg (by simp),if_pos (gl.2 (dJ aq).1),WE dv (Nat.le_max_right f g)];simp only [List.append_assoc,List.singleton_append,List.length_append,List.length_cons,List.length_nil,Option.some.injEq,Except.ok.injEq,Prod.mk.injEq,true_and];omega
def Qa (m:List (aa×JV)) (deep:Nat) (t:aa):Prop:=∀ s k m0 rest,s.drop k=t++125::rest→(∀ p∈m0,∀ q∈m,eQ p.1 q.1=true)→en m0→∃ f,qF f s k (deep+1) m0=some (.ok (JV.obj (m0++m),k+t.length+1))
theorem zb {m0:List (aa×JV)} {t:aa} {x:JV} (h:∀ p∈m0,eQ p.1 t=true):dA m0 t x=m0 ++ [(t,x)]∧look m0 t=none:=by
 constructor
 ·unfold dA;rw [List.filter_eq_self.2 h,List.filter_eq_nil_iff.2 (fun p cn e=>by
   have h1:=h p cn;have:=gi h1 e;rw [dc] at this;cases this)]
  simp
 refine hQ fun j y aZ e=>?_;have:=h y (List.mem_of_getElem? aZ);rw [e,dc] at this;cases this
theorem Qb {m0:List (aa×JV)} {t:aa} {x:JV} (ay:en m0) (h:∀ p∈m0,eQ p.1 t=true):en (m0 ++ [(t,x)]):=by
 rw [← (zb (x:=x) h).1];exact qd ay
theorem Qc {x:aa×JV} {deep:Nat} {t:aa} (bK:ck x.1=true) (h:HN x.2 (deep+1) t):Qa [x] deep (cv x.1 ++ [58]++t):=fun s k m0 rest bb hm ay=>by
 have jr:s.drop k=cv x.1++58::(t++125::rest):=by rw [bb];simp
 obtain⟨cn,cg⟩:=zb (x:=x.2) (fun p cn=>hm p cn x (by simp));have aT:s.drop (k+(cv x.1).length+1)=t++125::rest:=(dJ (me jr)).2;obtain⟨f,dK⟩:=h.2 s _ _ aT (fun c bh=>by simp at bh;subst bh;rfl);have aq:s.drop (k+(cv x.1).length+1+t.length)=125::rest:=me aT;refine⟨f+1,?_⟩;rw [qF,BT bK cg jr];simp only;rw [dK];simp only;rw [gG aq rfl,if_pos (gl.2 (dJ aq).1),cn];simp only [List.length_append,List.length_cons,List.length_nil,Option.some.injEq,Except.ok.injEq,Prod.mk.injEq,true_and];omega
theorem Mw {x:aa×JV} {m:List (aa×JV)} {deep:Nat} {t t':aa} (bK:ck x.1=true) (ae:∀ q∈m,eQ x.1 q.1=true) (h:HN x.2 (deep+1) t) (fh:Qa m deep t'):Qa (x::m) deep (cv x.1 ++ [58]++t ++ [44]++t'):=fun s k m0 rest bb hm ay=>by
 have jr:s.drop k=cv x.1++58::(t++44::(t'++125::rest)):=by rw [bb];simp
 have agp:∀ p∈m0,eQ p.1 x.1=true:=fun p cn=>hm p cn x (by simp);obtain⟨cn,cg⟩:=zb (x:=x.2) agp;have aT:s.drop (k+(cv x.1).length+1)=t++44::(t'++125::rest):=(dJ (me jr)).2;obtain⟨f,dK⟩:=h.2 s _ _ aT (fun c bh=>by simp at bh;subst bh;rfl);have aq:s.drop (k+(cv x.1).length+1+t.length)=44::(t'++125::rest):=me aT;obtain⟨g,dv⟩:=fh s (k+(cv x.1).length+1+t.length+1) (m0 ++ [(x.1,x.2)]) rest (dJ aq).2 (fun p cn q e2=>by
  rcases List.mem_append.1 cn with cn | cn
  ·exact hm p cn q (by simp [e2])
  simp only [List.mem_singleton] at cn;subst cn;exact ae q e2) (Qb ay agp)
 refine⟨max f g+1,?_⟩;rw [qF,BT bK cg jr];simp only;rw [xX dK (Nat.le_max_left f g)];simp only;rw [gG aq rfl,cx aq (by decide),if_neg (by simp),if_pos (gl.2 (dJ aq).1),cn,WG dv (Nat.le_max_right f g)];simp only [List.append_assoc,List.singleton_append,List.length_append,List.length_cons,List.length_nil,Option.some.injEq,Except.ok.injEq,Prod.mk.injEq,true_and,List.cons_append,List.nil_append];omega
theorem Qd {deep:Nat} (bV:deep≠32):HN (JV.cT []) deep [91,93]:=by
 refine⟨⟨91,_,rfl,by decide,by decide,by decide⟩,fun s k rest h _=>⟨1,?_⟩⟩;have bb:s.drop k=91::(93::rest):=h;have aq:=(dJ bb).2;rw [kD];simp only;rw [gG bb rfl,cx bb (by decide),cx bb (by decide),cx bb (by decide),cx bb (by decide)];simp only [Bool.false_eq_true,if_false];rw [gl.2 (dJ bb).1,Bool.true_or,if_pos rfl,if_neg bV,if_pos rfl,gG aq rfl,if_pos (gl.2 (dJ aq).1)];rfl
theorem Qe {deep:Nat} (bV:deep≠32):HN (JV.obj []) deep [123,125]:=by
 refine⟨⟨123,_,rfl,by decide,by decide,by decide⟩,fun s k rest h _=>⟨1,?_⟩⟩;have bb:s.drop k=123::(125::rest):=h;have aq:=(dJ bb).2;rw [kD];simp only;rw [gG bb rfl,cx bb (by decide),cx bb (by decide),cx bb (by decide),cx bb (by decide),cx (d:=91) bb (by decide)];simp only [Bool.false_eq_true,if_false];rw [gl.2 (dJ bb).1,Bool.or_true,if_pos rfl,if_neg bV,gG aq rfl,if_pos (gl.2 (dJ aq).1)];rfl
theorem WK {l:List JV} {deep:Nat} {c:UInt8} {r:aa} (bV:deep≠32) (bh:P7 c) (h:P9 l deep (c::r)):HN (JV.cT l) deep (91::((c::r) ++ [93])):=by
 refine⟨⟨91,_,rfl,by decide,by decide,by decide⟩,fun s k rest bb _=>?_⟩;have jr:s.drop k=91::((c::r)++93::rest):=by rw [bb];simp
 have aq:=(dJ jr).2;obtain⟨f,dK⟩:=h s (k+1) [] rest aq;refine⟨f+1,?_⟩;have Ds:s.drop (k+1)=c::(r++93::rest):=aq;rw [kD];simp only;rw [gG jr rfl,cx jr (by decide),cx jr (by decide),cx jr (by decide),cx jr (by decide)];simp only [Bool.false_eq_true,if_false];rw [gl.2 (dJ jr).1,Bool.true_or,if_pos rfl,if_neg bV,if_pos rfl,gG Ds bh.1,cx Ds bh.2.1.symm,if_neg (by simp),dK];simp only [List.nil_append,List.length_append,List.length_cons,List.length_nil,Option.some.injEq,Except.ok.injEq,Prod.mk.injEq,true_and];omega
theorem WL {m:List (aa×JV)} {deep:Nat} {c:UInt8} {r:aa} (bV:deep≠32) (bh:P7 c) (h:Qa m deep (c::r)):HN (JV.obj m) deep (123::((c::r) ++ [125])):=by
 refine⟨⟨123,_,rfl,by decide,by decide,by decide⟩,fun s k rest bb _=>?_⟩;have jr:s.drop k=123::((c::r)++125::rest):=by rw [bb];simp
 have aq:=(dJ jr).2;obtain⟨f,dK⟩:=h s (k+1) [] rest aq (by simp) List.Pairwise.nil;refine⟨f+1,?_⟩;have Ds:s.drop (k+1)=c::(r++125::rest):=aq;rw [kD];simp only;rw [gG jr rfl,cx jr (by decide),cx jr (by decide),cx jr (by decide),cx jr (by decide),cx (d:=91) jr (by decide)];simp only [Bool.false_eq_true,if_false];rw [gl.2 (dJ jr).1,Bool.or_true,if_pos rfl,if_neg bV,gG Ds bh.1,cx Ds bh.2.2.symm,if_neg (by simp),dK];simp only [List.nil_append,List.length_append,List.length_cons,List.length_nil,Option.some.injEq,Except.ok.injEq,Prod.mk.injEq,true_and];omega
theorem xb {b s fb:aa} (h:e8 b s = .ok fb):ck s=true∧fb=b++cv s:=by
 unfold e8 at h
 split at h
 ·cases h
 split at h
 ·rename_i bK
  exact⟨bK,(fk h).1⟩
 cases h
theorem Iw {s:aa} (h:∀ c:aa,(c++cv s).length≤65536→e8 c s = .ok (c++cv s)) (cg:(cv s).length≤65536):ck s=true:=(xb (h [] (by simpa using cg))).1
namespace JV
theorem Mx {v:JV} (h:v.list.length=0):v.list = []:=List.eq_nil_of_length_eq_zero h
theorem map_nil {v:JV} (h:v.map.length=0):v.map = []:=List.eq_nil_of_length_eq_zero h
theorem mV {v:JV} (h:v.bare=true):(v.kind=1∨v.is=false)∧(v.kind=2∨v.num=0)∧(v.kind=3∨v.str = [])∧(v.kind=4∨v.list = [])∧(v.kind=5∨v.map = []):=by
 unfold bare at h;simp only [Bool.and_eq_true,Bool.or_eq_true,decide_eq_true_eq,Bool.not_eq_true',decide_eq_false_iff_not] at h;obtain⟨⟨⟨⟨⟨⟨b3,h1⟩,aq⟩,aT⟩,bL⟩,cN⟩,eU⟩:=h;exact⟨h1,aq,aT,bL.imp id Mx,cN.imp id map_nil⟩
theorem mk_eq {v:JV} {k n:Int} {i:Bool} {s:aa} {l:List JV} {m:List (aa×JV)} (h1:v.kind=k) (aq:v.is=i) (aT:v.num=n) (bL:v.str=s) (cN:v.list=l) (eU:v.map=m):v = .mk k i n s l m:=by
 rw [eta v,h1,aq,aT,bL,cN,eU]
end JV
theorem nU {b t fb:aa} (h:ct (b++t) = .ok fb):fb=b++t:=(fk h).1
theorem FJ {N:Nat} (dF:∀ (v:JV) (deep:Nat) (b fb:aa),v.sz≤N→JV.wr v deep b = .ok fb→∃ t,fb=b++t∧HN v deep t) :
  ∀ (x:JV) (l:List JV) (deep:Nat) (fst:Bool) (b fb:aa),(∀ y∈x::l,y.sz≤N)→JV.hJ (x::l) deep fst b = .ok fb→∃ t,fb=b++(if fst then [] else [44])++t∧(∃ c r,t=c::r∧P7 c)∧P9 (x::l) deep t
 | x,l,deep,fst,b,fb,h5,h=>by
  rw [JV.kX] at h
  obtain⟨dm,h1,h⟩:=dr h
  obtain⟨eI,aq,h⟩:=dr h
  obtain⟨t,rfl,aQ⟩:=dF _ _ _ _ (h5 x (by simp)) aq
  have bk:dm=b++(if fst then [] else [44]):=by
   cases fst with
   | true=>injection h1 with h1;subst h1;simp
   | false=>exact nU h1
  subst bk
  cases l with
  | nil=>
   rw [JV.hJ] at h
   injection h with h
   exact⟨t,h.symm,aQ.1,P' aQ⟩
  | cons y l=>
   obtain⟨t',rfl,_,tI⟩:=FJ dF y l deep false _ _ (fun z di=>h5 z (by simp [List.mem_cons.1 di])) h
   refine⟨t ++ [44]++t',by simp,?_,Mv aQ tI⟩
   obtain⟨c,r,rfl,bh⟩:=aQ.1
   exact⟨c,_,rfl,bh⟩
theorem FK {N:Nat} (dF:∀ (v:JV) (deep:Nat) (b fb:aa),v.sz≤N→JV.wr v deep b = .ok fb→∃ t,fb=b++t∧HN v deep t) :
  ∀ (x:aa×JV) (m:List (aa×JV)) (deep:Nat) (prev:Option aa) (b fb:aa),fb.length≤65536→(∀ y∈x::m,y.2.sz≤N)→JV.ff (x::m) deep prev b = .ok fb→∃ t,fb=b++JV.comma prev++t∧(∃ c r,t=c::r∧P7 c)∧Qa (x::m) deep t
 | x,m,deep,prev,b,fb,cg,h5,h=>by
  obtain⟨_,eI,aq,aT,cc,e2⟩:=JV.uJ h
  have bK:ck x.1=true:=Iw cc (by simp only [List.length_append] at e2 ⊢;omega)
  obtain⟨t,rfl,aQ⟩:=dF _ _ _ _ (h5 x (by simp)) aq
  cases m with
  | nil=>
   rw [JV.ff] at aT
   injection aT with aT
   exact⟨cv x.1 ++ [58]++t,by rw [← aT];simp,⟨34,_,rfl,by decide,by decide,by decide⟩,Qc bK aQ⟩
  | cons y m=>
   have ae:=(JV.uK _ _ _ _ _ aT).2 x.1 rfl
   obtain⟨t',rfl,_,tI⟩:=FK dF y m deep (some x.1) _ _ cg (fun z di=>h5 z (by simp [List.mem_cons.1 di])) aT
   exact⟨cv x.1 ++ [58]++t ++ [44]++t',by simp [JV.comma],⟨34,_,rfl,by decide,by decide,by decide⟩,Mw bK ae aQ tI⟩
theorem BU:∀ (N:Nat) (v:JV) (deep:Nat) (b fb:aa),v.sz≤N→JV.wr v deep b = .ok fb→∃ t,fb=b++t∧HN v deep t
 | 0,v,_,_,_,h,_=>absurd (JV.oq v) (by omega)
 | N+1,v,deep,b,fb,h5,h=>by
  have dF:=BU N
  have hlen:fb.length≤65536:=(JV.fit h).elim fun t cc=>cc.2.1
  rw [JV.dI] at h
  split at h
  ·cases h
  rename_i aQ
  have aQ:v.bare=true:=by simpa using aQ
  have lF:=@JV.qI v aQ
  obtain⟨Ou,Ix,KD,HO,FL⟩:=JV.mV aQ
  split at h
  ·rename_i rb
   obtain rfl:v=JV.gN:=JV.mk_eq rb (Ou.resolve_left (by omega)) (Ix.resolve_left (by omega)) (KD.resolve_left (by omega)) (HO.resolve_left (by omega)) (FL.resolve_left (by omega))
   exact⟨_,nU h,WH⟩
  rename_i rb
  split at h
  ·rename_i dX
   cases hi:v.is with
   | true=>
    obtain rfl:v = .mk 1 true 0 [] [] []:=JV.mk_eq dX hi (Ix.resolve_left (by omega)) (KD.resolve_left (by omega)) (HO.resolve_left (by omega)) (FL.resolve_left (by omega))
    exact⟨_,nU h,P8⟩
   | false=>
    obtain rfl:v = .mk 1 false 0 [] [] []:=JV.mk_eq dX hi (Ix.resolve_left (by omega)) (KD.resolve_left (by omega)) (HO.resolve_left (by omega)) (FL.resolve_left (by omega))
    exact⟨_,nU h,Mu⟩
  rename_i dX
  split at h
  ·rename_i j3
   obtain⟨HM,rB⟩:=vU aQ j3
   have bK:v=JV.hl v.num:=JV.mk_eq j3 (Ou.resolve_left (by omega)) rfl (KD.resolve_left (by omega)) (HO.resolve_left (by omega)) (FL.resolve_left (by omega))
   rw [bK]
   exact⟨_,nU h,WI HM rB⟩
  rename_i j3
  split at h
  ·rename_i vL
   have bK:v=JV.aN v.str:=JV.mk_eq vL (Ou.resolve_left (by omega)) (Ix.resolve_left (by omega)) rfl (HO.resolve_left (by omega)) (FL.resolve_left (by omega))
   obtain⟨h1,aq⟩:=xb h
   rw [bK]
   exact⟨_,aq,WJ h1⟩
  rename_i vL
  split at h
  ·cases h
  rename_i bV
  split at h
  ·rename_i ug
   have bK:v=JV.cT v.list:=JV.mk_eq ug (Ou.resolve_left (by omega)) (Ix.resolve_left (by omega)) (KD.resolve_left (by omega)) rfl (FL.resolve_left (by omega))
   obtain⟨dm,h1,aT⟩:=dr h
   obtain⟨eI,aq,bL⟩:=dr aT
   have bk:=nU h1
   have HP:=nU bL
   clear aT bL h1 h
   subst bk
   subst HP
   have ij:∀ y∈v.list,y.sz≤N:=fun y aZ=>by have:=JV.gL aZ;omega
   rw [bK]
   cases cg:v.list with
   | nil=>
    rw [cg,JV.hJ] at aq
    injection aq with aq
    subst aq
    exact⟨[91,93],by simp,Qd bV⟩
   | cons x l=>
    rw [cg] at aq ij
    obtain⟨t,rfl,⟨c,r,rfl,bh⟩,ef⟩:=FJ dF x l deep true _ _ ij aq
    exact⟨91::((c::r) ++ [93]),by simp,WK bV bh ef⟩
  rename_i ug
  have AL:v.kind=5:=by omega
  have bK:v=JV.obj v.map:=JV.mk_eq AL (Ou.resolve_left (by omega)) (Ix.resolve_left (by omega)) (KD.resolve_left (by omega)) (HO.resolve_left (by omega)) rfl
  obtain⟨dm,h1,aT⟩:=dr h
  obtain⟨eI,aq,bL⟩:=dr aT
  have bk:=nU h1
  have HP:=nU bL
  clear aT bL h1 h
  subst bk
  subst HP
  have ij:∀ y∈v.map,y.2.sz≤N:=fun y aZ=>by have:=JV.gp aZ;omega
  rw [bK]
  cases cg:v.map with
  | nil=>
   rw [cg,JV.ff] at aq
   injection aq with aq
   subst aq
   exact⟨[123,125],by simp,Qe bV⟩
  | cons x m=>
   rw [cg] at aq ij
   obtain⟨t,rfl,⟨c,r,rfl,bh⟩,ef⟩:=FK dF x m deep none _ _ (by simp only [List.length_append] at hlen ⊢;omega) ij aq
   exact⟨123::((c::r) ++ [125]),by simp [JV.comma],WL bV bh ef⟩
theorem WM {s:aa} {f:Nat} {r:A6} (h:kD f s 0 0=some r):Ir s=r:=P6 (KB s) h
theorem BV {v:JV} {t:aa} (h:v.wr 0 [] = .ok t):parse t = .ok v:=by
 obtain⟨t',e,ef⟩:=BU v.sz v 0 [] t (Nat.le_refl _) h;rw [List.nil_append] at e;subst e;have hlen:t.length≤65536:=(JV.fit h).elim fun t cc=>cc.2.1;obtain⟨f,dK⟩:=ef.2 t 0 [] (by simp) (fun c bh=>by simp at bh);unfold parse;rw [if_neg (by omega),WM dK];simp only;rw [kW (by omega),if_neg (by omega)]
end Go.Proofs.YtnihidkbkhcfoaaGreatDoor.V
set_option maxRecDepth 10000
namespace Go.Proofs.YtnihidkbkhcfoaaGreatDoor.V
open Go Go.Proofs
end Go.Proofs.YtnihidkbkhcfoaaGreatDoor.V
set_option maxRecDepth 100000
namespace Go.Proofs.YtnihidkbkhcfoaaGreatDoor.V
open Go Go.Proofs Go.Lib
theorem Fw:Go.Pinned.utf8First=Lib.firstData:=by kernel_rfl
theorem Mk:(Go.Proofs.YtnihidkbkhcfoaaGreatDoor.Rows.laid_unicode_utf8_acceptRanges:DataW Unit)=Lib.acceptData:=by kernel_rfl
theorem agb {W:World} (aT:VarReads Tryz.prog W "unicode/utf8.first" Lib.firstData) (bL:VarReads Tryz.prog W "unicode/utf8.acceptRanges" Lib.acceptData):xF W:=
 utf8Tabs_of_reads (P:=Tryz.prog) (ρ:=Tryz.uD) {Tryz.yV with} ⟨by kernel_rfl,by kernel_rfl,by kernel_rfl,by kernel_rfl,by kernel_rfl,by kernel_rfl,by kernel_rfl⟩ aT bL
theorem Fx {P:Program} {rB:String} {d1:DataW Unit} {rest:List (String×DataW Unit)} {W:World} (h:laidMet P ((rB,d1)::rest) W):laidMet P rest W:=by
 obtain⟨h9,⟨g,t,cs,fuel,p,q,_,_,_,_,e2,rfl⟩,cj,bh⟩:=h;exact⟨q,e2,(List.nodup_append.1 cj).2.1,fun b off aQ=>bh b off (List.mem_append_right _ aQ)⟩
theorem PT {W:World} {n aqn:String} {d:DataW Unit} {g t:Nat} {ms:Array (String×TypeId)} (h:VarReads Tryz.prog W n (.iface aqn d)) (dv:Tryz.prog.globalNamed n=some g) (aZ:(Tryz.prog.globals[g]?).map (·.type)=some t) (cc:Tryz.prog.underlying t=some (.interface ms)):∃ u v,W.cell? ⟨g,0,none⟩=some (.iface u v):=by
 obtain⟨EB,t',cs,fuel,p,h1,aq,aT,bL⟩:=h;rw [dv] at h1;injection h1 with h1
 subst h1;rw [aZ] at aq;injection aq with aq
 subst aq;have tC:∃ u v,cs.toList = [.iface u v]:=by
  cases fuel with
  | zero=>simp [DataW.trod] at bL
  | succ fuel=>
   unfold DataW.trod at bL;simp only [cc] at bL
   split at bL <;> first | (exact⟨_,_,by assumption⟩) | (simp at bL;done) | (rename_i bk bZ;exact⟨_,_,bZ⟩) | simp_all
 obtain⟨u,v,tC⟩:=tC;refine⟨u,v,?_⟩;unfold World.var? at aT;rw [dv] at aT;simp only [Option.bind_some] at aT;unfold World.cell?
 split at aT
 ·rename_i c t f ik
  injection aT with aT
  subst aT;rw [ik];have:c = #[.iface u v]:=by rw [← Array.toList_inj];exact tC
  subst this;rfl
 cases aT
theorem abA {W:World} (h:laidMet Tryz.prog Go.Proofs.YtnihidkbkhcfoaaGreatDoor.Rows.jsonTellsRow.laid W):Env W:=by
 have iJ:xF W:=agb (Fw▸laidMet.reads h (.tail _ (.tail _ (.tail _ (.tail _ (.tail _ (.tail _ (.head _)))))))) (Mk▸laidMet.reads h (.tail _ (.tail _ (.tail _ (.head _)))));have iQ:=PT (g:=3) (laidMet.reads h (.tail _ (.tail _ (.tail _ (.tail _ (.head _)))))) (by kernel_rfl) (by kernel_rfl) kM;have mI:=PT (g:=2) (laidMet.reads h (.tail _ (.tail _ (.tail _ (.tail _ (.tail _ (.head _))))))) (by kernel_rfl) (by kernel_rfl) kM;obtain⟨gj,v1,h1⟩:=iQ;obtain⟨jw,v2,aq⟩:=mI;refine⟨?_,iJ,⟨⟨_,aq,.inr ⟨_,_,rfl⟩⟩,⟨_,h1,.inr ⟨_,_,rfl⟩⟩⟩,?_⟩
 ·exact Lib.tabIs_of_head (rest:=_) Py (by kernel_rfl) Tryz.underlying245 Tryz.underlying154 (by kernel_rfl) (by kernel_rfl) (Fx (Fx h))
 have b3:=(iJ.2 0 (by decide)).1;rcases Nat.lt_or_ge 6 W.heap.size with cg | cg
 ·exact cg
 unfold World.cell? at b3;rw [Array.getElem?_eq_none cg] at b3;cases b3
end Go.Proofs.YtnihidkbkhcfoaaGreatDoor.V
set_option maxRecDepth 10000
namespace Go.Proofs.YtnihidkbkhcfoaaGreatDoor.V
open Go Go.Proofs
section
variable {H:Type} {enc:TypeId×Value→H} {w:World}
theorem Za (n:Nat):gZ enc Tryz.prog w n 25 JV.D JV.ok:=by
 induction n using Nat.strongRecOn with
 | ind n dF=>
  cases n with
  | zero=>exact gZ.zero
  | succ n=>
   have cg:gZ enc Tryz.prog w n 22 (fun xs:List JV=>[.ia 6 (xs.map JV.D)]) (fun xs=>(∀ x∈xs,x.ok)∧xs.length*88≤140737488351232):=by
    cases n with
    | zero=>exact gZ.zero
    | succ n=>exact qU Tryz.underlying22 (by kernel_rfl) (by kernel_rfl) (by decide) (dF n (by omega))
   have hm:gZ enc Tryz.prog w n 23 (fun xs:List (List UInt8×JV)=>[.ia 7 (xs.map JV.hP)]) (fun xs=>(∀ x∈xs,x.1.length≤140737488351232∧x.2.ok)∧xs.length*104≤140737488351232):=by
    cases n with
    | zero=>exact gZ.zero
    | succ n=>
     refine qU Tryz.underlying23 (by kernel_rfl) (by kernel_rfl) (by decide) ?_;cases n with
     | zero=>exact gZ.zero
     | succ n=>
      exact gZ.to (pC (tot:=7) Tryz.underlying51 (by kernel_rfl) (dV (k:=1) rfl (by kernel_rfl) (jY Tryz.underlying9) (dV (k:=6) rfl (by kernel_rfl) (dF n (by omega)) va))) (fun p=>(p.1,p.2.1)) (fun p=>by simp [JV.hP]) (fun p h=>⟨h.1,h.2.1⟩)
   refine gZ.to (pC (tot:=6) Tryz.underlying25 (by kernel_rfl) (dV (k:=1) rfl (by kernel_rfl) (u' Tryz.underlying3) (dV (k:=1) rfl (by kernel_rfl) (Cl Tryz.underlying4) (dV (k:=1) rfl (by kernel_rfl) (u' Tryz.underlying3) (dV (k:=1) rfl (by kernel_rfl) (jY Tryz.underlying9) (dV (k:=1) rfl (by kernel_rfl) cg (dV (k:=1) rfl (by kernel_rfl) hm va))))))) (fun p=>JV.mk p.1 p.2.1 p.2.2.1 p.2.2.2.1 p.2.2.2.2.1 p.2.2.2.2.2.1) (fun p=>by rw [JV.Gb];rfl) (fun p h=>?_);obtain⟨h1,aq,aT,bL,cN,eU,_⟩:=h;rw [JV.ok_eq];refine⟨bL,?_,?_,cN.1,eU.1⟩
   ·have:=cN.2;show p.2.2.2.2.1.length≤_;omega
   have:=eU.2;show p.2.2.2.2.2.1.length≤_;omega
theorem CA (n:Nat):gZ enc Tryz.prog w n 26 (fun xs:List aa=>[mQ xs]) (fun xs=>(∀ x∈xs,x.length≤140737488351232)∧xs.length*16≤140737488351232):=by
 cases n with
 | zero=>exact gZ.zero
 | succ n=>exact qU Tryz.underlying26 (by kernel_rfl) (by kernel_rfl) (by decide) (jY Tryz.underlying9)
theorem Tf (n:Nat):gZ enc Tryz.prog w n 92 (fun x:dQ=>(dQ.cells x).map D.v) (fun x=>x.db.length≤140737488351232∧x.key.length≤140737488351232∧x.sig.length≤140737488351232):=by
 cases n with
 | zero=>exact gZ.zero
 | succ n=>exact gZ.to (pC (tot:=3) Tryz.underlying92 (by kernel_rfl) (dV (k:=1) rfl (by kernel_rfl) (jY Tryz.underlying9) (dV (k:=1) rfl (by kernel_rfl) (jY Tryz.underlying9) (dV (k:=1) rfl (by kernel_rfl) (jY Tryz.underlying9) va)))) (fun p=>⟨p.1,p.2.1,p.2.2.1⟩) (fun _=>rfl) (fun p h=>⟨h.1,h.2.1,h.2.2.1⟩)
theorem NV (n:Nat):gZ enc Tryz.prog w n 27 (fun xs:List dQ=>[flat 3 dQ.cells xs]) (fun xs=>(∀ x∈xs,x.db.length≤140737488351232∧x.key.length≤140737488351232∧x.sig.length≤140737488351232)∧xs.length*48≤140737488351232):=by
 cases n with
 | zero=>exact gZ.zero
 | succ n=>exact qU Tryz.underlying27 (by kernel_rfl) (by kernel_rfl) (by decide) (Tf n)
theorem Wv (n:Nat):gZ enc Tryz.prog w n 29 EV.D EV.ok:=by
 cases n with
 | zero=>exact gZ.zero
 | succ n=>
  refine gZ.to (pC (tot:=17) Tryz.underlying29 (by kernel_rfl) (dV (k:=1) rfl (by kernel_rfl) (jY Tryz.underlying9) (dV (k:=1) rfl (by kernel_rfl) (jY Tryz.underlying9) (dV (k:=1) rfl (by kernel_rfl) (jY Tryz.underlying9) (dV (k:=1) rfl (by kernel_rfl) (Cl Tryz.underlying4) (dV (k:=1) rfl (by kernel_rfl) (jY Tryz.underlying9) (dV (k:=6) rfl (by kernel_rfl) (Za n) (dV (k:=1) rfl (by kernel_rfl) (CA n) (dV (k:=1) rfl (by kernel_rfl) (CA n) (dV (k:=1) rfl (by kernel_rfl) (u' Tryz.underlying3) (dV (k:=1) rfl (by kernel_rfl) (u' Tryz.underlying3) (dV (k:=1) rfl (by kernel_rfl) (jY Tryz.underlying9) (dV (k:=1) rfl (by kernel_rfl) (NV n) va))))))))))))) (fun p=>EV.mk p.1 p.2.1 p.2.2.1 p.2.2.2.1 p.2.2.2.2.1 p.2.2.2.2.2.1 p.2.2.2.2.2.2.1 p.2.2.2.2.2.2.2.1 p.2.2.2.2.2.2.2.2.1 p.2.2.2.2.2.2.2.2.2.1 p.2.2.2.2.2.2.2.2.2.2.1 p.2.2.2.2.2.2.2.2.2.2.2.1) (fun p=>?_) (fun p h=>?_)
  ·simp only [EV.D,List.cons_append,List.nil_append,List.append_nil,List.append_assoc]
  obtain⟨h1,aq,aT,_,cN,eU,kB,kt,_,_,vP,vT,_⟩:=h;exact⟨h1,aq,aT,cN,eU,kB.1,by have:=kB.2;dsimp only;omega,kt.1,by have:=kt.2;dsimp only;omega,vP,vT.1,by have:=vT.2;dsimp only;omega⟩
end
end Go.Proofs.YtnihidkbkhcfoaaGreatDoor.V
namespace Go.Proofs.YtnihidkbkhcfoaaGreatDoor.V
open Go
theorem B2 {l:List (aa×JV)}:(JV.obj l).bare=true:=by
 simp [JV.bare,JV.obj,JV.kind,JV.is,JV.num,JV.str,JV.list,JV.map]
end Go.Proofs.YtnihidkbkhcfoaaGreatDoor.V
set_option maxRecDepth 10000
namespace Go.Proofs.YtnihidkbkhcfoaaGreatDoor.V
open Go Go.Proofs
theorem su (v:JV):JV.p0 v v=true:=JV.ui.2 rfl
end Go.Proofs.YtnihidkbkhcfoaaGreatDoor.V
namespace Go.Proofs.YtnihidkbkhcfoaaGreatDoor.V
open Go
def oi (m:List (aa×JV)) (k:aa):List (aa×JV):=m.filter fun q=>decide (q.1≠k)
theorem Kd:∀ {m:List (aa×JV)} {p:Nat} {y:aa×JV},en m→m[p]? = some y→oi m y.1=m.take p++m.drop (p+1)
 | [],_,_,_,h=>by simp at h
 | a::r,0,y,ay,h=>by
  injection h with h
  subst h
  have bl:=(List.pairwise_cons.1 ay).1
  unfold oi
  rw [List.filter_cons,if_neg (by simp)]
  simp only [List.take_zero,List.nil_append,List.drop_succ_cons,List.drop_zero]
  exact List.filter_eq_self.2 fun b aQ=>decide_eq_true fun e=>by
   have:=bl b aQ
   rw [e,dc] at this
   cases this
 | a::r,p+1,y,ay,h=>by
  have fh:r[p]? = some y:=by simpa using h
  have dF:=Kd (List.pairwise_cons.1 ay).2 fh
  have bY:a.1≠y.1:=fun e=>by
   have:=(List.pairwise_cons.1 ay).1 y (List.mem_of_getElem? fh)
   rw [e,dc] at this
   cases this
  unfold oi at dF ⊢
  rw [List.filter_cons,if_pos (decide_eq_true bY),dF]
  simp
theorem LP {m:List (aa×JV)} {k:aa} (h:look m k=none):oi m k=m:=
 List.filter_eq_self.2 fun q e2=>decide_eq_true (tT h q e2)
theorem JV.LO {A:List Nat} {w:World} {m:List (aa×JV)} {vs:List Value} {i:Nat} (h:ao A w (m.map JV.hP).flatten vs) (hi:i<m.length) :
  ao A w ((m.take i++m.drop (i+1)).map JV.hP).flatten (vs.take (i*7)++vs.drop ((i+1)*7)):=by
 obtain⟨h1,_⟩:=ao.r5 (i:=i) (JV.qP m) (by simpa using Nat.le_of_lt hi) h
 obtain⟨_,aq⟩:=ao.r5 (i:=i+1) (JV.qP m) (by rw [List.length_map];omega) h
 rw [List.map_append,List.flatten_append,List.map_take,List.map_drop]
 exact h1.append aq
structure mE where
 rest:JV
 bad:Bool
def dR (t:mE) (k:aa) (kind:Int):JV×mE:=match t.rest.get k with
 | some x=>if x.kind=kind then (x,⟨JV.obj (oi t.rest.eS k),t.bad⟩)else (JV.gN,⟨t.rest,true⟩)
 | none=>(JV.gN,⟨t.rest,true⟩)
def Jn (t:mE) (k:aa):List aa×mE:=((dR t k 4).1.list.map JV.str,⟨(dR t k 4).2.rest,(dR t k 4).2.bad||(dR t k 4).1.list.any fun x=>decide (x.kind≠3)⟩)
theorem qp {t:mE} {k:aa} {kind:Int} (h:t.rest.get k=none):dR t k kind=(JV.gN,⟨t.rest,true⟩):=by unfold dR;rw [h]
theorem qn {t:mE} {k:aa} {kind:Int} {x:JV} (h:t.rest.get k=some x) (hk:x.kind≠kind):dR t k kind=(JV.gN,⟨t.rest,true⟩):=by unfold dR;rw [h];simp only;rw [if_neg hk]
theorem qo {t:mE} {k:aa} {kind:Int} {x:JV} (h:t.rest.get k=some x) (hk:x.kind=kind):dR t k kind=(x,⟨JV.obj (oi t.rest.eS k),t.bad⟩):=by unfold dR;rw [h];simp only;rw [if_pos hk]
def mE.fit (t:mE):Prop:=en t.rest.map∧t.rest.map.length≤1000000∧∀ p∈t.rest.map,p.2.list.length≤1000000∧en p.2.map∧p.2.map.length≤1000000
theorem mE.z6 {t:mE} (h:t.fit):en t.rest.eS∧t.rest.eS.length≤1000000:=by
 unfold JV.eS
 split
 ·exact⟨h.1,h.2.1⟩
 exact⟨List.Pairwise.nil,by simp⟩
theorem mE.hx {t:mE} (h:t.fit) (k:aa) (kind:Int):(dR t k kind).2.fit:=by
 unfold dR
 split
 ·split
  ·obtain⟨h1,aq⟩:=mE.z6 h;refine⟨List.Pairwise.filter _ h1,Nat.le_trans (List.length_filter_le _ _) aq,fun p cn=>?_⟩;have tU:p∈t.rest.eS:=(List.mem_filter.1 cn).1;unfold JV.eS at tU
   split at tU
   ·exact h.2.2 p tU
   cases tU
  exact h
 exact h
theorem mE.GF {t:mE} (h:t.fit) (b:Bool):(⟨t.rest,b⟩:mE).fit:=h
theorem mE.GC {t:mE} (h:t.fit) (k:aa) (kind:Int):(dR t k kind).1.list.length≤1000000∧en (dR t k kind).1.map∧(dR t k kind).1.map.length≤1000000:=by
 have cj:JV.gN.list.length≤1000000∧en JV.gN.map∧JV.gN.map.length≤1000000:=⟨by simp [JV.gN,JV.list],List.Pairwise.nil,by simp [JV.gN,JV.map]⟩;cases dv:t.rest.get k with
 | none=>rw [qp dv];exact cj
 | some x=>
  by_cases hk:x.kind=kind
  ·rw [qo dv hk];exact h.2.2 _ (JV.wC dv)
  rw [qn dv hk];exact cj
end Go.Proofs.YtnihidkbkhcfoaaGreatDoor.V
set_option maxRecDepth 10000
namespace Go.Proofs.YtnihidkbkhcfoaaGreatDoor.V
open Go Go.Proofs
abbrev aow:Nat:=0
set_option maxRecDepth 10000
set_option maxRecDepth 10000
set_option maxRecDepth 10000
set_option maxRecDepth 10000
set_option maxRecDepth 10000
set_option maxRecDepth 10000
set_option maxRecDepth 10000
end Go.Proofs.YtnihidkbkhcfoaaGreatDoor.V
namespace Go.Proofs.YtnihidkbkhcfoaaGreatDoor.V
open Go
end Go.Proofs.YtnihidkbkhcfoaaGreatDoor.V
set_option maxRecDepth 10000
namespace Go.Proofs.YtnihidkbkhcfoaaGreatDoor.V
open Go Go.Proofs
set_option maxRecDepth 10000
end Go.Proofs.YtnihidkbkhcfoaaGreatDoor.V
namespace Go.Proofs.YtnihidkbkhcfoaaGreatDoor.V
open Go
section
variable {P:Program} {ops:Array Oper} {Q:Exit→Act→World→Prop} {n:Nat} {ds:List Deferred} {l:List (Nat×Value)} {w w':World} {a:Act}
variable {rest:List Oper} {d:Nat} {op:Op} {ty:TypeId} {pos:String} {af:Array Edge}
variable {dd:Option Nat} {gg:Option (Nat×Bool)} {x y z:Operand} {t t':TypeId}
theorem Oy {qQ e sz fZ N c k c':Nat} {ad:Addr} {u:Value} {vs news:List Value} (cc:ly P t e sz fZ=true) (O:Own w e sz (.slice (some ad) N c) N vs) (ae:a6 l x=some (.slice (some ad) k c)) (aZ:a6 l y=some u)
  (bb:Src P sz qQ u c' news w) (hk:k+c'≤N) (bV:Nat.blt d n=true)
  (h:∀ w',Own w' e sz (.slice (some ad) N c) N (vs.take (k*sz)++news++vs.drop ((k+c')*sz))→Mod [ad.block] w w'→w'.heap.size=w.heap.size→ga P ops Q rest n ds ((d,.slice (some ad) (k+c') c)::l) w') :
  ga P ops Q (⟨some d,.call {callee:=.builtin .append,args:=#[x,y],argTypes:=#[t,qQ]},ty,pos,af,none⟩::rest) n ds l w:=by
 obtain⟨i,z,h1,aq,aT,bL,cN,eU⟩:=il cc
 subst aT
 rcases O.2 with⟨b3,_⟩ | ⟨g,o,cap,cs,bK,ef,fA,gB,rY,pQ⟩
 ·cases b3
 injection bK with bk bZ kO
 injection bk with bk
 subst bk;subst kO
 have rm:=bb.newsLen
 have hle:(k+c')*i.size≤N*i.size:=Nat.mul_le_mul_right _ hk
 have Ca:N*i.size≤c*i.size:=Nat.mul_le_mul_right _ fA
 have nq:=O.1
 have aat:(k+c')*i.size=k*i.size+c'*i.size:=Nat.add_mul _ _ _
 have nr:k+c'≤c:=by omega
 obtain⟨aB,hG,cn⟩:=hv (P:=P) ef (o:=o+k*i.size) (vs:=news) (by rw [rm];omega) bb.one
 have bl:(Builtin.append_ #[t,qQ] ty #[.slice (some ⟨g,o,none⟩) k c,u]).run P w = .ok (.slice (some ⟨g,o,none⟩) (k+c') c) aB:=by
  rcases bb.kind with⟨w6,hk⟩ | hk <;> simp [Builtin.append_,run_underlying h1,run_underlying hk,sizeOf,typeInfo,aq,bb.len,nr,bb.cells,Addr.add_lit,hG]
 refine fN (v:=.slice (some ⟨g,o,none⟩) (k+c') c) (w':=aB) (fun ρ fc=>?_) bV (h aB ⟨?_,.inr ⟨g,o,c,_,rfl,cn.aA,fA,gB,by simp [splice];omega,?_⟩⟩ cn.mod cn.size)
 ·simp [execOp,resolve,invoke,builtin,fc _ _ ae,fc _ _ aZ,bl]
 ·simp only [List.length_append,List.length_take,List.length_drop,rm,nq]
  omega
 subst pQ
 apply List.ext_getElem?
 intro j
 simp only [splice,rm]
 simp only [List.getElem?_take,List.getElem?_drop,List.getElem?_append,List.length_append,List.length_take,List.length_drop,rm]
 repeat' split
 all_goals first
  | omega
  | rfl
  | (congr 1;omega)
theorem UO {ad:Option Addr} {c c' e sz fZ lo hi mx:Nat} {h fh Og:Operand} (cc:ly P t e sz fZ=true) (ae:a6 l x=some (.slice ad c c')) (cg:a6 l h=some (.int .i64 (lo:Int))) (ik:a6 l fh=some (.int .i64 (hi:Int))) (hm:a6 l Og=some (.int .i64 (mx:Int))) (aQ:lo≤hi∧hi≤mx∧mx≤c') :
  bF P l ⟨dd,.slice t x (some h) (some fh) (some Og),ty,pos,af,gg⟩ w (.slice (lY ad mx lo sz) (hi-lo) (mx-lo)) w:=fun ρ fc=>by
 obtain⟨i,z,h1,aq,aT,bL,cN,eU⟩:=il cc
 subst aT
 have s1:=run_sliceBound (P:=P) (w:=w) .i64 (mx:Int) c' .slice3Acap (by omega) (by omega)
 have s2:=run_sliceBound (P:=P) (w:=w) .i64 (hi:Int) mx .slice3B (by omega) (by omega)
 have arn:=run_sliceBound (P:=P) (w:=w) .i64 (lo:Int) hi .slice3C (by omega) (by omega)
 simp [execOp,Instr.sliceAt,Instr.slice,fc _ _ ae,fc _ _ cg,fc _ _ ik,fc _ _ hm,run_underlying h1,cM aq,Instr.sliceBounds,s1,s2,arn,lY]
end
theorem HR {vs:List Value} {n i sz:Nat} (cg:vs.length=n*sz) (hi:i<n) :
  (vs.take (i*sz)++(vs.drop ((i+1)*sz)).take ((n-(i+1))*sz)++vs.drop ((i+(n-(i+1)))*sz)).take ((i+(n-(i+1)))*sz)=vs.take (i*sz)++vs.drop ((i+1)*sz):=by
 have h1:(i+1)*sz+(n-(i+1))*sz=n*sz:=by rw [← Nat.add_mul];congr 1;omega
 have aq:(i+(n-(i+1)))*sz=i*sz+(n-(i+1))*sz:=Nat.add_mul _ _ _
 have aT:i*sz≤n*sz:=Nat.mul_le_mul_right _ (by omega)
 have bL:(vs.drop ((i+1)*sz)).take ((n-(i+1))*sz)=vs.drop ((i+1)*sz):=List.take_of_length_le (by rw [List.length_drop];omega)
 rw [bL]
 refine List.take_left' ?_
 rw [List.length_append,List.length_take,List.length_drop]
 omega
end Go.Proofs.YtnihidkbkhcfoaaGreatDoor.V
set_option maxRecDepth 10000
namespace Go.Proofs.YtnihidkbkhcfoaaGreatDoor.V
open Go Go.Proofs
theorem UN (w:World) (n i c:Nat) (ad:Addr) (vs:List Value) (O:Own w 51 7 (.slice (some ad) n c) n vs) (h1:∀ u∈vs,u.oneCell'=true) (hi:i<n) (cj:n≤1353245080310):Calls Tryz.prog 71 [.slice (some ad) n c,.int .i64 (i:Int),.int .i64 ((i+1:Nat):Int)].toArray w (bM fun u w'=>u = .slice (some ad) (i+(n-(i+1))) c∧Own w' 51 7 u (n-1) (vs.take (i*7)++vs.drop ((i+1)*7))∧Mod [ad.block] w w'):=by
 refine enter Tryz.func71 rfl rfl rfl (l:=[(0,_),(1,_),(2,_)]) ⟨rfl,rfl,rfl,trivial⟩ ?_;have E:=Mod.refl [] w;obtain⟨o7,c1,dK,ae',ap3⟩:=O.form;injection dK with bk bZ kO
 subst bk;subst kO;refine ab fun aV=>aU rfl (J aV (ab fun aL=>ak 4 rfl (ag (bs Tryz.underlying23 rfl) (ag (UO (lo:=i) (hi:=i+1) (mx:=n) cP rfl rfl rfl rfl (by omega)) (J aL (ax fun aX=>ab fun bt=>ak 2 rfl (ag ((lS rfl rfl).to (v':=.bool false) (congrArg Value.bool (bJ (by omega)))) (J bt (aD rfl ?_)))))))));refine b8 (au aX (ab fun bN=>aG rfl (ag (bs Tryz.underlying23 rfl) (aU rfl (J bN (ax fun b2=>jE [] [0,1,2,3,4,5] 6 [7] wide (by kernel_rfl) (fun _ _ _ h=>h.2) (iN (f' 2 rfl rfl (aj (fun R=>(CR cP rfl rfl (by omega) ae')) (f' 2 rfl rfl (aj (fun R=>(j4 (lo:=i+1) cP rfl rfl (by omega) ae')) ?_)))))))))));refine mG rfl fun aB R=>?_;replace E:=E.then R;have eR:=O.I E;have ajP:=eR.cut (lo:=i+1) (hi:=n) (by omega) (Nat.le_refl n);refine Oy cP eR rfl rfl (Src.own Tryz.underlying23 ajP (fun u hu=>h1 u (List.mem_of_mem_drop (List.mem_of_mem_take hu)))) (by omega) rfl fun cO qw ap4 ap5=>?_;have ap6:Mod [ad.block] w cO:=(E.mono (by simp)).trans ap4;clear E;refine aU rfl (J b2 (ab fun cd=>ak 2 rfl (ag (bs Tryz.underlying23 rfl) (aG rfl (ag (UP (lo:=(i+(n-(i+1)))) (hi:=n) cP rfl rfl rfl (by omega) (by omega)) (Oz cP ev rfl (by decide) (by simp [Value.oneCell']) qw (k:=(i+(n-(i+1)))) (by omega) rfl fun gb vI ap7 ap8=>?_))))));have ajQ:=ap6.trans ap7;exact J cd (ab fun cD=>ak 2 rfl (J cD (ba (ar rfl rfl ⟨rfl,vI.same (by omega) (HR O.1 hi),ajQ⟩))))
set_option maxRecDepth 10000
theorem aaV:aP Tryz.prog 71:=aP.of Tryz.func71 (by kernel_rfl) (by kernel_rfl)
theorem OA (A:List Nat) (w:World) (dD:∀ a∈A,a<w.heap.size) (v:JV) (us:List Value) (arZ:ao A w v.D us) (k:aa) (ay:en v.eS) (cj:v.eS.length≤1353245080310):Calls Tryz.prog 34 [.agg us.toArray,S k].toArray w (bM fun u w'=>∃ gd,u = .agg gd.toArray∧ao A w' (JV.obj (oi v.eS k)).D gd∧Mod [] w w'):=by
 refine enter Tryz.func34 rfl rfl rfl (l:=[(0,_),(1,_)]) ⟨rfl,rfl,trivial⟩ ?_;have E:=Mod.refl [] w;obtain⟨al,cl,am,cm,rfl,kP,jF⟩:=JV.a' arZ;have arZ:=JV.cz kP jF;refine ab fun aV=>ep rfl rfl rfl fun g1 aB bT=>?_;have bI:=bT.le E;replace E:=E.then bT.mod;have U:=bT.aA;refine bp cA rfl fun g2 cO cW=>?_;have b9:=cW.le E;have bR:=cW.ne U;replace U:=U.I cW.mod;replace E:=E.then cW.mod;have ah:=cW.aA;refine J aV (ab fun aL=>ag (bc (vs:=[_,_,_,_,_,_]) aJ rfl rfl (U.cs rfl)) (fv (bE OB rfl) (Bs A w _ v _ arZ) rfl fun cK gb az=>?_));obtain⟨ajR,R⟩:=az;replace U:=U.I R;replace ah:=ah.I R;replace E:=E.then R;have ED:=U.lt;have EE:=ah.lt;have Kc:=E.size;refine fv (bE OC rfl) (Bt A w _ v.eS _ ajR E cj) rfl fun cK iu az=>?_;obtain⟨vs,vJ,lW,ym,R⟩:=az;replace U:=U.I R;replace ah:=ah.I R;replace E:=E.then R;have D1:∀ x∈aY cK,x≠g1:=fun x ae e=>by have:=ym x ae;omega
 have D2:∀ x∈aY cK,x≠g2:=fun x ae e=>by have:=ym x ae;omega
 have rE:∀ x∈aY cK,w.heap.size≤x:=fun x ae=>by have:=ym x ae;omega
 obtain⟨tn,c3,rfl,afa,afb⟩:=vJ.form;refine ag (a7 (cs:=[_,_,_,_,_,_]) gT cA rfl rfl) (bp cA rfl fun g3 js eP=>?_);have dE:=eP.le E;have eL:=eP.ne U;have cG:=eP.ne ah;have CS:=eP.b4 vJ;replace U:=U.I eP.mod;replace ah:=ah.I eP.mod;replace E:=E.then eP.mod;replace vJ:=vJ.I eP.mod;have bu:=eP.aA;refine bm (vs:=[_,_,_,_,_,_]) aJ bu rfl rfl rfl (by simp [Value.oneCell']) (by simp) fun jD np=>?_;replace U:=U.ne np.mod eL;replace ah:=ah.ne np.mod cG;replace E:=E.own np.mod dE;replace vJ:=vJ.put np.mod CS;replace bu:aE jD g3 _ [_,_,_,_,_,_]:=np.aA;refine J aL (ax fun aX=>ab fun bt=>ag (av b5 rfl) (ag (bg dz rfl (bu.cell rfl)) (aG rfl ?_)));have afc:=Own.s' (A:=[]) vJ ((lW.e6 (by simp)).bG E) rfl (by simp);refine cQ (bE HS rfl) (yn _ v.eS _ afc k ay cj) fun iv R=>?_;replace U:=U.I R;replace ah:=ah.I R;replace bu:=bu.I R;replace E:=E.then R;replace vJ:=vJ.I R;refine ak 5 rfl (J bt (ab fun bN=>aG rfl (J bN ?_)));refine a1 rfl (fun nK=>?_) (fun nK=>?_);rotate_left
 ·have UQ:oi v.eS k=v.eS:=LP (by cases cg:look v.eS k with | none=>rfl | some z=>rw [cg] at nK;simp at nK);have tp:=lW;have jl:(oi v.eS k).length=v.eS.length:=by rw [UQ]
  rw [← UQ] at tp;have aaX:=rE;refine b8 (au aX (ab fun cd=>ag (bc (vs:=[_,_,_,_,_,_]) aJ rfl rfl (bu.cs rfl)) (bm (vs:=[_,_,_,_,_,_]) aJ ah rfl rfl rfl (by simp [Value.oneCell']) (by simp) fun kl e7=>?_)));replace U:=U.ne e7.mod bR;replace bu:=bu.ne e7.mod (Ne.symm cG);replace E:=E.own e7.mod b9;replace vJ:=vJ.put e7.mod D2;replace ah:aE kl g2 _ [_,_,_,_,_,_]:=e7.aA;exact J cd (ba (kd (vs:=[_,_,_,_,_,_]) rfl aJ rfl rfl (ah.cs rfl) ⟨_,rfl,JV.kQ jl (Own.s' vJ (tp.bG E) jl (fun x ae h=>by have:=aaX x ae;have:=dD x h;omega)),E⟩))
 obtain⟨y,aZ,aaW,_⟩:=ss ay nK;have yo:=(List.getElem?_eq_some_iff.1 aZ).1;obtain⟨tn,rfl⟩:∃ a,tn=some a:=by
  cases tn with
  | some a=>exact⟨a,rfl⟩
  | none=>have:=JV.CT afc;rw [this] at yo;simp at yo
 refine bP (ag (av b5 rfl) (ag (bg dz rfl (bu.cell rfl)) (ak 2 rfl (ag (cS (r:=((fi v.eS k+1:Nat):Int)) rfl rfl (by rw [wrap64_in _ (by omega)];omega)) (fv (bE aaV rfl) (UN _ v.eS.length (fi v.eS k) c3 tn vs vJ lW.one yo cj) rfl fun cK oj az=>?_)))));obtain⟨rfl,EF,R⟩:=az;have pY:fi v.eS k+(v.eS.length-(fi v.eS k+1))=v.eS.length-1:=by omega
 rw [pY] at EF ⊢;have aaX:∀ x∈aY (.slice (some tn) (v.eS.length-1) c3),w.heap.size≤x:=fun x ae=>rE x (by simpa [aY] using ae);have ajS:∀ x∈aY (.slice (some tn) (v.eS.length-1) c3),x≠g2:=fun x ae=>D2 x (by simpa [aY] using ae);have OD:∀ x∈aY (.slice (some tn) (v.eS.length-1) c3),x≠g3:=fun x ae=>CS x (by simpa [aY] using ae);replace E:=E.trans' R (fun x ae=>.inr (rE x (by simpa [aY] using ae)));replace ah:=ah.mod R (fun h=>D2 tn.block (by simp [aY]) (List.mem_singleton.1 h).symm);replace bu:=bu.mod R (fun h=>CS tn.block (by simp [aY]) (List.mem_singleton.1 h).symm);have tp:=JV.LO lW yo;have afd:oi v.eS k=v.eS.take (fi v.eS k)++v.eS.drop (fi v.eS k+1):=by have kt:=Kd ay aZ;rw [aaW] at kt;exact kt
 rw [← afd] at tp;have jl:(oi v.eS k).length=v.eS.length-1:=by rw [afd,List.length_append,List.length_take,List.length_drop];omega
 refine ag (av b5 rfl) (dZ dz bu rfl rfl rfl (by simp) fun l1 om=>?_);replace ah:=ah.ne om.mod cG;replace E:=E.own om.mod dE;replace EF:=EF.put om.mod OD;replace bu:aE l1 g3 _ [_,_,_,_,_,_]:=om.aA;refine J aX (ab fun b2=>ag (bc (vs:=[_,_,_,_,_,_]) aJ rfl rfl (bu.cs rfl)) (bm (vs:=[_,_,_,_,_,_]) aJ ah rfl rfl rfl (by simp [Value.oneCell']) (by simp) fun iw jG=>?_));replace bu:=bu.ne jG.mod (Ne.symm cG);replace E:=E.own jG.mod b9;replace EF:=EF.put jG.mod ajS;replace ah:aE iw g2 _ [_,_,_,_,_,_]:=jG.aA;exact J b2 (ba (kd (vs:=[_,_,_,_,_,_]) rfl aJ rfl rfl (ah.cs rfl) ⟨_,rfl,JV.kQ jl (Own.s' EF (tp.bG E) jl (fun x ae h=>by have:=aaX x ae;have:=dD x h;omega)),E⟩))
end Go.Proofs.YtnihidkbkhcfoaaGreatDoor.V
namespace Go.Proofs.YtnihidkbkhcfoaaGreatDoor.V
open Go
end Go.Proofs.YtnihidkbkhcfoaaGreatDoor.V
set_option maxRecDepth 10000
namespace Go.Proofs.YtnihidkbkhcfoaaGreatDoor.V
open Go Go.Proofs
theorem aaY:aP Tryz.prog 34:=aP.of Tryz.func34 (by kernel_rfl) (by kernel_rfl)
set_option maxRecDepth 10000
theorem nc:ix Tryz.prog 103 0 0 6=true:=by kernel_rfl
theorem eX:ix Tryz.prog 103 1 6 1=true:=by kernel_rfl
/-- a taker in memory -/
def oQ (A:List Nat) (w:World) (g:Nat) (t:mE):Prop:=∃ al cl am cm,aE w g 103 [.int .i64 t.rest.kind,.bool t.rest.is,.int .i64 t.rest.num,S t.rest.str,.slice al t.rest.list.length cl,.slice am t.rest.map.length cm,.bool t.bad]∧a8 A w (.ia 6 (t.rest.list.map JV.D)) (.slice al t.rest.list.length cl)∧a8 A w (.ia 7 (t.rest.map.map JV.hP)) (.slice am t.rest.map.length cm)
theorem oQ.I {A:List Nat} {w w':World} {g:Nat} {t:mE} (h:oQ A w g t) (k:Mod [] w w'):oQ A w' g t:=by
 obtain⟨al,cl,am,cm,h1,aq,aT⟩:=h;exact⟨al,cl,am,cm,h1.I k,aq.bG k,aT.bG k⟩
theorem oQ.mod {A M:List Nat} {w w':World} {g:Nat} {t:mE} (h:oQ A w g t) (k:Mod M w w') (eW:∀ x∈M,x∈A) (dv:g∉M):oQ A w' g t:=by
 obtain⟨al,cl,am,cm,h1,aq,aT⟩:=h;exact⟨al,cl,am,cm,h1.mod k dv,aq.toM k eW,aT.toM k eW⟩
theorem oQ.lt {A:List Nat} {w:World} {g:Nat} {t:mE} (h:oQ A w g t):g<w.heap.size:=by
 obtain⟨_,_,_,_,h1,_⟩:=h;exact h1.lt
theorem jZ (A:List Nat) (w:World) (g:Nat) (t:mE) (H:oQ A w g t) (dv:g∈A) (dD:∀ a∈A,a<w.heap.size) (cc:t.fit) (k:aa) (kind:Int):Calls Tryz.prog 90 [.pointer (some ⟨g,0,none⟩),S k,.int .i64 kind].toArray w (bM fun u w'=>∃ us,u = .agg us.toArray∧ao A w' (dR t k kind).1.D us∧oQ A w' g (dR t k kind).2∧Mod [g] w w'):=by
 refine enter Tryz.func90 rfl rfl rfl (l:=[(0,_),(1,_),(2,_)]) ⟨rfl,rfl,rfl,trivial⟩ ?_;have E:=Mod.refl [g] w;have vf:=Mod.refl [] w;obtain⟨al,cl,am,cm,B,kP,jF⟩:=H;refine ab fun aV=>bp cA rfl fun g1 aB bT=>?_;have bI:=bT.le E;have ahI:=bT.le vf;have k1:=bT.ne B;replace B:=B.I bT.mod;replace E:=E.then bT.mod;replace vf:=vf.then bT.mod;have U:=bT.aA;refine J aV (ab fun aL=>ak 2 rfl (ag (av nc rfl) (ag (bc (vs:=[_,_,_,_,_,_]) aJ rfl rfl (B.cs rfl)) (aG rfl (fv (bE H6 rfl) (CY A _ _ vf t.rest _ (JV.cz (v:=t.rest) kP jF) k cc.1 (by have:=cc.2.1;omega)) rfl fun cK cO az=>?_)))));obtain⟨RW,rfl,aaA,R⟩:=az;replace B:=B.I R;replace U:=U.I R;replace E:=E.then R;replace vf:=vf.then R;obtain⟨RX,RY,Xx,Xy,rfl,Bj,Ea⟩:=JV.a' aaA;replace aaA:=JV.cz Bj Ea;have z1:=Mod.refl [] cO;refine ak 3 rfl (bp cA rfl fun g2 gb cW=>?_);have b9:=cW.le E;have RZ:=cW.le vf;have Nx:=cW.le z1;have tR:=cW.ne B;have bR:=cW.ne U;replace B:=B.I cW.mod;replace U:=U.I cW.mod;replace E:=E.then cW.mod;replace vf:=vf.then cW.mod;replace z1:=z1.then cW.mod;have ah:=cW.aA;refine bm (vs:=[_,_,_,_,_,_]) aJ ah rfl rfl rfl (by simp [Value.oneCell']) (by simp) fun iu kS=>?_;replace B:=B.ne kS.mod tR;replace U:=U.ne kS.mod bR;replace E:=E.own kS.mod b9;replace vf:=vf.own kS.mod RZ;replace z1:=z1.own kS.mod Nx;replace ah:aE iu g2 _ [_,_,_,_,_,_]:=kS.aA;refine aU rfl (J aL (ax fun aX=>ab fun bt=>aG rfl ?_));refine AJ (fun yx:((t.rest.get k).isSome)=true=>?_) (fun yx=>?_);rotate_left
 ·have ae:t.rest.get k=none:=by cases h:t.rest.get k with | none=>rfl | some x=>rw [h] at yx;cases yx
  refine ak 7 rfl (J bt (aF rfl (ab fun cJ=>ak 2 rfl (ag (av eX rfl) (dZ jK B rfl rfl rfl (by simp) fun iw jG=>?_)))));replace U:=U.ne jG.mod (Ne.symm k1);replace ah:=ah.ne jG.mod (Ne.symm tR);replace E:=E.trans jG.mod;replace B:aE iw g _ [_,_,_,_,_,_,_]:=jG.aA;refine J cJ (ab fun cf=>ag (a7 (cs:=[_,_,_,_,_,_]) gT cA rfl rfl) (bm (vs:=[_,_,_,_,_,_]) aJ U rfl rfl rfl (by simp [Value.oneCell']) (by simp) fun kl e7=>?_));replace B:=B.ne e7.mod k1;replace ah:=ah.ne e7.mod (Ne.symm bR);replace E:=E.own e7.mod bI;replace U:aE kl g1 _ [_,_,_,_,_,_]:=e7.aA;exact J cf (ba (aR (by simp) (kd (vs:=[_,_,_,_,_,_]) rfl aJ rfl rfl (U.cs rfl) ⟨_,rfl,by rw [qp ae];exact JV.gO,by rw [qp ae];exact⟨al,cl,am,cm,B,kP.toM E (fun a ay=>by rw [List.mem_singleton.1 ay];exact dv),jF.toM E (fun a ay=>by rw [List.mem_singleton.1 ay];exact dv)⟩,E⟩)))
 obtain⟨x,ae⟩:=Option.isSome_iff_exists.1 yx;simp only [ae,Option.getD_some] at aaA ah ⊢;refine ak 2 rfl (aw (av hz rfl) (aw (bg dN rfl (ah.cell rfl)) (ak 2 rfl ?_)));refine da (fun hk:x.kind≠kind=>?_) (fun hk=>?_)
 ·refine ag (jA rfl rfl rfl) (J bt (aF rfl (ab fun bN=>ak 2 rfl (ag (av eX rfl) (dZ jK B rfl rfl rfl (by simp) fun js hs=>?_)))));replace U:=U.ne hs.mod (Ne.symm k1);replace ah:=ah.ne hs.mod (Ne.symm tR);replace E:=E.trans hs.mod;replace B:aE js g _ [_,_,_,_,_,_,_]:=hs.aA;refine J bN (ab fun b2=>ag (a7 (cs:=[_,_,_,_,_,_]) gT cA rfl rfl) (bm (vs:=[_,_,_,_,_,_]) aJ U rfl rfl rfl (by simp [Value.oneCell']) (by simp) fun jD np=>?_));replace B:=B.ne np.mod k1;replace ah:=ah.ne np.mod (Ne.symm bR);replace E:=E.own np.mod bI;replace U:aE jD g1 _ [_,_,_,_,_,_]:=np.aA;exact J b2 (ba (aR (by simp) (kd (vs:=[_,_,_,_,_,_]) rfl aJ rfl rfl (U.cs rfl) ⟨_,rfl,by rw [qn ae hk];exact JV.gO,by rw [qn ae hk];exact⟨al,cl,am,cm,B,kP.toM E (fun a ay=>by rw [List.mem_singleton.1 ay];exact dv),jF.toM E (fun a ay=>by rw [List.mem_singleton.1 ay];exact dv)⟩,E⟩)))
 refine ag (jA rfl rfl rfl) (J bt (aD rfl (b8 (au aX (ax fun cd=>?_)))));have ahJ:∀ a∈g1::A,a∈A∨w.heap.size≤a:=fun a ay=>by rcases List.mem_cons.1 ay with rfl | ay;exact .inr bI;exact .inl ay
 refine bP (ak 3 rfl (ag (av nc rfl) (ag (bc (vs:=[_,_,_,_,_,_]) aJ rfl rfl (B.cs rfl)) (aG rfl (fv (bE aaY rfl) (OA (g1::A) _ (fun a ay=>by rcases List.mem_cons.1 ay with rfl | ay;exact U.lt;exact Nat.lt_of_lt_of_le (dD a ay) E.size) t.rest _ ((JV.cz (v:=t.rest) (kP.more (A':=g1::A) ahJ) (jF.more (A':=g1::A) ahJ)).bG vf) k (mE.z6 cc).1 (by have:=(mE.z6 cc).2;omega)) rfl fun cK iv az=>?_)))));obtain⟨aqK,rfl,Rd,R⟩:=az;replace B:=B.I R;replace U:=U.I R;replace ah:=ah.I R;replace E:=E.then R;replace vf:=vf.then R;replace z1:=z1.then R;obtain⟨aqL,aqM,aqN,aqO,rfl,Ny,Nz⟩:=JV.a' Rd;replace Rd:=JV.cz Ny Nz;have aoZ:=Mod.refl [] iv;refine ag (eb rfl) (ag (av nc rfl) (bm (vs:=[_,_,_,_,_,_]) aJ B rfl rfl rfl (by simp [Value.oneCell']) (by simp) fun oj nF=>?_));replace U:=U.ne nF.mod (Ne.symm k1);replace ah:=ah.ne nF.mod (Ne.symm tR);replace E:=E.trans nF.mod;replace B:aE oj g _ [_,_,_,_,_,_,_]:=nF.aA;replace Ny:=Ny.toM nF.mod (fun a ay=>by rw [List.mem_singleton.1 ay];exact List.mem_cons_of_mem _ dv);replace Nz:=Nz.toM nF.mod (fun a ay=>by rw [List.mem_singleton.1 ay];exact List.mem_cons_of_mem _ dv);refine J cd (ab fun cD=>ag (bc (vs:=[_,_,_,_,_,_]) aJ rfl rfl (ah.cs rfl)) (bm (vs:=[_,_,_,_,_,_]) aJ U rfl rfl rfl (by simp [Value.oneCell']) (by simp) fun l1 om=>?_));replace B:=B.ne om.mod k1;replace ah:=ah.ne om.mod (Ne.symm bR);replace E:=E.own om.mod bI;replace U:aE l1 g1 _ [_,_,_,_,_,_]:=om.aA;replace Ny:=Ny.toM om.mod (fun a ay=>by simp [List.mem_singleton.1 ay]);replace Nz:=Nz.toM om.mod (fun a ay=>by simp [List.mem_singleton.1 ay]);exact J cD (ba (kd (vs:=[_,_,_,_,_,_]) rfl aJ rfl rfl (U.cs rfl) ⟨_,rfl,by rw [qo ae (Classical.not_not.1 hk)];exact aaA.toM E (fun a ay=>by rw [List.mem_singleton.1 ay];exact dv),by rw [qo ae (Classical.not_not.1 hk)];exact⟨_,_,_,_,B,Ny.e6 (fun a ay=>List.mem_cons_of_mem _ ay),Nz.e6 (fun a ay=>List.mem_cons_of_mem _ ay)⟩,E⟩))
end Go.Proofs.YtnihidkbkhcfoaaGreatDoor.V
