/-
  A part of the proof: the reader's value, walked; json.Parse, walked; two texts read: the law's own example, a number with a point; the canonical text of the law's own example; a text between quotes, read; a value's canonical text, read, is the value; a value with a canonical text is read from it as it is; what the row lays, as the reading asks for it; no writing fails with the number 0; what is read has a canonical text, unless it is too long; a map without one of its keys; an event out of a JSON value, taken member by member, in plain Lean; bytes as letters, six bits by six; six bits out of a number, a byte put behind a number, in the words of the machine's kinds; an append in the place of an own slice's rest; a slice with three bounds; an event's value without some of its members. No condition of its own.
-/
import Derived.Test.YtnihidkbkhcfoaaGreatDoorM12
import Derived.Test.YtnihidkbkhcfoaaGreatDoorM7
import Derived.Test.YtnihidkbkhcfoaaGreatDoorM8
import Derived.Test.YtnihidkbkhcfoaaGreatDoorM3
import Derived.Test.YtnihidkbkhcfoaaGreatDoorM6
import Derived.Test.YtnihidkbkhcfoaaGreatDoorM10
import Derived.Test.YtnihidkbkhcfoaaGreatDoorM4
import Derived.Test.YtnihidkbkhcfoaaGreatDoorRows
import Derived.Lib.LaidTab
import Derived.Lib.LaidU8
import Derived.Test.YtnihidkbkhcfoaaGreatDoorM1
import Derived.Test.YtnihidkbkhcfoaaGreatDoorM5
import Derived.Test.YtnihidkbkhcfoaaGreatDoorProg
import Derived.Test.YtnihidkbkhcfoaaGreatDoorM9
import Derived.Test.YtnihidkbkhcfoaaGreatDoorM2
set_option linter.unusedVariables false
set_option linter.unusedSimpArgs false
set_option maxRecDepth 10000
namespace Go.Proofs.YtnihidkbkhcfoaaGreatDoor.V
open Go Go.Proofs
theorem six {us:List Value} (h:us.length=6):∃ a b c d e f,us = [a,b,c,d,e,f]:=by
 match us,h with
 | [a,b,c,d,e,f],_=>exact⟨a,b,c,d,e,f,rfl⟩
theorem ac0:(Tryz.prog.info? 129).bind (·.zero)=some (.pointer none):=by kernel_rfl
theorem XM:aQ Tryz.prog 106:=aQ.of Tryz.func106 (by kernel_rfl) (by kernel_rfl)
theorem LH:aQ Tryz.prog 107:=aQ.of Tryz.func107 (by kernel_rfl) (by kernel_rfl)
abbrev RO:=Option JV×List Value×Nat×List lV×Value×List Value×List Nat
abbrev ahs:=Nat×List lV×Value×List Value×List Nat×List Nat
structure aq0 (rL w0 w:World) (g g2:Nat) (s:aa) (r:Bs) (k:Nat) (st:List lV) (sk:Value) (cs:List Value) (fp Z:List Nat):Prop where
 run:hV s none k st r
 ia:np (nx Z) w0 w g s k st sk cs fp
 z2:g2∈Z
 eJ:aF w g2 25 rp
 ac1:k≤s.length
 cl:cs.length≤32
 sz:∀ fm∈st,fm.sz≤k
 md:Mod [g] rL w
 Nw:∀ z,z<rL.heap.size→z≠g→z∈Z
structure VI (rL w0 w:World) (g g2 g3:Nat) (s:aa) (r:Bs) (Z:List Nat) (rn:Nat) (Nx:Option JV) (us:List Value) (k:Nat) (st:List lV) (sk:Value) (cs:List Value) (fp:List Nat):Prop where
 run:hV s Nx k st r
 ia:np (nx Z) w0 w g s k st sk cs fp
 z2:g2∈Z
 z3:g3∈Z
 n23:g2≠g3
 eJ:aF w g2 25 rp
 lx:aF w g3 25 us
 ul:us.length=6
 asi:∀ u∈us,u.oneCell'=true
 asj:∀ v,Nx=some v→ao (g::(a1 sk++fp)) w v.D us
 ac1:k≤s.length
 rn:rn<k
 cl:cs.length≤32
 sz:∀ fm∈st,fm.sz+Nx.isSome.toNat≤k
 md:Mod [g] rL w
def Ny (w:World):World:={w with heap:=#[]}
theorem Jb {rL w w':World} {Z M:List Nat} {g k:Nat} {s:aa} {st:List lV} {sk:Value} {cs:List Value} {fp:List Nat} (Nw:∀ z,z<rL.heap.size→z≠g→z∈Z) (md:Mod [g] rL w) (E:Mod M w w') (eY:∀ x∈M,x≠g→x∉Z):Mod [g] rL w':=
 ⟨E.os.trans md.os,E.tape.trans md.tape,E.output.trans md.output,Nat.le_trans md.size E.size,fun i hi ae=>(E.block i (Nat.lt_of_lt_of_le hi md.size) (fun h=>eY i h (by simpa using ae) (Nw i hi (by simpa using ae)))).trans (md.block i hi ae)⟩
theorem zE {rL w w':World} {Z:List Nat} {g k:Nat} {s:aa} {st:List lV} {sk:Value} {cs:List Value} {fp:List Nat} (Nw:∀ z,z<rL.heap.size→z≠g→z∈Z) (md:Mod [g] rL w) (q:np (nx Z) (Ny rL) w' g s k st sk cs fp) (Bw:zD Z w w') (bf:w.heap.size≤w'.heap.size):Mod [g] rL w':=
 ⟨q.mod.os,q.mod.tape,q.mod.output,Nat.le_trans md.size bf,fun i hi ae=>(Bw i (Nw i hi (by simpa using ae))).trans (md.block i hi ae)⟩
theorem ac2 {rL w:World} {Z:List Nat} {g k:Nat} {s:aa} {st:List lV} {sk:Value} {cs:List Value} {fp:List Nat} (Nw:∀ z,z<rL.heap.size→z≠g→z∈Z) (e4:Env rL) (q:np (nx Z) (Ny rL) w g s k st sk cs fp):∀ x∈a1 sk,Nj<x:=fun x ae=>by
 rcases Nat.lt_or_ge x rL.heap.size with h | h
 ·by_cases dA:x=g
  ·subst dA;exact absurd (List.mem_append_left _ ae) q.s6
  exact absurd ae (q.xR x (Nw x h dA)).2.2
 exact Nat.lt_of_lt_of_le e4.sz h
theorem Nz {rL:World} {g:Nat} {s:aa} {r:Bs} (apj:aF rL g 75 [S s,.int .i64 ((0:Nat):Int),.slice none 0 0]) (bf:s.length≤65536) (e4:Env rL) (dA:Nj<g) (bq:hV s none 0 [] r) :
  Calls Tryz.prog 60 [.pointer (some ⟨g,0,none⟩)].toArray rL (M7 124 [g] rL r (fun x u w'=>∃ us gK,u = .agg us.toArray∧ao (g::List.range rL.heap.size) w' x.1.D us∧aF w' g 75 [S s,.int .i64 (x.2:Int),gK]∧x.2≤s.length)):=by
 refine enter Tryz.func60 rfl rfl rfl (l:=[(0,_)]) ⟨rfl,trivial⟩ (ab fun alT=>bt cB rfl fun g2 aB bR=>?_)
 have u0:rL.heap.size≤g2:=bR.le (Mod.refl [g] rL)
 have nn:=bR.ne apj
 have B:=apj.I bR.mod
 obtain⟨XN,ac3⟩:∃ XN,XN=g2::(List.range rL.heap.size).filter (·≠g):=⟨_,rfl⟩
 have alU:np (nx XN) (Ny rL) aB g s 0 [] (.slice none 0 0) [] XN:=np.init (T:=nx XN) B ⟨bR.mod.os,bR.mod.tape,bR.mod.output,Nat.zero_le _,fun i hi=>absurd hi (Nat.not_lt_zero _)⟩ (fun x ae=>by
  have ae:x∈XN:=ae
  rw [ac3] at ae
  rcases List.mem_cons.1 ae with rfl | ae
  ·exact⟨Nat.zero_le _,bR.az.lt,Ne.symm nn⟩
  simp only [List.mem_filter,List.mem_range,decide_eq_true_eq] at ae
  exact⟨Nat.zero_le _,Nat.lt_of_lt_of_le ae.1 bR.mod.size,ae.2⟩)
 have aht:∀ z,z<rL.heap.size→z≠g→z∈XN:=fun z h1 aq=>by
  rw [ac3]
  exact List.mem_cons_of_mem _ (by simp only [List.mem_filter,List.mem_range,decide_eq_true_eq];exact⟨h1,aq⟩)
 refine J alT (eB (bU (σ:=ahs) (fun _=>[(0,.pointer (some ⟨g,0,none⟩)),(2,.pointer (some ⟨g2,0,none⟩))]) (fun x aB=>aq0 rL (Ny rL) aB g g2 s r x.1 x.2.1 x.2.2.1 x.2.2.2.1 x.2.2.2.2.1 x.2.2.2.2.2) (fun x=>s.length-x.1) (0,[],.slice none 0 0,[],XN,XN) ⟨rfl,rfl,trivial⟩ ⟨bq,alU,by dsimp only;rw [ac3];simp,bR.az,by simp,by simp,by simp,bR.mod.mono (by simp),aht⟩ ?_))
 rintro⟨k,st,sk,cs,fp,Z⟩ cN oE
 obtain⟨lJ,H,z2,dz,mV,lE,im,md,Nw⟩:=oE
 dsimp only at lJ H z2 mV lE im Nw
 refine eB (ab fun aV=>aG rfl ?_)
 have hlen:=H.len
 refine fQ (bF XM rfl) (Rx H bf mV lE (e4.oP dA md) dA (ac2 Nw e4 H)) rfl (fun cQ aA=>aA) (fun lW fV aA=>?_) fun cO fV aA=>?_
 ·obtain⟨e,he,b3,rfl,R⟩:=aA
  exact aO (by simp) (bx (by simp) (aO (by simp) (bx (by simp) (ed ⟨e,RP lJ he,b3,rfl,Jb (k:=k) (s:=s) (st:=st) (sk:=sk) (cs:=cs) (fp:=fp) Nw md R (fun x ae NA dk=>(List.mem_cons.1 ae).elim NA (fun h=>(H.xR x dk).2.2 h))⟩))))
 obtain⟨x,ae,e5,R⟩:=aA
 obtain⟨Nx,us,dZ,st1,Bx,eE,fl,rfl,RQ,qL,Bw,zF,Jc,RR,aaH,aaI,aaJ,KN⟩:∃ Nx us dZ st1 Bx eE fl,cO = .tuple #[.agg us.toArray,.bool (Option.isSome Nx)]∧hV s Nx dZ st1 r∧np (nx Z) (Ny rL) fV g s dZ st1 Bx eE fl∧zD Z cN fV∧us.length=6∧(∀ u∈us,u.oneCell'=true)∧(∀ v,Nx=some v→ao (g::(a1 Bx++fl)) fV v.D us)∧dZ≤s.length∧k<dZ∧eE.length≤32∧(∀ fm∈st1,fm.sz+Nx.isSome.toNat≤dZ):=by
  rcases x with⟨v,dZ⟩ | ⟨fm,dZ⟩
  ·obtain⟨us,Bx,eE,fl,h1,aq,aU,bM,cL⟩:=e5
   have aS:=RS ae mV
   have eW:=JV.cells_one bM
   exact⟨some v,us,dZ,st,Bx,eE,fl,h1,Jd lJ ae,aq,cL,eW.1,eW.2,fun v' bK=>by cases bK;exact bM,aS.2,aS.1,by rw [aq.len];omega,fun fm dI=>by have:=im fm dI;simp;omega⟩
  obtain⟨us,Bx,eE,fl,h1,aq,aU,bM,cL⟩:=e5
  have aS:=RT ae mV
  subst aq
  exact⟨none,_,dZ,fm::st,Bx,eE,fl,h1,NB lJ ae,aU,cL,rfl,by simp [Value.oneCell'],fun v' bK=>(by cases bK),aS.2.1,aS.1,by rw [aU.len,List.length_cons];omega,fun f dI=>by
   rcases List.mem_cons.1 dI with rfl | dI
   ·rw [aS.2.2.2];simp
   have:=im f dI;simp;omega⟩
 replace dz:aF fV g2 25 rp:=(Bw g2 z2).trans dz
 replace md:=zE Nw md qL Bw R.size
 obtain⟨gi,jx,NC,Je,Bm,A1,rfl⟩:=six zF
 refine aG rfl (ag (eH rfl rfl) (ag (eH rfl rfl) (bt cB rfl fun g3 ic N4=>?_)))
 have I4:=N4.at_
 have ahu:=md
 have n23:=N4.ne dz
 obtain⟨xO,p2,ahv⟩:=qL.ahw N4.mod (Nat.le_of_eq I4.symm) N4.az.lt
 refine bo (vs:=[_,_,_,_,_,_]) aK N4.az rfl rfl rfl Jc (by simp) fun jn hx=>?_
 have ep:=hx.eq (cs':=[gi,jx,NC,Je,Bm,A1]) rfl
 replace dz:=(dz.I N4.mod).mod hx.mod (by simpa using n23)
 have uq:=p2.Lp (List.mem_cons_self ..) hx.mod
 replace md:=(md.then N4.mod).own hx.mod (by have:=md.size;omega)
 have aaK:∀ v,Nx=some v→ao (g::(a1 Bx++xO)) jn v.D [gi,jx,NC,Je,Bm,A1]:=fun v bK=>by
  have h1:ao (g::(a1 Bx++xO)) ic v.D [gi,jx,NC,Je,Bm,A1]:=ao.to N4.mod (by simp) (fun x ae=>by
   simp only [List.mem_cons,List.mem_append] at ae ⊢
   rcases ae with ae | ae | ae
   ·exact .inl (.inl ae)
   ·exact .inl (.inr (.inl ae))
   rcases ahv x ae with h | h
   ·exact .inl (.inr (.inr h))
   exact .inr (by omega)) _ _ (RR v bK)
  exact h1.toM hx.mod (fun x ae=>by
   rw [List.mem_singleton.1 ae]
   have:=p2.s5.z g3 (List.mem_cons_self ..)
   simp [this])
 refine aT rfl (J aV (eB ?_))
 clear RR zF e5 ae
 refine bU (σ:=RO) (fun x=>[(0,.pointer (some ⟨g,0,none⟩)),(2,.pointer (some ⟨g2,0,none⟩)),(3,.pointer (some ⟨g3,0,none⟩)),(4,.bool x.1.isSome)]) (fun x aB=>VI rL (Ny rL) aB g g2 g3 s r (g3::Z) k x.1 x.2.1 x.2.2.1 x.2.2.2.1 x.2.2.2.2.1 x.2.2.2.2.2.1 x.2.2.2.2.2.2) (fun x=>s.length-x.2.2.1) (Nx,[gi,jx,NC,Je,Bm,A1],dZ,st1,Bx,eE,xO) ⟨rfl,rfl,rfl,rfl,trivial⟩ ⟨RQ,uq,List.mem_cons_of_mem _ z2,List.mem_cons_self ..,n23,dz,ep,rfl,Jc,aaK,aaH,aaI,aaJ,KN,md⟩ ?_
 have Gq:∀ z,z<rL.heap.size→z≠g→z∈g3::Z:=fun z h1 aq=>List.mem_cons_of_mem _ (Nw z h1 aq)
 have ahx:rL.heap.size≤g3:=by have:=N4.le ahu;exact this
 clear md ahu Nw
 clear lJ H dz mV lE im qL p2 uq ep aaK aaH aaI aaJ KN RQ ahv hlen Bw
 rintro⟨Nx,us,lA,st,sk,cs,fp⟩ jC pk
 obtain⟨lJ,H,z2,z3,n23,dz,ep,zF,Jc,RR,mV,aR,lE,im,md⟩:=pk
 dsimp only at lJ H ep zF Jc RR mV aR lE im
 have hlen:=H.len
 cases Nx with
 | none=>
  exact nm fun K2 aL=>nm fun K3 aW=>bQ (aG rfl (J aW (a7 rfl (fun tx=>absurd tx (by simp)) (fun tx=>bm (aO (by simp) (aO (by simp) (bS (bx (by simp) (fJ (σ:=ahs) (s:=(k,_)) (lA,st,sk,cs,fp,g3::Z) ⟨rfl,rfl,trivial⟩ ⟨lJ,H,z2,dz,mV,lE,fun fm dI=>by have:=im fm dI;simpa using this,md,Gq⟩ (by dsimp only;omega))))))))))
 | some v=>
  have asp:=RR v rfl
  refine nm fun K2 aL=>nm fun K3 aW=>bQ (aG rfl (J aW ?_))
  refine a7 rfl (fun tx=>?_) (fun tx=>absurd tx (by simp))
  refine ca (aw aL (eB (ax fun br=>ax fun bI=>?_)))
  have B:aF jC g 75 _:=H.rd
  obtain⟨ad,c0,bk,fH,gC⟩:=H.own.form
  subst bk
  refine bQ (ak 2 rfl (ag (av fK rfl) (ag (bc ko rfl (B.cell rfl)) (ag (bl Tryz.underlying73 rfl) (ag (lT rfl rfl) (J bI ?_))))))
  have dk:=H.xR
  obtain⟨gi,jx,NC,Je,Bm,A1,rfl⟩:=six zF
  cases st with
  | nil=>
   refine aI rfl (fun nL=>?_) (fun nL=>absurd (show((cs.length:Nat):Int)=0 by rw [hlen];rfl) nL)
   refine ab fun bW=>ag (a8 (vs:=[_,_,_,_,_,_]) aK rfl rfl (ep.cs rfl)) (bo (vs:=[_,_,_,_,_,_]) aK dz rfl rfl rfl Jc (by simp) fun iw pe=>?_)
   have ny:=pe.eq (cs':=[_,_,_,_,_,_]) rfl
   have q:=H.Lp z2 pe.mod
   refine J bW (aZ (aO (by simp) (bx (by simp) (aO (by simp) (bx (by simp) (bx (by simp) (aO (by simp) (bx (by simp) ?_))))))))
   have Bt:=H.s5.z g2 z2
   exact I5 (vs:=[_,_,_,_,_,_]) rfl aK rfl rfl (ny.cs rfl) ⟨(v,lA),ND lJ,⟨_,_,rfl,(asp.toM pe.mod (fun x ae=>by rw [List.mem_singleton.1 ae];simp [Bt])).e9 (fun x ae=>by
    rcases List.mem_cons.1 ae with rfl | ae
    ·simp
    by_cases NA:x=g
    ·simp [NA]
    have:=H.s5.z x (Gq x (List.mem_range.1 ae) NA)
    simp [this]),q.rd,mV⟩,md.own pe.mod u0⟩
  | cons fm st=>
   refine aI rfl (fun nL=>absurd nL (by rw [hlen,List.length_cons];omega)) (fun nL=>ca (aw br (ab fun cb=>aG rfl (ag (a8 (vs:=[_,_,_,_,_,_]) aK rfl rfl (ep.cs rfl)) ?_))))
   have Gr:=im fm (List.mem_cons_self ..)
   have LI:∀ f∈st,f.sz+1≤lA:=fun f dI=>by have:=im f (List.mem_cons_of_mem _ dI);simpa using this
   have nV:aj aX s lA≤s.length:=cy mV
   have aq1:=cd aX s lA
   cases fm with
   | A acc t=>exact absurd (ac4 lJ) id
   | L acc=>
    have ac5:acc.length≤1000000:=by simp [lV.sz] at Gr;omega
    refine fA (bF LH rfl) (Xz H asp lE ac5) rfl fun cO iw aA=>?_
    obtain⟨rfl,h8,qL,S1,Bw⟩:=aA
    replace md:=zE Gq md qL Bw S1.mod.size
    replace dz:aF iw g2 25 rp:=(Bw g2 z2).trans dz
    replace ep:aF iw g3 25 _:=(Bw g3 z3).trans ep
    have Dc:=qL.xR
    refine aT rfl (J cb (nm fun acN cx=>nm fun wD cH=>bQ (aG rfl (aG rfl (fA (bF oR rfl) (tV _ g s lA _ qL.rd bf mV 93) rfl fun cO n' aA=>?_)))))
    obtain⟨rfl,B,R⟩:=aA
    have p2:=qL.r5 B R
    replace md:=md.trans R
    replace dz:=dz.mod R (by simpa using (Dc g2 z2).2.1)
    replace ep:=ep.mod R (by simpa using (Dc g3 z3).2.1)
    have tu:=p2.xR
    refine J cH ?_
    refine a7 rfl (fun jF=>?_) (fun jF=>?_)
    ·have jF:aC s (aj aX s lA) [93]=true:=jF
     have wu:=c6 jF (by simp)
     have qm:aj aX s lA+1≤s.length:=by simpa using wu
     rw [if_pos jF] at p2
     refine nm fun alV b5=>bQ (aG rfl (fA (bF yb rfl) (Xw p2 (by omega)) rfl fun cO lY aA=>?_))
     obtain⟨gb,gK,cs',xO,rfl,uq,S3,ahy,Bw⟩:=aA
     replace md:=zE Gq md uq Bw S3.mod.size
     replace dz:aF lY g2 25 rp:=(Bw g2 z2).trans dz
     replace ep:aF lY g3 25 _:=(Bw g3 z3).trans ep
     obtain⟨RU,Gs⟩:=JV.cells_one ahy
     obtain⟨ahz,ahA,y3,y4,ahB,y6,rfl⟩:=six RU
     refine bo (vs:=[_,_,_,_,_,_]) aK ep rfl rfl rfl Gs (by simp) fun iy jK=>?_
     replace ep:=jK.eq (cs':=[ahz,ahA,y3,y4,ahB,y6]) rfl
     replace dz:=dz.mod jK.mod (by simpa using n23)
     have LD:=uq.Lp z3 jK.mod
     replace md:=md.own jK.mod ahx
     have Bt:=uq.s5.z g3 z3
     refine J b5 (bm (aO (by simp) (bS ?_)))
     have ac6:=uq.len
     rw [List.length_cons] at hlen
     exact fJ (σ:=RO) (s:=(some v,_,lA,_)) (some (JV.cX (acc ++ [v])),[ahz,ahA,y3,y4,ahB,y6],aj aX s lA+1,st,gK,cs',xO) ⟨rfl,rfl,rfl,rfl,trivial⟩ ⟨NF lJ jF,LD,z2,z3,n23,dz,ep,rfl,Gs,fun v' bK=>by cases bK;exact ahy.toM jK.mod (fun x ae=>by rw [List.mem_singleton.1 ae];simp [Bt]),qm,by dsimp only;omega,by dsimp only;omega,fun f dI=>by have:=LI f dI;simp;omega,md⟩ (by dsimp only;omega)
    have jF:aC s (aj aX s lA) [93]=false:=jF
    rw [if_neg (by rw [jF];simp)] at p2
    refine ca (aw cx (nm fun Iy bX=>nm fun alW cU=>bQ (aG rfl (fA (bF oR rfl) (tV _ g s _ _ p2.rd bf nV 44) rfl fun cO lY aA=>?_))))
    obtain⟨rfl,B,R⟩:=aA
    have uq:=p2.r5 B R
    replace md:=md.trans R
    rw [oh] at uq
    replace dz:=dz.mod R (by simpa using (tu g2 z2).2.1)
    replace ep:=ep.mod R (by simpa using (tu g3 z3).2.1)
    refine ag (ff rfl) (J cU ?_)
    refine a7 rfl (fun ig=>?_) (fun ig=>?_)
    ·have ig:aC s (aj aX s lA) [44]=false:=by rw [oh] at ig;simpa using ig
     refine bQ ?_
     refine fQ (bF gf rfl) (eX _ 4) rfl (fun cQ aA=>aA.elim) (fun lW iy aA=>?_) fun cO iy aA=>?_
     ·obtain⟨rfl,rfl⟩:=aA
      exact aO (by simp) (bx (by simp) (aO (by simp) (bx (by simp) (bx (by simp) (aO (by simp) (bx (by simp) (ed ⟨4,NG lJ jF ig,by decide,rfl,md⟩)))))))
     exact aA.elim
    have ig:aC s (aj aX s lA) [44]=true:=by rw [oh] at ig;simpa using ig
    rw [if_pos ig] at uq
    have qm:aj aX s lA+1≤s.length:=by have:=c6 ig (by simp);simpa using this
    refine ca (aw bX (nm fun alX b7=>nm fun ac7 cS=>?_))
    obtain⟨g1,ew,vs,eE,fl,rfl,_⟩:=uq.QQ
    obtain⟨ad,c0,bk,fH,gC,C⟩:=qq uq.own
    injection bk with bk b2 kV
    subst bk
    subst kV
    have LD:=uq
    have B:aF lY g 75 _:=uq.rd
    refine bT wide (by kernel_rfl) (f' 2 rfl rfl (ai (fun R=>(av fK rfl)) (ai (fun R=>(bc ko rfl ((B.I R).cell rfl))) (f' 2 rfl rfl (ai (fun R=>(av fK rfl)) (ai (fun R=>(bc ko rfl ((B.I R).cell rfl))) (ai (fun R=>(bl Tryz.underlying73 rfl)) (ai (fun R=>(ez (r:=((eE.length:Nat):Int)) rfl rfl (by rw [wrap64_in _ (by simp at lE;omega)];simp))) (ai (fun R=>(b6 tf rfl rfl (by simp;omega))) (ai (fun R=>(bc Co rfl (oe (C.mod R (by simp))))) (ai (fun R=>(I9 zC (show ¬ (163:Nat)=129 by decide) ac0 rfl)) (ai (fun R=>(ec rfl)) (ai (fun R=>(eH rfl rfl)) ?_)))))))))))))
    refine ai (fun R=>(eH rfl rfl)) (ai (fun R=>(cr rfl)) (ai (fun R=>(cr rfl)) (bV rfl fun iy R=>?_)))
    replace dz:=dz.I R
    replace ep:=ep.I R
    refine aw cS (nm fun ac8 de=>bQ (aG rfl (J de (a7 rfl (fun v8=>absurd v8 (by simp)) (fun v8=>ca (aw b7 (bQ (aT rfl (cF (bx (by simp) ?_))))))))))
    exact fJ (σ:=RO) (s:=(some v,_,lA,_)) (none,[gi,jx,NC,Je,Bm,A1],aj aX s lA+1,.L (acc ++ [v])::st,_,_,h8) ⟨rfl,rfl,rfl,rfl,trivial⟩ ⟨Jf lJ jF ig,LD.I R,z2,z3,n23,dz,ep,rfl,Jc,fun v' bK=>(by cases bK),qm,by dsimp only;omega,lE,fun f dI=>by
     rcases List.mem_cons.1 dI with rfl | dI
     ·simp [lV.sz] at Gr ⊢;omega
     have:=LI f dI;simp;omega,md.then R⟩ (by dsimp only;omega)
   | M acc t=>
    have ac5:acc.length≤1000000:=by simp [lV.sz] at Gr;omega
    refine fA (bF LH rfl) (XH H asp lE ac5) rfl fun cO iw aA=>?_
    obtain⟨rfl,h8,qL,S1,Bw⟩:=aA
    replace md:=zE Gq md qL Bw S1.mod.size
    replace dz:aF iw g2 25 rp:=(Bw g2 z2).trans dz
    replace ep:aF iw g3 25 _:=(Bw g3 z3).trans ep
    have Dc:=qL.xR
    refine aT rfl (J cb (nm fun acN cx=>nm fun wD cH=>bQ (aG rfl (aG rfl (fA (bF oR rfl) (tV _ g s lA _ qL.rd bf mV 125) rfl fun cO n' aA=>?_)))))
    obtain⟨rfl,B,R⟩:=aA
    have p2:=qL.r5 B R
    replace md:=md.trans R
    replace dz:=dz.mod R (by simpa using (Dc g2 z2).2.1)
    replace ep:=ep.mod R (by simpa using (Dc g3 z3).2.1)
    have tu:=p2.xR
    refine J cH ?_
    refine a7 rfl (fun jF=>?_) (fun jF=>?_)
    ·have jF:aC s (aj aX s lA) [125]=true:=jF
     have wu:=c6 jF (by simp)
     have qm:aj aX s lA+1≤s.length:=by simpa using wu
     rw [if_pos jF] at p2
     refine nm fun alV b5=>bQ (aG rfl (fA (bF yb rfl) (Xy p2 (by omega) (by simp [lV.sz] at Gr ⊢;omega)) rfl fun cO lY aA=>?_))
     obtain⟨gb,gK,cs',xO,rfl,uq,S3,ahy,Bw⟩:=aA
     replace md:=zE Gq md uq Bw S3.mod.size
     replace dz:aF lY g2 25 rp:=(Bw g2 z2).trans dz
     replace ep:aF lY g3 25 _:=(Bw g3 z3).trans ep
     obtain⟨RU,Gs⟩:=JV.cells_one ahy
     obtain⟨ahz,ahA,y3,y4,ahB,y6,rfl⟩:=six RU
     refine bo (vs:=[_,_,_,_,_,_]) aK ep rfl rfl rfl Gs (by simp) fun iy jK=>?_
     replace ep:=jK.eq (cs':=[ahz,ahA,y3,y4,ahB,y6]) rfl
     replace dz:=dz.mod jK.mod (by simpa using n23)
     have LD:=uq.Lp z3 jK.mod
     replace md:=md.own jK.mod ahx
     have Bt:=uq.s5.z g3 z3
     refine J b5 (bm (aO (by simp) (bS ?_)))
     have ac6:=uq.len
     rw [List.length_cons] at hlen
     exact fJ (σ:=RO) (s:=(some v,_,lA,_)) (some (JV.obj (ek (acc ++ [(t,v)]))),[ahz,ahA,y3,y4,ahB,y6],aj aX s lA+1,st,gK,cs',xO) ⟨rfl,rfl,rfl,rfl,trivial⟩ ⟨NH lJ jF,LD,z2,z3,n23,dz,ep,rfl,Gs,fun v' bK=>by cases bK;exact ahy.toM jK.mod (fun x ae=>by rw [List.mem_singleton.1 ae];simp [Bt]),qm,by dsimp only;omega,by dsimp only;omega,fun f dI=>by have:=LI f dI;simp;omega,md⟩ (by dsimp only;omega)
    have jF:aC s (aj aX s lA) [125]=false:=jF
    rw [if_neg (by rw [jF];simp)] at p2
    refine ca (aw cx (nm fun Iy bX=>nm fun alW cU=>bQ (aG rfl (fA (bF oR rfl) (tV _ g s _ _ p2.rd bf nV 44) rfl fun cO lY aA=>?_))))
    obtain⟨rfl,B,R⟩:=aA
    have uq:=p2.r5 B R
    replace md:=md.trans R
    rw [oh] at uq
    replace dz:=dz.mod R (by simpa using (tu g2 z2).2.1)
    replace ep:=ep.mod R (by simpa using (tu g3 z3).2.1)
    refine ag (ff rfl) (J cU ?_)
    refine a7 rfl (fun ig=>?_) (fun ig=>?_)
    ·have ig:aC s (aj aX s lA) [44]=false:=by rw [oh] at ig;simpa using ig
     refine bQ ?_
     refine fQ (bF gf rfl) (eX _ 4) rfl (fun cQ aA=>aA.elim) (fun lW iy aA=>?_) fun cO iy aA=>?_
     ·obtain⟨rfl,rfl⟩:=aA
      exact aO (by simp) (bx (by simp) (aO (by simp) (bx (by simp) (bx (by simp) (aO (by simp) (bx (by simp) (ed ⟨4,NI lJ jF ig,by decide,rfl,md⟩)))))))
     exact aA.elim
    have ig:aC s (aj aX s lA) [44]=true:=by rw [oh] at ig;simpa using ig
    rw [if_pos ig] at uq
    have qm:aj aX s lA+1≤s.length:=by have:=c6 ig (by simp);simpa using this
    refine ca (aw bX (nm fun alX b7=>nm fun ac7 cS=>?_))
    have jG:=uq.QS (fm:=.A (acc ++ [(t,v)]) t) (acc:=acc ++ [(t,v)]) (K:=(acc ++ [(t,v)]).map (fun q:aa×JV=>q.1)) (t:=t) (fun A w c m h=>h)
    obtain⟨g1,b,ew,vs,eE,fl,rfl,rfl,gP,hm,eS,DV,rI,nn,n7,n8,I8,n10,Np,acK,_⟩:=jG
    obtain⟨ad,c0,bk,fH,gC,C⟩:=qq uq.own
    injection bk with bk b2 kV
    subst bk
    subst kV
    have B:aF lY g 75 _:=uq.rd
    refine bT wide (by kernel_rfl) (f' 2 rfl rfl (ai (fun R=>(av fK rfl)) (ai (fun R=>(bc ko rfl ((B.I R).cell rfl))) (f' 2 rfl rfl (ai (fun R=>(av fK rfl)) (ai (fun R=>(bc ko rfl ((B.I R).cell rfl))) (ai (fun R=>(bl Tryz.underlying73 rfl)) (ai (fun R=>(ez (r:=((eE.length:Nat):Int)) rfl rfl (by rw [wrap64_in _ (by simp at lE;omega)];simp))) (ai (fun R=>(b6 tf rfl rfl (by simp;omega))) (ai (fun R=>(bc Co rfl (oe (C.mod R (by simp))))) (ai (fun R=>(LC zC rfl rfl)) (ai (fun R=>(ec rfl)) (ai (fun R=>(eH rfl rfl)) ?_)))))))))))))
    refine ai (fun R=>(eH rfl rfl)) (ai (fun R=>(cr rfl)) (ai (fun R=>(cr rfl)) (bV rfl fun iy R=>?_)))
    replace dz:=dz.I R
    replace ep:=ep.I R
    refine aw cS (nm fun ac8 de=>bQ (aG rfl (J de ?_)))
    refine a7 rfl (fun v8=>?_) (fun v8=>absurd v8 (by simp))
    refine bQ (aG rfl (aG rfl ?_))
    have aaL:=R
    have alY:aF iy g 75 _:=B.I aaL
    refine fQ (bF LG rfl) (LB (K:=(acc ++ [(t,v)]).map (fun q:aa×JV=>q.1)) (m:=ek (acc ++ [(t,v)])) alY (gP.I aaL) (hm.I aaL) nn (Ne.symm n7) n8 (fun t=>IY t _) bf qm (e4.oP dA (md.then aaL)) dA) rfl (fun cQ aA=>aA) (fun lW kr aA=>?_) fun cO kr aA=>?_
    ·obtain⟨e,he,b3,rfl,R⟩:=aA
     refine aO (by simp) (bx (by simp) (aO (by simp) (bx (by simp) (bx (by simp) (aO (by simp) (bx (by simp) ?_))))))
     exact ed ⟨e,NJ lJ jF ig he,b3,rfl,Jb (k:=k) (s:=s) (st:=st) (sk:=ew) (cs:=eE) (fp:=fl) Gq (md.then aaL) R (fun x ae NA ahC=>by
      simp only [List.mem_cons,List.not_mem_nil,or_false] at ae
      rcases ae with h | h | h
      ·exact NA h
      ·exact Np x ahC (by simp [h])
      exact Np x ahC (by simp [h]))⟩
    obtain⟨⟨t',j9⟩,he,⟨rfl,ahl,alZ,y9,bE⟩,R⟩:=aA
    have aq2:=pz he
    have Rz:∀ {x:Nat},x≠g→x≠g1→x≠b→x∉[g,g1,b]:=fun h1 aq aU=>by simp [h1,aq,aU]
    have RV:∀ z∈g3::Z,z∉[g,g1,b]:=fun z fY=>Rz (tu z fY).2.1 (fun e=>Np z fY (by simp [e])) (fun e=>Np z fY (by simp [e]))
    replace dz:=dz.mod R (RV g2 z2)
    replace ep:=ep.mod R (RV g3 z3)
    have ahD:=Jb (k:=k) (s:=s) (st:=st) (sk:=ew) (cs:=eE) (fp:=fl) Gq (md.then aaL) R (fun x ae _ dk=>RV x dk ae)
    obtain⟨ahE,_⟩:=acK kr ew vs j9 (.M (acc ++ [(t,v)]) t') (acc ++ [(t,v)]) _ t' ((aaL.mono (by simp)).trans (R.mono (by simp))) ahl alZ y9 ((eS.I aaL).mod R (fun x ae=>Rz (n10 x ae) (fun e=>rI (e▸ae)) (fun e=>I8 (e▸ae)))) (fun x ae=>.inl ae) DV (fun A w c m h=>h)
    refine J b7 (bQ (aT rfl (cF (bx (by simp) ?_))))
    exact fJ (σ:=RO) (s:=(some v,_,lA,_)) (none,[gi,jx,NC,Je,Bm,A1],j9,.M (acc ++ [(t,v)]) t'::st,_,_,_) ⟨rfl,rfl,rfl,rfl,trivial⟩ ⟨Jg lJ jF ig he,ahE,z2,z3,n23,dz,ep,rfl,Jc,fun v' bK=>(by cases bK),bE,by dsimp only;omega,lE,fun f dI=>by
     rcases List.mem_cons.1 dI with rfl | dI
     ·simp [lV.sz] at Gr ⊢;omega
     have:=LI f dI;simp;omega,ahD⟩ (by dsimp only;omega)
set_option maxRecDepth 10000
section
variable {P:Program} {fn:Func} {l:List (Nat×Value)} {w:World} {n:Nat} {ds:List Deferred} {asp:Ending→World→Prop} {t t':Nat}
theorem pE {a:Act} {T NK c:Nat} {ad rT:Addr} {vs:List Value} {v':Value} (ay:Has n ds l a) (bq:fn.results = #[.cell t T,.cell t' NK]) (cf:rO P T c=true) (DY:nM P NK=true) (bK:i' t l=some (.pointer (some ad))) (qj:i' t' l=some (.pointer (some rT)))
  (ck:vs.length=c) (bj:ri w ad vs) (zG:w.cell? rT=some v'):(results fn a.tmps).run P w = .ok (.tuple #[.agg vs.toArray,v']) w:=by
 simp [results,bq,ay.get _ _ bK,ay.get _ _ qj,asAddr,hy cf ck bj,kU DY zG]
end
/-- what the program's Parse hands back -/
noncomputable def pF (s:aa):JV:=match parse s with
 | .ok v=>v
 | .error _=>JV.gQ
noncomputable def rq (s:aa):Int:=match parse s with
 | .ok _=>0
 | .error e=>e
theorem ahG:vT Tryz.prog 75 [(0,1),(1,1),(2,1)]=true:=by kernel_rfl
theorem ahH:hG Tryz.prog 75 [S [],.int .i64 0,.slice none 0 0]:=by unfold hG;kernel_rfl
theorem Jh:aQ Tryz.prog 58:=aQ.of Tryz.func58 (by kernel_rfl) (by kernel_rfl)
theorem ac9:aQ Tryz.prog 60:=aQ.of Tryz.func60 (by kernel_rfl) (by kernel_rfl)
theorem RW (w:World) (ge gs:Nat) (B:aF w ge 33 [.int .i64 0]):CallsD Tryz.prog 58 [.pointer (some ⟨ge,0,none⟩),.pointer (some ⟨gs,0,none⟩)].toArray .returning w (fun e mU w'=>(∃ v,e = .returned v)∧mU = .returning∧Mod [] w w'):=by
 refine qW Tryz.func58 rfl rfl rfl (l:=[(0,_),(1,_)]) ⟨rfl,rfl,trivial⟩ rfl rfl (.inl ⟨rfl,rfl,rfl⟩) (by rintro u w ⟨⟨v,bK⟩,_⟩;cases bK) fun K1 aV=>?_;have E:=Mod.refl [] w;refine fA (bF DZ rfl) (zH _ _) rfl fun cO aB aA=>?_;obtain⟨_,R⟩:=aA;replace B:=B.I R;replace E:=E.then R;refine J aV (ab fun aL=>ag (bc oS rfl (B.cell rfl)) (ag (eU rfl rfl) (J aL ?_)));refine aI rfl (fun cL=>?_) (fun cL=>?_)
 ·exact absurd rfl cL
 exact ca (ku rfl ⟨⟨_,rfl⟩,rfl,E⟩)
theorem Gv (w:World) (ge gs:Nat) (z:Value) (e:Int) (gD:List Value) (tt:gD.length=6) (B:aF w ge 33 [z]) (dz:aF w gs 25 gD) (b1:ge≠gs) (he:e≠0):CallsD Tryz.prog 58 [.pointer (some ⟨ge,0,none⟩),.pointer (some ⟨gs,0,none⟩)].toArray (.panicking (Cf 124 e)) w (fun LJ mU w'=>(∃ v,LJ = .returned v)∧mU = .panicking [{v:=.iface 124 (.agg #[.int .i64 e]),recovered:=true}]∧aF w' ge 33 [.int .i64 e]∧aF w' gs 25 rp∧Mod [ge,gs] w w'):=by
 refine qW Tryz.func58 rfl rfl rfl (l:=[(0,_),(1,_)]) ⟨rfl,rfl,trivial⟩ rfl rfl (.inr ⟨rfl,rfl⟩) (by rintro u w ⟨⟨v,bK⟩,_⟩;cases bK) fun K1 aV=>?_;have E:=Mod.refl [ge,gs] w;refine fA (bF DZ rfl) (zI _ ge z e B) rfl fun cO aB aA=>?_;obtain⟨sM,R⟩:=aA;replace E:=E.trans' R (fun x ae=>.inl (by simp at ae;simp [ae]));replace dz:=dz.mod R (by simp;exact fun h=>b1 h.symm);clear B;have B:=sM;refine J aV (ab fun aL=>ag (bc oS rfl (B.cell rfl)) (ag (eU rfl rfl) (J aL ?_)));refine aI rfl (fun cL=>?_) (fun cL=>?_)
 ·obtain⟨akp,z2,z3,z4,z5,akq,rfl⟩:=six tt;refine bQ (ag (a' (us:=[]) (cs:=[_,_,_,_,_,_]) gW cB rfl rfl) (bo (vs:=[_,_,_,_,_,_]) aK dz rfl rfl rfl (by simp [Value.oneCell']) (by simp) fun lY ox=>?_));replace E:=E.trans' ox.mod (fun x ae=>.inl (by simp at ae;simp [ae]));replace B:=B.mod ox.mod (by simp;exact b1);have ny:=ox.eq (cs':=rp) rfl;exact cF (ku rfl ⟨⟨_,rfl⟩,rfl,B,ny,E⟩)
 exact absurd he cL
theorem RX (w:World) (s:aa) (e4:Env w):Calls Tryz.prog 22 [S s].toArray w (bL fun u w'=>∃ us,u = .tuple #[.agg us.toArray,.int .i64 (rq s)]∧ao (List.range w.heap.size) w' (pF s).D us∧Mod [] w w'):=by
 refine LK Tryz.func22 rfl rfl rfl (l:=[(0,_)]) ⟨rfl,trivial⟩ ?_;have E:=Mod.refl [] w;refine ab fun aV=>bt cB rfl fun g2 aB bR=>?_;have Ji:=bR.le E;replace E:=E.then bR.mod;have dz:=bR.az;refine bt aaM rfl fun g3 cN cK=>?_;have NL:=cK.le E;have n23:=cK.ne dz;replace dz:=dz.I cK.mod;replace E:=E.then cK.mod;have ep:=cK.az;refine J aV (ax fun aL=>ab fun aW=>aG rfl (ag (bw Tryz.underlying9 rfl) (ag (gq rfl rfl) (J aW ?_))));refine aI rfl (fun kz=>?_) (fun kz=>?_)
 ·have cp:parse s = .error 3:=by unfold parse;rw [if_pos (by omega)]
  refine ab fun br=>ag (a' (us:=[]) (cs:=[_,_,_,_,_,_]) gW cB rfl rfl) (bo (vs:=[_,_,_,_,_,_]) aK dz rfl rfl rfl (by simp [Value.oneCell']) (by simp) fun fV sF=>?_);have ny:=sF.eq (cs':=rp) rfl;replace ep:=ep.mod sF.mod (by simpa using Ne.symm n23);replace E:=E.own sF.mod Ji;refine ea oS ep rfl rfl rfl (by simp) fun ic kZ=>?_;replace ny:=ny.mod kZ.mod (by simpa using n23);replace E:=E.own kZ.mod NL;have XO:=kZ.eq (cs':=[.int .i64 3]) rfl;exact J br (aZ (aO (by simp) (D0 fun a ay=>⟨_,pE ay rfl aK oS rfl rfl rfl (ny.cs rfl) (XO.cell rfl),⟨_,by unfold rq;rw [cp],by unfold pF;rw [cp];exact JV.gR,E⟩⟩)))
 have bf:s.length≤65536:=by omega
 refine ca (aw aL (ab fun bI=>ag (RY rfl rfl) (Gw rfl (J bI (ab fun bW=>aG rfl (ag (a' (cs:=[_,_,_]) ahG ahH rfl rfl) (dP rfl rfl rfl fun g4 fV eQ=>?_)))))));have ajY:=eQ.le E;have n24:=eQ.ne dz;have n34:=eQ.ne ep;replace dz:=dz.I eQ.mod;replace ep:=ep.I eQ.mod;replace E:=E.then eQ.mod;have B:aF fV g4 75 [S s,.int .i64 ((0:Nat):Int),.slice none 0 0]:=eQ.az;have ahI:Nj<g4:=Nat.lt_of_lt_of_le e4.sz ajY;refine aT rfl (J bW (ab fun cb=>aG rfl ?_))
 have zJ:parse s=match IQ s with
  | .error e=>.error e
  | .ok (v,k)=>if aj aX s k<s.length then .error 4 else .ok v:=by unfold parse;rw [if_neg (by omega)];rfl
 refine fQ (bF ac9 rfl) (Nz B bf (e4.I E) ahI (QB s)) rfl (fun cQ aA=>aA) (fun lW ic aA=>?_) fun cO ic aA=>?_
 ·obtain⟨e,he,b3,rfl,R⟩:=aA;rw [he] at zJ;replace dz:=dz.mod R (by simpa using n24);replace ep:=ep.mod R (by simpa using n34);replace E:=E.own R ajY;refine aO (by simp) (wE fun a ay=>sa (by simp) Jh (Gv _ g3 g2 _ e _ rfl ep dz (Ne.symm n23) b3) fun LJ afy lY k0=>?_);obtain⟨⟨v9,rfl⟩,rfl,ep,dz,Bb⟩:=k0;exact⟨v9,rfl,rfl,_,pE ay rfl aK oS rfl rfl rfl (dz.cs rfl) (ep.cell rfl),⟨_,by unfold rq;rw [zJ],by unfold pF;rw [zJ];exact JV.gR,E.trans' Bb (fun x ae=>.inr (by simp at ae;rcases ae with rfl | rfl <;> assumption))⟩⟩
 obtain⟨⟨v,k⟩,he,⟨us,sk,rfl,asp,B,hk⟩,R⟩:=aA;rw [he] at zJ
 dsimp only at zJ asp B hk
 obtain⟨eW,rA⟩:=JV.cells_one asp;obtain⟨gi,jx,NC,Je,Bm,A1,rfl⟩:=six eW;replace dz:=dz.mod R (by simpa using n24);replace ep:=ep.mod R (by simpa using n34);replace E:=E.own R ajY;have RZ:∀ x∈g2::g3::List.range w.heap.size,x∈g4::List.range fV.heap.size:=fun x ae=>by
  have h1:=(bR.mod.trans (cK.mod.trans eQ.mod)).size;have aq:=bR.az.lt;have aU:=cK.az.lt;have bM:=cK.mod.size;have cL:=eQ.mod.size;simp only [List.mem_cons,List.mem_range] at ae ⊢;rcases ae with rfl | rfl | ae <;> right <;> omega
 have p7:ao (g2::g3::g4::List.range w.heap.size) ic v.D [gi,jx,NC,Je,Bm,A1]:=asp.e9 (fun x ae=>by
  rcases List.mem_cons.1 ae with rfl | ae
  ·exact RZ _ (by simp)
  rcases List.mem_cons.1 ae with rfl | ae
  ·exact RZ _ (by simp)
  rcases List.mem_cons.1 ae with rfl | ae
  ·simp
  exact RZ _ (by simp only [List.mem_cons];exact .inr (.inr ae)))
 refine bo (vs:=[_,_,_,_,_,_]) aK dz rfl rfl rfl rA (by simp) fun jn hx=>?_;replace dz:=hx.eq (cs':=[gi,jx,NC,Je,Bm,A1]) rfl;replace B:=B.mod hx.mod (by simpa using Ne.symm n24);replace ep:=ep.mod hx.mod (by simpa using Ne.symm n23);replace p7:=p7.toM hx.mod (fun x ae=>by rw [List.mem_singleton.1 ae];simp);replace E:=E.own hx.mod Ji;refine J cb (ax fun cx=>ab fun cH=>aG rfl (fA (bF DU rfl) (uZ _ g4 s k sk B bf hk) rfl fun cO jC aA=>?_));obtain⟨B,R⟩:=aA;replace dz:=dz.mod R (by simpa using n24);replace ep:=ep.mod R (by simpa using n34);replace p7:=p7.toM R (fun x ae=>by rw [List.mem_singleton.1 ae];simp);replace E:=E.own R ajY;refine J cH (ab fun b5=>ak 2 rfl (ag (av da rfl) (ag (bc dE rfl (B.cell rfl)) (aG rfl (ag (bw Tryz.underlying9 rfl) (ag (cI rfl rfl) (J b5 ?_)))))));refine aI rfl (fun Bj=>?_) (fun Bj=>?_)
 ·rw [if_pos (by omega)] at zJ;refine bQ ?_;refine fQ (bF gf rfl) (eX _ 4) rfl (fun cQ aA=>aA.elim) (fun lW iw aA=>?_) fun cO iw aA=>?_
  ·obtain⟨rfl,rfl⟩:=aA;refine aO (by simp) (wE fun a ay=>sa (by simp) Jh (Gv _ g3 g2 _ 4 _ rfl ep dz (Ne.symm n23) (by decide)) fun LJ afy lY k0=>?_);obtain⟨⟨v9,rfl⟩,rfl,ep,dz,Bb⟩:=k0;exact⟨v9,rfl,rfl,_,pE ay rfl aK oS rfl rfl rfl (dz.cs rfl) (ep.cell rfl),⟨_,by unfold rq;rw [zJ],by unfold pF;rw [zJ];exact JV.gR,E.trans' Bb (fun x ae=>.inr (by simp at ae;rcases ae with rfl | rfl <;> assumption))⟩⟩
  exact aA.elim
 rw [if_neg (by omega)] at zJ;refine ca (aw cx (ab fun bX=>ag (a8 (vs:=[_,_,_,_,_,_]) aK rfl rfl (dz.cs rfl)) (bo (vs:=[_,_,_,_,_,_]) aK dz rfl rfl rfl rA (by simp) fun iw pe=>?_)));replace dz:=pe.eq (cs':=[gi,jx,NC,Je,Bm,A1]) rfl;replace ep:=ep.mod pe.mod (by simpa using Ne.symm n23);replace p7:=p7.toM pe.mod (fun x ae=>by rw [List.mem_singleton.1 ae];simp);replace E:=E.own pe.mod Ji;refine ea oS ep rfl rfl rfl (by simp) fun n' nG=>?_;replace dz:=dz.mod nG.mod (by simpa using n23);have XO:=nG.eq (cs':=[.int .i64 0]) rfl;replace p7:=p7.toM nG.mod (fun x ae=>by rw [List.mem_singleton.1 ae];simp);replace E:=E.own nG.mod NL;refine J bX (aZ (D0 fun a ay=>sa (by simp) Jh (RW _ g3 g2 XO) fun LJ afy lY k0=>?_));obtain⟨⟨v9,rfl⟩,rfl,Bb⟩:=k0;exact⟨v9,rfl,rfl,_,pE ay rfl aK oS rfl rfl rfl ((dz.I Bb).cs rfl) ((XO.I Bb).cell rfl),⟨_,by unfold rq;rw [zJ],by unfold pF;rw [zJ];exact(p7.bB Bb).e9 (fun x ae=>by simp only [List.mem_cons];exact .inr (.inr (.inr ae))),E.then Bb⟩⟩
end Go.Proofs.YtnihidkbkhcfoaaGreatDoor.V
set_option maxRecDepth 10000
namespace Go.Proofs.YtnihidkbkhcfoaaGreatDoor.V
open Go
end Go.Proofs.YtnihidkbkhcfoaaGreatDoor.V
set_option maxRecDepth 10000
namespace Go.Proofs.YtnihidkbkhcfoaaGreatDoor.V
open Go Go.Proofs
theorem ac':aQ Tryz.prog 22:=aQ.of Tryz.func22 (by kernel_rfl) (by kernel_rfl)
end Go.Proofs.YtnihidkbkhcfoaaGreatDoor.V
namespace Go.Proofs.YtnihidkbkhcfoaaGreatDoor.V
open Go
theorem IU {l l':aa} (b3:(aJ l).2≠0) (h:l.take (aJ l).2 <+: l'):aJ l'=aJ l:=by
 cases l with
 | nil=>exact absurd rfl b3
 | cons b r=>
  obtain⟨y,rfl⟩:=h
  by_cases aS:b.toNat<128
  ·rw [fW aS];show aJ ((b::r).take 1++y)=_;exact fW aS
  obtain⟨n,lo,c,hH⟩:∃ n lo c,ej b.toNat=(n,lo,c):=⟨_,_,_,rfl⟩
  by_cases ck:n=0∨(b::r).length<n
  ·exact absurd (by rw [fX aS hH ck]) b3
  have aq:(aJ (b::r)).2=n:=by
   rw [oc aS hH ck] at b3 ⊢
   split at b3
   ·exact absurd rfl b3
   split at b3
   ·exact absurd rfl b3
   rename_i bj;rw [if_neg bj]
  rw [aq,oc aS hH ck];obtain⟨m,rfl⟩:∃ m,n=m+1:=⟨n-1,by omega⟩;simp only [List.length_cons] at ck;rw [List.take_succ_cons,List.cons_append,oc aS hH (by simp only [List.length_cons,List.length_append,List.length_take];omega)];rw [show m+1-1=m from rfl,List.take_append_of_le_length (by rw [List.length_take];omega),List.take_take,Nat.min_self]
theorem B9:∀ k,k<16→kH (iI.getD k 0)=some k:=by decide
theorem r3 {b:UInt8} (h:b.toNat<128):jf b.toNat = [b]:=by
 have:=qP (l:=[b]) (by simp) (by rw [fW h];simp);rw [fW h] at this;simpa using this
theorem M0 {f:Nat} {b:UInt8} {X:aa} {i:Nat} {out:aa} (aS:b.toNat<128):fT (f+1) (iL b++X) i out=fT f X (i+(iL b).length) (out ++ [b]):=by
 have two:∀ x:UInt8,r2 x=some b.toNat→iL b = [92,x]→fT (f+1) (iL b++X) i out=fT f X (i+(iL b).length) (out ++ [b]):=by
  intro x ae he;have bq:lH (92::x::X)=(b.toNat,2):=by
   unfold lH;simp only;rw [ae]
  rw [he];show fT (f+1) (92::(x::X)) i out=_;rw [fT,if_neg (by decide),if_pos rfl];simp only;rw [bq,if_neg (by simp),r3 aS];rfl
 unfold iL at two ⊢
 by_cases h1:b=34∨b=92
 ·rw [if_pos h1] at two ⊢;rcases h1 with rfl | rfl
  ·exact two 34 rfl rfl
  exact two 92 rfl rfl
 rw [if_neg h1] at two ⊢
 by_cases aq:b=8
 ·rw [if_pos aq] at two ⊢;subst aq;exact two 98 rfl rfl
 rw [if_neg aq] at two ⊢
 by_cases aU:b=9
 ·rw [if_pos aU] at two ⊢;subst aU;exact two 116 rfl rfl
 rw [if_neg aU] at two ⊢
 by_cases bM:b=10
 ·rw [if_pos bM] at two ⊢;subst bM;exact two 110 rfl rfl
 rw [if_neg bM] at two ⊢
 by_cases cL:b=12
 ·rw [if_pos cL] at two ⊢;subst cL;exact two 102 rfl rfl
 rw [if_neg cL] at two ⊢
 by_cases eW:b=13
 ·rw [if_pos eW] at two ⊢;subst eW;exact two 114 rfl rfl
 rw [if_neg eW] at two ⊢;clear two
 by_cases kz:b.toNat<32
 rotate_left
 ·rw [if_neg kz];show fT (f+1) (b::X) i out=_;have zf:b≠34:=fun h=>h1 (.inl h);have ab':b≠92:=fun h=>h1 (.inr h);rw [fT,if_neg zf,if_neg ab'];simp only;rw [fW aS,if_neg (by simp;omega),r3 aS];rfl
 rw [if_pos kz];have d1:=B9 (b.toNat / 16) (by omega);have d2:=B9 (b.toNat % 16) (by omega);generalize iI.getD (b.toNat / 16) 0=x at d1;generalize iI.getD (b.toNat % 16) 0=y at d2;have bq:lH (92::117::48::48::x::y::X)=(b.toNat,6):=by
  have hu:nH (92::117::48::48::x::y::X)=some b.toNat:=by
   show eL 4 (48::48::x::y::X) 0=_;have B':kH 48=some 0:=rfl;simp only [eL,B',d1,d2]
   congr 1
   omega
  unfold lH;simp only;rw [show r2 117=none from rfl];simp only;rw [hu];simp only;rw [if_neg (by omega),if_pos (by omega)]
 show fT (f+1) (92::(117::48::48::x::y::X)) i out=_;rw [fT,if_neg (by decide),if_pos rfl];simp only;rw [bq,if_neg (by simp),r3 aS];rfl
theorem zg (c:UInt8) (t:aa):db (c::t)=iL c++db t:=by simp [db]
theorem M1 (a b:aa):db (a++b)=db a++db b:=by simp [db]
theorem Ca (c:UInt8):1≤(iL c).length:=by
 unfold iL
 repeat' split
 all_goals simp
theorem wg:∀ (N:Nat) (t:aa),t.length≤N→cn t=true→∀ (f i:Nat) (out rest:aa),(db t).length+1≤f→fT f (db t++34::rest) i out=some (out++t,i+(db t).length+1)
 | N,[],_,_,f,i,out,rest,dI=>by
  obtain⟨g,rfl⟩:∃ g,f=g+1:=⟨f-1,by omega⟩
  show fT (g+1) (34::rest) i out=_
  rw [fT,if_pos rfl]
  simp [db]
 | 0,b::r,h,_,_,_,_,_,_=>by simp at h
 | N+1,b::r,h7,bK,f,i,out,rest,dI=>by
  have b1:(b::r)≠[]:=by simp
  have b3:=zh b1 bK
  have qj:=bK
  rw [k1 b1 b3] at qj
  obtain⟨g,rfl⟩:∃ g,f=g+1:=⟨f-1,by omega⟩
  by_cases bj:(aJ (b::r)).1<128
  ·obtain⟨x,ae,aca⟩:=mb b1 b3 bj
   have hs:(aJ (b::r)).2=1:=by
    have:=congrArg List.length ae
    rw [List.length_take,List.length_singleton] at this
    have:=kd (b::r)
    omega
   rw [hs] at ae qj
   simp only [List.take_succ_cons,List.take_zero,List.cons.injEq,and_true] at ae
   subst ae
   rw [List.drop_succ_cons,List.drop_zero] at qj
   have e5:=Ca b
   rw [zg,List.length_append] at dI
   rw [zg,List.append_assoc,M0 (by omega),wg N r (by simpa using h7) qj g _ _ rest (by omega)]
   simp only [List.length_append,List.append_assoc,List.singleton_append,Option.some.injEq,Prod.mk.injEq,true_and]
   omega
  have aS:=xi b1 b3 (by omega)
  have hle:=kd (b::r)
  generalize ck:(aJ (b::r)).2=n at *
  have zi:db (b::r)=(b::r).take n++db ((b::r).drop n):=by
   conv=>lhs;rw [← List.take_append_drop n (b::r)]
   rw [M1,Cb aS]
  have rB:aJ ((b::r).take n++(db ((b::r).drop n)++34::rest))=aJ (b::r):=IU (by omega) (by rw [ck];exact List.prefix_append _ _)
  have agU:jf (aJ (b::r)).1=(b::r).take n:=by rw [qP b1 (by omega),ck]
  have cg:((b::r).take n).length=n:=by rw [List.length_take];omega
  have QF:(b::r).take n=b::(r.take (n-1)):=by
   obtain⟨m,rfl⟩:∃ m,n=m+1:=⟨n-1,by omega⟩
   rfl
  have DI:128≤b.toNat:=aS b (by rw [QF];simp)
  rw [zi,List.length_append,cg] at dI
  rw [zi,List.append_assoc]
  have acb:fT (g+1) ((b::r).take n++(db ((b::r).drop n)++34::rest)) i out=fT g (db ((b::r).drop n)++34::rest) (i+n) (out++(b::r).take n):=by
   have agV:((b::r).take n++(db ((b::r).drop n)++34::rest)).drop n=db ((b::r).drop n)++34::rest:=List.drop_left' cg
   generalize afx:(b::r).take n++(db ((b::r).drop n)++34::rest)=Z at rB agV ⊢
   cases Z with
   | nil=>rw [QF] at afx;cases afx
   | cons z apc=>
    have dk:z=b:=by
     rw [QF] at afx
     injection afx with afx
     exact afx.symm
    subst dk
    have zf:¬ z=34:=fun h=>by rw [h] at DI;revert DI;decide
    have ab':¬ z=92:=fun h=>by rw [h] at DI;revert DI;decide
    rw [fT,if_neg zf,if_neg ab']
    simp only
    rw [rB,ck,if_neg (by omega),agV,agU]
  rw [acb,wg N _ (by rw [List.length_drop];simp only [List.length_cons] at h7 ⊢;omega) qj g _ _ rest (by omega)]
  simp only [List.length_append,cg,List.append_assoc,List.take_append_drop,Option.some.injEq,Prod.mk.injEq,true_and]
  omega
theorem Cc {s t rest:aa} {k:Nat} (bK:cn t=true) (h:s.drop k=cw t++rest):fc s k=some (t,k+(cw t).length):=by
 have fh:s.drop k=34::(db t++34::rest):=by rw [h];simp [cw]
 have hk:s[k]? = some 34:=by
  have:=congrArg (fun l=>l[0]?) fh;simpa [List.getElem?_drop] using this
 have bY:s.drop (k+1)=db t++34::rest:=by
  rw [gk hk] at fh;injection fh
 have hlen:=congrArg List.length fh;simp only [List.length_drop,List.length_cons,List.length_append] at hlen;unfold fc;rw [if_pos hk,bY,wg t.length t (Nat.le_refl _) bK _ _ _ _ (by omega)];simp only [cw,List.length_append,List.length_cons,List.length_nil,List.nil_append,Option.some.injEq,Prod.mk.injEq,true_and];omega
theorem uR (s:aa):∀ f:Nat,(∀ k deep r,kI f s k deep=some r→kI (f+1) s k deep=some r)∧
  (∀ k deep acc r,qM f s k deep acc=some r→qM (f+1) s k deep acc=some r)∧
  (∀ k deep m r,qN f s k deep m=some r→qN (f+1) s k deep m=some r)
 | 0=>⟨fun _ _ _ h=>by simp [kI] at h,fun _ _ _ _ h=>by simp [qM] at h,fun _ _ _ _ h=>by simp [qN] at h⟩
 | f+1=>by
  obtain⟨tM,za,zb⟩:=uR s f
  refine⟨fun rn deep r h=>?_,fun k deep acc r h=>?_,fun k deep m r h=>?_⟩
  ·rw [kI] at h ⊢
   generalize aj aX s rn=k at h ⊢
   dsimp only at h ⊢
   split at h
   ·rename_i c;rw [if_pos c];exact h
   rename_i c;rw [if_neg c]
   split at h
   ·rename_i c;rw [if_pos c];exact h
   rename_i c;rw [if_neg c]
   split at h
   ·rename_i c;rw [if_pos c];exact h
   rename_i c;rw [if_neg c]
   split at h
   ·rename_i c;rw [if_pos c];exact h
   rename_i c;rw [if_neg c]
   split at h
   ·rename_i c;rw [if_pos c]
    split at h
    ·rename_i c;rw [if_pos c];exact h
    rename_i c;rw [if_neg c]
    split at h
    ·rename_i c;rw [if_pos c]
     split at h
     ·rename_i c;rw [if_pos c];exact h
     rename_i c;rw [if_neg c]
     exact za _ _ _ _ h
    rename_i c;rw [if_neg c]
    split at h
    ·rename_i c;rw [if_pos c];exact h
    rename_i c;rw [if_neg c]
    exact zb _ _ _ _ h
   rename_i c;rw [if_neg c];exact h
  ·rw [qM] at h ⊢
   split at h
   ·cases h
   ·rename_i e bK;rw [tM _ _ _ bK];exact h
   rename_i y j9 bK
   rw [tM _ _ _ bK]
   dsimp only at h ⊢
   split at h
   ·rename_i c;rw [if_pos c];exact h
   rename_i c;rw [if_neg c]
   split at h
   ·rename_i c;rw [if_pos c];exact za _ _ _ _ h
   rename_i c;rw [if_neg c];exact h
  rw [qN] at h ⊢
  split at h
  ·rename_i e hk;exact h
  rename_i t dZ hk
  split at h
  ·cases h
  ·rename_i e bK;rw [tM _ _ _ bK];exact h
  rename_i y j9 bK
  rw [tM _ _ _ bK]
  dsimp only at h ⊢
  split at h
  ·rename_i c;rw [if_pos c];exact h
  rename_i c;rw [if_neg c]
  split at h
  ·rename_i c;rw [if_pos c];exact zb _ _ _ _ h
  rename_i c;rw [if_neg c];exact h
theorem x3 {s:aa} {f g k deep:Nat} {r:Bs} (h:kI f s k deep=some r) (dA:f≤g):kI g s k deep=some r:=by
 induction g with
 | zero=>
  obtain rfl:f=0:=by omega
  exact h
 | succ g dK=>
  rcases Nat.lt_or_ge g f with h1 | h1
  ·obtain rfl:f=g+1:=by omega
   exact h
  exact(uR s g).1 _ _ _ (dK h1)
theorem Xd {s:aa} {f g k deep:Nat} {acc:List JV} {r:Bs} (h:qM f s k deep acc=some r) (dA:f≤g):qM g s k deep acc=some r:=by
 induction g with
 | zero=>
  obtain rfl:f=0:=by omega
  exact h
 | succ g dK=>
  rcases Nat.lt_or_ge g f with h1 | h1
  ·obtain rfl:f=g+1:=by omega
   exact h
  exact(uR s g).2.1 _ _ _ _ (dK h1)
theorem Xe {s:aa} {f g k deep:Nat} {acc:List (aa×JV)} {r:Bs} (h:qN f s k deep acc=some r) (dA:f≤g):qN g s k deep acc=some r:=by
 induction g with
 | zero=>
  obtain rfl:f=0:=by omega
  exact h
 | succ g dK=>
  rcases Nat.lt_or_ge g f with h1 | h1
  ·obtain rfl:f=g+1:=by omega
   exact h
  exact(uR s g).2.2 _ _ _ _ (dK h1)
theorem QG {s:aa} {f g k deep:Nat} {r MV:Bs} (h:kI f s k deep=some r) (fh:kI g s k deep=some MV):r=MV:=by
 have h1:=x3 h (Nat.le_max_left f g);have aq:=x3 fh (Nat.le_max_right f g);rw [h1] at aq;injection aq
theorem dN {s:aa} {k:Nat} {c:UInt8} {r:aa} (h:s.drop k=c::r):s[k]? = some c∧s.drop (k+1)=r:=by
 have hk:s[k]? = some c:=by
  have:=congrArg (fun l=>l[0]?) h;simpa [List.getElem?_drop] using this
 rw [gk hk] at h;injection h with _ h
 exact⟨hk,h⟩
theorem mc {s a r:aa} {k:Nat} (h:s.drop k=a++r):s.drop (k+a.length)=r:=by
 rw [← List.drop_drop,h,List.drop_left' rfl]
theorem cz {s r t:aa} {k:Nat} {c d:UInt8} (h:s.drop k=c::r) (bY:d≠c):aC s k (d::t)=false:=by
 rw [aC,h,List.isPrefixOf,beq_eq_false_iff_ne.2 bY];rfl
theorem wh {s t r:aa} {k:Nat} (h:s.drop k=t++r):aC s k t=true:=by
 rw [B6,h,List.take_left' rfl]
theorem gI {s r:aa} {k:Nat} {c:UInt8} (h:s.drop k=c::r) (bj:aX c=false):aj aX s k=k:=lq (dN h).1 bj
def QH (c:UInt8):Prop:=aX c=false∧c≠93∧c≠125
def ald (r:aa):Prop:=∀ c,r[0]? = some c→eK c=false
def Ic (v:JV) (deep:Nat) (t:aa):Prop:=(∃ c r,t=c::r∧QH c)∧∀ s k rest,s.drop k=t++rest→ald rest→∃ f,kI f s k deep=some (.ok (v,k+t.length))
theorem IV (n:Int):∃ c r,Lib.itoa n=c::r∧(c=45∨bA c=true):=by
 unfold Lib.itoa
 split
 ·exact⟨45,_,rfl,.inl rfl⟩
 cases h:Lib.decDigits n.toNat with
 | nil=>exact absurd h (sI _)
 | cons c r=>exact⟨c,r,rfl,.inr (qi n.toNat c (by rw [h];simp))⟩
theorem acd {c:UInt8} (h:c=45∨bA c=true) (d:UInt8) (bY:¬ (d.toNat=45∨(48≤d.toNat∧d.toNat≤57))):d≠c:=by
 intro e;subst e;apply bY;rcases h with rfl | h
 ·left;rfl
 right;simp only [bA,Bool.and_eq_true,decide_eq_true_eq] at h;exact h
theorem Xf {deep:Nat}:Ic JV.gQ deep JV.jV:=by
 refine⟨⟨110,_,rfl,by decide,by decide,by decide⟩,fun s k rest h _=>⟨1,?_⟩⟩;have hw:=gI (c:=110) h rfl;rw [kI];simp only;rw [hw,if_pos (wh h)];rfl
theorem QI {deep:Nat}:Ic (.mk 1 true 0 [] [] []) deep JV.iT:=by
 refine⟨⟨116,_,rfl,by decide,by decide,by decide⟩,fun s k rest h _=>⟨1,?_⟩⟩;have hw:=gI (c:=116) h rfl;rw [kI];simp only;rw [hw,cz (c:=116) h (by decide),if_neg (by simp),if_pos (wh h)];rfl
theorem M3 {deep:Nat}:Ic (.mk 1 false 0 [] [] []) deep JV.gF:=by
 refine⟨⟨102,_,rfl,by decide,by decide,by decide⟩,fun s k rest h _=>⟨1,?_⟩⟩;have hw:=gI (c:=102) h rfl;rw [kI];simp only;rw [hw,cz (c:=102) h (by decide),if_neg (by simp),cz (c:=102) h (by decide),if_neg (by simp),if_pos (wh h)];rfl
theorem Xg {deep:Nat} {n:Int} (b3 : -9007199254740991≤n) (h1:n≤9007199254740991):Ic (JV.hp n) deep (Lib.itoa n):=by
 obtain⟨c,r,bj,bY⟩:=IV n;have b1:=fun d r4=>acd bY d r4;refine⟨⟨c,r,bj,?_,(b1 93 (by decide)).symm,(b1 125 (by decide)).symm⟩,fun s k rest h bq=>⟨1,?_⟩⟩
 ·unfold aX;rw [beq_eq_false_iff_ne.2 (b1 32 (by decide)).symm,beq_eq_false_iff_ne.2 (b1 9 (by decide)).symm,beq_eq_false_iff_ne.2 (b1 10 (by decide)).symm,beq_eq_false_iff_ne.2 (b1 13 (by decide)).symm];rfl
 have nV:aX c=false:=by
  unfold aX;rw [beq_eq_false_iff_ne.2 (b1 32 (by decide)).symm,beq_eq_false_iff_ne.2 (b1 9 (by decide)).symm,beq_eq_false_iff_ne.2 (b1 10 (by decide)).symm,beq_eq_false_iff_ne.2 (b1 13 (by decide)).symm];rfl
 have bf:s.drop k=c::(r++rest):=by rw [h,bj];rfl
 rw [kI];simp only;rw [gI bf nV,cz bf (b1 110 (by decide)),cz bf (b1 116 (by decide)),cz bf (b1 102 (by decide)),cz bf (b1 34 (by decide)),cz bf (b1 91 (by decide)),cz bf (b1 123 (by decide))];simp only [Bool.false_eq_true,if_false,Bool.or_self];rw [IT b3 h1 h bq]
theorem tN (t:aa):cw t=34::(db t ++ [34]):=rfl
theorem Xh {deep:Nat} {t:aa} (bK:cn t=true):Ic (JV.aP t) deep (cw t):=by
 refine⟨⟨34,_,tN t,by decide,by decide,by decide⟩,fun s k rest h _=>⟨1,?_⟩⟩;have bf:s.drop k=34::(db t ++ [34]++rest):=by rw [h,tN];rfl
 rw [kI];simp only;rw [gI bf rfl,cz bf (by decide),cz bf (by decide),cz bf (by decide)];simp only [Bool.false_eq_true,if_false];rw [if_pos (gl.2 (dN bf).1),Cc bK h]
theorem Cd {s t rest:aa} {k:Nat} {m:List (aa×JV)} (bK:cn t=true) (ck:look m t=none) (h:s.drop k=cw t++58::rest):jY s k m = .ok (t,k+(cw t).length+1):=by
 have bf:s.drop k=34::(db t ++ [34]++58::rest):=by rw [h,tN];rfl
 have aq:s.drop (k+(cw t).length)=58::rest:=mc h;unfold jY;rw [gI bf rfl,Cc bK h];simp only;rw [ck,if_neg (by simp),gI aq rfl,if_pos (gl.2 (dN aq).1)]
def QJ (l:List JV) (deep:Nat) (t:aa):Prop:=∀ s k acc rest,s.drop k=t++93::rest→∃ f,qM f s k (deep+1) acc=some (.ok (JV.cX (acc++l),k+t.length+1))
theorem QK {x:JV} {deep:Nat} {t:aa} (h:Ic x (deep+1) t):QJ [x] deep t:=fun s k acc rest bf=>by
 obtain⟨f,dI⟩:=h.2 s k _ bf (fun c bj=>by simp at bj;subst bj;rfl);refine⟨f+1,?_⟩;have aq:s.drop (k+t.length)=93::rest:=mc bf;rw [qM,dI];simp only;rw [gI aq rfl,if_pos (gl.2 (dN aq).1)]
theorem M4 {x:JV} {l:List JV} {deep:Nat} {t t':aa} (h:Ic x (deep+1) t) (fh:QJ l deep t'):QJ (x::l) deep (t ++ [44]++t'):=fun s k acc rest bf=>by
 have jX:s.drop k=t++44::(t'++93::rest):=by rw [bf];simp
 obtain⟨f,dI⟩:=h.2 s k _ jX (fun c bj=>by simp at bj;subst bj;rfl);have aq:s.drop (k+t.length)=44::(t'++93::rest):=mc jX;obtain⟨g,dA⟩:=fh s (k+t.length+1) (acc ++ [x]) rest (dN aq).2;refine⟨max f g+1,?_⟩;rw [qM,x3 dI (Nat.le_max_left f g)];simp only;rw [gI aq rfl,cz aq (by decide),if_neg (by simp),if_pos (gl.2 (dN aq).1),Xd dA (Nat.le_max_right f g)];simp only [List.append_assoc,List.singleton_append,List.length_append,List.length_cons,List.length_nil,Option.some.injEq,Except.ok.injEq,Prod.mk.injEq,true_and];omega
def QL (m:List (aa×JV)) (deep:Nat) (t:aa):Prop:=∀ s k m0 rest,s.drop k=t++125::rest→(∀ p∈m0,∀ q∈m,eR p.1 q.1=true)→er m0→∃ f,qN f s k (deep+1) m0=some (.ok (JV.obj (m0++m),k+t.length+1))
theorem zj {m0:List (aa×JV)} {t:aa} {x:JV} (h:∀ p∈m0,eR p.1 t=true):dC m0 t x=m0 ++ [(t,x)]∧look m0 t=none:=by
 constructor
 ·unfold dC;rw [List.filter_eq_self.2 h,List.filter_eq_nil_iff.2 (fun p cp e=>by
   have h1:=h p cp;have:=gh h1 e;rw [df] at this;cases this)]
  simp
 refine hQ fun j y aY e=>?_;have:=h y (List.mem_of_getElem? aY);rw [e,df] at this;cases this
theorem QM {m0:List (aa×JV)} {t:aa} {x:JV} (ay:er m0) (h:∀ p∈m0,eR p.1 t=true):er (m0 ++ [(t,x)]):=by
 rw [← (zj (x:=x) h).1];exact qk ay
theorem QN {x:aa×JV} {deep:Nat} {t:aa} (bK:cn x.1=true) (h:Ic x.2 (deep+1) t):QL [x] deep (cw x.1 ++ [58]++t):=fun s k m0 rest bf hm ay=>by
 have jX:s.drop k=cw x.1++58::(t++125::rest):=by rw [bf];simp
 obtain⟨cp,cg⟩:=zj (x:=x.2) (fun p cp=>hm p cp x (by simp));have aU:s.drop (k+(cw x.1).length+1)=t++125::rest:=(dN (mc jX)).2;obtain⟨f,dI⟩:=h.2 s _ _ aU (fun c bj=>by simp at bj;subst bj;rfl);have aq:s.drop (k+(cw x.1).length+1+t.length)=125::rest:=mc aU;refine⟨f+1,?_⟩;rw [qN,Cd bK cg jX];simp only;rw [dI];simp only;rw [gI aq rfl,if_pos (gl.2 (dN aq).1),cp];simp only [List.length_append,List.length_cons,List.length_nil,Option.some.injEq,Except.ok.injEq,Prod.mk.injEq,true_and];omega
theorem M5 {x:aa×JV} {m:List (aa×JV)} {deep:Nat} {t t':aa} (bK:cn x.1=true) (ae:∀ q∈m,eR x.1 q.1=true) (h:Ic x.2 (deep+1) t) (fh:QL m deep t'):QL (x::m) deep (cw x.1 ++ [58]++t ++ [44]++t'):=fun s k m0 rest bf hm ay=>by
 have jX:s.drop k=cw x.1++58::(t++44::(t'++125::rest)):=by rw [bf];simp
 have agW:∀ p∈m0,eR p.1 x.1=true:=fun p cp=>hm p cp x (by simp);obtain⟨cp,cg⟩:=zj (x:=x.2) agW;have aU:s.drop (k+(cw x.1).length+1)=t++44::(t'++125::rest):=(dN (mc jX)).2;obtain⟨f,dI⟩:=h.2 s _ _ aU (fun c bj=>by simp at bj;subst bj;rfl);have aq:s.drop (k+(cw x.1).length+1+t.length)=44::(t'++125::rest):=mc aU;obtain⟨g,dA⟩:=fh s (k+(cw x.1).length+1+t.length+1) (m0 ++ [(x.1,x.2)]) rest (dN aq).2 (fun p cp q e5=>by
  rcases List.mem_append.1 cp with cp | cp
  ·exact hm p cp q (by simp [e5])
  simp only [List.mem_singleton] at cp;subst cp;exact ae q e5) (QM ay agW)
 refine⟨max f g+1,?_⟩;rw [qN,Cd bK cg jX];simp only;rw [x3 dI (Nat.le_max_left f g)];simp only;rw [gI aq rfl,cz aq (by decide),if_neg (by simp),if_pos (gl.2 (dN aq).1),cp,Xe dA (Nat.le_max_right f g)];simp only [List.append_assoc,List.singleton_append,List.length_append,List.length_cons,List.length_nil,Option.some.injEq,Except.ok.injEq,Prod.mk.injEq,true_and,List.cons_append,List.nil_append];omega
theorem QO {deep:Nat} (bY:deep≠32):Ic (JV.cX []) deep [91,93]:=by
 refine⟨⟨91,_,rfl,by decide,by decide,by decide⟩,fun s k rest h _=>⟨1,?_⟩⟩;have bf:s.drop k=91::(93::rest):=h;have aq:=(dN bf).2;rw [kI];simp only;rw [gI bf rfl,cz bf (by decide),cz bf (by decide),cz bf (by decide),cz bf (by decide)];simp only [Bool.false_eq_true,if_false];rw [gl.2 (dN bf).1,Bool.true_or,if_pos rfl,if_neg bY,if_pos rfl,gI aq rfl,if_pos (gl.2 (dN aq).1)];rfl
theorem QP {deep:Nat} (bY:deep≠32):Ic (JV.obj []) deep [123,125]:=by
 refine⟨⟨123,_,rfl,by decide,by decide,by decide⟩,fun s k rest h _=>⟨1,?_⟩⟩;have bf:s.drop k=123::(125::rest):=h;have aq:=(dN bf).2;rw [kI];simp only;rw [gI bf rfl,cz bf (by decide),cz bf (by decide),cz bf (by decide),cz bf (by decide),cz (d:=91) bf (by decide)];simp only [Bool.false_eq_true,if_false];rw [gl.2 (dN bf).1,Bool.or_true,if_pos rfl,if_neg bY,gI aq rfl,if_pos (gl.2 (dN aq).1)];rfl
theorem Xi {l:List JV} {deep:Nat} {c:UInt8} {r:aa} (bY:deep≠32) (bj:QH c) (h:QJ l deep (c::r)):Ic (JV.cX l) deep (91::((c::r) ++ [93])):=by
 refine⟨⟨91,_,rfl,by decide,by decide,by decide⟩,fun s k rest bf _=>?_⟩;have jX:s.drop k=91::((c::r)++93::rest):=by rw [bf];simp
 have aq:=(dN jX).2;obtain⟨f,dI⟩:=h s (k+1) [] rest aq;refine⟨f+1,?_⟩;have DJ:s.drop (k+1)=c::(r++93::rest):=aq;rw [kI];simp only;rw [gI jX rfl,cz jX (by decide),cz jX (by decide),cz jX (by decide),cz jX (by decide)];simp only [Bool.false_eq_true,if_false];rw [gl.2 (dN jX).1,Bool.true_or,if_pos rfl,if_neg bY,if_pos rfl,gI DJ bj.1,cz DJ bj.2.1.symm,if_neg (by simp),dI];simp only [List.nil_append,List.length_append,List.length_cons,List.length_nil,Option.some.injEq,Except.ok.injEq,Prod.mk.injEq,true_and];omega
theorem Xj {m:List (aa×JV)} {deep:Nat} {c:UInt8} {r:aa} (bY:deep≠32) (bj:QH c) (h:QL m deep (c::r)):Ic (JV.obj m) deep (123::((c::r) ++ [125])):=by
 refine⟨⟨123,_,rfl,by decide,by decide,by decide⟩,fun s k rest bf _=>?_⟩;have jX:s.drop k=123::((c::r)++125::rest):=by rw [bf];simp
 have aq:=(dN jX).2;obtain⟨f,dI⟩:=h s (k+1) [] rest aq (by simp) List.Pairwise.nil;refine⟨f+1,?_⟩;have DJ:s.drop (k+1)=c::(r++125::rest):=aq;rw [kI];simp only;rw [gI jX rfl,cz jX (by decide),cz jX (by decide),cz jX (by decide),cz jX (by decide),cz (d:=91) jX (by decide)];simp only [Bool.false_eq_true,if_false];rw [gl.2 (dN jX).1,Bool.or_true,if_pos rfl,if_neg bY,gI DJ bj.1,cz DJ bj.2.2.symm,if_neg (by simp),dI];simp only [List.nil_append,List.length_append,List.length_cons,List.length_nil,Option.some.injEq,Except.ok.injEq,Prod.mk.injEq,true_and];omega
theorem xj {b s e8:aa} (h:fb b s = .ok e8):cn s=true∧e8=b++cw s:=by
 unfold fb at h
 split at h
 ·cases h
 split at h
 ·rename_i bK
  exact⟨bK,(fr h).1⟩
 cases h
theorem IW {s:aa} (h:∀ c:aa,(c++cw s).length≤65536→fb c s = .ok (c++cw s)) (cg:(cw s).length≤65536):cn s=true:=(xj (h [] (by simpa using cg))).1
namespace JV
theorem M6 {v:JV} (h:v.list.length=0):v.list = []:=List.eq_nil_of_length_eq_zero h
theorem map_nil {v:JV} (h:v.map.length=0):v.map = []:=List.eq_nil_of_length_eq_zero h
theorem mZ {v:JV} (h:v.bare=true):(v.kind=1∨v.is=false)∧(v.kind=2∨v.num=0)∧(v.kind=3∨v.str = [])∧(v.kind=4∨v.list = [])∧(v.kind=5∨v.map = []):=by
 unfold bare at h;simp only [Bool.and_eq_true,Bool.or_eq_true,decide_eq_true_eq,Bool.not_eq_true',decide_eq_false_iff_not] at h;obtain⟨⟨⟨⟨⟨⟨b3,h1⟩,aq⟩,aU⟩,bM⟩,cL⟩,eW⟩:=h;exact⟨h1,aq,aU,bM.imp id M6,cL.imp id map_nil⟩
theorem mk_eq {v:JV} {k n:Int} {i:Bool} {s:aa} {l:List JV} {m:List (aa×JV)} (h1:v.kind=k) (aq:v.is=i) (aU:v.num=n) (bM:v.str=s) (cL:v.list=l) (eW:v.map=m):v = .mk k i n s l m:=by
 rw [eta v,h1,aq,aU,bM,cL,eW]
end JV
theorem nW {b t e8:aa} (h:cu (b++t) = .ok e8):e8=b++t:=(fr h).1
theorem F7 {N:Nat} (dK:∀ (v:JV) (deep:Nat) (b e8:aa),v.sz≤N→JV.wr v deep b = .ok e8→∃ t,e8=b++t∧Ic v deep t) :
  ∀ (x:JV) (l:List JV) (deep:Nat) (fst:Bool) (b e8:aa),(∀ y∈x::l,y.sz≤N)→JV.hL (x::l) deep fst b = .ok e8→∃ t,e8=b++(if fst then [] else [44])++t∧(∃ c r,t=c::r∧QH c)∧QJ (x::l) deep t
 | x,l,deep,fst,b,e8,h7,h=>by
  rw [JV.k3] at h
  obtain⟨dn,h1,h⟩:=dt h
  obtain⟨eJ,aq,h⟩:=dt h
  obtain⟨t,rfl,aS⟩:=dK _ _ _ _ (h7 x (by simp)) aq
  have bk:dn=b++(if fst then [] else [44]):=by
   cases fst with
   | true=>injection h1 with h1;subst h1;simp
   | false=>exact nW h1
  subst bk
  cases l with
  | nil=>
   rw [JV.hL] at h
   injection h with h
   exact⟨t,h.symm,aS.1,QK aS⟩
  | cons y l=>
   obtain⟨t',rfl,_,tO⟩:=F7 dK y l deep false _ _ (fun z dk=>h7 z (by simp [List.mem_cons.1 dk])) h
   refine⟨t ++ [44]++t',by simp,?_,M4 aS tO⟩
   obtain⟨c,r,rfl,bj⟩:=aS.1
   exact⟨c,_,rfl,bj⟩
theorem F8 {N:Nat} (dK:∀ (v:JV) (deep:Nat) (b e8:aa),v.sz≤N→JV.wr v deep b = .ok e8→∃ t,e8=b++t∧Ic v deep t) :
  ∀ (x:aa×JV) (m:List (aa×JV)) (deep:Nat) (prev:Option aa) (b e8:aa),e8.length≤65536→(∀ y∈x::m,y.2.sz≤N)→JV.fk (x::m) deep prev b = .ok e8→∃ t,e8=b++JV.comma prev++t∧(∃ c r,t=c::r∧QH c)∧QL (x::m) deep t
 | x,m,deep,prev,b,e8,cg,h7,h=>by
  obtain⟨_,eJ,aq,aU,cf,e5⟩:=JV.uS h
  have bK:cn x.1=true:=IW cf (by simp only [List.length_append] at e5 ⊢;omega)
  obtain⟨t,rfl,aS⟩:=dK _ _ _ _ (h7 x (by simp)) aq
  cases m with
  | nil=>
   rw [JV.fk] at aU
   injection aU with aU
   exact⟨cw x.1 ++ [58]++t,by rw [← aU];simp,⟨34,_,rfl,by decide,by decide,by decide⟩,QN bK aS⟩
  | cons y m=>
   have ae:=(JV.uT _ _ _ _ _ aU).2 x.1 rfl
   obtain⟨t',rfl,_,tO⟩:=F8 dK y m deep (some x.1) _ _ cg (fun z dk=>h7 z (by simp [List.mem_cons.1 dk])) aU
   exact⟨cw x.1 ++ [58]++t ++ [44]++t',by simp [JV.comma],⟨34,_,rfl,by decide,by decide,by decide⟩,M5 bK ae aS tO⟩
theorem Ce:∀ (N:Nat) (v:JV) (deep:Nat) (b e8:aa),v.sz≤N→JV.wr v deep b = .ok e8→∃ t,e8=b++t∧Ic v deep t
 | 0,v,_,_,_,h,_=>absurd (JV.oz v) (by omega)
 | N+1,v,deep,b,e8,h7,h=>by
  have dK:=Ce N
  have hlen:e8.length≤65536:=(JV.fit h).elim fun t cf=>cf.2.1
  rw [JV.dM] at h
  split at h
  ·cases h
  rename_i aS
  have aS:v.bare=true:=by simpa using aS
  have iD:=@JV.qQ v aS
  obtain⟨MS,IX,Ll,Ie,F9⟩:=JV.mZ aS
  split at h
  ·rename_i rn
   obtain rfl:v=JV.gQ:=JV.mk_eq rn (MS.resolve_left (by omega)) (IX.resolve_left (by omega)) (Ll.resolve_left (by omega)) (Ie.resolve_left (by omega)) (F9.resolve_left (by omega))
   exact⟨_,nW h,Xf⟩
  rename_i rn
  split at h
  ·rename_i dZ
   cases hi:v.is with
   | true=>
    obtain rfl:v = .mk 1 true 0 [] [] []:=JV.mk_eq dZ hi (IX.resolve_left (by omega)) (Ll.resolve_left (by omega)) (Ie.resolve_left (by omega)) (F9.resolve_left (by omega))
    exact⟨_,nW h,QI⟩
   | false=>
    obtain rfl:v = .mk 1 false 0 [] [] []:=JV.mk_eq dZ hi (IX.resolve_left (by omega)) (Ll.resolve_left (by omega)) (Ie.resolve_left (by omega)) (F9.resolve_left (by omega))
    exact⟨_,nW h,M3⟩
  rename_i dZ
  split at h
  ·rename_i j9
   obtain⟨Ib,rI⟩:=v7 aS j9
   have bK:v=JV.hp v.num:=JV.mk_eq j9 (MS.resolve_left (by omega)) rfl (Ll.resolve_left (by omega)) (Ie.resolve_left (by omega)) (F9.resolve_left (by omega))
   rw [bK]
   exact⟨_,nW h,Xg Ib rI⟩
  rename_i j9
  split at h
  ·rename_i vS
   have bK:v=JV.aP v.str:=JV.mk_eq vS (MS.resolve_left (by omega)) (IX.resolve_left (by omega)) rfl (Ie.resolve_left (by omega)) (F9.resolve_left (by omega))
   obtain⟨h1,aq⟩:=xj h
   rw [bK]
   exact⟨_,aq,Xh h1⟩
  rename_i vS
  split at h
  ·cases h
  rename_i bY
  split at h
  ·rename_i uo
   have bK:v=JV.cX v.list:=JV.mk_eq uo (MS.resolve_left (by omega)) (IX.resolve_left (by omega)) (Ll.resolve_left (by omega)) rfl (F9.resolve_left (by omega))
   obtain⟨dn,h1,aU⟩:=dt h
   obtain⟨eJ,aq,bM⟩:=dt aU
   have bk:=nW h1
   have Ig:=nW bM
   clear aU bM h1 h
   subst bk
   subst Ig
   have im:∀ y∈v.list,y.sz≤N:=fun y aY=>by have:=JV.gN aY;omega
   rw [bK]
   cases cg:v.list with
   | nil=>
    rw [cg,JV.hL] at aq
    injection aq with aq
    subst aq
    exact⟨[91,93],by simp,QO bY⟩
   | cons x l=>
    rw [cg] at aq im
    obtain⟨t,rfl,⟨c,r,rfl,bj⟩,eh⟩:=F7 dK x l deep true _ _ im aq
    exact⟨91::((c::r) ++ [93]),by simp,Xi bY bj eh⟩
  rename_i uo
  have A2:v.kind=5:=by omega
  have bK:v=JV.obj v.map:=JV.mk_eq A2 (MS.resolve_left (by omega)) (IX.resolve_left (by omega)) (Ll.resolve_left (by omega)) (Ie.resolve_left (by omega)) rfl
  obtain⟨dn,h1,aU⟩:=dt h
  obtain⟨eJ,aq,bM⟩:=dt aU
  have bk:=nW h1
  have Ig:=nW bM
  clear aU bM h1 h
  subst bk
  subst Ig
  have im:∀ y∈v.map,y.2.sz≤N:=fun y aY=>by have:=JV.gp aY;omega
  rw [bK]
  cases cg:v.map with
  | nil=>
   rw [cg,JV.fk] at aq
   injection aq with aq
   subst aq
   exact⟨[123,125],by simp,QP bY⟩
  | cons x m=>
   rw [cg] at aq im
   obtain⟨t,rfl,⟨c,r,rfl,bj⟩,eh⟩:=F8 dK x m deep none _ _ (by simp only [List.length_append] at hlen ⊢;omega) im aq
   exact⟨123::((c::r) ++ [125]),by simp [JV.comma],Xj bY bj eh⟩
theorem Xk {s:aa} {f:Nat} {r:Bs} (h:kI f s 0 0=some r):IQ s=r:=QG (Lj s) h
theorem sJ {v:JV} {t:aa} (h:v.wr 0 [] = .ok t):parse t = .ok v:=by
 obtain⟨t',e,eh⟩:=Ce v.sz v 0 [] t (Nat.le_refl _) h;rw [List.nil_append] at e;subst e;have hlen:t.length≤65536:=(JV.fit h).elim fun t cf=>cf.2.1;obtain⟨f,dI⟩:=eh.2 t 0 [] (by simp) (fun c bj=>by simp at bj);unfold parse;rw [if_neg (by omega),Xk dI];simp only;rw [k2 (by omega),if_neg (by omega)]
theorem Xl {v x:JV} {t:aa} (h:v.wr 0 [] = .ok t) (fh:x.wr 0 [] = .ok t):v=x:=by
 have h1:=sJ h;rw [sJ fh] at h1;injection h1 with h1
 exact h1.symm
end Go.Proofs.YtnihidkbkhcfoaaGreatDoor.V
set_option maxRecDepth 10000
namespace Go.Proofs.YtnihidkbkhcfoaaGreatDoor.V
open Go Go.Proofs
end Go.Proofs.YtnihidkbkhcfoaaGreatDoor.V
set_option maxRecDepth 100000
namespace Go.Proofs.YtnihidkbkhcfoaaGreatDoor.V
open Go Go.Proofs Go.Lib
theorem FU:Go.Pinned.utf8First=Lib.firstData:=by kernel_rfl
theorem MR:(Go.Proofs.YtnihidkbkhcfoaaGreatDoor.Rows.laid_unicode_utf8_acceptRanges:DataW Unit)=Lib.acceptData:=by kernel_rfl
theorem agI {W:World} (aU:VarReads Tryz.prog W "unicode/utf8.first" Lib.firstData) (bM:VarReads Tryz.prog W "unicode/utf8.acceptRanges" Lib.acceptData):xM W:=
 utf8Tabs_of_reads (P:=Tryz.prog) (ρ:=Tryz.uM) {Tryz.y5 with} ⟨by kernel_rfl,by kernel_rfl,by kernel_rfl,by kernel_rfl,by kernel_rfl,by kernel_rfl,by kernel_rfl⟩ aU bM
theorem FV {P:Program} {rI:String} {d1:DataW Unit} {rest:List (String×DataW Unit)} {W:World} (h:laidMet P ((rI,d1)::rest) W):laidMet P rest W:=by
 obtain⟨ia,⟨g,t,cs,fuel,p,q,_,_,_,_,e5,rfl⟩,ck,bj⟩:=h;exact⟨q,e5,(List.nodup_append.1 ck).2.1,fun b off aS=>bj b off (List.mem_append_right _ aS)⟩
theorem Qs {W:World} {n aqR:String} {d:DataW Unit} {g t:Nat} {ms:Array (String×TypeId)} (h:VarReads Tryz.prog W n (.iface aqR d)) (dA:Tryz.prog.globalNamed n=some g) (aY:(Tryz.prog.globals[g]?).map (·.type)=some t) (cf:Tryz.prog.underlying t=some (.interface ms)):∃ u v,W.cell? ⟨g,0,none⟩=some (.iface u v):=by
 obtain⟨EX,t',cs,fuel,p,h1,aq,aU,bM⟩:=h;rw [dA] at h1;injection h1 with h1
 subst h1;rw [aY] at aq;injection aq with aq
 subst aq;have tI:∃ u v,cs.toList = [.iface u v]:=by
  cases fuel with
  | zero=>simp [DataW.trod] at bM
  | succ fuel=>
   unfold DataW.trod at bM;simp only [cf] at bM
   split at bM <;> first | (exact⟨_,_,by assumption⟩) | (simp at bM;done) | (rename_i bk b2;exact⟨_,_,b2⟩) | simp_all
 obtain⟨u,v,tI⟩:=tI;refine⟨u,v,?_⟩;unfold World.var? at aU;rw [dA] at aU;simp only [Option.bind_some] at aU;unfold World.cell?
 split at aU
 ·rename_i c t f iq
  injection aU with aU
  subst aU;rw [iq];have:c = #[.iface u v]:=by rw [← Array.toList_inj];exact tI
  subst this;rfl
 cases aU
theorem ab1 {W:World} (h:laidMet Tryz.prog Go.Proofs.YtnihidkbkhcfoaaGreatDoor.Rows.jsonTellsRow.laid W):Env W:=by
 have je:xM W:=agI (FU▸laidMet.reads h (.tail _ (.tail _ (.tail _ (.tail _ (.tail _ (.tail _ (.head _)))))))) (MR▸laidMet.reads h (.tail _ (.tail _ (.tail _ (.head _)))));have iQ:=Qs (g:=3) (laidMet.reads h (.tail _ (.tail _ (.tail _ (.tail _ (.head _)))))) (by kernel_rfl) (by kernel_rfl) kT;have mL:=Qs (g:=2) (laidMet.reads h (.tail _ (.tail _ (.tail _ (.tail _ (.tail _ (.head _))))))) (by kernel_rfl) (by kernel_rfl) kT;obtain⟨gi,v1,h1⟩:=iQ;obtain⟨jx,v2,aq⟩:=mL;refine⟨?_,je,⟨⟨_,aq,.inr ⟨_,_,rfl⟩⟩,⟨_,h1,.inr ⟨_,_,rfl⟩⟩⟩,?_⟩
 ·exact Lib.tabIs_of_head (rest:=_) P9 (by kernel_rfl) Tryz.underlying245 Tryz.underlying154 (by kernel_rfl) (by kernel_rfl) (FV (FV h))
 have b3:=(je.2 0 (by decide)).1;rcases Nat.lt_or_ge 6 W.heap.size with cg | cg
 ·exact cg
 unfold World.cell? at b3;rw [Array.getElem?_eq_none cg] at b3;cases b3
end Go.Proofs.YtnihidkbkhcfoaaGreatDoor.V
set_option maxRecDepth 10000
namespace Go.Proofs.YtnihidkbkhcfoaaGreatDoor.V
open Go Go.Proofs
section
variable {H:Type} {enc:TypeId×Value→H} {w:World}
theorem ZG (n:Nat):hb enc Tryz.prog w n 25 JV.D JV.ok:=by
 induction n using Nat.strongRecOn with
 | ind n dK=>
  cases n with
  | zero=>exact hb.zero
  | succ n=>
   have cg:hb enc Tryz.prog w n 22 (fun xs:List JV=>[.ie 6 (xs.map JV.D)]) (fun xs=>(∀ x∈xs,x.ok)∧xs.length*88≤140737488351232):=by
    cases n with
    | zero=>exact hb.zero
    | succ n=>exact q2 Tryz.underlying22 (by kernel_rfl) (by kernel_rfl) (by decide) (dK n (by omega))
   have hm:hb enc Tryz.prog w n 23 (fun xs:List (List UInt8×JV)=>[.ie 7 (xs.map JV.hP)]) (fun xs=>(∀ x∈xs,x.1.length≤140737488351232∧x.2.ok)∧xs.length*104≤140737488351232):=by
    cases n with
    | zero=>exact hb.zero
    | succ n=>
     refine q2 Tryz.underlying23 (by kernel_rfl) (by kernel_rfl) (by decide) ?_;cases n with
     | zero=>exact hb.zero
     | succ n=>
      exact hb.to (pI (tot:=7) Tryz.underlying51 (by kernel_rfl) (dX (k:=1) rfl (by kernel_rfl) (j4 Tryz.underlying9) (dX (k:=6) rfl (by kernel_rfl) (dK n (by omega)) vj))) (fun p=>(p.1,p.2.1)) (fun p=>by simp [JV.hP]) (fun p h=>⟨h.1,h.2.1⟩)
   refine hb.to (pI (tot:=6) Tryz.underlying25 (by kernel_rfl) (dX (k:=1) rfl (by kernel_rfl) (vi Tryz.underlying3) (dX (k:=1) rfl (by kernel_rfl) (CF Tryz.underlying4) (dX (k:=1) rfl (by kernel_rfl) (vi Tryz.underlying3) (dX (k:=1) rfl (by kernel_rfl) (j4 Tryz.underlying9) (dX (k:=1) rfl (by kernel_rfl) cg (dX (k:=1) rfl (by kernel_rfl) hm vj))))))) (fun p=>JV.mk p.1 p.2.1 p.2.2.1 p.2.2.2.1 p.2.2.2.2.1 p.2.2.2.2.2.1) (fun p=>by rw [JV.Gz];rfl) (fun p h=>?_);obtain⟨h1,aq,aU,bM,cL,eW,_⟩:=h;rw [JV.ok_eq];refine⟨bM,?_,?_,cL.1,eW.1⟩
   ·have:=cL.2;show p.2.2.2.2.1.length≤_;omega
   have:=eW.2;show p.2.2.2.2.2.1.length≤_;omega
theorem CT (n:Nat):hb enc Tryz.prog w n 26 (fun xs:List aa=>[lG xs]) (fun xs=>(∀ x∈xs,x.length≤140737488351232)∧xs.length*16≤140737488351232):=by
 cases n with
 | zero=>exact hb.zero
 | succ n=>exact q2 Tryz.underlying26 (by kernel_rfl) (by kernel_rfl) (by decide) (j4 Tryz.underlying9)
theorem TT (n:Nat):hb enc Tryz.prog w n 92 (fun x:dH=>(dH.cells x).map D.v) (fun x=>x.c8.length≤140737488351232∧x.key.length≤140737488351232∧x.sig.length≤140737488351232):=by
 cases n with
 | zero=>exact hb.zero
 | succ n=>exact hb.to (pI (tot:=3) Tryz.underlying92 (by kernel_rfl) (dX (k:=1) rfl (by kernel_rfl) (j4 Tryz.underlying9) (dX (k:=1) rfl (by kernel_rfl) (j4 Tryz.underlying9) (dX (k:=1) rfl (by kernel_rfl) (j4 Tryz.underlying9) vj)))) (fun p=>⟨p.1,p.2.1,p.2.2.1⟩) (fun _=>rfl) (fun p h=>⟨h.1,h.2.1,h.2.2.1⟩)
theorem OA (n:Nat):hb enc Tryz.prog w n 27 (fun xs:List dH=>[flat 3 dH.cells xs]) (fun xs=>(∀ x∈xs,x.c8.length≤140737488351232∧x.key.length≤140737488351232∧x.sig.length≤140737488351232)∧xs.length*48≤140737488351232):=by
 cases n with
 | zero=>exact hb.zero
 | succ n=>exact q2 Tryz.underlying27 (by kernel_rfl) (by kernel_rfl) (by decide) (TT n)
theorem Ld (n:Nat):hb enc Tryz.prog w n 29 EV.D EV.ok:=by
 cases n with
 | zero=>exact hb.zero
 | succ n=>
  refine hb.to (pI (tot:=17) Tryz.underlying29 (by kernel_rfl) (dX (k:=1) rfl (by kernel_rfl) (j4 Tryz.underlying9) (dX (k:=1) rfl (by kernel_rfl) (j4 Tryz.underlying9) (dX (k:=1) rfl (by kernel_rfl) (j4 Tryz.underlying9) (dX (k:=1) rfl (by kernel_rfl) (CF Tryz.underlying4) (dX (k:=1) rfl (by kernel_rfl) (j4 Tryz.underlying9) (dX (k:=6) rfl (by kernel_rfl) (ZG n) (dX (k:=1) rfl (by kernel_rfl) (CT n) (dX (k:=1) rfl (by kernel_rfl) (CT n) (dX (k:=1) rfl (by kernel_rfl) (vi Tryz.underlying3) (dX (k:=1) rfl (by kernel_rfl) (vi Tryz.underlying3) (dX (k:=1) rfl (by kernel_rfl) (j4 Tryz.underlying9) (dX (k:=1) rfl (by kernel_rfl) (OA n) vj))))))))))))) (fun p=>EV.mk p.1 p.2.1 p.2.2.1 p.2.2.2.1 p.2.2.2.2.1 p.2.2.2.2.2.1 p.2.2.2.2.2.2.1 p.2.2.2.2.2.2.2.1 p.2.2.2.2.2.2.2.2.1 p.2.2.2.2.2.2.2.2.2.1 p.2.2.2.2.2.2.2.2.2.2.1 p.2.2.2.2.2.2.2.2.2.2.2.1) (fun p=>?_) (fun p h=>?_)
  ·simp only [EV.D,List.cons_append,List.nil_append,List.append_nil,List.append_assoc]
  obtain⟨h1,aq,aU,_,cL,eW,kz,kq,_,_,uw,uF,_⟩:=h;exact⟨h1,aq,aU,cL,eW,kz.1,by have:=kz.2;dsimp only;omega,kq.1,by have:=kq.2;dsimp only;omega,uw,uF.1,by have:=uF.2;dsimp only;omega⟩
end
end Go.Proofs.YtnihidkbkhcfoaaGreatDoor.V
namespace Go.Proofs.YtnihidkbkhcfoaaGreatDoor.V
open Go
theorem Cl {l:List (aa×JV)}:(JV.obj l).bare=true:=by
 simp [JV.bare,JV.obj,JV.kind,JV.is,JV.num,JV.str,JV.list,JV.map]
end Go.Proofs.YtnihidkbkhcfoaaGreatDoor.V
set_option maxRecDepth 10000
namespace Go.Proofs.YtnihidkbkhcfoaaGreatDoor.V
open Go Go.Proofs
theorem sD (v:JV):JV.pS v v=true:=JV.p8.2 rfl
end Go.Proofs.YtnihidkbkhcfoaaGreatDoor.V
namespace Go.Proofs.YtnihidkbkhcfoaaGreatDoor.V
open Go
def ow (m:List (aa×JV)) (k:aa):List (aa×JV):=m.filter fun q=>decide (q.1≠k)
theorem KO:∀ {m:List (aa×JV)} {p:Nat} {y:aa×JV},er m→m[p]? = some y→ow m y.1=m.take p++m.drop (p+1)
 | [],_,_,_,h=>by simp at h
 | a::r,0,y,ay,h=>by
  injection h with h
  subst h
  have bq:=(List.pairwise_cons.1 ay).1
  unfold ow
  rw [List.filter_cons,if_neg (by simp)]
  simp only [List.take_zero,List.nil_append,List.drop_succ_cons,List.drop_zero]
  exact List.filter_eq_self.2 fun b aS=>decide_eq_true fun e=>by
   have:=bq b aS
   rw [e,df] at this
   cases this
 | a::r,p+1,y,ay,h=>by
  have fh:r[p]? = some y:=by simpa using h
  have dK:=KO (List.pairwise_cons.1 ay).2 fh
  have b1:a.1≠y.1:=fun e=>by
   have:=(List.pairwise_cons.1 ay).1 y (List.mem_of_getElem? fh)
   rw [e,df] at this
   cases this
  unfold ow at dK ⊢
  rw [List.filter_cons,if_pos (decide_eq_true b1),dK]
  simp
theorem Mr {m:List (aa×JV)} {k:aa} (h:look m k=none):ow m k=m:=
 List.filter_eq_self.2 fun q e5=>decide_eq_true (tZ h q e5)
theorem JV.Mq {A:List Nat} {w:World} {m:List (aa×JV)} {vs:List Value} {i:Nat} (h:ao A w (m.map JV.hP).flatten vs) (hi:i<m.length) :
  ao A w ((m.take i++m.drop (i+1)).map JV.hP).flatten (vs.take (i*7)++vs.drop ((i+1)*7)):=by
 obtain⟨h1,_⟩:=ao.sc (i:=i) (JV.qX m) (by simpa using Nat.le_of_lt hi) h
 obtain⟨_,aq⟩:=ao.sc (i:=i+1) (JV.qX m) (by rw [List.length_map];omega) h
 rw [List.map_append,List.flatten_append,List.map_take,List.map_drop]
 exact h1.append aq
structure mF where
 rest:JV
 bad:Bool
def dS (t:mF) (k:aa) (kind:Int):JV×mF:=match t.rest.get k with
 | some x=>if x.kind=kind then (x,⟨JV.obj (ow t.rest.eT k),t.bad⟩)else (JV.gQ,⟨t.rest,true⟩)
 | none=>(JV.gQ,⟨t.rest,true⟩)
def JN (t:mF) (k:aa):List aa×mF:=((dS t k 4).1.list.map JV.str,⟨(dS t k 4).2.rest,(dS t k 4).2.bad||(dS t k 4).1.list.any fun x=>decide (x.kind≠3)⟩)
theorem qx {t:mF} {k:aa} {kind:Int} (h:t.rest.get k=none):dS t k kind=(JV.gQ,⟨t.rest,true⟩):=by unfold dS;rw [h]
theorem qv {t:mF} {k:aa} {kind:Int} {x:JV} (h:t.rest.get k=some x) (hk:x.kind≠kind):dS t k kind=(JV.gQ,⟨t.rest,true⟩):=by unfold dS;rw [h];simp only;rw [if_neg hk]
theorem qw {t:mF} {k:aa} {kind:Int} {x:JV} (h:t.rest.get k=some x) (hk:x.kind=kind):dS t k kind=(x,⟨JV.obj (ow t.rest.eT k),t.bad⟩):=by unfold dS;rw [h];simp only;rw [if_pos hk]
def mF.fit (t:mF):Prop:=er t.rest.map∧t.rest.map.length≤1000000∧∀ p∈t.rest.map,p.2.list.length≤1000000∧er p.2.map∧p.2.map.length≤1000000
theorem mF.Ag {t:mF} (h:t.fit):er t.rest.eT∧t.rest.eT.length≤1000000:=by
 unfold JV.eT
 split
 ·exact⟨h.1,h.2.1⟩
 exact⟨List.Pairwise.nil,by simp⟩
theorem mF.hA {t:mF} (h:t.fit) (k:aa) (kind:Int):(dS t k kind).2.fit:=by
 unfold dS
 split
 ·split
  ·obtain⟨h1,aq⟩:=mF.Ag h;refine⟨List.Pairwise.filter _ h1,Nat.le_trans (List.length_filter_le _ _) aq,fun p cp=>?_⟩;have ua:p∈t.rest.eT:=(List.mem_filter.1 cp).1;unfold JV.eT at ua
   split at ua
   ·exact h.2.2 p ua
   cases ua
  exact h
 exact h
theorem mF.G2 {t:mF} (h:t.fit) (b:Bool):(⟨t.rest,b⟩:mF).fit:=h
theorem mF.G0 {t:mF} (h:t.fit) (k:aa) (kind:Int):(dS t k kind).1.list.length≤1000000∧er (dS t k kind).1.map∧(dS t k kind).1.map.length≤1000000:=by
 have ck:JV.gQ.list.length≤1000000∧er JV.gQ.map∧JV.gQ.map.length≤1000000:=⟨by simp [JV.gQ,JV.list],List.Pairwise.nil,by simp [JV.gQ,JV.map]⟩;cases dA:t.rest.get k with
 | none=>rw [qx dA];exact ck
 | some x=>
  by_cases hk:x.kind=kind
  ·rw [qw dA hk];exact h.2.2 _ (JV.wI dA)
  rw [qv dA hk];exact ck
end Go.Proofs.YtnihidkbkhcfoaaGreatDoor.V
set_option maxRecDepth 10000
namespace Go.Proofs.YtnihidkbkhcfoaaGreatDoor.V
open Go Go.Proofs
abbrev aoY:Nat:=0
set_option maxRecDepth 10000
set_option maxRecDepth 10000
set_option maxRecDepth 10000
set_option maxRecDepth 10000
set_option maxRecDepth 10000
set_option maxRecDepth 10000
set_option maxRecDepth 10000
end Go.Proofs.YtnihidkbkhcfoaaGreatDoor.V
namespace Go.Proofs.YtnihidkbkhcfoaaGreatDoor.V
open Go
end Go.Proofs.YtnihidkbkhcfoaaGreatDoor.V
set_option maxRecDepth 10000
namespace Go.Proofs.YtnihidkbkhcfoaaGreatDoor.V
open Go Go.Proofs
set_option maxRecDepth 10000
end Go.Proofs.YtnihidkbkhcfoaaGreatDoor.V
namespace Go.Proofs.YtnihidkbkhcfoaaGreatDoor.V
open Go
section
variable {P:Program} {ops:Array Oper} {Q:Exit→Act→World→Prop} {n:Nat} {ds:List Deferred} {l:List (Nat×Value)} {w w':World} {a:Act}
variable {rest:List Oper} {d:Nat} {op:Op} {ty:TypeId} {pos:String} {af:Array Edge}
variable {dd:Option Nat} {gg:Option (Nat×Bool)} {x y z:Operand} {t t':TypeId}
theorem O7 {qY e sz fZ N c k c':Nat} {ad:Addr} {u:Value} {vs news:List Value} (cf:lC P t e sz fZ=true) (O:Own w e sz (.slice (some ad) N c) N vs) (ae:a6 l x=some (.slice (some ad) k c)) (aY:a6 l y=some u)
  (bf:Src P sz qY u c' news w) (hk:k+c'≤N) (bY:Nat.blt d n=true)
  (h:∀ w',Own w' e sz (.slice (some ad) N c) N (vs.take (k*sz)++news++vs.drop ((k+c')*sz))→Mod [ad.block] w w'→w'.heap.size=w.heap.size→ga P ops Q rest n ds ((d,.slice (some ad) (k+c') c)::l) w') :
  ga P ops Q (⟨some d,.call {callee:=.builtin .append,args:=#[x,y],argTypes:=#[t,qY]},ty,pos,af,none⟩::rest) n ds l w:=by
 obtain⟨i,z,h1,aq,aU,bM,cL,eW⟩:=ir cf
 subst aU
 rcases O.2 with⟨b3,_⟩ | ⟨g,o,cap,cs,bK,eh,fH,gC,r7,pW⟩
 ·cases b3
 injection bK with bk b2 kV
 injection bk with bk
 subst bk;subst kV
 have ry:=bf.newsLen
 have hle:(k+c')*i.size≤N*i.size:=Nat.mul_le_mul_right _ hk
 have Cu:N*i.size≤c*i.size:=Nat.mul_le_mul_right _ fH
 have nr:=O.1
 have aaS:(k+c')*i.size=k*i.size+c'*i.size:=Nat.add_mul _ _ _
 have ns:k+c'≤c:=by omega
 obtain⟨aB,hJ,cp⟩:=hz (P:=P) eh (o:=o+k*i.size) (vs:=news) (by rw [ry];omega) bf.one
 have bq:(Builtin.append_ #[t,qY] ty #[.slice (some ⟨g,o,none⟩) k c,u]).run P w = .ok (.slice (some ⟨g,o,none⟩) (k+c') c) aB:=by
  rcases bf.kind with⟨xe,hk⟩ | hk <;> simp [Builtin.append_,run_underlying h1,run_underlying hk,sizeOf,typeInfo,aq,bf.len,ns,bf.cells,Addr.add_lit,hJ]
 refine fP (v:=.slice (some ⟨g,o,none⟩) (k+c') c) (w':=aB) (fun ρ fg=>?_) bY (h aB ⟨?_,.inr ⟨g,o,c,_,rfl,cp.az,fH,gC,by simp [splice];omega,?_⟩⟩ cp.mod cp.size)
 ·simp [execOp,resolve,invoke,builtin,fg _ _ ae,fg _ _ aY,bq]
 ·simp only [List.length_append,List.length_take,List.length_drop,ry,nr]
  omega
 subst pW
 apply List.ext_getElem?
 intro j
 simp only [splice,ry]
 simp only [List.getElem?_take,List.getElem?_drop,List.getElem?_append,List.length_append,List.length_take,List.length_drop,ry]
 repeat' split
 all_goals first
  | omega
  | rfl
  | (congr 1;omega)
theorem Vt {ad:Option Addr} {c c' e sz fZ lo hi mx:Nat} {h fh OT:Operand} (cf:lC P t e sz fZ=true) (ae:a6 l x=some (.slice ad c c')) (cg:a6 l h=some (.int .i64 (lo:Int))) (iq:a6 l fh=some (.int .i64 (hi:Int))) (hm:a6 l OT=some (.int .i64 (mx:Int))) (aS:lo≤hi∧hi≤mx∧mx≤c') :
  bG P l ⟨dd,.slice t x (some h) (some fh) (some OT),ty,pos,af,gg⟩ w (.slice (l1 ad mx lo sz) (hi-lo) (mx-lo)) w:=fun ρ fg=>by
 obtain⟨i,z,h1,aq,aU,bM,cL,eW⟩:=ir cf
 subst aU
 have s1:=run_sliceBound (P:=P) (w:=w) .i64 (mx:Int) c' .slice3Acap (by omega) (by omega)
 have s2:=run_sliceBound (P:=P) (w:=w) .i64 (hi:Int) mx .slice3B (by omega) (by omega)
 have arP:=run_sliceBound (P:=P) (w:=w) .i64 (lo:Int) hi .slice3C (by omega) (by omega)
 simp [execOp,Instr.sliceAt,Instr.slice,fg _ _ ae,fg _ _ cg,fg _ _ iq,fg _ _ hm,run_underlying h1,cM aq,Instr.sliceBounds,s1,s2,arP,l1]
end
theorem Ii {vs:List Value} {n i sz:Nat} (cg:vs.length=n*sz) (hi:i<n) :
  (vs.take (i*sz)++(vs.drop ((i+1)*sz)).take ((n-(i+1))*sz)++vs.drop ((i+(n-(i+1)))*sz)).take ((i+(n-(i+1)))*sz)=vs.take (i*sz)++vs.drop ((i+1)*sz):=by
 have h1:(i+1)*sz+(n-(i+1))*sz=n*sz:=by rw [← Nat.add_mul];congr 1;omega
 have aq:(i+(n-(i+1)))*sz=i*sz+(n-(i+1))*sz:=Nat.add_mul _ _ _
 have aU:i*sz≤n*sz:=Nat.mul_le_mul_right _ (by omega)
 have bM:(vs.drop ((i+1)*sz)).take ((n-(i+1))*sz)=vs.drop ((i+1)*sz):=List.take_of_length_le (by rw [List.length_drop];omega)
 rw [bM]
 refine List.take_left' ?_
 rw [List.length_append,List.length_take,List.length_drop]
 omega
end Go.Proofs.YtnihidkbkhcfoaaGreatDoor.V
set_option maxRecDepth 10000
namespace Go.Proofs.YtnihidkbkhcfoaaGreatDoor.V
open Go Go.Proofs
theorem Vs (w:World) (n i c:Nat) (ad:Addr) (vs:List Value) (O:Own w 51 7 (.slice (some ad) n c) n vs) (h1:∀ u∈vs,u.oneCell'=true) (hi:i<n) (ck:n≤1353245080310):Calls Tryz.prog 71 [.slice (some ad) n c,.int .i64 (i:Int),.int .i64 ((i+1:Nat):Int)].toArray w (bL fun u w'=>u = .slice (some ad) (i+(n-(i+1))) c∧Own w' 51 7 u (n-1) (vs.take (i*7)++vs.drop ((i+1)*7))∧Mod [ad.block] w w'):=by
 refine enter Tryz.func71 rfl rfl rfl (l:=[(0,_),(1,_),(2,_)]) ⟨rfl,rfl,rfl,trivial⟩ ?_;have E:=Mod.refl [] w;obtain⟨pd,c1,dI,afF,aqw⟩:=O.form;injection dI with bk b2 kV
 subst bk;subst kV;refine ab fun aV=>aT rfl (J aV (ab fun aL=>ak 4 rfl (ag (bl Tryz.underlying23 rfl) (ag (Vt (lo:=i) (hi:=i+1) (mx:=n) cR rfl rfl rfl rfl (by omega)) (J aL (ax fun aW=>ab fun br=>ak 2 rfl (ag ((lT rfl rfl).to (v':=.bool false) (congrArg Value.bool (bN (by omega)))) (J br (aE rfl ?_)))))))));refine ca (aw aW (ab fun bI=>aG rfl (ag (bl Tryz.underlying23 rfl) (aT rfl (J bI (ax fun bW=>jI [] [0,1,2,3,4,5] 6 [7] wide (by kernel_rfl) (fun _ _ _ h=>h.2) (iN (f' 2 rfl rfl (ai (fun R=>(C' cR rfl rfl (by omega) afF)) (f' 2 rfl rfl (ai (fun R=>(j' (lo:=i+1) cR rfl rfl (by omega) afF)) ?_)))))))))));refine mJ rfl fun aB R=>?_;replace E:=E.then R;have eS:=O.I E;have akh:=eS.cut (lo:=i+1) (hi:=n) (by omega) (Nat.le_refl n);refine O7 cR eS rfl rfl (Src.own Tryz.underlying23 akh (fun u hu=>h1 u (List.mem_of_mem_drop (List.mem_of_mem_take hu)))) (by omega) rfl fun cN qE aqx aqy=>?_;have aqz:Mod [ad.block] w cN:=(E.mono (by simp)).trans aqx;clear E;refine aT rfl (J bW (ab fun cb=>ak 2 rfl (ag (bl Tryz.underlying23 rfl) (aG rfl (ag (Vu (lo:=(i+(n-(i+1)))) (hi:=n) cR rfl rfl rfl (by omega) (by omega)) (O8 cR ey rfl (by decide) (by simp [Value.oneCell']) qE (k:=(i+(n-(i+1)))) (by omega) rfl fun fV vO aqA aqB=>?_))))));have aki:=aqz.trans aqA;exact J cb (ab fun cx=>ak 2 rfl (J cx (aZ (au rfl rfl ⟨rfl,vO.same (by omega) (Ii O.1 hi),aki⟩))))
set_option maxRecDepth 10000
theorem abn:aQ Tryz.prog 71:=aQ.of Tryz.func71 (by kernel_rfl) (by kernel_rfl)
theorem O9 (A:List Nat) (w:World) (dF:∀ a∈A,a<w.heap.size) (v:JV) (us:List Value) (asp:ao A w v.D us) (k:aa) (ay:er v.eT) (ck:v.eT.length≤1353245080310):Calls Tryz.prog 34 [.agg us.toArray,S k].toArray w (bL fun u w'=>∃ gb,u = .agg gb.toArray∧ao A w' (JV.obj (ow v.eT k)).D gb∧Mod [] w w'):=by
 refine enter Tryz.func34 rfl rfl rfl (l:=[(0,_),(1,_)]) ⟨rfl,rfl,trivial⟩ ?_;have E:=Mod.refl [] w;obtain⟨al,cl,am,cm,rfl,kW,jJ⟩:=JV.bb asp;have asp:=JV.cv kW jJ;refine ab fun aV=>dP rfl rfl rfl fun g1 aB bR=>?_;have bH:=bR.le E;replace E:=E.then bR.mod;have U:=bR.az;refine bt cB rfl fun g2 cN cK=>?_;have b4:=cK.le E;have bP:=cK.ne U;replace U:=U.I cK.mod;replace E:=E.then cK.mod;have ah:=cK.az;refine J aV (ab fun aL=>ag (a8 (vs:=[_,_,_,_,_,_]) aK rfl rfl (U.cs rfl)) (fA (bF O' rfl) (BN A w _ v _ asp) rfl fun cO fV aA=>?_));obtain⟨akj,R⟩:=aA;replace U:=U.I R;replace ah:=ah.I R;replace E:=E.then R;have E0:=U.lt;have E9:=ah.lt;have KN:=E.size;refine fA (bF Pa rfl) (BO A w _ v.eT _ akj E ck) rfl fun cO ic aA=>?_;obtain⟨vs,vP,lX,ys,R⟩:=aA;replace U:=U.I R;replace ah:=ah.I R;replace E:=E.then R;have D1:∀ x∈a1 cO,x≠g1:=fun x ae e=>by have:=ys x ae;omega
 have D2:∀ x∈a1 cO,x≠g2:=fun x ae e=>by have:=ys x ae;omega
 have rN:∀ x∈a1 cO,w.heap.size≤x:=fun x ae=>by have:=ys x ae;omega
 obtain⟨ts,c3,rfl,afG,afH⟩:=vP.form;refine ag (a' (cs:=[_,_,_,_,_,_]) gW cB rfl rfl) (bt cB rfl fun g3 jn eQ=>?_);have dJ:=eQ.le E;have eM:=eQ.ne U;have cJ:=eQ.ne ah;have Da:=eQ.b8 vP;replace U:=U.I eQ.mod;replace ah:=ah.I eQ.mod;replace E:=E.then eQ.mod;replace vP:=vP.I eQ.mod;have bz:=eQ.az;refine bo (vs:=[_,_,_,_,_,_]) aK bz rfl rfl rfl (by simp [Value.oneCell']) (by simp) fun jC nq=>?_;replace U:=U.ne nq.mod eM;replace ah:=ah.ne nq.mod cJ;replace E:=E.own nq.mod dJ;replace vP:=vP.put nq.mod Da;replace bz:aF jC g3 _ [_,_,_,_,_,_]:=nq.az;refine J aL (ax fun aW=>ab fun br=>ag (av b9 rfl) (ag (bc dB rfl (bz.cell rfl)) (aG rfl ?_)));have afI:=Own.td (A:=[]) vP ((lX.e9 (by simp)).bB E) rfl (by simp);refine cP (bF Ij rfl) (yt _ v.eT _ afI k ay ck) fun iw R=>?_;replace U:=U.I R;replace ah:=ah.I R;replace bz:=bz.I R;replace E:=E.then R;replace vP:=vP.I R;refine ak 5 rfl (J br (ab fun bI=>aG rfl (J bI ?_)));refine a7 rfl (fun nL=>?_) (fun nL=>?_);rotate_left
 ·have Vv:ow v.eT k=v.eT:=Mr (by cases cg:look v.eT k with | none=>rfl | some z=>rw [cg] at nL;simp at nL);have tt:=lX;have jo:(ow v.eT k).length=v.eT.length:=by rw [Vv]
  rw [← Vv] at tt;have abp:=rN;refine ca (aw aW (ab fun cb=>ag (a8 (vs:=[_,_,_,_,_,_]) aK rfl rfl (bz.cs rfl)) (bo (vs:=[_,_,_,_,_,_]) aK ah rfl rfl rfl (by simp [Value.oneCell']) (by simp) fun kr e'=>?_)));replace U:=U.ne e'.mod bP;replace bz:=bz.ne e'.mod (Ne.symm cJ);replace E:=E.own e'.mod b4;replace vP:=vP.put e'.mod D2;replace ah:aF kr g2 _ [_,_,_,_,_,_]:=e'.az;exact J cb (aZ (kj (vs:=[_,_,_,_,_,_]) rfl aK rfl rfl (ah.cs rfl) ⟨_,rfl,JV.kX jo (Own.td vP (tt.bB E) jo (fun x ae h=>by have:=abp x ae;have:=dF x h;omega)),E⟩))
 obtain⟨y,aY,abo,_⟩:=sC ay nL;have yu:=(List.getElem?_eq_some_iff.1 aY).1;obtain⟨ts,rfl⟩:∃ a,ts=some a:=by
  cases ts with
  | some a=>exact⟨a,rfl⟩
  | none=>have:=JV.Db afI;rw [this] at yu;simp at yu
 refine bQ (ag (av b9 rfl) (ag (bc dB rfl (bz.cell rfl)) (ak 2 rfl (ag (cW (r:=((fo v.eT k+1:Nat):Int)) rfl rfl (by rw [wrap64_in _ (by omega)];omega)) (fA (bF abn rfl) (Vs _ v.eT.length (fo v.eT k) c3 ts vs vP lX.one yu ck) rfl fun cO n' aA=>?_)))));obtain⟨rfl,E',R⟩:=aA;have p5:fo v.eT k+(v.eT.length-(fo v.eT k+1))=v.eT.length-1:=by omega
 rw [p5] at E' ⊢;have abp:∀ x∈a1 (.slice (some ts) (v.eT.length-1) c3),w.heap.size≤x:=fun x ae=>rN x (by simpa [a1] using ae);have akk:∀ x∈a1 (.slice (some ts) (v.eT.length-1) c3),x≠g2:=fun x ae=>D2 x (by simpa [a1] using ae);have Pb:∀ x∈a1 (.slice (some ts) (v.eT.length-1) c3),x≠g3:=fun x ae=>Da x (by simpa [a1] using ae);replace E:=E.trans' R (fun x ae=>.inr (rN x (by simpa [a1] using ae)));replace ah:=ah.mod R (fun h=>D2 ts.block (by simp [a1]) (List.mem_singleton.1 h).symm);replace bz:=bz.mod R (fun h=>Da ts.block (by simp [a1]) (List.mem_singleton.1 h).symm);have tt:=JV.Mq lX yu;have afJ:ow v.eT k=v.eT.take (fo v.eT k)++v.eT.drop (fo v.eT k+1):=by have kq:=KO ay aY;rw [abo] at kq;exact kq
 rw [← afJ] at tt;have jo:(ow v.eT k).length=v.eT.length-1:=by rw [afJ,List.length_append,List.length_take,List.length_drop];omega
 refine ag (av b9 rfl) (ea dB bz rfl rfl rfl (by simp) fun lY ox=>?_);replace ah:=ah.ne ox.mod cJ;replace E:=E.own ox.mod dJ;replace E':=E'.put ox.mod Pb;replace bz:aF lY g3 _ [_,_,_,_,_,_]:=ox.az;refine J aW (ab fun bW=>ag (a8 (vs:=[_,_,_,_,_,_]) aK rfl rfl (bz.cs rfl)) (bo (vs:=[_,_,_,_,_,_]) aK ah rfl rfl rfl (by simp [Value.oneCell']) (by simp) fun iy jK=>?_));replace bz:=bz.ne jK.mod (Ne.symm cJ);replace E:=E.own jK.mod b4;replace E':=E'.put jK.mod akk;replace ah:aF iy g2 _ [_,_,_,_,_,_]:=jK.az;exact J bW (aZ (kj (vs:=[_,_,_,_,_,_]) rfl aK rfl rfl (ah.cs rfl) ⟨_,rfl,JV.kX jo (Own.td E' (tt.bB E) jo (fun x ae h=>by have:=abp x ae;have:=dF x h;omega)),E⟩))
end Go.Proofs.YtnihidkbkhcfoaaGreatDoor.V
namespace Go.Proofs.YtnihidkbkhcfoaaGreatDoor.V
open Go
end Go.Proofs.YtnihidkbkhcfoaaGreatDoor.V
set_option maxRecDepth 10000
namespace Go.Proofs.YtnihidkbkhcfoaaGreatDoor.V
open Go Go.Proofs
theorem abq:aQ Tryz.prog 34:=aQ.of Tryz.func34 (by kernel_rfl) (by kernel_rfl)
set_option maxRecDepth 10000
theorem nf:iz Tryz.prog 103 0 0 6=true:=by kernel_rfl
theorem e0:iz Tryz.prog 103 1 6 1=true:=by kernel_rfl
/-- a taker in memory -/
def oV (A:List Nat) (w:World) (g:Nat) (t:mF):Prop:=∃ al cl am cm,aF w g 103 [.int .i64 t.rest.kind,.bool t.rest.is,.int .i64 t.rest.num,S t.rest.str,.slice al t.rest.list.length cl,.slice am t.rest.map.length cm,.bool t.bad]∧ba A w (.ie 6 (t.rest.list.map JV.D)) (.slice al t.rest.list.length cl)∧ba A w (.ie 7 (t.rest.map.map JV.hP)) (.slice am t.rest.map.length cm)
theorem oV.I {A:List Nat} {w w':World} {g:Nat} {t:mF} (h:oV A w g t) (k:Mod [] w w'):oV A w' g t:=by
 obtain⟨al,cl,am,cm,h1,aq,aU⟩:=h;exact⟨al,cl,am,cm,h1.I k,aq.bB k,aU.bB k⟩
theorem oV.mod {A M:List Nat} {w w':World} {g:Nat} {t:mF} (h:oV A w g t) (k:Mod M w w') (eY:∀ x∈M,x∈A) (dA:g∉M):oV A w' g t:=by
 obtain⟨al,cl,am,cm,h1,aq,aU⟩:=h;exact⟨al,cl,am,cm,h1.mod k dA,aq.toM k eY,aU.toM k eY⟩
theorem oV.lt {A:List Nat} {w:World} {g:Nat} {t:mF} (h:oV A w g t):g<w.heap.size:=by
 obtain⟨_,_,_,_,h1,_⟩:=h;exact h1.lt
theorem j5 (A:List Nat) (w:World) (g:Nat) (t:mF) (H:oV A w g t) (dA:g∈A) (dF:∀ a∈A,a<w.heap.size) (cf:t.fit) (k:aa) (kind:Int):Calls Tryz.prog 90 [.pointer (some ⟨g,0,none⟩),S k,.int .i64 kind].toArray w (bL fun u w'=>∃ us,u = .agg us.toArray∧ao A w' (dS t k kind).1.D us∧oV A w' g (dS t k kind).2∧Mod [g] w w'):=by
 refine enter Tryz.func90 rfl rfl rfl (l:=[(0,_),(1,_),(2,_)]) ⟨rfl,rfl,rfl,trivial⟩ ?_;have E:=Mod.refl [g] w;have vo:=Mod.refl [] w;obtain⟨al,cl,am,cm,B,kW,jJ⟩:=H;refine ab fun aV=>bt cB rfl fun g1 aB bR=>?_;have bH:=bR.le E;have aif:=bR.le vo;have k7:=bR.ne B;replace B:=B.I bR.mod;replace E:=E.then bR.mod;replace vo:=vo.then bR.mod;have U:=bR.az;refine J aV (ab fun aL=>ak 2 rfl (ag (av nf rfl) (ag (a8 (vs:=[_,_,_,_,_,_]) aK rfl rfl (B.cs rfl)) (aG rfl (fA (bF Ix rfl) (Dh A _ _ vo t.rest _ (JV.cv (v:=t.rest) kW jJ) k cf.1 (by have:=cf.2.1;omega)) rfl fun cO cN aA=>?_)))));obtain⟨Su,rfl,aaZ,R⟩:=aA;replace B:=B.I R;replace U:=U.I R;replace E:=E.then R;replace vo:=vo.then R;obtain⟨Sv,Sw,Yf,Yg,rfl,BE,Er⟩:=JV.bb aaZ;replace aaZ:=JV.cv BE Er;have Af:=Mod.refl [] cN;refine ak 3 rfl (bt cB rfl fun g2 fV cK=>?_);have b4:=cK.le E;have Sx:=cK.le vo;have N8:=cK.le Af;have tX:=cK.ne B;have bP:=cK.ne U;replace B:=B.I cK.mod;replace U:=U.I cK.mod;replace E:=E.then cK.mod;replace vo:=vo.then cK.mod;replace Af:=Af.then cK.mod;have ah:=cK.az;refine bo (vs:=[_,_,_,_,_,_]) aK ah rfl rfl rfl (by simp [Value.oneCell']) (by simp) fun ic kZ=>?_;replace B:=B.ne kZ.mod tX;replace U:=U.ne kZ.mod bP;replace E:=E.own kZ.mod b4;replace vo:=vo.own kZ.mod Sx;replace Af:=Af.own kZ.mod N8;replace ah:aF ic g2 _ [_,_,_,_,_,_]:=kZ.az;refine aT rfl (J aL (ax fun aW=>ab fun br=>aG rfl ?_));refine w8 (fun yD:((t.rest.get k).isSome)=true=>?_) (fun yD=>?_);rotate_left
 ·have ae:t.rest.get k=none:=by cases h:t.rest.get k with | none=>rfl | some x=>rw [h] at yD;cases yD
  refine ak 7 rfl (J br (aD rfl (ab fun cH=>ak 2 rfl (ag (av e0 rfl) (ea jr B rfl rfl rfl (by simp) fun iy jK=>?_)))));replace U:=U.ne jK.mod (Ne.symm k7);replace ah:=ah.ne jK.mod (Ne.symm tX);replace E:=E.trans jK.mod;replace B:aF iy g _ [_,_,_,_,_,_,_]:=jK.az;refine J cH (ab fun b5=>ag (a' (cs:=[_,_,_,_,_,_]) gW cB rfl rfl) (bo (vs:=[_,_,_,_,_,_]) aK U rfl rfl rfl (by simp [Value.oneCell']) (by simp) fun kr e'=>?_));replace B:=B.ne e'.mod k7;replace ah:=ah.ne e'.mod (Ne.symm bP);replace E:=E.own e'.mod bH;replace U:aF kr g1 _ [_,_,_,_,_,_]:=e'.az;exact J b5 (aZ (aO (by simp) (kj (vs:=[_,_,_,_,_,_]) rfl aK rfl rfl (U.cs rfl) ⟨_,rfl,by rw [qx ae];exact JV.gR,by rw [qx ae];exact⟨al,cl,am,cm,B,kW.toM E (fun a ay=>by rw [List.mem_singleton.1 ay];exact dA),jJ.toM E (fun a ay=>by rw [List.mem_singleton.1 ay];exact dA)⟩,E⟩)))
 obtain⟨x,ae⟩:=Option.isSome_iff_exists.1 yD;simp only [ae,Option.getD_some] at aaZ ah ⊢;refine ak 2 rfl (ar (av hC rfl) (ar (bc dE rfl (ah.cell rfl)) (ak 2 rfl ?_)));refine cT (fun hk:x.kind≠kind=>?_) (fun hk=>?_)
 ·refine ag (ji rfl rfl rfl) (J br (aD rfl (ab fun bI=>ak 2 rfl (ag (av e0 rfl) (ea jr B rfl rfl rfl (by simp) fun jn hx=>?_)))));replace U:=U.ne hx.mod (Ne.symm k7);replace ah:=ah.ne hx.mod (Ne.symm tX);replace E:=E.trans hx.mod;replace B:aF jn g _ [_,_,_,_,_,_,_]:=hx.az;refine J bI (ab fun bW=>ag (a' (cs:=[_,_,_,_,_,_]) gW cB rfl rfl) (bo (vs:=[_,_,_,_,_,_]) aK U rfl rfl rfl (by simp [Value.oneCell']) (by simp) fun jC nq=>?_));replace B:=B.ne nq.mod k7;replace ah:=ah.ne nq.mod (Ne.symm bP);replace E:=E.own nq.mod bH;replace U:aF jC g1 _ [_,_,_,_,_,_]:=nq.az;exact J bW (aZ (aO (by simp) (kj (vs:=[_,_,_,_,_,_]) rfl aK rfl rfl (U.cs rfl) ⟨_,rfl,by rw [qv ae hk];exact JV.gR,by rw [qv ae hk];exact⟨al,cl,am,cm,B,kW.toM E (fun a ay=>by rw [List.mem_singleton.1 ay];exact dA),jJ.toM E (fun a ay=>by rw [List.mem_singleton.1 ay];exact dA)⟩,E⟩)))
 refine ag (ji rfl rfl rfl) (J br (aE rfl (ca (aw aW (ax fun cb=>?_)))));have aih:∀ a∈g1::A,a∈A∨w.heap.size≤a:=fun a ay=>by rcases List.mem_cons.1 ay with rfl | ay;exact .inr bH;exact .inl ay
 refine bQ (ak 3 rfl (ag (av nf rfl) (ag (a8 (vs:=[_,_,_,_,_,_]) aK rfl rfl (B.cs rfl)) (aG rfl (fA (bF abq rfl) (O9 (g1::A) _ (fun a ay=>by rcases List.mem_cons.1 ay with rfl | ay;exact U.lt;exact Nat.lt_of_lt_of_le (dF a ay) E.size) t.rest _ ((JV.cv (v:=t.rest) (kW.more (A':=g1::A) aih) (jJ.more (A':=g1::A) aih)).bB vo) k (mF.Ag cf).1 (by have:=(mF.Ag cf).2;omega)) rfl fun cO iw aA=>?_)))));obtain⟨ara,rfl,Rd,R⟩:=aA;replace B:=B.I R;replace U:=U.I R;replace ah:=ah.I R;replace E:=E.then R;replace vo:=vo.then R;replace Af:=Af.then R;obtain⟨arb,arc,ard,arf,rfl,N9,N'⟩:=JV.bb Rd;replace Rd:=JV.cv N9 N';have apr:=Mod.refl [] iw;refine ag (ee rfl) (ag (av nf rfl) (bo (vs:=[_,_,_,_,_,_]) aK B rfl rfl rfl (by simp [Value.oneCell']) (by simp) fun n' nG=>?_));replace U:=U.ne nG.mod (Ne.symm k7);replace ah:=ah.ne nG.mod (Ne.symm tX);replace E:=E.trans nG.mod;replace B:aF n' g _ [_,_,_,_,_,_,_]:=nG.az;replace N9:=N9.toM nG.mod (fun a ay=>by rw [List.mem_singleton.1 ay];exact List.mem_cons_of_mem _ dA);replace N':=N'.toM nG.mod (fun a ay=>by rw [List.mem_singleton.1 ay];exact List.mem_cons_of_mem _ dA);refine J cb (ab fun cx=>ag (a8 (vs:=[_,_,_,_,_,_]) aK rfl rfl (ah.cs rfl)) (bo (vs:=[_,_,_,_,_,_]) aK U rfl rfl rfl (by simp [Value.oneCell']) (by simp) fun lY ox=>?_));replace B:=B.ne ox.mod k7;replace ah:=ah.ne ox.mod (Ne.symm bP);replace E:=E.own ox.mod bH;replace U:aF lY g1 _ [_,_,_,_,_,_]:=ox.az;replace N9:=N9.toM ox.mod (fun a ay=>by simp [List.mem_singleton.1 ay]);replace N':=N'.toM ox.mod (fun a ay=>by simp [List.mem_singleton.1 ay]);exact J cx (aZ (kj (vs:=[_,_,_,_,_,_]) rfl aK rfl rfl (U.cs rfl) ⟨_,rfl,by rw [qw ae (Classical.not_not.1 hk)];exact aaZ.toM E (fun a ay=>by rw [List.mem_singleton.1 ay];exact dA),by rw [qw ae (Classical.not_not.1 hk)];exact⟨_,_,_,_,B,N9.e9 (fun a ay=>List.mem_cons_of_mem _ ay),N'.e9 (fun a ay=>List.mem_cons_of_mem _ ay)⟩,E⟩))
end Go.Proofs.YtnihidkbkhcfoaaGreatDoor.V
