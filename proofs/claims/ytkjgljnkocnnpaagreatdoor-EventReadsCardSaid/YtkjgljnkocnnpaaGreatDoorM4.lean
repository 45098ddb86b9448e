/-
  A part of the proof: events: what they stand for in memory; whether one is greater than is played. No condition of its own.
-/
import Derived.Test.YtkjgljnkocnnpaaGreatDoorM0
import Derived.Test.YtkjgljnkocnnpaaGreatDoorM2
import Derived.Test.YtkjgljnkocnnpaaGreatDoorProg
import Derived.Test.YtkjgljnkocnnpaaGreatDoorM3
import Derived.Lib.AppendIntMem
import Derived.Lib.LaidTab
import Derived.Shelf.Strings.Trim
import Derived.Shelf.Small.Utf8
import Derived.Shelf.Small.Bits
import Derived.Shelf.Small.Strs
import Derived.Shelf.Small.Wraps
import Derived.Shelf.Utf8.AppendRune
import Derived.Shelf.Strconv.Atoi
import Derived.Shelf.Strconv.Itoa0
import Derived.Shelf.Strconv.Itoa1
import Derived.Shelf.LaysM
import Derived.Shelf.Strconv.Itoa2
import Derived.Shelf.Strconv.Itoa3
import Derived.Shelf.Strconv.AtoiErrFast
import Derived.Shelf.Strconv.ParseIntEmpty
import Derived.Shelf.Strconv.AtoiFail
import Derived.Shelf.Strconv.Clone
import Derived.Shelf.Strconv.SyntaxError
import Derived.Shelf.LaysC
import Derived.Shelf.Strconv.ToError
import Derived.Shelf.Strconv.Lower
import Derived.Shelf.Strconv.ParseUint10
import Derived.Shelf.Strconv.ParseUint10Empty
import Derived.Shelf.Strconv.ParseUint10Any
import Derived.Shelf.Strconv.ParseInt10
import Derived.Shelf.Strconv.AtoiLong
import Derived.Shelf.Strconv.AtoiInnerAll
import Derived.Shelf.Strconv.RangeError
import Derived.Shelf.Strconv.ToErrorRange
import Derived.Shelf.Strconv.AtoiAll
import Derived.Shelf.Strconv.ErrVarAll
import Derived.Shelf.Strings.Search1
import Derived.Shelf.Strings.Search2
import Derived.Shelf.Strings.Cut
import Derived.Shelf.Strings.Shaped
import Derived.Shelf.Strings.Prefix
import Derived.Shelf.Unicode.Decode
import Derived.Shelf.Strings.Runes
import Derived.Shelf.Strings.AsciiSet
import Derived.Shelf.Unicode.DecodeSlow
import Derived.Shelf.Unicode.DecodeAny
import Derived.Ground.Names2Prog
import Derived.Shelf.Slices.Clone
import Derived.Ground.SlgnProg
import Derived.Shelf.SlicesE.Clone
set_option linter.all false
set_option maxRecDepth 10000
namespace Go.Proofs.YtkjgljnkocnnpaaGreatDoor.V
open Go Go.Proofs
theorem Oe (w:World) (s:ab):Calls aR 108 [S s].toArray w (bH fun u w'=>u = .tuple #[.int .i64 ((aM s).1:Int),.int .i64 ((aM s).2:Int)]∧Mod [] w w'):=by
 refine bs Tryz.func108 rfl fun E=>aa fun a6=>aj 2 rfl (J a6 (aB fun aQ=>aa fun a'=>aO rfl (ah (jr rfl rfl) (J a' ?_))));refine aX rfl (fun l2=>?_) (fun l2=>?_)
 ·have vP:s = []:=l2;subst vP;have dR:aM []=(0,0):=rfl;exact aa fun bp=>aj 2 rfl (J bp (bn (aP (cj rfl rfl rfl ⟨by rw [dR];try rfl,E⟩))))
 obtain⟨b0,r,rfl⟩:∃ b0 r,s=b0::r:=by
  cases s with
  | nil=>exact absurd rfl l2
  | cons b0 r=>exact⟨b0,r,rfl⟩
 have Gc:=b0.toNat_lt;have hlen:(b0::r).length=r.length+1:=rfl;refine b' (av aQ (aa fun bx=>aO rfl (Gd (m:=0) aA rfl rfl (by omega) (by simp) rfl fun aru alf=>?_)));obtain rfl:b0=aru:=by simpa using alf
 refine ah (e9 (r:=(b0.toNat:Int)) dH gj rfl (wrap64_in _ (by omega))) (a7 rfl (J bx (aB fun bO=>aa fun b4=>aj 2 rfl (J b4 ?_))));refine aX rfl (fun r7=>?_) (fun r7=>?_)
 ·have dR:=hs (b0:=b0) (r:=r) (by omega);exact aa fun cw=>aj 3 rfl (J cw (bn (aP (cj rfl rfl rfl ⟨by rw [dR];try rfl,E⟩))))
 have e5:¬ b0.toNat<128:=by omega
 refine b' (av bO (aa fun cy=>a7 rfl (J cy (aa fun b6=>a7 rfl (J b6 (mU fun Ge bR=>?_))))));have vd:∀ (n l c:Nat) (aJ:World),gQ b0.toNat=(n,l,c)∧(n=0∨c<32∧2≤n∧n≤4)∧Mod [] w aJ→∀ a,Has 91 [] [(0,S (b0::r)),(4,.int .i64 (c:Int)),(5,.int .i64 (n:Int)),(6,.int .i64 (l:Int))] a→Ge a aJ:=by
  intro n l c aJ lI;obtain⟨hH,cu,E⟩:=lI;refine bR _ _ _ _ (aB fun cv=>aa fun bV=>aj 2 rfl ?_);refine c7 (fun abG:(n:Int)=0=>?_) (fun abG=>?_)
  ·refine aj 6 rfl (J bV (az rfl ?_));have dR:=ht (r:=r) e5 hH (.inl (by omega));exact aa fun cE=>aj 2 rfl (J cE (bn (aP (cj rfl rfl rfl ⟨by rw [dR];try rfl,E⟩))))
  refine aj 2 rfl (ay (bQ aA rfl) (aj 2 rfl ?_));refine c7 (fun abH:((b0::r).length:Int)<n=>?_) (fun abH=>?_)
  ·refine ah (hG rfl rfl rfl) (J bV (az rfl ?_));have dR:=ht (r:=r) e5 hH (.inr (by omega));exact aa fun cI=>aj 2 rfl (J cI (bn (aP (cj rfl rfl rfl ⟨by rw [dR];try rfl,E⟩))))
  refine ah (hG rfl rfl rfl) (J bV (aI rfl ?_));have qo:¬ (n=0∨(b0::r).length<n):=by omega
  refine b' (av cv (aB fun dr=>aa fun ec=>a7 rfl (J ec (eN (bK (σ:=Nat×Nat) (fun⟨i,d⟩=>[(0,S (b0::r)),(4,.int .i64 (d:Int)),(5,.int .i64 (n:Int)),(6,.int .i64 (l:Int)),(7,.int .i64 (i:Int))]) (fun⟨i,d⟩ aJ=>1≤i∧i≤n∧iW ((r.take (n-1)).drop (i-1)) d=iW (r.take (n-1)) c∧((i=1∧d<64)∨(i=2∧d<4096)∨(i=3∧d<262144)∨(i=4∧d<16777216))∧Mod [] w aJ) (fun⟨i,d⟩=>n-i) (⟨1,c⟩) (⟨by omega,by omega,rfl,by omega,E⟩) ?_)))));rintro⟨i,d⟩ cX ⟨nJ,hi,h4,bT,E⟩;refine aB fun dG=>aa fun eV=>aj 3 rfl (J eV ?_);refine aX rfl (fun TL=>?_) (fun TL=>?_);rotate_left
  ·have Ij:iW (r.take (n-1)) c=some d:=by rw [← h4,List.drop_eq_nil_of_le (by rw [List.length_take];omega)];rfl
   refine bL (aP (aP (ch (av dr (aB fun gh=>aa fun fk=>aj 3 rfl ?_)))));refine c7 (fun abK:(d:Int)<l=>?_) (fun abK=>?_)
   ·refine aj 12 rfl (J fk (az rfl ?_));have dR:=nW e5 hH qo Ij (by omega);exact aa fun hq=>aj 2 rfl (J hq (bn (aP (cj rfl rfl rfl ⟨by rw [dR];try rfl,E⟩))))
   refine aj 3 rfl ?_;refine c7 (fun abL:(d:Int) > 1114111=>?_) (fun abL=>?_)
   ·refine aj 9 rfl (J fk (az rfl ?_));have dR:=nW e5 hH qo Ij (by omega);exact aa fun gY=>aj 2 rfl (J gY (bn (aP (cj rfl rfl rfl ⟨by rw [dR];try rfl,E⟩))))
   refine aj 3 rfl (ay (dA rfl rfl) ?_);refine c7 (fun abM:(d:Int)≥55296=>?_) (fun abM=>?_)
   ·refine aj 5 rfl (J fk ?_);refine aX rfl (fun TN=>?_) (fun TN=>?_)
    ·have dR:=nW e5 hH qo Ij (by omega);exact aa fun iB=>aj 2 rfl (J iB (bn (aP (cj rfl rfl rfl ⟨by rw [dR];try rfl,E⟩))))
    have dR:=mF e5 hH qo Ij (by omega);exact b' (av gh (aa fun jR=>aj 4 rfl (J jR (bn (cj rfl rfl rfl ⟨by rw [dR];try rfl,E⟩)))))
   refine aj 5 rfl (J fk (aI rfl ?_));have dR:=mF e5 hH qo Ij (by omega);exact b' (av gh (aa fun l3=>aj 4 rfl (J l3 (bn (cj rfl rfl rfl ⟨by rw [dR];try rfl,E⟩)))))
  obtain⟨dN,fu⟩:∃ dN,(b0::r)[i]? = some dN:=⟨_,List.getElem?_eq_getElem (by omega)⟩;have TM:(r.take (n-1))[i-1]? = some dN:=by
   rw [List.getElem?_take,aL (by omega)];rw [← fu];obtain⟨j,rfl⟩:∃ j,i=j+1:=⟨i-1,by omega⟩;simp
  have awc:=dN.toNat_lt;refine b' (av dG (aB fun eO=>eN (aB fun eC=>aa fun eP=>aj 2 rfl (Gd (m:=i) aA rfl rfl (by omega) (by simp;omega) rfl fun arv aeQ=>?_))));obtain rfl:dN=arv:=by rw [Int.toNat_natCast,fu] at aeQ;injection aeQ
  refine ah (cT rfl rfl) ?_;refine c7 (fun abI:(dN.toNat:Int)<128=>?_) (fun abI=>?_)
  ·refine aj 6 rfl (J eP (az rfl ?_));have dR:=ka e5 hH qo (by rw [← h4];exact Eo TM (.inl (by omega)));exact aa fun fw=>aj 2 rfl (J fw (bn (aP (bw (aP (aP (bw (aP (cj rfl rfl rfl ⟨by rw [dR];try rfl,E⟩)))))))))
  refine aj 3 rfl (ay (bN aA rfl rfl fu) (ay (dA rfl rfl) ?_));refine c7 (fun abJ:(dN.toNat:Int)≥192=>?_) (fun abJ=>?_)
  ·refine ah (hG rfl rfl rfl) (J eP (az rfl ?_));have dR:=ka e5 hH qo (by rw [← h4];exact Eo TM (.inr (by omega)));exact aa fun fT=>aj 2 rfl (J fT (bn (aP (bw (aP (aP (bw (aP (cj rfl rfl rfl ⟨by rw [dR];try rfl,E⟩)))))))))
  refine ah (hG rfl rfl rfl) (J eP (aI rfl ?_));have hf:=P' (d:=d) TM (by omega);rw [show i-1+1=i by omega] at hf;refine b' (av eC (b5 (aO rfl (ah (Bt (r:=((d*64:Nat):Int)) rfl rfl) (aj 2 rfl (ah (bN aA rfl rfl fu) (ah (e9 (r:=(dN.toNat:Int)) dH gj rfl (wrap64_in _ (by omega))) (ah ((ln rfl rfl (by omega)).to (v':=.int .i64 ((dN.toNat % 64:Nat):Int)) (by rw [Int.natCast_emod];try rfl)) (ah (aS (r:=((d*64+dN.toNat % 64:Nat):Int)) rfl rfl) (a7 rfl (cx (bw (av eO ?_)))))))))))));exact b5 (aO rfl (ah (bt rfl rfl (by omega)) (a7 rfl (cx (aw (σ:=Nat×Nat) (s:=⟨i,d⟩) (⟨i+1,d*64+dN.toNat % 64⟩) ⟨by omega,by omega,by rw [show i+1-1=i by omega,← hf];exact h4,by omega,E⟩)))))
 refine eN ?_;apply share
 ·intro alg;refine aa fun kb=>aO rfl (ah (dA rfl rfl) ?_);refine c7 (fun jM:(b0.toNat:Int)≥192=>?_) (fun jM=>?_)
  ·refine aj 3 rfl ?_;refine c7 (fun aga:(b0.toNat:Int)<224=>?_) (fun aga=>?_)
   ·refine aj 2 rfl (J kb (az rfl (aa fun k6=>a7 rfl (J k6 (aa fun ni=>a7 rfl (J ni (b5 (aO rfl (ah ((ln rfl rfl (by omega)).to (v':=.int .i64 ((b0.toNat % 32:Nat):Int)) (by rw [Int.natCast_emod];try rfl)) (a7 rfl (cx ?_)))))))))));refine bw ?_;refine fH.sub (l':=[(0,_),(4,_),(5,_),(6,_)]) ⟨rfl,rfl,rfl,rfl,trivial⟩ (dq (vd 2 128 (b0.toNat % 32) w ⟨by unfold gQ;rw [aL (by omega)],by omega,E⟩))
   refine aj 2 rfl (J kb (aI rfl ?_));have LS:¬ ((b0.toNat:Int)≥192∧(b0.toNat:Int)<224):=by omega
   refine k2.sub (l':=[(0,_),(4,_),(5,_),(6,_)]) ⟨rfl,rfl,rfl,rfl,trivial⟩ ?_
   revert LS
   exact alg.o
  refine aj 5 rfl (J kb (aI rfl ?_));have LS:¬ ((b0.toNat:Int)≥192∧(b0.toNat:Int)<224):=by omega
  exact k2.sub (l':=[(0,_),(4,_),(5,_),(6,_)]) ⟨rfl,rfl,rfl,rfl,trivial⟩ (alg.o LS)
 intro LS;apply share
 ·intro Qa;refine aa fun kc=>aO rfl (ah (dA rfl rfl) ?_);refine c7 (fun er:(b0.toNat:Int)≥224=>?_) (fun er=>?_)
  ·refine aj 3 rfl ?_;refine c7 (fun abN:(b0.toNat:Int)<240=>?_) (fun abN=>?_)
   ·refine aj 2 rfl (J kc (az rfl (aa fun qp=>a7 rfl (J qp (aa fun r8=>a7 rfl (J r8 (b5 (aO rfl (ah ((ln rfl rfl (by omega)).to (v':=.int .i64 ((b0.toNat % 16:Nat):Int)) (by rw [Int.natCast_emod];try rfl)) (a7 rfl (cx ?_)))))))))));refine bw ?_;refine fH.sub (l':=[(0,_),(4,_),(5,_),(6,_)]) ⟨rfl,rfl,rfl,rfl,trivial⟩ (dq (vd 3 2048 (b0.toNat % 16) w ⟨by unfold gQ;rw [ak (by omega),aL (by omega)],by omega,E⟩))
   refine aj 2 rfl (J kc (aI rfl ?_));have tr:¬ ((b0.toNat:Int)≥224∧(b0.toNat:Int)<240):=by omega
   refine k2.sub (l':=[(0,_),(4,_),(5,_),(6,_)]) ⟨rfl,rfl,rfl,rfl,trivial⟩ ?_
   revert tr
   exact Qa.o
  refine aj 5 rfl (J kc (aI rfl ?_));have tr:¬ ((b0.toNat:Int)≥224∧(b0.toNat:Int)<240):=by omega
  exact k2.sub (l':=[(0,_),(4,_),(5,_),(6,_)]) ⟨rfl,rfl,rfl,rfl,trivial⟩ (Qa.o tr)
 intro tr;refine aa fun qq=>aO rfl (ah (dA rfl rfl) ?_);refine c7 (fun abO:(b0.toNat:Int)≥240=>?_) (fun abO=>?_)
 ·refine aj 3 rfl ?_;refine c7 (fun abP:(b0.toNat:Int)<248=>?_) (fun abP=>?_)
  ·refine aj 2 rfl (J qq (az rfl (aa fun r9=>a7 rfl (J r9 (aa fun tO=>a7 rfl (J tO (b5 (aO rfl (ah ((ln rfl rfl (by omega)).to (v':=.int .i64 ((b0.toNat % 8:Nat):Int)) (by rw [Int.natCast_emod];try rfl)) (a7 rfl (cx ?_)))))))))));refine bw ?_;refine fH.sub (l':=[(0,_),(4,_),(5,_),(6,_)]) ⟨rfl,rfl,rfl,rfl,trivial⟩ (dq (vd 4 65536 (b0.toNat % 8) w ⟨by unfold gQ;rw [ak (by omega),ak (by omega),aL (by omega)],by omega,E⟩))
  refine aj 2 rfl (J qq (aI rfl (b' (bw ?_))));refine fH.sub (l':=[(0,_),(4,_),(5,_),(6,_)]) ⟨rfl,rfl,rfl,rfl,trivial⟩ (dq (vd 0 0 b0.toNat w ⟨by unfold gQ;rw [ak (by omega),ak (by omega),ak (by omega)],by omega,E⟩))
 refine aj 5 rfl (J qq (aI rfl (b' (bw ?_))));refine fH.sub (l':=[(0,_),(4,_),(5,_),(6,_)]) ⟨rfl,rfl,rfl,rfl,trivial⟩ (dq (vd 0 0 b0.toNat w ⟨by unfold gQ;rw [ak (by omega),ak (by omega),ak (by omega)],by omega,E⟩))
set_option maxRecDepth 10000
def Og:=eW Tryz.func108
theorem Ep (w:World) (s:ab):Calls aR 132 [S s].toArray w (bH fun u w'=>u = .bool (cC s)∧Mod [] w w'):=by
 refine bs Tryz.func132 rfl fun E=>aa fun a6=>a7 rfl (J a6 (aB fun aQ=>eN (bK (σ:=ab) (fun s1=>[(0,S s1)]) (fun s1 aJ=>cC s=cC s1∧Mod [] w aJ) (fun s1=>s1.length) (s) (⟨rfl,E⟩) ?_)));rintro s1 aJ ⟨bI,E⟩;refine aB fun a'=>aa fun bp=>aO rfl (ah (ia rfl rfl) (J bp ?_));refine aX rfl (fun fy=>?_) (fun fy=>?_)
 ·have cH:s1≠[]:=fy;refine b' (av a' (eN (aa fun bx=>aO rfl (cG E (bB Og rfl) (Oe _ _) fun cX U E=>aj 5 rfl (J bx (aB fun bO=>aa fun b4=>aj 2 rfl (J b4 ?_)))))));refine aX rfl (fun vM=>?_) (fun vM=>?_)
  ·have dR:cC s=false:=by rw [bI,vQ cH (by omega)]
   exact aa fun cw=>a7 rfl (J cw (bn (aP (bw (aP (bw (aP (aG rfl rfl ⟨by rw [dR],E⟩))))))))
  have agb:(aM s1).2≠0:=by omega
  refine b' (av bO (b5 (aj 2 rfl ?_)));have hle:=kC s1;exact ah (dV aA rfl rfl hle) (a7 rfl (cx (bw (aeR (σ:=ab) (s:=s1) (s1.drop (aM s1).2) ⟨rfl,trivial⟩ ⟨bI.trans (mq cH agb),E⟩ ((by have:=kC s1;have cg:s1.length≠0:=fun e=>cH (List.eq_nil_of_length_eq_zero e);simp only [List.length_drop];omega))))))
 have Ik:s1 = []:=Classical.byContradiction fy;have dR:cC s=true:=by rw [bI,Ik,oL]
 exact bL (aP (aP (ch (av aQ (aa fun cy=>a7 rfl (J cy (bn (aG rfl rfl ⟨by rw [dR],E⟩))))))))
set_option maxRecDepth 10000
def Oh:=eW Tryz.func132
def di:=kT (kU aR 58 5 1 1)
theorem kX:gX aR 5 ([.int .u8 0]):=by unfold gX;kernel_rfl
theorem abQ (w:World) (s:ab) (bh:s.length≤65536):Calls aR 155 [S s].toArray w (bH fun u w'=>u = .tuple #[S (if cC s then cM s else []),.bool (cC s)]∧Mod [] w w'):=by
 refine bs Tryz.func155 rfl fun E=>aa fun a6=>aj 2 rfl (J a6 (aB fun aQ=>aa fun a'=>aO rfl (cG E (bB Oh rfl) (Ep _ _) fun aJ U E=>ah (fC rfl) (J a' ?_))));refine a1 rfl (fun jP=>?_) (fun jP=>?_)
 ·have q7:cC s=false:=by simpa using jP
  exact aa fun bp=>aj 2 rfl (J bp (bn (aP (cj rfl rfl rfl ⟨by rw [q7];rfl,E⟩))))
 have q7:cC s=true:=by simpa using jP
 refine b' (av aQ (aa fun bx=>a7 rfl (J bx (aa fun bO=>dm di kX rfl rfl fun g1 cX bZ=>?_))));have aY:=bZ.le E;replace E:=E.then bZ.mod;have R:=bZ.ar;refine a7 rfl (J bO (aB fun b4=>aa fun cw=>a7 rfl (J cw (eN (bK (σ:=Nat×Value) (fun⟨k,v⟩=>[(0,S s),(4,S kd),(5,v),(6,.int .i64 (k:Int))]) (fun⟨k,v⟩ aJ=>k≤s.length∧Own aJ 5 1 v ((34::dI (s.take k))).length ((((34::dI (s.take k))).map ym).flatten)∧(∀ x∈bk v,w.heap.size≤x)∧Mod [] w aJ) (fun⟨k,v⟩=>s.length-k) (⟨0,.slice (some ⟨g1,0,none⟩) 1 1⟩) (⟨by omega,(Own.all (c:=1) R rfl (by omega)).same rfl rfl,by simp only [bk,List.mem_singleton];intro x ae;subst ae;exact aY,E⟩) ?_)))));rintro⟨k,v⟩ gr ⟨hk,mG,nh,E⟩;refine aB fun cy=>aa fun b6=>aj 2 rfl (ah (bQ aA rfl) (ah (cT rfl rfl) (J b6 ?_)));refine aX rfl (fun kK=>?_) (fun kK=>?_);rotate_left
 ·have nK:s.take k=s:=List.take_of_length_le (by omega);refine bL (aP (aP (ch (av b4 (aa fun eO=>aO rfl (dm di kX rfl rfl fun g11 tP Iq=>?_))))));have aqo:=Iq.le E;have Ir:=Iq.bU mG;replace E:=E.then Iq.mod;replace mG:=mG.I Iq.mod;have Es:=Iq.ar;have Qb:=nX s;have tr:(34::dI (s.take k)).length=(dI s).length+1:=by rw [nK];rfl
  refine bz di rfl rfl mG (Src.own da (Own.all (cs:=[_]) Es rfl (by omega)) (by simp [Value.oneCell'])) (by decide) (by omega) (by omega) rfl fun v10 ve T3=>?_;have ako:=T3.ne Ir Es;have aqp:=T3.ge nh E;replace Es:=Es.mod T3.mod (fun ae=>Ir _ ae rfl);replace E:=E.trans' T3.mod (fun x ae=>.inr (nh x ae));replace mG:=T3.own;exact ah (js (u:=cM s) da dH aA rfl (mG.same (by rw [nK];simp [cM]) (by rw [nK];simp [cM,ku,dt]))) (aj 2 rfl (J eO (bn (cj rfl rfl rfl ⟨by rw [q7];rfl,E⟩))))
 refine b' (av cy (aB fun bR=>eN (aa fun cv=>aj 2 rfl (Gd (m:=k) aA rfl rfl (by omega) (by simp;omega) rfl fun c aZ=>?_))));rw [Int.toNat_natCast] at aZ;have lJ:=c.toNat_lt;have Qb:=nX (s.take k);have Dz:(s.take k).length=k:=by rw [List.length_take];omega
 have tr:(34::dI (s.take k)).length=(dI (s.take k)).length+1:=rfl;refine a7 rfl (J cv (eN (aa fun bV=>aj 2 rfl ?_)));refine c7 (fun abR:(c.toNat:Int)=34=>?_) (fun abR=>?_)
 ·refine aj 5 rfl (J bV (az rfl (b5 (aj 2 rfl (ir di kX rfl rfl fun g2 h8 cz=>?_)))));have bJ:=cz.le E;have oy:=cz.bU mG;replace E:=E.then cz.mod;replace mG:=mG.I cz.mod;have ag:=cz.ar;have ke:=Gf (c:=c) (by omega);refine bz di rfl rfl mG (Src.own da (Own.all (cs:=[_,_]) ag rfl (by omega)) (by simp [Value.oneCell'])) (by decide) (by omega) (by omega) rfl fun v1 iS kB=>?_;have Od:=kB.ne oy ag;have vN:=kB.ge nh E;replace ag:=ag.mod kB.mod (fun ae=>oy _ ae rfl);replace E:=E.trans' kB.mod (fun x ae=>.inr (nh x ae));replace mG:=kB.own;exact a7 rfl (cx (bw (bw (av bR (b5 (aO rfl (ah (bt rfl rfl (by omega)) (a7 rfl (cx (aw (σ:=Nat×Value) (s:=⟨k,v⟩) (⟨k+1,v1⟩) ⟨by omega,mG.same (by rw [e7 aZ,ke];simp) (by rw [e7 aZ,ke];simp [ku]),vN,E⟩))))))))))
 refine aj 3 rfl ?_;refine c7 (fun abS:(c.toNat:Int)=92=>?_) (fun abS=>?_)
 ·refine aj 2 rfl (J bV (az rfl (b5 (aj 2 rfl (ir di kX rfl rfl fun g3 i' dF=>?_)))));have df:=dF.le E;have pH:=dF.bU mG;replace E:=E.then dF.mod;replace mG:=mG.I dF.mod;have bd:=dF.ar;have ke:=Gf (c:=c) (by omega);refine bz di rfl rfl mG (Src.own da (Own.all (cs:=[_,_]) bd rfl (by omega)) (by simp [Value.oneCell'])) (by decide) (by omega) (by omega) rfl fun v2 iw Dx=>?_;have abT:=Dx.ne pH bd;have Bs:=Dx.ge nh E;replace bd:=bd.mod Dx.mod (fun ae=>pH _ ae rfl);replace E:=E.trans' Dx.mod (fun x ae=>.inr (nh x ae));replace mG:=Dx.own;exact a7 rfl (cx (bw (bw (av bR (b5 (aO rfl (ah (bt rfl rfl (by omega)) (a7 rfl (cx (aw (σ:=Nat×Value) (s:=⟨k,v⟩) (⟨k+1,v2⟩) ⟨by omega,mG.same (by rw [e7 aZ,ke];simp) (by rw [e7 aZ,ke];simp [ku]),Bs,E⟩))))))))))
 refine aj 2 rfl (J bV (aI rfl (aa fun cE=>aj 3 rfl (J cE ?_))));refine aX rfl (fun qS=>?_) (fun qS=>?_)
 ·refine b5 (aO rfl (ir di kX rfl rfl fun g4 nd N4=>?_));have fQ:=N4.le E;have pI:=N4.bU mG;replace E:=E.then N4.mod;replace mG:=mG.I N4.mod;have bm:=N4.ar;have ke:=TO qS;refine bz di rfl rfl mG (Src.own da (Own.all (cs:=[_,_]) bm rfl (by omega)) (by simp [Value.oneCell'])) (by decide) (by omega) (by omega) rfl fun v3 lF Dy=>?_;have abU:=Dy.ne pI bm;have Ga:=Dy.ge nh E;replace bm:=bm.mod Dy.mod (fun ae=>pI _ ae rfl);replace E:=E.trans' Dy.mod (fun x ae=>.inr (nh x ae));replace mG:=Dy.own;exact a7 rfl (cx (bw (bw (av bR (b5 (aO rfl (ah (bt rfl rfl (by omega)) (a7 rfl (cx (aw (σ:=Nat×Value) (s:=⟨k,v⟩) (⟨k+1,v3⟩) ⟨by omega,mG.same (by rw [e7 aZ,ke];simp) (by rw [e7 aZ,ke];simp [ku]),Ga,E⟩))))))))))
 refine aa fun cI=>aj 3 rfl (J cI ?_);refine aX rfl (fun Il=>?_) (fun Il=>?_)
 ·refine b5 (aO rfl (ir di kX rfl rfl fun g5 h2 fJ=>?_));have nT:=fJ.le E;have uO:=fJ.bU mG;replace E:=E.then fJ.mod;replace mG:=mG.I fJ.mod;have dS:=fJ.ar;have ke:=TP Il;refine bz di rfl rfl mG (Src.own da (Own.all (cs:=[_,_]) dS rfl (by omega)) (by simp [Value.oneCell'])) (by decide) (by omega) (by omega) rfl fun v4 jJ alh=>?_;have aqi:=alh.ne uO dS;have agc:=alh.ge nh E;replace dS:=dS.mod alh.mod (fun ae=>uO _ ae rfl);replace E:=E.trans' alh.mod (fun x ae=>.inr (nh x ae));replace mG:=alh.own;exact a7 rfl (cx (bw (bw (av bR (b5 (aO rfl (ah (bt rfl rfl (by omega)) (a7 rfl (cx (aw (σ:=Nat×Value) (s:=⟨k,v⟩) (⟨k+1,v4⟩) ⟨by omega,mG.same (by rw [e7 aZ,ke];simp) (by rw [e7 aZ,ke];simp [ku]),agc,E⟩))))))))))
 refine aa fun dr=>aj 3 rfl (J dr ?_);refine aX rfl (fun r'=>?_) (fun r'=>?_)
 ·refine b5 (aO rfl (ir di kX rfl rfl fun g6 mo iV=>?_));have tN:=iV.le E;have wS:=iV.bU mG;replace E:=E.then iV.mod;replace mG:=mG.I iV.mod;have jQ:=iV.ar;have ke:=TQ r';refine bz di rfl rfl mG (Src.own da (Own.all (cs:=[_,_]) jQ rfl (by omega)) (by simp [Value.oneCell'])) (by decide) (by omega) (by omega) rfl fun v5 mT ali=>?_;have aqj:=ali.ne wS jQ;have agd:=ali.ge nh E;replace jQ:=jQ.mod ali.mod (fun ae=>wS _ ae rfl);replace E:=E.trans' ali.mod (fun x ae=>.inr (nh x ae));replace mG:=ali.own;exact a7 rfl (cx (bw (bw (av bR (b5 (aO rfl (ah (bt rfl rfl (by omega)) (a7 rfl (cx (aw (σ:=Nat×Value) (s:=⟨k,v⟩) (⟨k+1,v5⟩) ⟨by omega,mG.same (by rw [e7 aZ,ke];simp) (by rw [e7 aZ,ke];simp [ku]),agd,E⟩))))))))))
 refine aa fun ec=>aj 3 rfl (J ec ?_);refine aX rfl (fun wT=>?_) (fun wT=>?_)
 ·refine b5 (aO rfl (ir di kX rfl rfl fun g7 lK qQ=>?_));have L0:=qQ.le E;have Oi:=qQ.bU mG;replace E:=E.then qQ.mod;replace mG:=mG.I qQ.mod;have z':=qQ.ar;have ke:=TR wT;refine bz di rfl rfl mG (Src.own da (Own.all (cs:=[_,_]) z' rfl (by omega)) (by simp [Value.oneCell'])) (by decide) (by omega) (by omega) rfl fun v6 nj alj=>?_;have aqk:=alj.ne Oi z';have age:=alj.ge nh E;replace z':=z'.mod alj.mod (fun ae=>Oi _ ae rfl);replace E:=E.trans' alj.mod (fun x ae=>.inr (nh x ae));replace mG:=alj.own;exact a7 rfl (cx (bw (bw (av bR (b5 (aO rfl (ah (bt rfl rfl (by omega)) (a7 rfl (cx (aw (σ:=Nat×Value) (s:=⟨k,v⟩) (⟨k+1,v6⟩) ⟨by omega,mG.same (by rw [e7 aZ,ke];simp) (by rw [e7 aZ,ke];simp [ku]),age,E⟩))))))))))
 refine aa fun dG=>aj 3 rfl (J dG ?_);refine aX rfl (fun Im=>?_) (fun Im=>?_)
 ·refine b5 (aO rfl (ir di kX rfl rfl fun g8 pJ wF=>?_));have TT:=wF.le E;have Oj:=wF.bU mG;replace E:=E.then wF.mod;replace mG:=mG.I wF.mod;have Gg:=wF.ar;have ke:=T1 Im;refine bz di rfl rfl mG (Src.own da (Own.all (cs:=[_,_]) Gg rfl (by omega)) (by simp [Value.oneCell'])) (by decide) (by omega) (by omega) rfl fun azp qT alk=>?_;have aql:=alk.ne Oj Gg;have agf:=alk.ge nh E;replace Gg:=Gg.mod alk.mod (fun ae=>Oj _ ae rfl);replace E:=E.trans' alk.mod (fun x ae=>.inr (nh x ae));replace mG:=alk.own;exact a7 rfl (cx (bw (bw (av bR (b5 (aO rfl (ah (bt rfl rfl (by omega)) (a7 rfl (cx (aw (σ:=Nat×Value) (s:=⟨k,v⟩) (⟨k+1,azp⟩) ⟨by omega,mG.same (by rw [e7 aZ,ke];simp) (by rw [e7 aZ,ke];simp [ku]),agf,E⟩))))))))))
 refine aa fun eV=>aj 3 rfl (J eV ?_);refine aX rfl (fun yn=>?_) (fun yn=>?_);rotate_left
 ·refine b5 (aj 2 rfl (dm di kX rfl rfl fun g10 ts Io=>?_));have aqn:=Io.le E;have Ip:=Io.bU mG;replace E:=E.then Io.mod;replace mG:=mG.I Io.mod;have Er:=Io.ar;have ke:=(L1 (c:=c) (by omega) (by omega) qS Il r' wT Im).trans (ak (by omega));refine bz di rfl rfl mG (Src.own da (Own.all (cs:=[_]) Er rfl (by omega)) (by simp [Value.oneCell'])) (by decide) (by omega) (by omega) rfl fun v9 sJ aln=>?_;have alo:=aln.ne Ip Er;have agi:=aln.ge nh E;replace Er:=Er.mod aln.mod (fun ae=>Ip _ ae rfl);replace E:=E.trans' aln.mod (fun x ae=>.inr (nh x ae));replace mG:=aln.own;exact a7 rfl (cx (bw (bw (av bR (b5 (aO rfl (ah (bt rfl rfl (by omega)) (a7 rfl (cx (aw (σ:=Nat×Value) (s:=⟨k,v⟩) (⟨k+1,v9⟩) ⟨by omega,mG.same (by rw [e7 aZ,ke];simp) (by rw [e7 aZ,ke];simp [ku]),agi,E⟩))))))))))
 refine ks [0] [1,2,3,4,5,6,7,8] 9 [10,11] wide (by kernel_rfl) (fun _ _ _ h=>h.2) (abV (fun _=>(fj rfl)) rfl rfl (jG (hF 2 rfl rfl (ax (fun U=>((T2 rfl rfl (by omega)).to (v':=.int .u8 ((c.toNat / 16:Nat):Int)) (by rw [Int.tdiv_eq_ediv_of_nonneg (by omega),du _ (by omega),Int.natCast_ediv];try rfl))) (ax (fun U=>(hM aA rfl rfl (by omega) (by rw [Int.toNat_natCast];exact AE (by omega)))) (hF 2 rfl rfl (ax (fun U=>((ln rfl rfl (by omega)).to (v':=.int .u8 ((c.toNat % 16:Nat):Int)) (by rw [Int.natCast_emod];try rfl))) (ax (fun U=>(hM aA rfl rfl (by omega) (by rw [Int.toNat_natCast];exact AE (by omega)))) (oF rfl fun qU U=>?_)))))))));replace E:=E.then U;replace mG:=mG.I U;refine q8 di kX rfl rfl fun g9 qV yd=>?_;have yo:=yd.le E;have Ol:=yd.bU mG;replace E:=E.then yd.mod;replace mG:=mG.I yd.mod;have mV:=yd.ar;have ke:=(L1 (c:=c) (by omega) (by omega) qS Il r' wT Im).trans (aL (by omega));refine bz di rfl rfl mG (Src.own da (Own.all (cs:=[_,_,_,_,_,_]) mV rfl (by omega)) (by simp [Value.oneCell'])) (by decide) (by omega) (by omega) rfl fun awd pK alm=>?_;have aqm:=alm.ne Ol mV;have agh:=alm.ge nh E;replace mV:=mV.mod alm.mod (fun ae=>Ol _ ae rfl);replace E:=E.trans' alm.mod (fun x ae=>.inr (nh x ae));replace mG:=alm.own;exact a7 rfl (cx (bw (bw (av bR (b5 (aO rfl (ah (bt rfl rfl (by omega)) (a7 rfl (cx (aw (σ:=Nat×Value) (s:=⟨k,v⟩) (⟨k+1,awd⟩) ⟨by omega,mG.same (by rw [e7 aZ,ke];simp) (by rw [e7 aZ,ke];simp [ku]),agh,E⟩))))))))))
set_option maxRecDepth 10000
def abW:=eW Tryz.func155
def kl:=eW Tryz.func126
theorem abX (w:World) (v:JV) (us:List Value) (aBn:ao [] w v.D us):Calls aR 125 [.agg us.toArray].toArray w (bH fun u w'=>u = .bool v.bare∧Mod [] w w'):=by
 refine bs Tryz.func125 rfl fun E=>?_;obtain⟨al,cl,am,cm,rfl,k3,j3⟩:=JV.aU aBn;refine aa fun a6=>eY rfl rfl rfl fun g1 aJ bZ=>?_;have aY:=bZ.le E;replace E:=E.then bZ.mod;have R:=bZ.ar;refine a7 rfl (J a6 (aa fun aQ=>ah (br au rfl (R.cs rfl)) (bj bA rfl fun g2 cX cz=>?_)));have bJ:=cz.le E;have bl:=cz.ne R;replace R:=R.I cz.mod;replace E:=E.then cz.mod;have ag:=cz.ar;refine aK au ag rfl rfl fun gr rW=>?_;replace R:=R.ne rW.mod bl;replace E:=E.own rW.mod bJ;replace ag:aF gr g2 _ [_,_,_,_,_,_]:=rW.ar;refine J aQ (mU fun K3 a'=>?_);have J3:∀ (dN:Bool) (wG:Int) (s1:ab) (e6:Option Addr) (ef c1:Nat) (a2:Option Addr) (jt c2:Nat) (aJ:World),v.bare=(!dN&&decide (wG=0)&&decide (s1 = [])&&decide (ef=0)&&decide (jt=0))∧aF aJ g2 25 [.int .i64 v.kind,.bool dN,.int .i64 wG,S s1,.slice e6 ef c1,.slice a2 jt c2]∧Mod [] w aJ→∀ a,Has 57 [] [(3,.pointer (some ⟨g2,0,none⟩))] a→K3 a aJ:=by
  intro dN wG s1 e6 ef c1 a2 jt c2 h8 lI;obtain⟨ev,ag,E⟩:=lI;refine a' _ _ _ _ (aa fun bp=>ah (aD sH rfl) (ah (bF kV rfl (ag.cell rfl)) (ah (fC rfl) ?_)));refine oM (fun abY:(!dN)=true=>?_) (fun abY=>?_)
  ·refine aO rfl (ay (aD mj rfl) (ay (bF eg rfl (ag.cell rfl)) (ay (k1 rfl rfl) ?_)));refine c7 (fun abZ:wG=0=>?_) (fun abZ=>?_)
   ·refine aj 2 rfl (ay (aD je rfl) (ay (bF b2 rfl (ag.cell rfl)) (ay (jr rfl rfl) ?_)));refine c7 (fun ab0:s1 = []=>?_) (fun ab0=>?_)
    ·refine aj 2 rfl (ay (aD gU rfl) (ay (bF j8 rfl (ag.cell rfl)) (ay (bY hJ rfl) (ay (k1 rfl rfl) ?_))));refine c7 (fun ab1:(ef:Int)=0=>?_) (fun ab1=>?_)
     ·refine aj 2 rfl (ay (aD cd rfl) (ay (bF dM rfl (ag.cell rfl)) (ay (bY cO rfl) (ay (k1 rfl rfl) ?_))));refine c7 (fun ab2:(jt:Int)=0=>?_) (fun ab2=>?_)
      ·exact aj 2 rfl (J bp (bn (aG rfl rfl ⟨by rw [ev];clear ev;simp_all,E⟩)))
      exact aj 2 rfl (J bp (bn (aG rfl rfl ⟨by rw [ev];clear ev;simp_all,E⟩)))
     exact aj 8 rfl (J bp (bn (aG rfl rfl ⟨by rw [ev];clear ev;simp_all,E⟩)))
    exact aj 14 rfl (J bp (bn (aG rfl rfl ⟨by rw [ev];clear ev;simp_all,E⟩)))
   exact aj 19 rfl (J bp (bn (aG rfl rfl ⟨by rw [ev];clear ev;simp_all,E⟩)))
  exact aj 23 rfl (J bp (bn (aG rfl rfl ⟨by rw [ev];clear ev;simp_all,E⟩)))
 refine aa fun bx=>ah (aD hK rfl) (ah (bF eg rfl (R.cell rfl)) (J bx (eN (aa fun bO=>aj 2 rfl (J bO ?_)))));refine aX rfl (fun lL=>?_) (fun lL=>?_)
 ·refine b' (bw ?_);refine fH.sub (l':=[(3,_)]) ⟨rfl,trivial⟩ (dq (J3 v.is v.num v.str al v.list.length cl am v.map.length cm gr ⟨by simp [JV.bare,lL],ag,E⟩))
 refine aa fun b4=>aj 2 rfl (J b4 ?_);refine aX rfl (fun l2=>?_) (fun l2=>?_)
 ·refine b5 (ah (aD sH rfl) (cL kV ag rfl rfl fun iS hd=>?_));replace R:=R.ne hd.mod bl;replace E:=E.own hd.mod bJ;replace ag:aF iS g2 _ [_,_,_,_,_,_]:=hd.ar;refine cx (bw ?_);refine fH.sub (l':=[(3,_)]) ⟨rfl,trivial⟩ (dq (J3 false v.num v.str al v.list.length cl am v.map.length cm iS ⟨by simp [JV.bare,l2],ag,E⟩))
 refine aa fun cw=>aj 2 rfl (J cw ?_);refine aX rfl (fun tQ=>?_) (fun tQ=>?_)
 ·refine aa fun cy=>ah (aD mj rfl) (cL eg ag rfl rfl fun i' kI=>?_);replace R:=R.ne kI.mod bl;replace E:=E.own kI.mod bJ;replace ag:aF i' g2 _ [_,_,_,_,_,_]:=kI.ar;refine J cy (aa fun b6=>ah (aD mj rfl) (ah (bF eg rfl (R.cell rfl)) (ah (hV rfl rfl) ?_)));refine c7 (fun Be:v.num > 9007199254740991=>?_) (fun Be=>?_)
  ·refine aj 5 rfl (J b6 (az rfl ?_));have dn:v.bare=false:=by simp only [JV.bare,tQ];simp;intros;omega
   exact aa fun bR=>a7 rfl (J bR (bn (bw (aP (aG rfl rfl ⟨by rw [dn],E⟩)))))
  refine aO rfl (ay (aD mj rfl) (ay (bF eg rfl (R.cell rfl)) (aj 2 rfl (J b6 ?_))));refine aX rfl (fun wM=>?_) (fun wM=>?_)
  ·have dn:v.bare=false:=by simp only [JV.bare,tQ];simp;intros;omega
   exact aa fun cv=>a7 rfl (J cv (bn (bw (aP (aG rfl rfl ⟨by rw [dn],E⟩)))))
  have arw : -9007199254740991≤v.num∧v.num≤9007199254740991:=by omega
  refine b' (bw ?_);refine fH.sub (l':=[(3,_)]) ⟨rfl,trivial⟩ (dq (J3 v.is 0 v.str al v.list.length cl am v.map.length cm i' ⟨by simp [JV.bare,tQ,arw],ag,E⟩))
 refine aa fun bV=>aj 2 rfl (J bV ?_);refine aX rfl (fun pL=>?_) (fun pL=>?_)
 ·refine b5 (ah (aD je rfl) (cL b2 ag rfl rfl fun iw ml=>?_));replace R:=R.ne ml.mod bl;replace E:=E.own ml.mod bJ;replace ag:aF iw g2 _ [_,_,_,_,_,_]:=ml.ar;refine cx (bw ?_);refine fH.sub (l':=[(3,_)]) ⟨rfl,trivial⟩ (dq (J3 v.is v.num [] al v.list.length cl am v.map.length cm iw ⟨by simp [JV.bare,pL],ag,E⟩))
 refine aa fun cE=>aj 2 rfl (J cE ?_);refine aX rfl (fun kY=>?_) (fun kY=>?_)
 ·refine b5 (ah (aD gU rfl) (cL j8 ag rfl rfl fun nd lY=>?_));replace R:=R.ne lY.mod bl;replace E:=E.own lY.mod bJ;replace ag:aF nd g2 _ [_,_,_,_,_,_]:=lY.ar;refine cx (bw ?_);refine fH.sub (l':=[(3,_)]) ⟨rfl,trivial⟩ (dq (J3 v.is v.num v.str none 0 0 am v.map.length cm nd ⟨by simp [JV.bare,kY],ag,E⟩))
 refine aa fun cI=>aj 2 rfl (J cI ?_);refine aX rfl (fun vf=>?_) (fun vf=>?_)
 ·refine b5 (ah (aD cd rfl) (cL dM ag rfl rfl fun lF lW=>?_));replace R:=R.ne lW.mod bl;replace E:=E.own lW.mod bJ;replace ag:aF lF g2 _ [_,_,_,_,_,_]:=lW.ar;refine cx (bw ?_);refine fH.sub (l':=[(3,_)]) ⟨rfl,trivial⟩ (dq (J3 v.is v.num v.str al v.list.length cl none 0 0 lF ⟨by simp [JV.bare,vf],ag,E⟩))
 have dn:v.bare=false:=by simp only [JV.bare];simp;intros;omega
 exact aa fun dr=>a7 rfl (J dr (bn (bw (aP (aG rfl rfl ⟨by rw [dn],E⟩)))))
theorem iC (w:World) (b:ab) (ju:Value) (O:iD w ju b):Calls aR 126 [ju].toArray w (bH fun u w'=>∃ kR,u = .tuple #[kR,.int .i64 (gz (cK b))]∧(kR=ju∧j5 (cK b)=b∨kR = .slice none 0 0∧j5 (cK b) = [])∧Mod [] w w'):=by
 refine bs Tryz.func126 rfl fun E=>?_;obtain⟨ad,c,rfl,eQ,h3⟩:=O.form;refine aa fun a6=>aj 2 rfl (J a6 (aB fun aQ=>aa fun a'=>aO rfl (ah (bY da rfl) (ah (hV rfl rfl) (J a' ?_)))));refine aX rfl (fun fy=>?_) (fun fy=>?_)
 ·have cb:cK b = .error 3:=aL (by omega);exact aa fun bp=>aj 2 rfl (J bp (bn (aP (cj rfl rfl rfl ⟨_,by rw [cb];rfl,.inr ⟨rfl,by rw [cb];rfl⟩,E⟩))))
 have cb:cK b = .ok b:=ak (by omega);exact b' (av aQ (aa fun bx=>aj 3 rfl (J bx (bn (cj rfl rfl rfl ⟨_,by rw [cb];rfl,.inl ⟨rfl,by rw [cb];rfl⟩,E⟩)))))
theorem Bu (w:World) (b s:ab) (ju:Value) (O:iD w ju b) (aW:b.length≤65536):Calls aR 127 [ju,S s].toArray w (bH fun u w'=>Aa w w' ju (gm b s) u):=by
 refine cY Tryz.func127 rfl fun E=>aa fun a6=>aj 2 rfl (J a6 (aB fun aQ=>aa fun a'=>aO rfl (ah (bQ aA rfl) (ah (hV rfl rfl) (J a' ?_)))));refine aX rfl (fun jP=>?_) (fun jP=>?_)
 ·have bo:gm b s = .error 3:=aL (by omega);exact aa fun bp=>aj 2 rfl (J bp (bn (aP (cj rfl rfl rfl (Aa.err E (by decide) bo)))))
 have vb:s.length≤65536:=by omega
 refine b' (av aQ (aa fun bx=>aO rfl (cG E (bB abW rfl) (abQ _ s (by omega)) fun aJ U E=>aj 5 rfl (J bx (aB fun bO=>aa fun b4=>aj 2 rfl (J b4 ?_))))));refine a1 rfl (fun tG=>?_) (fun tG=>?_)
 ·have bI:cC s=false:=by simpa using tG
  have bo:gm b s = .error 1:=by rw [gm,ak (by omega),bI];rfl
  exact aa fun cw=>aj 2 rfl (J cw (bn (aP (cj rfl rfl rfl (Aa.err E (by decide) bo)))))
 have bI:cC s=true:=by simpa using tG
 have bo:gm b s=cK (b++cM s):=by rw [gm,ak (by omega),bI];rfl
 refine b' (av bO (aa fun cy=>aj 2 rfl ?_));have Qb:=nX s;have ab3:(cM s).length=(dI s).length+2:=by simp [cM]
 replace O:=O.I E;rw [bI,aL rfl];refine bz di rfl rfl O (Src.str aA _) (by decide) (by first | omega | (simp only [List.length_append,List.length_cons,List.length_nil] at *;omega)) (by first | omega | (simp only [List.length_append,List.length_cons,List.length_nil] at *;omega)) rfl fun hN cX ek=>?_;have fs:iD cX hN (b++cM s):=ek.own.same (by simp) (by simp [dt,ku]);refine cJ (bB kl rfl) (iC _ (b++cM s) _ fs) fun cN gr aH=>?_;obtain⟨kR,rfl,kL,U⟩:=aH;exact aj 4 rfl (J cy (bn (cj rfl rfl rfl (Aa.jS E ek fs kL U bo))))
end Go.Proofs.YtkjgljnkocnnpaaGreatDoor.V
namespace Go.Proofs
open Go.Shelf
def Tryz.DE:Go.Shelf.Ren:=⟨fun | 171=>59 | 243=>98 | 246=>133 | 283=>157 | 284=>158 | 285=>159 | 286=>160 | 129=>177 | 317=>188 | 318=>189 | 319=>190 | 320=>191 | 337=>205 | 338=>206 | n=>n,fun | 3=>3 | 9=>9 | 2=>2 | 4=>4 | 171=>174 | 0=>0 | 53=>175 | 37=>58 | 5=>5 | 173=>178 | 212=>202 | 51=>180 | 20=>20 | 213=>203 | 46=>127 | 232=>236 | 233=>237 | n=>n,fun | 17=>1 | 18=>6 | 19=>7 | n=>n⟩
theorem Tryz.Qf:Go.Proofs.LaysM.n171 Tryz.prog Tryz.DE:={
 mixed:=by kernel_rfl
 f129:=Tryz.func177.trans (congrArg some (by kernel_rfl))
 f171:=Tryz.func59.trans (congrArg some (by kernel_rfl))
 f243:=Tryz.func98.trans (congrArg some (by kernel_rfl))
 f246:=Tryz.func133.trans (congrArg some (by kernel_rfl))
 f283:=Tryz.func157.trans (congrArg some (by kernel_rfl))
 f284:=Tryz.func158.trans (congrArg some (by kernel_rfl))
 f285:=Tryz.func159.trans (congrArg some (by kernel_rfl))
 f286:=Tryz.func160.trans (congrArg some (by kernel_rfl))
 f317:=Tryz.func188.trans (congrArg some (by kernel_rfl))
 f318:=Tryz.func189.trans (congrArg some (by kernel_rfl))
 f319:=Tryz.func190.trans (congrArg some (by kernel_rfl))
 f320:=Tryz.func191.trans (congrArg some (by kernel_rfl))
 f337:=Tryz.func205.trans (congrArg some (by kernel_rfl))
 f338:=Tryz.func206.trans (congrArg some (by kernel_rfl))
 t0:=Tryz.underlying0
 a0:=Tryz.isAgg0
 z0:=Tryz.sizeOf0
 v0:=Tryz.zeroValue0
 t2:=Tryz.underlying2
 a2:=Tryz.isAgg2
 z2:=Tryz.sizeOf2
 v2:=Tryz.zeroValue2
 t3:=Tryz.underlying3
 a3:=Tryz.isAgg3
 z3:=Tryz.sizeOf3
 v3:=Tryz.zeroValue3
 t4:=Tryz.underlying4
 a4:=Tryz.isAgg4
 z4:=Tryz.sizeOf4
 v4:=Tryz.zeroValue4
 t5:=Tryz.underlying5
 a5:=Tryz.isAgg5
 z5:=Tryz.sizeOf5
 v5:=Tryz.zeroValue5
 t9:=Tryz.underlying9
 a9:=Tryz.isAgg9
 z9:=Tryz.sizeOf9
 v9:=Tryz.zeroValue9
 t20:=Tryz.underlying20
 a20:=Tryz.isAgg20
 z20:=Tryz.sizeOf20
 v20:=Tryz.zeroValue20
 t37:=Tryz.underlying58
 a37:=Tryz.isAgg58
 z37:=Tryz.sizeOf58
 v37:=Tryz.zeroValue58
 t46:=Tryz.underlying127
 a46:=Tryz.isAgg127
 z46:=Tryz.sizeOf127
 v46:=Tryz.zeroValue127
 t51:=Tryz.underlying180
 a51:=Tryz.isAgg180
 z51:=Tryz.sizeOf180
 v51:=Tryz.zeroValue180
 t53:=Tryz.underlying175
 a53:=Tryz.isAgg175
 z53:=Tryz.sizeOf175
 v53:=Tryz.zeroValue175
 t171:=Tryz.underlying174
 a171:=Tryz.isAgg174
 z171:=Tryz.sizeOf174
 v171:=Tryz.zeroValue174
 t173:=Tryz.underlying178
 a173:=Tryz.isAgg178
 z173:=Tryz.sizeOf178
 v173:=Tryz.zeroValue178
 t212:=Tryz.underlying202
 a212:=Tryz.isAgg202
 z212:=Tryz.sizeOf202
 v212:=Tryz.zeroValue202
 t213:=Tryz.underlying203
 a213:=Tryz.isAgg203
 z213:=Tryz.sizeOf203
 t232:=Tryz.underlying236
 a232:=Tryz.isAgg236
 z232:=Tryz.sizeOf236
 v232:=Tryz.zeroValue236
 t233:=Tryz.underlying237
 a233:=Tryz.isAgg237
 z233:=Tryz.sizeOf237
 v233:=Tryz.zeroValue237
 g17:=by kernel_rfl
 g18:=by kernel_rfl
 g19:=by kernel_rfl
 i0:=by kernel_rfl
 i2:=by kernel_rfl
 i3:=by kernel_rfl
 i4:=by kernel_rfl
 i5:=by kernel_rfl
 i9:=by kernel_rfl
 i20:=by kernel_rfl
 i37:=by kernel_rfl
 i46:=by kernel_rfl
 i51:=by kernel_rfl
 i53:=by kernel_rfl
 i171:=by kernel_rfl
 i173:=by kernel_rfl
 i212:=by kernel_rfl
 i232:=by kernel_rfl
 i233:=by kernel_rfl
 m17:=by kernel_rfl
 m18:=by kernel_rfl
 m19:=by kernel_rfl}
open Go.RowKit Go.Sort Go.Lib in
theorem Tryz.strconv_Itoa (n:Int) (cg : -9223372036854775808≤n) (h1:n≤9223372036854775807) (w:World) (alX:Lib.TabIs Tryz.prog w "internal/strconv.uint64pow10" .u64 Lib.pow10Tab) :
  Calls Tryz.prog 59 #[.int .i64 n] w fun e w'=>e = .returned (.string ⟨(Lib.itoa n).toArray⟩)∧∃ k os,w'=grow (w.drewN k) os:=Any.strconv_Itoa Tryz.Qf n cg h1 w alX
end Go.Proofs
namespace Go.Proofs.YtkjgljnkocnnpaaGreatDoor.V
open Go Go.Proofs
abbrev pd (w:World):Prop:=Lib.TabIs aR w "internal/strconv.uint64pow10" .u64 Lib.pow10Tab
abbrev Om:Nat:=1
theorem Uj:aR.globalNamed "internal/strconv.uint64pow10" = some Om:=by kernel_rfl
theorem pd.mod {M:List Nat} {w w':World} (h:pd w) (k:Mod M w w') (eX:Om∉M):pd w':=by
 unfold pd Lib.TabIs World.var? at h ⊢;simp only [Uj,Option.bind_some] at h ⊢;have bM:Om<w.heap.size:=by
  rcases Nat.lt_or_ge Om w.heap.size with cb | cb
  ·exact cb
  rw [Array.getElem?_eq_none cb] at h;cases h
 rw [k.block Om bM eX];exact h
theorem pd.lt {w:World} (h:pd w):Om<w.heap.size:=by
 unfold pd Lib.TabIs World.var? at h;simp only [Uj,Option.bind_some] at h;rcases Nat.lt_or_ge Om w.heap.size with cb | cb
 ·exact cb
 rw [Array.getElem?_eq_none cb] at h;cases h
theorem Qg (w:World) (k:Nat) (os:Array Obj):Mod [] w (Sort.grow (w.drewN k) os):=by
 have h:=Lib.below_grow w.heap.size w (Nat.le_refl _) k os;exact⟨h.os,h.tape,h.output,h.size,fun i hi _=>h.block i hi⟩
theorem pM (w:World) (n:Int) (cg : -9223372036854775808≤n) (h1:n≤9223372036854775807) (kp:pd w):Calls aR 59 [.int .i64 n].toArray w (bH fun u w'=>u=S (Lib.itoa n)∧Mod [] w w'):=
 (Tryz.strconv_Itoa n cg h1 w kp).mono fun e w' he=>by
  obtain⟨rfl,k,os,rfl⟩:=he
  exact⟨rfl,Qg w k os⟩
end Go.Proofs.YtkjgljnkocnnpaaGreatDoor.V
set_option maxRecDepth 10000
namespace Go.Proofs.YtkjgljnkocnnpaaGreatDoor.V
open Go Go.Proofs
def ab4:=eW Tryz.func125
def sK:=eW Tryz.func59
def Gh:=eW Tryz.func127
def Bv:=eW Tryz.func85
theorem DA (N:Nat) (ea:∀ (w:World) (v:JV) (us:List Value) (deep:Nat) (b:ab) (ju:Value),v.sz≤N→iD w ju b→b.length≤65536→ao (bk ju) w v.D us→deep≤32→pd w→Om∉bk ju→Calls aR 85 [ju,.agg us.toArray,.int .i64 (deep:Int)].toArray w (bH fun u w'=>Aa w w' ju (v.wr deep b) u)) (w:World) (v:JV) (us:List Value) (deep:Nat) (b:ab) (ju:Value) (gy:v.sz≤N+1) (O:iD w ju b) (aW:b.length≤65536) (aBn:ao (bk ju) w v.D us) (bT:deep≤32) (kp:pd w) (pe:Om∉bk ju):Calls aR 85 [ju,.agg us.toArray,.int .i64 (deep:Int)].toArray w (bH fun u w'=>Aa w w' ju (v.wr deep b) u):=by
 refine iZ Tryz.func85 rfl fun E=>?_;obtain⟨al,cl,am,cm,rfl,k3,j3⟩:=JV.aU aBn;have Th:=(JV.bX k3 j3).eu (A':=[]) (by simp);refine aa fun a6=>eY rfl rfl rfl fun g1 aJ bZ=>?_;have aY:=bZ.le E;replace E:=E.then bZ.mod;have R:=bZ.ar;refine aj 2 rfl (J a6 (aB fun aQ=>aa fun a'=>ah (br au rfl (R.cs rfl)) (cG E (bB ab4 rfl) (abX _ v _ (Th.b1 E)) fun cX U E=>?_)));replace R:=R.I U;refine ah (fC rfl) (J a' ?_);refine a1 rfl (fun kK=>?_) (fun kK=>?_)
 ·have bo:v.wr deep b = .error 1:=by rw [JV.en,aL (by simpa using kK)]
  exact aa fun bp=>aj 2 rfl (J bp (bn (aP (cj rfl rfl rfl (Aa.err E (by decide) bo)))))
 have qs:v.bare=true:=by simpa using kK
 have cH:¬ v.bare=false:=by rw [qs];simp
 refine b' (av aQ (aB fun bx=>aa fun bO=>ah (aD hK rfl) (ah (bF eg rfl (R.cell rfl)) (J bO (eN (aa fun b4=>aj 2 rfl (J b4 ?_)))))));refine aX rfl (fun Bw=>?_) (fun Bw=>?_)
 ·have bo:v.wr deep b=cK (b++JV.kM):=by rw [JV.en,ak cH,aL Bw]
  refine aa fun cw=>aO rfl (bz di rfl rfl (O.I E) (Src.str aA JV.kM) (by decide) (by first | omega | (simp only [List.length_append,List.length_cons,List.length_nil] at *;omega)) (by first | omega | (simp only [List.length_append,List.length_cons,List.length_nil] at *;omega)) rfl fun hN gr ek=>?_);have fs:iD gr hN (b++JV.kM):=ek.own.same (by simp) (by simp [dt,ku]);refine cJ (bB kl rfl) (iC _ (b++JV.kM) _ fs) fun cN h8 aH=>?_;obtain⟨kR,rfl,kL,U⟩:=aH;exact aj 4 rfl (J cw (bn (bw (aP (cj rfl rfl rfl (Aa.jS E ek fs kL U bo))))))
 refine aa fun cy=>aj 2 rfl (J cy ?_);refine aX rfl (fun r0=>?_) (fun r0=>?_)
 ·refine aB fun b6=>aa fun bR=>ah (aD sH rfl) (ah (bF kV rfl (R.cell rfl)) (J bR ?_));refine a1 rfl (fun Gi=>?_) (fun Gi=>?_)
  ·have bo:v.wr deep b=cK (b++JV.jT):=by rw [JV.en,ak cH,ak Bw,aL r0,aL Gi]
   refine aa fun cv=>aO rfl (bz di rfl rfl (O.I E) (Src.str aA JV.jT) (by decide) (by first | omega | (simp only [List.length_append,List.length_cons,List.length_nil] at *;omega)) (by first | omega | (simp only [List.length_append,List.length_cons,List.length_nil] at *;omega)) rfl fun hN iS ek=>?_);have fs:iD iS hN (b++JV.jT):=ek.own.same (by simp) (by simp [dt,ku]);refine cJ (bB kl rfl) (iC _ (b++JV.jT) _ fs) fun cN i' aH=>?_;obtain⟨kR,rfl,kL,U⟩:=aH;exact aj 4 rfl (J cv (bn (aP (bw (aP (cj rfl rfl rfl (Aa.jS E ek fs kL U bo)))))))
  have bo:v.wr deep b=cK (b++JV.hP):=by rw [JV.en,ak cH,ak Bw,aL r0,ak (by rw [Gi];decide)]
  refine b' (av b6 (aa fun bV=>aO rfl (bz di rfl rfl (O.I E) (Src.str aA JV.hP) (by decide) (by first | omega | (simp only [List.length_append,List.length_cons,List.length_nil] at *;omega)) (by first | omega | (simp only [List.length_append,List.length_cons,List.length_nil] at *;omega)) rfl fun hN iw ek=>?_)));have fs:iD iw hN (b++JV.hP):=ek.own.same (by simp) (by simp [dt,ku]);refine cJ (bB kl rfl) (iC _ (b++JV.hP) _ fs) fun cN nd aH=>?_;obtain⟨kR,rfl,kL,U⟩:=aH;exact aj 4 rfl (J bV (bn (bw (aP (cj rfl rfl rfl (Aa.jS E ek fs kL U bo))))))
 refine aa fun cE=>aj 2 rfl (J cE ?_);refine aX rfl (fun yp=>?_) (fun yp=>?_)
 ·have bo:v.wr deep b=cK (b++Lib.itoa v.num):=by rw [JV.en,ak cH,ak Bw,ak r0,aL yp]
  refine aa fun cI=>aO rfl (ah (aD mj rfl) (ah (bF eg rfl (R.cell rfl)) ?_));obtain⟨agb,oN⟩:=yq qs yp;have ab5:=Lib.itoa_length_le v.num (by omega) (by omega);refine cG E (bB sK rfl) (pM _ v.num (by omega) (by omega) (kp.mod E (by simp))) fun lF U E=>?_;replace R:=R.I U;refine bz di rfl rfl (O.I E) (Src.str aA (Lib.itoa v.num)) (by decide) (by first | omega | (simp only [List.length_append,List.length_cons,List.length_nil] at *;omega)) (by first | omega | (simp only [List.length_append,List.length_cons,List.length_nil] at *;omega)) rfl fun hN h2 ek=>?_;have fs:iD h2 hN (b++Lib.itoa v.num):=ek.own.same (by simp) (by simp [dt,ku]);refine cJ (bB kl rfl) (iC _ (b++Lib.itoa v.num) _ fs) fun cN jJ aH=>?_;obtain⟨kR,rfl,kL,U⟩:=aH;exact aj 4 rfl (J cI (bn (bw (aP (cj rfl rfl rfl (Aa.jS E ek fs kL U bo))))))
 refine aa fun dr=>aj 2 rfl (J dr ?_);refine aX rfl (fun vR=>?_) (fun vR=>?_)
 ·have bo:v.wr deep b=gm b v.str:=by rw [JV.en,ak cH,ak Bw,ak r0,ak yp,aL vR]
  refine aa fun ec=>aO rfl (ah (aD je rfl) (ah (bF b2 rfl (R.cell rfl)) (cJ (bB Gh rfl) (Bu _ b v.str _ (O.I E) aW) fun cN mo aH=>?_)));obtain⟨Dq,rfl,Is,Et,vg,It⟩:=aH;exact aj 4 rfl (J ec (bn (bw (aP (cj rfl rfl rfl (Aa.from_ E ⟨Dq,rfl,Is,Et,vg,It⟩ bo))))))
 refine b' (bw (av bx (aB fun dG=>aa fun eV=>aj 2 rfl (J eV ?_))));refine aX rfl (fun lM=>?_) (fun lM=>?_)
 ·have bo:v.wr deep b = .error 5:=by rw [JV.en,ak cH,ak Bw,ak r0,ak yp,ak vR,aL (by omega)]
  exact aa fun eO=>aj 2 rfl (J eO (bn (aP (cj rfl rfl rfl (Aa.err E (by decide) bo)))))
 refine b' (av dG (aB fun eC=>aa fun eP=>ah (aD hK rfl) (ah (bF eg rfl (R.cell rfl)) (ah (k1 rfl rfl) (J eP ?_)))));refine aX rfl (fun Ab=>?_) (fun Ab=>?_)
 ·have bo:v.wr deep b=((cK (b ++ [91])).bind fun b=>JV.ji v.list deep true b).bind fun b=>cK (b ++ [93]):=by rw [JV.en,ak cH,ak Bw,ak r0,ak yp,ak vR,ak (by omega),aL Ab];cases cK (b ++ [91]) <;> rfl
  refine aa fun fw=>aO rfl (dm di kX rfl rfl fun g2 mT cz=>?_);have bJ:=cz.le E;have bl:=cz.ne R;replace R:=R.I cz.mod;replace E:=E.then cz.mod;have ag:=cz.ar;have alp:=Ac.init E O aW R aY k3 j3;refine bz di rfl rfl alp.own (Src.own da (Own.all (c:=1) (cs:=[_]) ag rfl (by omega)) (by simp [Value.oneCell',ku])) (by decide) (by omega) (by omega) rfl fun hN lK ek=>?_;have fs:iD lK hN (b ++ [91]):=ek.own.same (by simp) (by simp [dt,ku]);refine cJ (bB kl rfl) (iC _ (b ++ [91]) _ fs) fun cN nj aH=>?_;obtain⟨kR,rfl,kL,U⟩:=aH;have H:=alp.jS ek fs kL U;refine aj 5 rfl (J fw (aB fun fT=>aa fun gh=>a7 rfl (J gh (eN (bK (σ:=Nat×Value×ab×Except Int ab) (fun⟨k,u,On,r⟩=>[(2,.int .i64 (deep:Int)),(4,.pointer (some ⟨g1,0,none⟩)),(8,u),(9,.int .i64 (gz r)),(10,.int .i64 (k:Int))]) (fun⟨k,u,On,r⟩ aJ=>k≤v.list.length∧(r.bind fun b=>JV.ji (v.list.drop k) deep (decide (k=0)) b)=((cK (b ++ [91])).bind fun b=>JV.ji v.list deep true b)∧(∀ b,r = .ok b→b=On)∧Ac w aJ ju g1 25 [.int .i64 v.kind,.bool v.is,.int .i64 v.num,S v.str,.slice al v.list.length cl,.slice am v.map.length cm] v al am cl cm u On) (fun⟨k,u,On,r⟩=>v.list.length-k) (⟨0,kR,j5 (cK (b ++ [91])),cK (b ++ [91])⟩) (⟨by omega,rfl,fun L2 aH=>by rw [aH];rfl,H⟩) ?_)))));rintro⟨k,u,On,r⟩ pJ ⟨hk,hinv,L3,H⟩;refine aB fun fk=>aa fun hq=>aO rfl (ah (aD gU rfl) (ah (bF j8 rfl (H.ar.cell rfl)) (ah (bY hJ rfl) (ah (cT rfl rfl) ?_))));refine c7 (fun ab6:(k:Int)<(v.list.length:Int)=>?_) (fun ab6=>?_);rotate_left
  ·refine aj 4 rfl (J hq (aI rfl ?_));have hI:r=((cK (b ++ [91])).bind fun b=>JV.ji v.list deep true b):=by rw [← hinv];simp only [Iu (l:=v.list) (k:=k) (by omega),By]
   refine bL (aP (aP (ch (av fT (aB fun r8=>aa fun qq=>aj 2 rfl (J qq ?_))))));refine aX rfl (fun q6=>?_) (fun q6=>?_)
   ·have tt:v.wr deep b=r:=by rw [bo,← hI,sa q6]
    exact aa fun r9=>aj 3 rfl (J r9 (bn (aP (aP (cj rfl rfl rfl (by rw [tt];exact H.err q6))))))
   obtain⟨mW,rfl⟩:=iP (Classical.byContradiction q6);obtain rfl:=L3 mW rfl;have tt:v.wr deep b=cK (mW ++ [93]):=by rw [bo,← hI];rfl
   refine b' (av r8 (aa fun tO=>aO rfl (dm di kX rfl rfl fun g5 DC fJ=>?_)));replace H:=H.I fJ.mod;have dS:=fJ.ar;have L5:=H.len;refine bz di rfl rfl H.own (Src.own da (Own.all (c:=1) (cs:=[_]) dS rfl (by omega)) (by simp [Value.oneCell',ku])) (by decide) (by omega) (by omega) rfl fun hN vT ek=>?_;have fs:iD vT hN (mW ++ [93]):=ek.own.same (by simp) (by simp [dt,ku]);refine cJ (bB kl rfl) (iC _ (mW ++ [93]) _ fs) fun cN DD aH=>?_;obtain⟨kR,rfl,kL,U⟩:=aH;exact aj 4 rfl (J tO (bn (aP (cj rfl rfl rfl (H.fin ek fs kL U tt)))))
  refine aj 4 rfl (J hq ?_);refine aX rfl (fun agj=>?_) (fun agj=>?_);rotate_left
  ·have hI:r=((cK (b ++ [91])).bind fun b=>JV.ji v.list deep true b):=by rw [← hinv,sa agj]
   refine bL (aP (aP (ch (av fT (aB fun k6=>aa fun ni=>aj 2 rfl (J ni ?_))))));refine aX rfl (fun q6=>?_) (fun q6=>?_)
   ·have tt:v.wr deep b=r:=by rw [bo,← hI,sa q6]
    exact aa fun kc=>aj 3 rfl (J kc (bn (aP (aP (cj rfl rfl rfl (by rw [tt];exact H.err q6))))))
   obtain⟨mW,rfl⟩:=iP (Classical.byContradiction q6);obtain rfl:=L3 mW rfl;have tt:v.wr deep b=cK (mW ++ [93]):=by rw [bo,← hI];rfl
   refine b' (av k6 (aa fun qp=>aO rfl (dm di kX rfl rfl fun g4 sJ N4=>?_)));replace H:=H.I N4.mod;have bm:=N4.ar;have L5:=H.len;refine bz di rfl rfl H.own (Src.own da (Own.all (c:=1) (cs:=[_]) bm rfl (by omega)) (by simp [Value.oneCell',ku])) (by decide) (by omega) (by omega) rfl fun hN tP ek=>?_;have fs:iD tP hN (mW ++ [93]):=ek.own.same (by simp) (by simp [dt,ku]);refine cJ (bB kl rfl) (iC _ (mW ++ [93]) _ fs) fun cN ve aH=>?_;obtain⟨kR,rfl,kL,U⟩:=aH;exact aj 4 rfl (J qp (bn (aP (cj rfl rfl rfl (H.fin ek fs kL U tt)))))
  obtain⟨dN,rfl⟩:=iP agj;obtain rfl:=L3 dN rfl;obtain⟨x,bS⟩:∃ x,v.list[k]? = some x:=⟨_,List.getElem?_eq_getElem (by omega)⟩;have agk:=JV.qk H.aa8;refine b' (av fk (aB fun gY=>eN (aB fun iB=>aa fun jR=>aj 2 rfl (J jR ?_))));refine aX rfl (fun L4=>?_) (fun L4=>?_);rotate_left
  ·have eF:=Eu bS hinv (r1:=Except.ok dN) (by rw [aL (by simp;omega)]);refine b' (av iB (aa fun kb=>aj 2 rfl (J kb ?_)));refine aX rfl (fun Qc=>?_) (fun Qc=>?_)
   ·obtain⟨fz,hC⟩:∃ fz,fz=dN:=⟨_,rfl⟩;rw [← hC] at H eF;refine b5 ?_;obtain⟨kJ,lz,dW,eJ,cA⟩:=JV.zp H.aa8 bS;obtain⟨j9,j',jf,ik,rfl,lA,mD⟩:=JV.aU eJ;have jg:=JV.qk H.aa8;cases dW;refine aO rfl (ah (aD gU rfl) (ah (bF j8 rfl (H.ar.cell rfl)) (aO rfl (ah (c8 kt rfl rfl (by omega)) (ah (fb au rfl rfl cA) (aO rfl (ah (aS (r:=((deep+1:Nat):Int)) rfl rfl) (cJ (bB Bv rfl) (ea _ x _ (deep+1) fz _ (by have:=JV.il (List.mem_of_getElem? bS);omega) H.own H.len eJ (by omega) (kp.mod H.mod pe) (fun h=>(H.km _ h).elim pe (fun h=>by have:=kp.lt;omega))) fun cN ts aH=>?_))))))));obtain⟨DB,rfl,F7,Bx,vS,L6⟩:=aH;replace H:=H.step vS F7 Bx L6;exact aj 5 rfl (cx (bw (av gY (b5 (aO rfl (ah (bt rfl rfl (by omega)) (a7 rfl (cx (aw (σ:=Nat×Value×ab×Except Int ab) (s:=⟨k,u,dN,Except.ok dN⟩) (⟨k+1,DB,(j5 (JV.wr x (deep+1) fz)),(JV.wr x (deep+1) fz)⟩) ⟨by omega,eF,(fun L2 aH=>by rw [aH];rfl),H⟩)))))))))
   exact absurd rfl Qc
  have eF:=Eu bS hinv (r1:=cK (dN ++ [44])) (by rw [ak (by simp;omega)]);refine b5 (aO rfl (dm di kX rfl rfl fun g3 qT dF=>?_));replace H:=H.I dF.mod;have bd:=dF.ar;have L5:=H.len;refine bz di rfl rfl H.own (Src.own da (Own.all (c:=1) (cs:=[_]) bd rfl (by omega)) (by simp [Value.oneCell',ku])) (by decide) (by omega) (by omega) rfl fun hN qU ek=>?_;have fs:iD qU hN (dN ++ [44]):=ek.own.same (by simp) (by simp [dt,ku]);refine cJ (bB kl rfl) (iC _ (dN ++ [44]) _ fs) fun cN qV aH=>?_;obtain⟨kR,rfl,kL,U⟩:=aH;replace H:=H.jS ek fs kL U;clear ek fs kL;refine aj 5 rfl (J iB (aa fun l3=>aj 2 rfl (J l3 ?_)));refine aX rfl (fun Qc=>?_) (fun Qc=>?_)
  ·obtain⟨fz,hC⟩:=iP Qc;rw [hC] at H eF;replace H:=H.ok;refine b5 ?_;obtain⟨kJ,lz,dW,eJ,cA⟩:=JV.zp H.aa8 bS;obtain⟨j9,j',jf,ik,rfl,lA,mD⟩:=JV.aU eJ;have jg:=JV.qk H.aa8;cases dW;refine aO rfl (ah (aD gU rfl) (ah (bF j8 rfl (H.ar.cell rfl)) (aO rfl (ah (c8 kt rfl rfl (by omega)) (ah (fb au rfl rfl cA) (aO rfl (ah (aS (r:=((deep+1:Nat):Int)) rfl rfl) (cJ (bB Bv rfl) (ea _ x _ (deep+1) fz _ (by have:=JV.il (List.mem_of_getElem? bS);omega) H.own H.len eJ (by omega) (kp.mod H.mod pe) (fun h=>(H.km _ h).elim pe (fun h=>by have:=kp.lt;omega))) fun cN pK aH=>?_))))))));obtain⟨DB,rfl,F7,Bx,vS,L6⟩:=aH;replace H:=H.step vS F7 Bx L6;exact aj 5 rfl (cx (bw (av gY (b5 (aO rfl (ah (bt rfl rfl (by omega)) (a7 rfl (cx (aw (σ:=Nat×Value×ab×Except Int ab) (s:=⟨k,u,dN,Except.ok dN⟩) (⟨k+1,DB,(j5 (JV.wr x (deep+1) fz)),(JV.wr x (deep+1) fz)⟩) ⟨by omega,eF,(fun L2 aH=>by rw [aH];rfl),H⟩)))))))))
  skip
  exact b' (bw (av gY (b5 (aO rfl (ah (bt rfl rfl (by omega)) (a7 rfl (cx (aw (σ:=Nat×Value×ab×Except Int ab) (s:=⟨k,u,dN,Except.ok dN⟩) (⟨k+1,kR,(j5 (cK (dN ++ [44]))),(cK (dN ++ [44]))⟩) ⟨by omega,(by have:=eF;obtain⟨o7,yr⟩:=pN Qc;rw [yr] at this ⊢;exact this),(fun L2 aH=>by rw [aH];rfl),H⟩))))))))
 have bo:v.wr deep b=((cK (b ++ [123])).bind fun b=>JV.gA v.map deep none b).bind fun b=>cK (b ++ [125]):=by rw [JV.en,ak cH,ak Bw,ak r0,ak yp,ak vR,ak (by omega),ak Ab];cases cK (b ++ [123]) <;> rfl
 refine b' (av eC (aa fun zt=>aO rfl (dm di kX rfl rfl fun g6 ys iV=>?_)));have tN:=iV.le E;have AD:=iV.ne R;replace R:=R.I iV.mod;replace E:=E.then iV.mod;have jQ:=iV.ar;have alp:=Ac.init E O aW R aY k3 j3;refine bz di rfl rfl alp.own (Src.own da (Own.all (c:=1) (cs:=[_]) jQ rfl (by omega)) (by simp [Value.oneCell',ku])) (by decide) (by omega) (by omega) rfl fun hN Bz ek=>?_;have fs:iD Bz hN (b ++ [123]):=ek.own.same (by simp) (by simp [dt,ku]);refine cJ (bB kl rfl) (iC _ (b ++ [123]) _ fs) fun cN L7 aH=>?_;obtain⟨kR,rfl,kL,U⟩:=aH;have H:=alp.jS ek fs kL U;refine aj 5 rfl (J zt (aB fun nQ=>aa fun BA=>a7 rfl (J BA (eN (bK (σ:=Nat×Value×ab×Except Int ab) (fun⟨k,u,On,r⟩=>[(0,u),(2,.int .i64 (deep:Int)),(4,.pointer (some ⟨g1,0,none⟩)),(11,.int .i64 (gz r)),(12,.int .i64 (k:Int))]) (fun⟨k,u,On,r⟩ aJ=>k≤v.map.length∧(r.bind fun b=>JV.gA (v.map.drop k) deep (jv v.map k) b)=((cK (b ++ [123])).bind fun b=>JV.gA v.map deep none b)∧(∀ b,r = .ok b→b=On)∧Ac w aJ ju g1 25 [.int .i64 v.kind,.bool v.is,.int .i64 v.num,S v.str,.slice al v.list.length cl,.slice am v.map.length cm] v al am cl cm u On) (fun⟨k,u,On,r⟩=>v.map.length-k) (⟨0,kR,j5 (cK (b ++ [123])),cK (b ++ [123])⟩) (⟨by omega,rfl,fun L2 aH=>by rw [aH];rfl,H⟩) ?_)))));rintro⟨k,u,On,r⟩ Gj ⟨hk,hinv,L3,H⟩;refine aB fun BB=>aa fun Ev=>aO rfl (ah (aD cd rfl) (ah (bF dM rfl (H.ar.cell rfl)) (ah (bY cO rfl) (ah (cT rfl rfl) ?_))));refine c7 (fun ab7:(k:Int)<(v.map.length:Int)=>?_) (fun ab7=>?_);rotate_left
 ·refine aj 4 rfl (J Ev (aI rfl ?_));have hI:r=((cK (b ++ [123])).bind fun b=>JV.gA v.map deep none b):=by rw [← hinv];simp only [IC (m:=v.map) (k:=k) (by omega),By]
  refine bL (aP (aP (ch (av nQ (aB fun alP=>aa fun alQ=>aj 2 rfl (J alQ ?_))))));refine aX rfl (fun wV=>?_) (fun wV=>?_)
  ·have tt:v.wr deep b=r:=by rw [bo,← hI,sa wV]
   exact aa fun alR=>aj 3 rfl (J alR (bn (aP (cj rfl rfl rfl (by rw [tt];exact H.err wV)))))
  obtain⟨mW,rfl⟩:=iP (Classical.byContradiction wV);obtain rfl:=L3 mW rfl;have tt:v.wr deep b=cK (mW ++ [125]):=by rw [bo,← hI];rfl
  refine b' (av alP (aa fun alS=>aO rfl (dm di kX rfl rfl fun g11 alT Iq=>?_)));replace H:=H.I Iq.mod;have Es:=Iq.ar;have L5:=H.len;refine bz di rfl rfl H.own (Src.own da (Own.all (c:=1) (cs:=[_]) Es rfl (by omega)) (by simp [Value.oneCell',ku])) (by decide) (by omega) (by omega) rfl fun hN alU ek=>?_;have fs:iD alU hN (mW ++ [125]):=ek.own.same (by simp) (by simp [dt,ku]);refine cJ (bB kl rfl) (iC _ (mW ++ [125]) _ fs) fun cN alV aH=>?_;obtain⟨kR,rfl,kL,U⟩:=aH;exact aj 4 rfl (J alS (bn (cj rfl rfl rfl (H.fin ek fs kL U tt))))
 refine aj 4 rfl (J Ev ?_);refine aX rfl (fun T4=>?_) (fun T4=>?_);rotate_left
 ·have hI:r=((cK (b ++ [123])).bind fun b=>JV.gA v.map deep none b):=by rw [← hinv,sa T4]
  refine bL (aP (aP (ch (av nQ (aB fun alI=>aa fun alJ=>aj 2 rfl (J alJ ?_))))));refine aX rfl (fun wV=>?_) (fun wV=>?_)
  ·have tt:v.wr deep b=r:=by rw [bo,← hI,sa wV]
   exact aa fun alK=>aj 3 rfl (J alK (bn (aP (cj rfl rfl rfl (by rw [tt];exact H.err wV)))))
  obtain⟨mW,rfl⟩:=iP (Classical.byContradiction wV);obtain rfl:=L3 mW rfl;have tt:v.wr deep b=cK (mW ++ [125]):=by rw [bo,← hI];rfl
  refine b' (av alI (aa fun alL=>aO rfl (dm di kX rfl rfl fun g10 alM Io=>?_)));replace H:=H.I Io.mod;have Er:=Io.ar;have L5:=H.len;refine bz di rfl rfl H.own (Src.own da (Own.all (c:=1) (cs:=[_]) Er rfl (by omega)) (by simp [Value.oneCell',ku])) (by decide) (by omega) (by omega) rfl fun hN alN ek=>?_;have fs:iD alN hN (mW ++ [125]):=ek.own.same (by simp) (by simp [dt,ku]);refine cJ (bB kl rfl) (iC _ (mW ++ [125]) _ fs) fun cN alO aH=>?_;obtain⟨kR,rfl,kL,U⟩:=aH;exact aj 4 rfl (J alL (bn (cj rfl rfl rfl (H.fin ek fs kL U tt))))
 obtain⟨dN,rfl⟩:=iP T4;obtain rfl:=L3 dN rfl;obtain⟨x,bS⟩:∃ x,v.map[k]? = some x:=⟨_,List.getElem?_eq_getElem (by omega)⟩;have agk:=JV.iA H.HO;refine b' (av BB (aB fun sb=>eN (aB fun zu=>aa fun BC=>aj 2 rfl (J BC ?_))));refine aX rfl (fun alq=>?_) (fun alq=>?_);rotate_left
 ·have eF:=BE bS (by omega) hinv;refine b' (av zu (aB fun alA=>aa fun alB=>aj 2 rfl (J alB ?_)));refine aX rfl (fun q9=>?_) (fun q9=>?_);rotate_left
  ·exact absurd rfl q9
  obtain⟨fz,hC⟩:∃ fz,fz=dN:=⟨_,rfl⟩;rw [← hC] at H eF;refine b5 ?_;obtain⟨kJ,lz,dW,eJ,cA⟩:=JV.kQ H.HO bS;obtain⟨j9,j',jf,ik,rfl,lA,mD⟩:=JV.aU eJ;have jg:=JV.iA H.HO;cases dW;refine aO rfl (ah (aD cd rfl) (ah (bF dM rfl (H.ar.cell rfl)) (aO rfl (ah (c8 dk rfl rfl (by omega)) (ah (fY e3 rfl) (ah (bF b2 rfl (cA 0 _ rfl)) (cJ (bB Gh rfl) (Bu _ fz x.1 _ H.own H.len) fun cN ary aH=>?_)))))));obtain⟨Dq,rfl,Is,Et,vg,It⟩:=aH;replace H:=H.step vg Is Et It;refine aj 5 rfl (J alA (aB fun aeS=>aa fun alC=>aj 2 rfl (J alC ?_)));refine aX rfl (fun mH=>?_) (fun mH=>?_);rotate_left
  ·skip
   refine b' (av aeS (aa fun alH=>aj 2 rfl (J alH ?_)));refine aX rfl (fun lB=>?_) (fun lB=>?_)
   ·exact absurd lB mH
   skip
   exact b' (bw (av sb (b5 (aO rfl (ah (bt rfl rfl (by omega)) (a7 rfl (cx (aw (σ:=Nat×Value×ab×Except Int ab) (s:=⟨k,u,dN,Except.ok dN⟩) (⟨k+1,Dq,(j5 (gm fz x.1)),(gm fz x.1)⟩) ⟨by omega,(by have aH:=eF;obtain⟨o7,yr⟩:=pN mH;rw [yr] at aH ⊢;exact aH),(fun L2 aH=>by rw [aH];rfl),H⟩))))))))
  obtain⟨mW,wU⟩:=iP mH;rw [wU] at H eF;replace H:=H.ok;replace eF:=vU eF;refine b5 (aO rfl (dm di kX rfl rfl fun g9 alD yd=>?_));replace H:=H.I yd.mod;have mV:=yd.ar;have L5:=H.len;refine bz di rfl rfl H.own (Src.own da (Own.all (c:=1) (cs:=[_]) mV rfl (by omega)) (by simp [Value.oneCell',ku])) (by decide) (by omega) (by omega) rfl fun hN alE ek=>?_;have fs:iD alE hN (mW ++ [58]):=ek.own.same (by simp) (by simp [dt,ku]);refine cJ (bB kl rfl) (iC _ (mW ++ [58]) _ fs) fun cN alF aH=>?_;obtain⟨arx,rfl,kL,U⟩:=aH;replace H:=H.jS ek fs kL U;clear ek fs kL;refine aj 5 rfl (J aeS (aa fun alG=>aj 2 rfl (J alG ?_)));refine aX rfl (fun lB=>?_) (fun lB=>?_)
  ·obtain⟨HP,Gk⟩:=iP lB;rw [Gk] at H eF;replace H:=H.ok;replace eF:=vU eF;refine b5 ?_;obtain⟨kJ,lz,dW,eJ,cA⟩:=JV.kQ H.HO bS;obtain⟨j9,j',jf,ik,rfl,lA,mD⟩:=JV.aU eJ;have jg:=JV.iA H.HO;cases dW;refine aO rfl (ah (aD cd rfl) (ah (bF dM rfl (H.ar.cell rfl)) (aO rfl (ah (c8 dk rfl rfl (by omega)) (ah (fY iO rfl) (ah (fb au rfl rfl cA.vK) (aO rfl (ah (aS (r:=((deep+1:Nat):Int)) rfl rfl) (cJ (bB Bv rfl) (ea _ x.2 _ (deep+1) HP _ (by have:=JV.hU (List.mem_of_getElem? bS);omega) H.own H.len eJ (by omega) (kp.mod H.mod pe) (fun h=>(H.km _ h).elim pe (fun h=>by have:=kp.lt;omega))) fun cN arz aH=>?_)))))))));obtain⟨DB,rfl,F7,Bx,vS,L6⟩:=aH;replace H:=H.step vS F7 Bx L6;exact aj 5 rfl (cx (bw (av sb (b5 (aO rfl (ah (bt rfl rfl (by omega)) (a7 rfl (cx (aw (σ:=Nat×Value×ab×Except Int ab) (s:=⟨k,u,dN,Except.ok dN⟩) (⟨k+1,DB,(j5 (JV.wr x.2 (deep+1) HP)),(JV.wr x.2 (deep+1) HP)⟩) ⟨by omega,eF,(fun L2 aH=>by rw [aH];rfl),H⟩)))))))))
  skip
  exact b' (bw (av sb (b5 (aO rfl (ah (bt rfl rfl (by omega)) (a7 rfl (cx (aw (σ:=Nat×Value×ab×Except Int ab) (s:=⟨k,u,dN,Except.ok dN⟩) (⟨k+1,arx,(j5 (cK (mW ++ [58]))),(cK (mW ++ [58]))⟩) ⟨by omega,(by have aH:=eF;obtain⟨o7,yr⟩:=pN lB;rw [yr] at aH ⊢;exact aH),(fun L2 aH=>by rw [aH];rfl),H⟩))))))))
 obtain⟨q,jU⟩:∃ q,v.map[k-1]? = some q:=⟨_,List.getElem?_eq_getElem (by omega)⟩;have eF:=Ew bS jU (by omega) hinv;refine aa fun Iv=>aO rfl (dm di kX rfl rfl fun g7 T5 qQ=>?_);replace H:=H.I qQ.mod;have z':=qQ.ar;have L5:=H.len;refine bz di rfl rfl H.own (Src.own da (Own.all (c:=1) (cs:=[_]) z' rfl (by omega)) (by simp [Value.oneCell',ku])) (by decide) (by omega) (by omega) rfl fun hN L8 ek=>?_;have fs:iD L8 hN (dN ++ [44]):=ek.own.same (by simp) (by simp [dt,ku]);refine cJ (bB kl rfl) (iC _ (dN ++ [44]) _ fs) fun cN Qd aH=>?_;obtain⟨kR,rfl,kL,U⟩:=aH;replace H:=H.jS ek fs kL U;clear ek fs kL;refine aj 5 rfl (J Iv (aB fun BD=>?_))
 by_cases cF:gz (cK (dN ++ [44]))=0
 rotate_left
 ·have awe:=cF;refine cn wide (by kernel_rfl) (hF 3 rfl rfl (fP rfl (cr cF) (fP rfl (cr cF) (fP rfl (cr cF) (fP rfl (cr cF) (fP rfl (cr cF) (fP rfl (cr cF) (fP rfl (cr cF) (fP rfl (cr cF) (fP rfl (cr cF) (fP rfl (cr cF) (fP rfl (cr cF) (fP rfl (cr cF) ?_)))))))))))));refine fP rfl (cr cF) (fP rfl (cr cF) (ax (fun U=>(hG (cr cF) rfl rfl)) (cq rfl fun ab' U=>?_)));replace H:=H.I U;refine av BD (aI rfl (b' (av zu (aB fun alv=>aa fun alw=>aj 2 rfl (J alw ?_)))));refine aX rfl (fun q9=>?_) (fun q9=>?_)
  ·exact absurd q9 cF
  skip
  refine b' (av alv (aB fun alx=>aa fun aly=>aj 2 rfl (J aly ?_)));refine aX rfl (fun mH=>?_) (fun mH=>?_)
  ·exact absurd mH cF
  skip
  refine b' (av alx (aa fun alz=>aj 2 rfl (J alz ?_)));refine aX rfl (fun lB=>?_) (fun lB=>?_)
  ·exact absurd lB cF
  skip
  exact b' (bw (av sb (b5 (aO rfl (ah (bt rfl rfl (by omega)) (a7 rfl (cx (aw (σ:=Nat×Value×ab×Except Int ab) (s:=⟨k,u,dN,Except.ok dN⟩) (⟨k+1,kR,(j5 (cK (dN ++ [44]))),(cK (dN ++ [44]))⟩) ⟨by omega,(by have aH:=eF;obtain⟨o7,yr⟩:=pN cF;rw [yr] at aH ⊢;exact aH),(fun L2 aH=>by rw [aH];rfl),H⟩))))))))
 obtain⟨kJ,lz,dW,eJ,cA⟩:=JV.kQ H.HO bS;obtain⟨j9,j',jf,ik,rfl,lA,mD⟩:=JV.aU eJ;have jg:=JV.iA H.HO;obtain⟨Iw,T6,tR,L9,jw⟩:=JV.kQ H.HO jU;obtain⟨Oo,Oq,Ot,Ou,rfl,T7,alr⟩:=JV.aU L9;have ab8:=JV.iA H.HO;cases dW;cases tR
 by_cases AF:(fx x.1 q.1||x.1 == q.1)=true
 ·refine cn wide (by kernel_rfl) (hF 3 rfl rfl (a8 (bD cF) (fun U=>(aD cd rfl)) (a8 (bD cF) (fun U=>(bF dM rfl ((H.ar.I U).cell rfl))) (a8 (bD cF) (fun U=>(fj rfl)) (a8 (bD cF) (fun U=>(c8 dk rfl rfl (by omega))) (a8 (bD cF) (fun U=>(fY e3 rfl)) (a8 (bD cF) (fun U=>(bF b2 rfl ((cA.I U) 0 _ rfl))) (a8 (bD cF) (fun U=>(aD cd rfl)) (a8 (bD cF) (fun U=>(bF dM rfl ((H.ar.I U).cell rfl))) (a8 (bD cF) (fun U=>(fj rfl)) (a8 (bD cF) (fun U=>(eZ (r:=((k-1:Nat):Int)) rfl rfl)) (a8 (bD cF) (fun U=>(c8 dk rfl rfl (by omega))) (a8 (bD cF) (fun U=>(fY e3 rfl)) ?_)))))))))))));refine a8 (bD cF) (fun U=>(bF b2 rfl ((jw.I U) 0 _ rfl))) (a8 (bD cF) (fun U=>(T8 rfl rfl)) (ax (fun U=>(oH (bD cF) rfl rfl)) (cq rfl fun L' U=>?_)));replace H:=H.I U;refine av BD ?_;refine a1 rfl (fun Ix=>?_) (fun Ix=>absurd (AF.symm.trans Ix) (by decide));obtain⟨fz,hC⟩:=iP cF;have nk:(Except.error 1:Except Int ab)=((cK (b ++ [123])).bind fun b=>JV.gA v.map deep none b):=by
   have aH:=eF;rw [hC] at aH;simp only [Except.bind,agl AF] at aH ⊢;exact aH
  refine b5 (a7 rfl (J zu (aB fun Iy=>aa fun Iz=>aj 2 rfl (J Iz ?_))));refine aX rfl (fun q9=>?_) (fun q9=>?_)
  ·exact absurd q9 (by decide)
  skip
  refine b' (av Iy (aB fun IA=>aa fun T9=>aj 2 rfl (J T9 ?_)));refine aX rfl (fun mH=>?_) (fun mH=>?_)
  ·exact absurd mH (by decide)
  skip
  refine b' (av IA (aa fun T'=>aj 2 rfl (J T' ?_)));refine aX rfl (fun lB=>?_) (fun lB=>?_)
  ·exact absurd lB (by decide)
  skip
  exact b' (bw (av sb (b5 (aO rfl (ah (bt rfl rfl (by omega)) (a7 rfl (cx (aw (σ:=Nat×Value×ab×Except Int ab) (s:=⟨k,u,dN,Except.ok dN⟩) (⟨k+1,kR,(j5 (cK (dN ++ [44]))),(Except.error 1)⟩) ⟨by omega,nk,(fun L2 aH=>by cases aH),H⟩))))))))
 have als:=agm AF;refine cn wide (by kernel_rfl) (hF 3 rfl rfl (a8 (bD cF) (fun U=>(aD cd rfl)) (a8 (bD cF) (fun U=>(bF dM rfl ((H.ar.I U).cell rfl))) (a8 (bD cF) (fun U=>(fj rfl)) (a8 (bD cF) (fun U=>(c8 dk rfl rfl (by omega))) (a8 (bD cF) (fun U=>(fY e3 rfl)) (a8 (bD cF) (fun U=>(bF b2 rfl ((cA.I U) 0 _ rfl))) (a8 (bD cF) (fun U=>(aD cd rfl)) (a8 (bD cF) (fun U=>(bF dM rfl ((H.ar.I U).cell rfl))) (a8 (bD cF) (fun U=>(fj rfl)) (a8 (bD cF) (fun U=>(eZ (r:=((k-1:Nat):Int)) rfl rfl)) (a8 (bD cF) (fun U=>(c8 dk rfl rfl (by omega))) (a8 (bD cF) (fun U=>(fY e3 rfl)) ?_)))))))))))));refine a8 (bD cF) (fun U=>(bF b2 rfl ((jw.I U) 0 _ rfl))) (a8 (bD cF) (fun U=>(T8 rfl rfl)) (ax (fun U=>(oH (bD cF) rfl rfl)) (cq rfl fun IB U=>?_)));replace H:=H.I U;refine av BD (a1 rfl (fun Ix=>absurd ((ew AF).symm.trans Ix) (by decide)) (fun Ix=>b' (av zu (aB fun Ex=>aa fun Ua=>aj 2 rfl (J Ua ?_)))));refine aX rfl (fun q9=>?_) (fun q9=>?_);rotate_left
 ·skip
  refine b' (av Ex (aB fun Ug=>aa fun Uh=>aj 2 rfl (J Uh ?_)));refine aX rfl (fun mH=>?_) (fun mH=>?_)
  ·exact absurd mH q9
  skip
  refine b' (av Ug (aa fun alu=>aj 2 rfl (J alu ?_)));refine aX rfl (fun lB=>?_) (fun lB=>?_)
  ·exact absurd lB q9
  skip
  exact b' (bw (av sb (b5 (aO rfl (ah (bt rfl rfl (by omega)) (a7 rfl (cx (aw (σ:=Nat×Value×ab×Except Int ab) (s:=⟨k,u,dN,Except.ok dN⟩) (⟨k+1,kR,(j5 (cK (dN ++ [44]))),(cK (dN ++ [44]))⟩) ⟨by omega,(by have aH:=eF;obtain⟨o7,yr⟩:=pN q9;rw [yr] at aH ⊢;exact aH),(fun L2 aH=>by rw [aH];rfl),H⟩))))))))
 obtain⟨fz,hC⟩:=iP q9;rw [hC] at H eF;replace H:=H.ok;have eF:((gm fz x.1).bind fun b=>(cK (b ++ [58])).bind fun b=>(JV.wr x.2 (deep+1) b).bind fun b=>JV.gA (v.map.drop (k+1)) deep (jv v.map (k+1)) b)=((cK (b ++ [123])).bind fun b=>JV.gA v.map deep none b):=by
  have aH:=eF;simp only [Except.bind,aL als] at aH ⊢;exact aH
 refine b5 ?_;obtain⟨kJ,lz,dW,eJ,cA⟩:=JV.kQ H.HO bS;obtain⟨j9,j',jf,ik,rfl,lA,mD⟩:=JV.aU eJ;have jg:=JV.iA H.HO;cases dW;refine aO rfl (ah (aD cd rfl) (ah (bF dM rfl (H.ar.cell rfl)) (aO rfl (ah (c8 dk rfl rfl (by omega)) (ah (fY e3 rfl) (ah (bF b2 rfl (cA 0 _ rfl)) (cJ (bB Gh rfl) (Bu _ fz x.1 _ H.own H.len) fun cN Qe aH=>?_)))))));obtain⟨Dq,rfl,Is,Et,vg,It⟩:=aH;replace H:=H.step vg Is Et It;refine aj 5 rfl (J Ex (aB fun Ov=>aa fun Ub=>aj 2 rfl (J Ub ?_)));refine aX rfl (fun mH=>?_) (fun mH=>?_);rotate_left
 ·skip
  refine b' (av Ov (aa fun Uf=>aj 2 rfl (J Uf ?_)));refine aX rfl (fun lB=>?_) (fun lB=>?_)
  ·exact absurd lB mH
  skip
  exact b' (bw (av sb (b5 (aO rfl (ah (bt rfl rfl (by omega)) (a7 rfl (cx (aw (σ:=Nat×Value×ab×Except Int ab) (s:=⟨k,u,dN,Except.ok dN⟩) (⟨k+1,Dq,(j5 (gm fz x.1)),(gm fz x.1)⟩) ⟨by omega,(by have aH:=eF;obtain⟨o7,yr⟩:=pN mH;rw [yr] at aH ⊢;exact aH),(fun L2 aH=>by rw [aH];rfl),H⟩))))))))
 obtain⟨mW,wU⟩:=iP mH;rw [wU] at H eF;replace H:=H.ok;replace eF:=vU eF;refine b5 (aO rfl (dm di kX rfl rfl fun g8 Uc wF=>?_));replace H:=H.I wF.mod;have Gg:=wF.ar;have L5:=H.len;refine bz di rfl rfl H.own (Src.own da (Own.all (c:=1) (cs:=[_]) Gg rfl (by omega)) (by simp [Value.oneCell',ku])) (by decide) (by omega) (by omega) rfl fun hN Ma ek=>?_;have fs:iD Ma hN (mW ++ [58]):=ek.own.same (by simp) (by simp [dt,ku]);refine cJ (bB kl rfl) (iC _ (mW ++ [58]) _ fs) fun cN Ud aH=>?_;obtain⟨arx,rfl,kL,U⟩:=aH;replace H:=H.jS ek fs kL U;clear ek fs kL;refine aj 5 rfl (J Ov (aa fun Ue=>aj 2 rfl (J Ue ?_)));refine aX rfl (fun lB=>?_) (fun lB=>?_)
 ·obtain⟨HP,Gk⟩:=iP lB;rw [Gk] at H eF;replace H:=H.ok;replace eF:=vU eF;refine b5 ?_;obtain⟨kJ,lz,dW,eJ,cA⟩:=JV.kQ H.HO bS;obtain⟨j9,j',jf,ik,rfl,lA,mD⟩:=JV.aU eJ;have jg:=JV.iA H.HO;cases dW;refine aO rfl (ah (aD cd rfl) (ah (bF dM rfl (H.ar.cell rfl)) (aO rfl (ah (c8 dk rfl rfl (by omega)) (ah (fY iO rfl) (ah (fb au rfl rfl cA.vK) (aO rfl (ah (aS (r:=((deep+1:Nat):Int)) rfl rfl) (cJ (bB Bv rfl) (ea _ x.2 _ (deep+1) HP _ (by have:=JV.hU (List.mem_of_getElem? bS);omega) H.own H.len eJ (by omega) (kp.mod H.mod pe) (fun h=>(H.km _ h).elim pe (fun h=>by have:=kp.lt;omega))) fun cN ab9 aH=>?_)))))))));obtain⟨DB,rfl,F7,Bx,vS,L6⟩:=aH;replace H:=H.step vS F7 Bx L6;exact aj 5 rfl (cx (bw (av sb (b5 (aO rfl (ah (bt rfl rfl (by omega)) (a7 rfl (cx (aw (σ:=Nat×Value×ab×Except Int ab) (s:=⟨k,u,dN,Except.ok dN⟩) (⟨k+1,DB,(j5 (JV.wr x.2 (deep+1) HP)),(JV.wr x.2 (deep+1) HP)⟩) ⟨by omega,eF,(fun L2 aH=>by rw [aH];rfl),H⟩)))))))))
 skip
 exact b' (bw (av sb (b5 (aO rfl (ah (bt rfl rfl (by omega)) (a7 rfl (cx (aw (σ:=Nat×Value×ab×Except Int ab) (s:=⟨k,u,dN,Except.ok dN⟩) (⟨k+1,arx,(j5 (cK (mW ++ [58]))),(cK (mW ++ [58]))⟩) ⟨by omega,(by have aH:=eF;obtain⟨o7,yr⟩:=pN lB;rw [yr] at aH ⊢;exact aH),(fun L2 aH=>by rw [aH];rfl),H⟩))))))))
end Go.Proofs.YtkjgljnkocnnpaaGreatDoor.V
namespace Go.Proofs.YtkjgljnkocnnpaaGreatDoor.V
open Go
structure ei where
 eo:ab
 key:ab
 sig:ab
abbrev ei.cells (s:ei):List Value:=[S s.eo,S s.key,S s.sig]
structure EV where
 room:ab
 snd:ab
 ty:ab
 st:Bool
 key:ab
 b7:JV
 prev:List ab
 b8:List ab
 dep:Int
 time:Int
 hash:ab
 sigs:List ei
namespace EV
def D (e:EV):List Go.Proofs.YtkjgljnkocnnpaaGreatDoor.V.D:=[.v (S e.room),.v (S e.snd),.v (S e.ty),.v (.bool e.st),.v (S e.key)]++(e.b7.D ++ [pz e.prev,pz e.b8,.v (.int .i64 e.dep),.v (.int .i64 e.time),.v (S e.hash),flat 3 ei.cells e.sigs])
theorem sO (e:EV):e.D.length=17:=by simp [D,JV.sO]
theorem aU {A:List Nat} {w:World} {e:EV} {us:List Value} (aBn:ao A w e.D us):∃ cs ap w1 BK yw BL BM,us = [S e.room,S e.snd,S e.ty,.bool e.st,S e.key]++(cs ++ [.slice ap e.prev.length w1,.slice BK e.b8.length yw,.int .i64 e.dep,.int .i64 e.time,S e.hash,.slice BL e.sigs.length BM])∧
  ao A w e.b7.D cs∧bq A w (pz e.prev) (.slice ap e.prev.length w1)∧bq A w (pz e.b8) (.slice BK e.b8.length yw)∧bq A w (flat 3 ei.cells e.sigs) (.slice BL e.sigs.length BM):=by
 unfold D at aBn
 obtain⟨h1,aq⟩:=aBn.cut
 simp only [List.length_cons,List.length_nil] at h1 aq
 obtain⟨bb,bP⟩:=aq.cut
 have agw:us=us.take (0+1+1+1+1+1)++((us.drop (0+1+1+1+1+1)).take e.b7.D.length++(us.drop (0+1+1+1+1+1)).drop e.b7.D.length):=by rw [List.take_append_drop,List.take_append_drop]
 obtain⟨_,_,bu,g1,h1⟩:=h1
 obtain⟨_,_,rfl,g2,h1⟩:=h1
 obtain⟨_,_,rfl,g3,h1⟩:=h1
 obtain⟨_,_,rfl,g4,h1⟩:=h1
 obtain⟨_,_,rfl,g5,h1⟩:=h1
 obtain rfl:=h1
 obtain⟨_,_,ee,ef,bP⟩:=bP
 obtain⟨_,_,rfl,jt,bP⟩:=bP
 obtain⟨_,_,rfl,pA,bP⟩:=bP
 obtain⟨_,_,rfl,vY,bP⟩:=bP
 obtain⟨_,_,rfl,qX,bP⟩:=bP
 obtain⟨_,_,rfl,awi,bP⟩:=bP
 obtain rfl:=bP
 obtain rfl:=g1.np;obtain rfl:=g2.np;obtain rfl:=g3.np;obtain rfl:=g4.np;obtain rfl:=g5.np
 obtain rfl:=pA.np;obtain rfl:=vY.np;obtain rfl:=qX.np
 obtain⟨ap,w1,rfl,_⟩:=hh ef
 obtain⟨BK,yw,rfl,_⟩:=hh jt
 obtain⟨BL,BM,rfl,_⟩:=hh awi
 rw [bu,ee] at agw
 exact⟨_,ap,w1,BK,yw,BL,BM,agw,bb,ef,jt,awi⟩
theorem jk {A:List Nat} {w:World} {e:EV} {us:List Value} (aBn:ao A w e.D us):∃ al cl am cm ap w1 BK yw BL BM,us = [S e.room,S e.snd,S e.ty,.bool e.st,S e.key,.int .i64 e.b7.kind,.bool e.b7.is,.int .i64 e.b7.num,S e.b7.str,.slice al e.b7.list.length cl,.slice am e.b7.map.length cm,.slice ap e.prev.length w1,.slice BK e.b8.length yw,.int .i64 e.dep,.int .i64 e.time,S e.hash,.slice BL e.sigs.length BM]∧
  ao A w e.b7.D [.int .i64 e.b7.kind,.bool e.b7.is,.int .i64 e.b7.num,S e.b7.str,.slice al e.b7.list.length cl,.slice am e.b7.map.length cm]∧bq A w (pz e.prev) (.slice ap e.prev.length w1)∧bq A w (pz e.b8) (.slice BK e.b8.length yw)∧bq A w (flat 3 ei.cells e.sigs) (.slice BL e.sigs.length BM):=by
 obtain⟨cs,ap,w1,BK,yw,BL,BM,rfl,h1,aq,bb,bP⟩:=aU aBn
 obtain⟨al,cl,am,cm,rfl,_,_⟩:=JV.aU h1
 exact⟨al,cl,am,cm,ap,w1,BK,yw,BL,BM,rfl,h1,aq,bb,bP⟩
theorem at_ {A:List Nat} {w:World} {es:List EV} {e:EV} {ad:Option Addr} {n c i:Nat} (aBn:bq A w (.jH 17 (es.map EV.D)) (.slice ad n c)) (h:es[i]? = some e):∃ a us,ad=some a∧ao A w e.D us∧pF w (a.add (i*17)) us:=by
 obtain⟨a,us,h1,aq,_,bb,_⟩:=bq.at_ (i:=i) (r:=e.D) aBn (by simp [h]);exact⟨a,us,h1,aq,bb⟩
def ok (e:EV):Prop:=e.room.length≤140737488351232∧e.snd.length≤140737488351232∧e.ty.length≤140737488351232∧e.key.length≤140737488351232∧e.b7.ok∧(∀ s∈e.prev,s.length≤140737488351232)∧e.prev.length≤140737488351232∧(∀ s∈e.b8,s.length≤140737488351232)∧e.b8.length≤140737488351232∧e.hash.length≤140737488351232∧(∀ s∈e.sigs,s.eo.length≤140737488351232∧s.key.length≤140737488351232∧s.sig.length≤140737488351232)∧e.sigs.length≤140737488351232
end EV
def OA:List Nat→Nat→Nat→Nat
 | [],n,_=>n
 | x::r,n,qv=>if n≤qv then OA r (n+x) qv else n
namespace EV
def ack (e:EV):Nat:=e.room.length+e.snd.length+e.ty.length+e.key.length+e.hash.length+e.prev.length+e.b8.length+e.sigs.length
def wG (e:EV) (qv:Nat):Nat:=OA (e.prev.map List.length) e.ack qv
def se (e:EV) (qv:Nat):Nat:=OA (e.b8.map List.length) (e.wG qv) qv
def n3 (e:EV) (qv:Nat):Nat:=OA (e.sigs.map fun s=>s.eo.length+s.key.length+s.sig.length) (e.se qv) qv
def great (e:EV) (qv:Nat):Bool:=decide (e.n3 qv > qv)||decide (e.b7.kj ((qv:Int)-e.n3 qv) 60<0)
end EV
end Go.Proofs.YtkjgljnkocnnpaaGreatDoor.V
set_option maxRecDepth 10000
namespace Go.Proofs.YtkjgljnkocnnpaaGreatDoor.V
open Go Go.Proofs
theorem wW:∀ N:Nat,∀ (w:World) (v:JV) (us:List Value) (deep:Nat) (b:ab) (ju:Value),v.sz≤N→iD w ju b→b.length≤65536→ao (bk ju) w v.D us→deep≤32→pd w→Om∉bk ju→Calls aR 85 [ju,.agg us.toArray,.int .i64 (deep:Int)].toArray w (bH fun u w'=>Aa w w' ju (v.wr deep b) u)
 | 0,w,v,us,deep,b,ju,h,O,aW,aBn,bT,kp,pe=>absurd (JV.ql v) (by omega)
 | N+1,w,v,us,deep,b,ju,h,O,aW,aBn,bT,kp,pe=>DA N (wW N) w v us deep b ju h O aW aBn bT kp pe
/-- a value's canonical text, or an error -/
theorem Ui (w:World) (v:JV) (us:List Value) (aBn:ao [] w v.D us) (kp:pd w):Calls aR 85 [.slice none 0 0,.agg us.toArray,.int .i64 0].toArray w (bH fun u w'=>Aa w w' (.slice none 0 0) (v.wr 0 []) u):=
 wW v.sz w v us 0 [] (.slice none 0 0) (Nat.le_refl _) (Own.nil w 5 1) (by simp) aBn (by omega) kp (by simp [bk])
theorem Ey (w:World) (v:JV) (us:List Value) (aBn:ao [] w v.D us) (kp:pd w):Calls aR 47 [.agg us.toArray].toArray w (bH fun u w'=>u = .tuple #[S (j5 (v.wr 0 [])),.int .i64 (gz (v.wr 0 []))]∧Mod [] w w'):=by
 refine bs Tryz.func47 rfl fun E=>?_;obtain⟨al,cl,am,cm,rfl,k3,j3⟩:=JV.aU aBn;have aBn:=JV.bX k3 j3;refine aa fun a6=>eY rfl rfl rfl fun g1 aJ bZ=>?_;have aY:=bZ.le E;replace E:=E.then bZ.mod;have R:=bZ.ar;refine aj 2 rfl (J a6 (aa fun aQ=>ah (br au rfl (R.cs rfl)) (cJ (bB Bv rfl) (Ui _ v _ (aBn.b1 E) (kp.mod E (by simp))) fun cN cX aH=>?_)));obtain⟨Dq,rfl,Is,Et,vg,It⟩:=aH;replace E:=E.then (vg.mono (by simp [bk]));obtain⟨arA,alW,rfl,awf,awg⟩:=Is.form;exact aj 5 rfl (J aQ (aa fun a'=>aO rfl (ah (js (u:=j5 (v.wr 0 [])) da dH aA rfl (Is.same rfl (dt _))) (aj 3 rfl (J a' (bn (cj rfl rfl rfl ⟨rfl,E⟩)))))))
set_option maxRecDepth 10000
def ad1:=eW Tryz.func163
def AR:=eW Tryz.func138
theorem Zn (w:World) (c:Nat) (aZ:c≤1114111):Calls aR 134 [.int .i32 (c:Int)].toArray w (bH fun u w'=>u = .int .u8 (nP c:Int)∧Mod [] w w'):=by
 refine bs Tryz.func134 rfl fun E=>aa fun a6=>a7 rfl (J a6 (aB fun aQ=>aa fun a'=>aO rfl (J a' (eN (aB fun bp=>aa fun bx=>ah (k1 rfl rfl) ?_)))));refine c7 (fun Bl:(c:Int)=34=>?_) (fun Bl=>?_)
 ·exact a7 rfl (J bx (az rfl (b' (av bp (az rfl (aa fun bO=>aO rfl (ah (e9 (r:=(c:Int)) gE dH rfl (du _ (by omega))) (a7 rfl (J bO (bn (bw (aP (aG rfl rfl ⟨kZ (Value.int .u8) (show(c:Int)=((nP c:Nat):Int)by unfold nP;by_cases tW:c=34;(rw [aL tW,tW]);rw [ak tW,aL (by omega)];omega),E⟩)))))))))))))
 refine a7 rfl (J bx (aI rfl (b5 (ah (k1 rfl rfl) ?_))));refine c7 (fun NB:(c:Int)=92=>?_) (fun NB=>?_)
 ·exact a7 rfl (J bp (az rfl (aa fun b4=>aO rfl (ah (e9 (r:=(c:Int)) gE dH rfl (du _ (by omega))) (a7 rfl (J b4 (bn (bw (aP (aG rfl rfl ⟨kZ (Value.int .u8) (show(c:Int)=((nP c:Nat):Int)by unfold nP;by_cases tW:c=34;(rw [aL tW,tW]);rw [ak tW,aL (by omega)];omega),E⟩))))))))))
 refine a7 rfl (J bp (aI rfl (aa fun cw=>aj 2 rfl (J cw ?_))));refine aX rfl (fun l2=>?_) (fun l2=>?_)
 ·exact aa fun cy=>a7 rfl (J cy (bn (bw (aP (aG rfl rfl ⟨kZ (Value.int .u8) (show(_:Int)=((nP c:Nat):Int)by unfold nP;rw [ak (by omega),ak (by omega),aL (by omega)];rfl),E⟩)))))
 refine aa fun b6=>aj 2 rfl (J b6 ?_);refine aX rfl (fun wL=>?_) (fun wL=>?_)
 ·exact aa fun bR=>a7 rfl (J bR (bn (bw (aP (aG rfl rfl ⟨kZ (Value.int .u8) (show(_:Int)=((nP c:Nat):Int)by unfold nP;rw [ak (by omega),ak (by omega),ak (by omega),aL (by omega)];rfl),E⟩)))))
 refine aa fun cv=>aj 2 rfl (J cv ?_);refine aX rfl (fun vM=>?_) (fun vM=>?_)
 ·exact aa fun bV=>a7 rfl (J bV (bn (bw (aP (aG rfl rfl ⟨kZ (Value.int .u8) (show(_:Int)=((nP c:Nat):Int)by unfold nP;rw [ak (by omega),ak (by omega),ak (by omega),ak (by omega),aL (by omega)];rfl),E⟩)))))
 refine aa fun cE=>aj 2 rfl (J cE ?_);refine aX rfl (fun kK=>?_) (fun kK=>?_)
 ·exact aa fun cI=>a7 rfl (J cI (bn (bw (aP (aG rfl rfl ⟨kZ (Value.int .u8) (show(_:Int)=((nP c:Nat):Int)by unfold nP;rw [ak (by omega),ak (by omega),ak (by omega),ak (by omega),ak (by omega),aL (by omega)];rfl),E⟩)))))
 refine aa fun dr=>aj 2 rfl (J dr ?_);refine aX rfl (fun tG=>?_) (fun tG=>?_)
 ·exact aa fun ec=>a7 rfl (J ec (bn (bw (aP (aG rfl rfl ⟨kZ (Value.int .u8) (show(_:Int)=((nP c:Nat):Int)by unfold nP;rw [ak (by omega),ak (by omega),ak (by omega),ak (by omega),ak (by omega),ak (by omega),aL (by omega)];rfl),E⟩)))))
 exact b' (bw (av aQ (aa fun dG=>a7 rfl (J dG (bn (aG rfl rfl ⟨kZ (Value.int .u8) (show(_:Int)=((nP c:Nat):Int)by unfold nP;rw [ak (by omega),ak (by omega),ak (by omega),ak (by omega),ak (by omega),ak (by omega),ak (by omega)];rfl),E⟩))))))
theorem ajc (w:World) (s p:ab):Calls aR 163 [S s,S p].toArray w (bH fun u w'=>u = .bool (decide (p.length≤s.length∧s.take p.length=p))∧Mod [] w w'):=by
 refine cY Tryz.func163 rfl fun E=>aa fun a6=>a7 rfl (J a6 (aa fun aQ=>aO rfl (ah (bQ aA rfl) (aO rfl (ah (bQ aA rfl) (ah (dA rfl rfl) ?_))))));refine c7 (fun k5:(s.length:Int)≥(p.length:Int)=>?_) (fun k5=>?_)
 ·exact aj 3 rfl (ay (bQ aA rfl) (ay (AQ aA rfl rfl (by omega)) (ay (fj rfl) (ay (jr rfl rfl) (aj 2 rfl (J aQ (bn (aG rfl rfl ⟨by rw [decide_eq_decide.2 (show s.take p.length=p↔p.length≤s.length∧s.take p.length=p from⟨fun h=>⟨by omega,h⟩,fun h=>h.2⟩)],E⟩))))))))
 exact aj 9 rfl (J aQ (bn (aG rfl rfl ⟨by rw [cr (fun h=>by omega)],E⟩)))
theorem AS (w:World) (s p:ab):Calls aR 138 [S s,S p].toArray w (bH fun u w'=>u = .bool (decide (p.length≤s.length∧s.take p.length=p))∧Mod [] w w'):=by
 exact cY Tryz.func138 rfl fun E=>aa fun a6=>a7 rfl (J a6 (aa fun aQ=>aj 2 rfl (cG E (bB ad1 rfl) (ajc _ _ _) fun aJ U E=>a7 rfl (J aQ (bn (aG rfl rfl ⟨rfl,E⟩))))))
theorem FC (w:World) (s:ab):Calls aR 122 [S s].toArray w (bH fun u w'=>u = .bool (cC s)∧Mod [] w w'):=by
 refine bs Tryz.func122 rfl fun E=>aa fun a6=>a7 rfl (J a6 (aB fun aQ=>aa fun a'=>aO rfl (sl aA rfl rfl fun xi aJ hX Wa Ti=>?_)));have qY:w.heap.size≤xi:=by have:=E.size;omega
 replace E:=E.then Ti;refine J a' (eN (bK (σ:=Nat) (fun p=>[(0,S s),(6,.pointer (some ⟨xi,0,none⟩))]) (fun p aJ=>p≤s.length∧cC s=cC (s.drop p)∧DK aJ xi s p∧w.heap.size≤xi∧Mod [] w aJ) (fun p=>s.length-p) (0) (⟨by omega,rfl,hX,qY,E⟩) ?_));rintro p cX ⟨cc,bI,hX,qY,E⟩;refine aB fun bp=>?_
 by_cases hb:p<s.length
 rotate_left
 ·have ns:=hb;refine b5 (mK rfl hX ns rfl (ah (fo rfl rfl) (J bp (aB fun cv=>?_))));refine a1 rfl (fun lZ=>?_) (fun lZ=>?_)
  ·cases lZ
  have dR:cC s=true:=by rw [bI,List.drop_eq_nil_of_le (by omega),oL]
  exact bL (aP (aP (ch (av aQ (aa fun bV=>a7 rfl (J bV (bn (aG rfl rfl ⟨by rw [dR],E⟩))))))))
 have cH:=jI hb;have hle:=kC (s.drop p);have adh:(s.drop p).length=s.length-p:=List.length_drop ..
 by_cases cP:(aM (s.drop p)).2=0
 ·skip
  refine b5 (oB rfl hX hb (BU hb cP) rfl fun gr sS Dr GC=>?_);replace E:=E.trans' Dr (fun x ae=>.inr (by simp at ae;subst ae;exact qY));clear hX;have hX:=sS;refine ah (fo rfl rfl) (J bp (aB fun bx=>?_));refine a1 rfl (fun lZ=>?_) (fun lZ=>?_)
  ·skip
   refine b' (av bx (eN (aa fun bO=>aj 4 rfl (J bO (aa fun b4=>aj 2 rfl (kq (bD rfl) (aj 3 rfl (ay (dV aA rfl rfl cc) (gN (bB AR rfl) (AS _ (s.drop p) [239,191,189]) fun h8 U=>?_)))))))));replace hX:=hX.I U;replace E:=E.then U;refine aj 2 rfl (J b4 ?_);refine a1 rfl (fun nH=>?_) (fun nH=>?_)
   ·have dR:cC s=false:=bI.trans (vQ cH cP);exact aa fun cw=>a7 rfl (J cw (bn (bw (aP (bw (aP (aG rfl rfl ⟨by rw [dR],E⟩)))))))
   exact absurd (by simpa using nH) (ad2 cP)
  cases lZ
 skip
 refine b5 (oB rfl hX hb (AM hb cP) rfl fun iS sS Dr GC=>?_);replace E:=E.trans' Dr (fun x ae=>.inr (by simp at ae;subst ae;exact qY));clear hX;have hX:=sS;refine ah (fo rfl rfl) (J bp (aB fun cy=>?_));refine a1 rfl (fun lZ=>?_) (fun lZ=>?_);rotate_left
 ·cases lZ
 skip
 refine b' (av cy (eN (aa fun b6=>aj 4 rfl (J b6 (aa fun bR=>aj 2 rfl ?_)))));refine c7 (fun ajd:((aM (s.drop p)).1:Int)=65533=>?_) (fun ajd=>?_)
 ·skip
  refine aj 3 rfl (ay (dV aA rfl rfl cc) (gN (bB AR rfl) (AS _ (s.drop p) [239,191,189]) fun i' U=>?_));replace hX:=hX.I U;replace E:=E.then U;refine aj 2 rfl (J bR ?_);refine a1 rfl (fun nH=>?_) (fun nH=>?_)
  ·rw [bD (show([239,191,189]:ab).length≤(s.drop p).length∧(s.drop p).take ([239,191,189]:ab).length = [239,191,189] from ad3 cH cP (by omega))] at nH;cases nH
  skip
  exact b' (bw (aw (σ:=Nat) (s:=p) (p+(aM (s.drop p)).2) ⟨by omega,by rw [bI,mq cH cP,List.drop_drop],hX,qY,E⟩))
 skip
 refine aj 7 rfl (J bR (aI rfl ?_))
 skip
 exact b' (bw (aw (σ:=Nat) (s:=p) (p+(aM (s.drop p)).2) ⟨by omega,by rw [bI,mq cH cP,List.drop_drop],hX,qY,E⟩))
set_option maxRecDepth 10000
def ad4:=eW Tryz.func161
theorem ad5 (w:World) (v:Value) (b:ab) (c:Nat) (O:iD w v b) (h1:c≤1114111) (aq:¬ (55296≤c∧c≤57343)) (aW:b.length≤1000000) (cg:128≤c):Calls aR 161 [v,.int .i32 (c:Int)].toArray w (bH fun u w'=>iD w' u (b++fl c)∧(∀ x∈bk u,x∈bk v∨w.heap.size≤x)∧Mod (bk v) w w'):=by
 refine cY Tryz.func161 rfl fun E=>aa fun a6=>a7 rfl (J a6 (aa fun aQ=>aO rfl (ah (Pu gE IK rfl h1) (a7 rfl (J aQ (eN (aa fun a'=>aj 3 rfl (J a' ?_))))))));refine aX rfl (fun wL=>?_) (fun wL=>?_)
 ·refine aa fun bp=>aj 2 rfl (ah (tb 6 64 rfl rfl (by decide) (by decide)) (ah (om gE dH rfl) (ah (ad6 rfl rfl (by omega)) (aO rfl (ah (om gE dH rfl) (ah (uC rfl rfl) (ah (ry rfl rfl) (ir di kX rfl rfl fun g1 aJ bZ=>?_))))))));have aY:=bZ.le E;have A3:=bZ.bU O;replace E:=E.then bZ.mod;replace O:=O.I bZ.mod;have R:=bZ.ar;exact bz di rfl rfl O (Src.own da (Own.all (c:=2) (cs:=[_,_]) R rfl (by omega)) (by simp [Value.oneCell'])) (by decide) (by omega) (by omega) rfl fun hN cX ek=>a7 rfl (J bp (bn (bw (aG rfl rfl ⟨uD h1 ek.own (by rw [show fe c = [192+c / 64,128+c % 64] by unfold fe;rw [ak (by omega),aL (by omega)]];rfl) (by rw [show fe c = [192+c / 64,128+c % 64] by unfold fe;rw [ak (by omega),aL (by omega)]];rfl),fun x ae=>(ek.lH x ae).imp id (Nat.le_trans E.size),(E.mono (by simp)).trans ek.mod⟩))))
 refine aB fun bx=>aa fun bO=>aj 2 rfl ?_;refine c7 (fun LL:(c:Int)<55296=>?_) (fun LL=>?_)
 ·refine a7 rfl (J bO (az rfl (b' (av bx (az rfl (aa fun b4=>aj 2 rfl (ah (tb 12 4096 rfl rfl (by decide) (by decide)) (ah (om gE dH rfl) (ah (Pv rfl rfl (by omega)) (aO rfl (ah (tb 6 64 rfl rfl (by decide) (by decide)) (ah (om gE dH rfl) ?_))))))))))));refine ah (uC rfl rfl) (ah (ry rfl rfl) (aO rfl (ah (om gE dH rfl) (ah (uC rfl rfl) (ah (ry rfl rfl) (mM di kX rfl rfl fun g2 gr cz=>?_))))));have bJ:=cz.le E;have oy:=cz.bU O;replace E:=E.then cz.mod;replace O:=O.I cz.mod;have ag:=cz.ar;exact bz di rfl rfl O (Src.own da (Own.all (c:=3) (cs:=[_,_,_]) ag rfl (by omega)) (by simp [Value.oneCell'])) (by decide) (by omega) (by omega) rfl fun hN h8 ek=>a7 rfl (J b4 (bn (bw (aG rfl rfl ⟨uD h1 ek.own (by rw [show fe c = [224+c / 4096,128+c / 64 % 64,128+c % 64] by unfold fe;rw [ak (by omega),ak (by omega),aL (by omega)]];rfl) (by rw [show fe c = [224+c / 4096,128+c / 64 % 64,128+c % 64] by unfold fe;rw [ak (by omega),ak (by omega),aL (by omega)]];rfl),fun x ae=>(ek.lH x ae).imp id (Nat.le_trans E.size),(E.mono (by simp)).trans ek.mod⟩))))
 refine a7 rfl (J bO (aI rfl (b5 (aj 2 rfl (kq (bD (show(57343:Int)<(c:Int)by omega)) (aj 5 rfl (J bx ?_)))))));refine aX rfl (fun r0=>?_) (fun r0=>?_)
 ·refine aa fun cw=>aj 2 rfl (ah (tb 12 4096 rfl rfl (by decide) (by decide)) (ah (om gE dH rfl) (ah (Pv rfl rfl (by omega)) (aO rfl (ah (tb 6 64 rfl rfl (by decide) (by decide)) (ah (om gE dH rfl) (ah (uC rfl rfl) (ah (ry rfl rfl) (aO rfl (ah (om gE dH rfl) (ah (uC rfl rfl) (ah (ry rfl rfl) ?_))))))))))));refine mM di kX rfl rfl fun g3 iS dF=>?_;have df:=dF.le E;have pH:=dF.bU O;replace E:=E.then dF.mod;replace O:=O.I dF.mod;have bd:=dF.ar;exact bz di rfl rfl O (Src.own da (Own.all (c:=3) (cs:=[_,_,_]) bd rfl (by omega)) (by simp [Value.oneCell'])) (by decide) (by omega) (by omega) rfl fun hN i' ek=>a7 rfl (J cw (bn (bw (aG rfl rfl ⟨uD h1 ek.own (by rw [show fe c = [224+c / 4096,128+c / 64 % 64,128+c % 64] by unfold fe;rw [ak (by omega),ak (by omega),aL (by omega)]];rfl) (by rw [show fe c = [224+c / 4096,128+c / 64 % 64,128+c % 64] by unfold fe;rw [ak (by omega),ak (by omega),aL (by omega)]];rfl),fun x ae=>(ek.lH x ae).imp id (Nat.le_trans E.size),(E.mono (by simp)).trans ek.mod⟩))))
 refine aa fun cy=>aj 2 rfl (kq (bD (show(65535:Int)<(c:Int)by omega)) (aj 5 rfl (J cy ?_)));refine aX rfl (fun za=>?_) (fun za=>?_)
 ·refine aa fun b6=>aj 2 rfl (ah (tb 18 262144 rfl rfl (by decide) (by decide)) (ah (om gE dH rfl) (ah (ad7 rfl rfl (by omega)) (aO rfl (ah (tb 12 4096 rfl rfl (by decide) (by decide)) (ah (om gE dH rfl) (ah (uC rfl rfl) (ah (ry rfl rfl) (aO rfl (ah (tb 6 64 rfl rfl (by decide) (by decide)) (ah (om gE dH rfl) (ah (uC rfl rfl) ?_))))))))))));refine ah (ry rfl rfl) (aO rfl (ah (om gE dH rfl) (ah (uC rfl rfl) (ah (ry rfl rfl) (zJ di kX rfl rfl fun g4 iw N4=>?_)))));have fQ:=N4.le E;have pI:=N4.bU O;replace E:=E.then N4.mod;replace O:=O.I N4.mod;have bm:=N4.ar;exact bz di rfl rfl O (Src.own da (Own.all (c:=4) (cs:=[_,_,_,_]) bm rfl (by omega)) (by simp [Value.oneCell'])) (by decide) (by omega) (by omega) rfl fun hN nd ek=>a7 rfl (J b6 (bn (bw (aG rfl rfl ⟨uD h1 ek.own (by rw [show fe c = [240+c / 262144,128+c / 4096 % 64,128+c / 64 % 64,128+c % 64] by unfold fe;rw [ak (by omega),ak (by omega),ak (by omega)]];rfl) (by rw [show fe c = [240+c / 262144,128+c / 4096 % 64,128+c / 64 % 64,128+c % 64] by unfold fe;rw [ak (by omega),ak (by omega),ak (by omega)]];rfl),fun x ae=>(ek.lH x ae).imp id (Nat.le_trans E.size),(E.mono (by simp)).trans ek.mod⟩))))
 exact absurd (show(c:Int)≤1114111 by omega) za
theorem GG (w:World) (v:Value) (b:ab) (c:Nat) (O:iD w v b) (h1:c≤1114111) (aq:¬ (55296≤c∧c≤57343)) (aW:b.length≤1000000):Calls aR 135 [v,.int .i32 (c:Int)].toArray w (bH fun u w'=>iD w' u (b++fl c)∧(∀ x∈bk u,x∈bk v∨w.heap.size≤x)∧Mod (bk v) w w'):=by
 refine cY Tryz.func135 rfl fun E=>aa fun a6=>a7 rfl (J a6 (aB fun aQ=>aa fun a'=>aO rfl (ah (Pu gE IK rfl h1) (ah (pr rfl rfl) (J a' ?_)))));refine aX rfl (fun lL=>?_) (fun lL=>?_)
 ·refine aa fun bp=>aj 2 rfl (ah (om gE dH rfl) (dm di kX rfl rfl fun g1 aJ bZ=>?_));have aY:=bZ.le E;have A3:=bZ.bU O;replace E:=E.then bZ.mod;replace O:=O.I bZ.mod;have R:=bZ.ar;exact bz di rfl rfl O (Src.own da (Own.all (c:=1) (cs:=[_]) R rfl (by omega)) (by simp [Value.oneCell'])) (by decide) (by omega) (by omega) rfl fun hN cX ek=>a7 rfl (J bp (bn (aP (aG rfl rfl ⟨uD h1 ek.own (by rw [show fe c = [c] by unfold fe;rw [aL (by omega)]];rfl) (by rw [show fe c = [c] by unfold fe;rw [aL (by omega)],show c % 256=c by omega];rfl),fun x ae=>(ek.lH x ae).imp id (Nat.le_trans E.size),(E.mono (by simp)).trans ek.mod⟩))))
 refine b' (av aQ (aa fun bx=>aj 2 rfl (cJ (bB ad4 rfl) (ad5 _ v b c O h1 aq aW (by omega)) fun cN gr aH=>?_)));obtain⟨P3,ao0,qu⟩:=aH;exact a7 rfl (J bx (bn (aG rfl rfl ⟨P3,fun x ae=>(ao0 x ae).imp id (Nat.le_trans E.size),(E.mono (by simp)).trans qu⟩)))
set_option maxRecDepth 10000
def Pw:=eW Tryz.func122
def ad8:=eW Tryz.func134
def AT:=eW Tryz.func135
theorem ad9 (w:World) (s:ab) (bh:s.length≤65536):Calls aR 99 [S s].toArray w (bH fun u w'=>u = .tuple #[S (if cC s then cM s else []),.bool (cC s)]∧Mod [] w w'):=by
 refine bs Tryz.func99 rfl fun E=>aa fun a6=>aj 2 rfl (J a6 (aB fun aQ=>aa fun a'=>aO rfl (cG E (bB Pw rfl) (FC _ s) fun aJ U E=>ah (fC rfl) (J a' ?_))));refine a1 rfl (fun jP=>?_) (fun jP=>?_)
 ·have qW:cC s=false:=by simpa using jP
  exact aa fun bp=>aj 2 rfl (J bp (bn (aP (cj rfl rfl rfl ⟨by rw [qW];rfl,E⟩))))
 have qW:cC s=true:=by simpa using jP
 refine b' (av aQ (aa fun bx=>dm di kX rfl rfl fun g1 cX bZ=>?_));have aY:=bZ.le E;replace E:=E.then bZ.mod;have R:=bZ.ar;refine a7 rfl (J bx (aB fun bO=>aa fun b4=>aO rfl (sl aA rfl rfl fun xi gr hX Wa Ti=>?_)));have qY:w.heap.size≤xi:=by have:=E.size;omega
 have auV:g1≠xi:=by have:=R.lt;omega
 replace E:=E.then Ti;replace R:=R.I Ti;refine J b4 (eN (bK (σ:=Nat×Value) (fun⟨p,v⟩=>[(0,S s),(4,v),(13,.pointer (some ⟨xi,0,none⟩))]) (fun⟨p,v⟩ aJ=>p≤s.length∧cC (s.drop p)=true∧DK aJ xi s p∧iD aJ v (34::dI (s.take p))∧(∀ x∈bk v,w.heap.size≤x)∧(∀ x∈bk v,x≠xi)∧Mod [] w aJ) (fun⟨p,v⟩=>s.length-p) (⟨0,.slice (some ⟨g1,0,none⟩) 1 1⟩) (⟨by omega,by simpa using qW,hX,(Own.all (c:=1) R rfl (by omega)).same rfl rfl,by simp only [bk,List.mem_singleton];intro x ae;subst ae;exact aY,by simp only [bk,List.mem_singleton];intro x ae;subst ae;exact auV,E⟩) ?_));rintro⟨p,v⟩ h8 ⟨cc,bI,hX,O,nh,Sp,E⟩;refine aB fun cw=>?_
 by_cases hb:p<s.length
 rotate_left
 ·have ns:=hb;have nK:s.take p=s:=List.take_of_length_le (by omega);refine b5 (mK rfl hX ns rfl (ah (fo rfl rfl) (J cw (aB fun cE=>?_))));refine a1 rfl (fun kK=>?_) (fun kK=>?_)
  ·cases kK
  skip
  refine bL (aP (aP (ch (av bO (aa fun cI=>aO rfl (dm di kX rfl rfl fun g4 mT N4=>?_))))));have fQ:=N4.le E;have pI:=N4.bU O;replace hX:=hX.I N4.mod;replace E:=E.then N4.mod;replace O:=O.I N4.mod;have bm:=N4.ar;have Qb:=nX s;have tr:(34::dI (s.take p)).length=(dI s).length+1:=by rw [nK];rfl
  refine bz di rfl rfl O (Src.own da (Own.all (cs:=[_]) bm rfl (by omega)) (by simp [Value.oneCell'])) (by decide) (by omega) (by omega) rfl fun v3 lK Dy=>?_;have abU:=Dy.ne pI bm;have Ga:=Dy.ge nh E;replace bm:=bm.mod Dy.mod (fun ae=>pI _ ae rfl);replace E:=E.trans' Dy.mod (fun x ae=>.inr (nh x ae));replace O:=Dy.own;exact ah (js (u:=cM s) da dH aA rfl (O.same (by rw [nK];simp [cM]) (by rw [nK];simp [cM,ku,dt]))) (aj 2 rfl (J cI (bn (cj rfl rfl rfl ⟨by rw [qW];rfl,E⟩))))
 have cP:=BR (jI hb) bI;obtain⟨_,_,eQ,h3⟩:=yD (jI hb) cP;have hle:=kC (s.drop p);have adh:(s.drop p).length=s.length-p:=List.length_drop ..;have Qb:=nX (s.take p);have Dz:(s.take p).length=p:=by rw [List.length_take];omega
 have tr:(34::dI (s.take p)).length=(dI (s.take p)).length+1:=rfl;refine b5 (oB rfl hX hb (AM hb cP) rfl fun iS sS Dr GC=>?_);replace E:=E.trans' Dr (fun x ae=>.inr (by simp at ae;subst ae;exact qY));replace O:=O.mod Dr (fun x ae hm=>Sp x ae (by simpa using hm));clear hX;have hX:=sS;refine ah (fo rfl rfl) (J cw (aB fun cy=>?_));refine a1 rfl (fun kK=>?_) (fun kK=>?_);rotate_left
 ·cases kK
 skip
 refine b' (av cy (eN (aa fun b6=>aj 2 rfl (J b6 (aa fun bR=>aO rfl (cG E (bB ad8 rfl) (Zn _ (aM (s.drop p)).1 eQ) fun i' U E=>?_))))));replace hX:=hX.I U;replace O:=O.I U;refine a7 rfl (J bR (eN (aa fun cv=>aj 3 rfl (J cv ?_))));refine aX rfl (fun wM=>?_) (fun wM=>?_)
 ·refine b5 (aj 2 rfl (ir di kX rfl rfl fun g2 iw cz=>?_));have bJ:=cz.le E;have oy:=cz.bU O;replace hX:=hX.I cz.mod;replace E:=E.then cz.mod;replace O:=O.I cz.mod;have ag:=cz.ar;refine bz di rfl rfl O (Src.own da (Own.all (cs:=[_,_]) ag rfl (by omega)) (by simp [Value.oneCell'])) (by decide) (by omega) (by omega) rfl fun v1 nd kB=>?_;have Od:=kB.ne oy ag;have vN:=kB.ge nh E;replace ag:=ag.mod kB.mod (fun ae=>oy _ ae rfl);replace E:=E.trans' kB.mod (fun x ae=>.inr (nh x ae));replace O:=kB.own;have aje:=kB.ahX Sp hX;replace hX:=hX.mod kB.mod (fun ae=>Sp _ ae rfl);refine a7 rfl (cx (bw (bw ?_)));have Zo:=zb hb cP bI;obtain⟨t,Sq,auW,auX⟩:=ad' hb cP wM;exact aw (σ:=Nat×Value) (s:=⟨p,v⟩) (⟨p+(aM (s.drop p)).2,v1⟩) ⟨by omega,Zo,hX,KR O Sq (by rw [auX]) (by rw [auW]),vN,aje,E⟩
 refine aa fun bV=>aj 3 rfl (J bV ?_);refine aX rfl (fun vf=>?_) (fun vf=>?_);rotate_left
 ·refine b5 (aj 2 rfl (cJ (bB AT rfl) (GG _ v (34::dI (s.take p)) (aM (s.drop p)).1 O eQ h3 (by omega)) fun cN mo aH=>?_));obtain⟨af7,afI,Bq⟩:=aH;have Rh:∀ x∈bk cN,w.heap.size≤x:=fun x ae=>(afI x ae).elim (nh x) (Nat.le_trans E.size);have auZ:∀ x∈bk cN,x≠xi:=fun x ae=>(afI x ae).elim (Sp x) (fun h e=>by have:=hX.lt;omega);replace E:=E.trans' Bq (fun x ae=>.inr (nh x ae));replace hX:=hX.mod Bq (fun ae=>Sp _ ae rfl);refine a7 rfl (cx (bw (bw ?_)));have Zo:=zb hb cP bI;have Sq:=aeb hb cP wM vf;exact aw (σ:=Nat×Value) (s:=⟨p,v⟩) (⟨p+(aM (s.drop p)).2,cN⟩) ⟨by omega,Zo,hX,af7.same (by rw [Sq];rfl) (by rw [Sq];rfl),Rh,auZ,E⟩
 refine ks [0] [1,2,3,4,5,6] 7 [8,9] wide (by kernel_rfl) (fun _ _ _ h=>h.2) (abV (fun _=>(fj rfl)) rfl rfl (jG (ax (fun U=>(fj rfl)) (ax (fun U=>(tb 4 16 rfl rfl (by decide) (by decide))) (ax (fun U=>(hM aA rfl rfl (by omega) (by rw [Int.toNat_natCast];exact AE (by omega)))) (ax (fun U=>(fj rfl)) (ax (fun U=>(ajf rfl rfl (by omega))) (ax (fun U=>(hM aA rfl rfl (by omega) (by rw [Int.toNat_natCast];exact AE (by omega)))) (oF rfl fun lF U=>?_)))))))));replace hX:=hX.I U;replace E:=E.then U;replace O:=O.I U;refine q8 di kX rfl rfl fun g3 h2 dF=>?_;have df:=dF.le E;have pH:=dF.bU O;replace hX:=hX.I dF.mod;replace E:=E.then dF.mod;replace O:=O.I dF.mod;have bd:=dF.ar;refine bz di rfl rfl O (Src.own da (Own.all (cs:=[_,_,_,_,_,_]) bd rfl (by omega)) (by simp [Value.oneCell'])) (by decide) (by omega) (by omega) rfl fun v2 jJ Dx=>?_;have abT:=Dx.ne pH bd;have Bs:=Dx.ge nh E;replace bd:=bd.mod Dx.mod (fun ae=>pH _ ae rfl);replace E:=E.trans' Dx.mod (fun x ae=>.inr (nh x ae));replace O:=Dx.own;have auY:=Dx.ahX Sp hX;replace hX:=hX.mod Dx.mod (fun ae=>Sp _ ae rfl);refine a7 rfl (cx (bw (bw ?_)));have Zo:=zb hb cP bI;have Sq:=aea hb cP wM vf;exact aw (σ:=Nat×Value) (s:=⟨p,v⟩) (⟨p+(aM (s.drop p)).2,v2⟩) ⟨by omega,Zo,hX,KR O Sq (by simp) (by simp [ku]),Bs,auY,E⟩
end Go.Proofs.YtkjgljnkocnnpaaGreatDoor.V
