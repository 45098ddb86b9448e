/-
  Proved: the law EventBack answers true at every input, and each argument reads afterwards as it read before. No condition beside the given statement's own.
-/
import Derived.Test.YtnihidkbkhcfoaaGreatDoorM11
import Derived.Test.YtnihidkbkhcfoaaGreatDoorM13
import Derived.Test.YtnihidkbkhcfoaaGreatDoorRows
import Derived.OpenShut
import Derived.Deep.DeepHandedRow
import Derived.Test.YtnihidkbkhcfoaaGreatDoorCards
import Derived.Test.YtnihidkbkhcfoaaGreatDoorTie
import Derived.Lib.LaidTab
set_option linter.unusedVariables false
set_option linter.unusedSimpArgs false
namespace Go.Proofs.YtnihidkbkhcfoaaGreatDoor.V.EventBack
open Go Go.Proofs Go.Proofs.YtnihidkbkhcfoaaGreatDoor Go.ChangeShapes Go.WideShapes Go.RowKit
section
variable {H:Type} {enc:TypeId×Value→H} {w:World}
end
theorem laid:laidOutB Tryz.prog=true:=by kernel_rfl
theorem own:ownKnob Tryz.prog.godebug=none:=by kernel_rfl
set_option maxRecDepth 100000 in
theorem contract (H:Type) (enc:TypeId×Value→H) (W:World) (base:Nat) (args:Array Value) (ds gs:List (DataW H)) (before:List MemPlace)
  (yS:∀ (j:Nat) t v,Tryz.f12.params[j]? = some t→args[j]? = some v→Value.okWide Tryz.prog W .any base t v)
  (hp:DataW.Whole enc Tryz.prog Tryz.f12.params.toList Rows.eventBackSpec.vars false W args.toList ds gs before)
  (hm:(DataW.weightsEach Tryz.prog (Tryz.f12.params.toList++(OpenSpec.ofChange Rows.eventBackSpec).bare.plain.varTypes Tryz.prog) (ds++gs)).all (·≤reachBytes)=true) (nn:laidMetH Tryz.prog Rows.eventBackRow.laid W) (UJ:W.ShapedOpen Tryz.prog) :
  Calls Tryz.prog 12 args W fun e Tb=>∃ v,e = .returned v∧Rows.eventBackSpec.post enc Tryz.prog Tryz.f12 false true false false W args v Tb:=by
 have abc:=hp
 obtain⟨p,q,abd,oO,rfl,agR,ES⟩:=hp
 have du:DataW.TrodAll enc Tryz.prog W 0 (fun _=>true) true Tryz.f12.params.toList args.toList ds p:=abd
 rw [Tryz.params12] at du yS hm
 obtain⟨v0,ans,d0,ant,apk,apl,Lv,rfl,rfl,bD,Tc⟩:=trodAll_cons du
 obtain⟨v1,agS,d1,agT,ET,pT,rfl,rfl,rfl,h1,Kz⟩:=trodAll_cons Tc
 obtain⟨rfl,rfl,rfl⟩:=trodAll_nil Kz
 obtain rfl:args = #[v0,v1]:=Array.toList_inj.1 Lv
 obtain⟨rfl,rfl⟩:=trodVars_none oO
 obtain⟨UK,bD⟩:=bD
 have agU:∀ m∈d0.weights Tryz.prog 29,m≤reachBytes:=fun m wu=>by
  have:=List.all_eq_true.1 hm m (by simp [DataW.weightsEach,wu])
  simpa using this
 obtain⟨UL,h1⟩:=h1
 have lz:∀ m∈d1.weights Tryz.prog 9,m≤reachBytes:=fun m wu=>by
  have:=List.all_eq_true.1 hm m (by simp [DataW.weightsEach,wu])
  simpa using this
 clear hm
 obtain⟨abe,rfl,_⟩:=okWide_struct Tryz.underlying29 (yS 0 29 v0 rfl rfl)
 obtain⟨e,abf,sq⟩:=Qc UK _ _ bD agU
 obtain⟨ev,rfl⟩:=okWide_string Tryz.underlying9 (yS 1 9 v1 rfl rfl)
 obtain⟨s,UM,H2⟩:=hL Tryz.underlying9 (n:=UL) _ _ h1 lz
 obtain⟨u,us,hu,UM,UN⟩:=UM
 have abg:=aS.ku UM
 simp only [Value.cells] at hu
 obtain⟨rfl,rfl⟩:=(List.cons.injEq ..).mp hu
 rw [abg] at yS abc h1 Lv ⊢
 obtain⟨agV,rfl⟩:∃ us:List Value,abe=us.toArray:=⟨abe.toList,by simp⟩
 simp only [Value.cells] at abf
 have ed:Env W:=UI nn
 have eb:g' W:=g'.Lf UJ
 refine(Aq W e s agV abf sq ed eb).mono fun e W1 he=>?_
 cases e with
 | returned v=>
  obtain⟨rfl,k⟩:=he
  exact⟨_,rfl,EU laid (by rfl) (by kernel_rfl) Tryz.underlying4 (by kernel_rfl) (by rfl) abc k⟩
 | _=>exact he.elim
noncomputable def rC (os:Os):World:=
 {(World.holding Tryz.prog os ⟨#[],#[],[]⟩)with heap:=((((((((World.holding Tryz.prog os ⟨#[],#[],[]⟩).heap.modify 7 (fun
   | .cells _ t frozen=>.cells #[.int .u8 0,.int .u8 1,.int .u8 28,.int .u8 2,.int .u8 29,.int .u8 14,.int .u8 24,.int .u8 3,.int .u8 30,.int .u8 22,.int .u8 20,.int .u8 15,.int .u8 25,.int .u8 17,.int .u8 4,.int .u8 8,.int .u8 31,.int .u8 27,.int .u8 13,.int .u8 23,.int .u8 21,.int .u8 19,.int .u8 16,.int .u8 7,.int .u8 26,.int .u8 12,.int .u8 18,.int .u8 6,.int .u8 11,.int .u8 5,.int .u8 10,.int .u8 9] t frozen
   | o=>o)).modify 8 (fun
   | .cells _ t frozen=>.cells #[.int .u8 0,.int .u8 1,.int .u8 56,.int .u8 2,.int .u8 57,.int .u8 49,.int .u8 28,.int .u8 3,.int .u8 61,.int .u8 58,.int .u8 42,.int .u8 50,.int .u8 38,.int .u8 29,.int .u8 17,.int .u8 4,.int .u8 62,.int .u8 47,.int .u8 59,.int .u8 36,.int .u8 45,.int .u8 43,.int .u8 51,.int .u8 22,.int .u8 53,.int .u8 39,.int .u8 33,.int .u8 30,.int .u8 24,.int .u8 18,.int .u8 12,.int .u8 5,.int .u8 63,.int .u8 55,.int .u8 48,.int .u8 27,.int .u8 60,.int .u8 41,.int .u8 37,.int .u8 16,.int .u8 46,.int .u8 35,.int .u8 44,.int .u8 21,.int .u8 52,.int .u8 32,.int .u8 23,.int .u8 11,.int .u8 54,.int .u8 26,.int .u8 40,.int .u8 15,.int .u8 34,.int .u8 20,.int .u8 31,.int .u8 10,.int .u8 25,.int .u8 14,.int .u8 19,.int .u8 9,.int .u8 13,.int .u8 8,.int .u8 7,.int .u8 6] t frozen
   | o=>o)).modify 4 (fun
   | .cells _ t frozen=>.cells #[.int .u64 1,.int .u64 10,.int .u64 100,.int .u64 1000,.int .u64 10000,.int .u64 100000,.int .u64 1000000,.int .u64 10000000,.int .u64 100000000,.int .u64 1000000000,.int .u64 10000000000,.int .u64 100000000000,.int .u64 1000000000000,.int .u64 10000000000000,.int .u64 100000000000000,.int .u64 1000000000000000,.int .u64 10000000000000000,.int .u64 100000000000000000,.int .u64 1000000000000000000,.int .u64 10000000000000000000] t frozen
   | o=>o)).modify 6 (fun
   | .cells _ t frozen=>.cells #[.int .u8 128,.int .u8 191,.int .u8 160,.int .u8 191,.int .u8 128,.int .u8 159,.int .u8 144,.int .u8 191,.int .u8 128,.int .u8 143,.int .u8 0,.int .u8 0,.int .u8 0,.int .u8 0,.int .u8 0,.int .u8 0,.int .u8 0,.int .u8 0,.int .u8 0,.int .u8 0,.int .u8 0,.int .u8 0,.int .u8 0,.int .u8 0,.int .u8 0,.int .u8 0,.int .u8 0,.int .u8 0,.int .u8 0,.int .u8 0,.int .u8 0,.int .u8 0] t frozen
   | o=>o)).modify 3 (fun
   | .cells _ t frozen=>.cells #[.iface 262 (.pointer (some ⟨14,0,none⟩))] t frozen
   | o=>o)).modify 2 (fun
   | .cells _ t frozen=>.cells #[.iface 262 (.pointer (some ⟨15,0,none⟩))] t frozen
   | o=>o)).modify 5 (fun
   | .cells _ t frozen=>.cells #[.int .u8 240,.int .u8 240,.int .u8 240,.int .u8 240,.int .u8 240,.int .u8 240,.int .u8 240,.int .u8 240,.int .u8 240,.int .u8 240,.int .u8 240,.int .u8 240,.int .u8 240,.int .u8 240,.int .u8 240,.int .u8 240,.int .u8 240,.int .u8 240,.int .u8 240,.int .u8 240,.int .u8 240,.int .u8 240,.int .u8 240,.int .u8 240,.int .u8 240,.int .u8 240,.int .u8 240,.int .u8 240,.int .u8 240,.int .u8 240,.int .u8 240,.int .u8 240,.int .u8 240,.int .u8 240,.int .u8 240,.int .u8 240,.int .u8 240,.int .u8 240,.int .u8 240,.int .u8 240,.int .u8 240,.int .u8 240,.int .u8 240,.int .u8 240,.int .u8 240,.int .u8 240,.int .u8 240,.int .u8 240,.int .u8 240,.int .u8 240,.int .u8 240,.int .u8 240,.int .u8 240,.int .u8 240,.int .u8 240,.int .u8 240,.int .u8 240,.int .u8 240,.int .u8 240,.int .u8 240,.int .u8 240,.int .u8 240,.int .u8 240,.int .u8 240,.int .u8 240,.int .u8 240,.int .u8 240,.int .u8 240,.int .u8 240,.int .u8 240,.int .u8 240,.int .u8 240,.int .u8 240,.int .u8 240,.int .u8 240,.int .u8 240,.int .u8 240,.int .u8 240,.int .u8 240,.int .u8 240,.int .u8 240,.int .u8 240,.int .u8 240,.int .u8 240,.int .u8 240,.int .u8 240,.int .u8 240,.int .u8 240,.int .u8 240,.int .u8 240,.int .u8 240,.int .u8 240,.int .u8 240,.int .u8 240,.int .u8 240,.int .u8 240,.int .u8 240,.int .u8 240,.int .u8 240,.int .u8 240,.int .u8 240,.int .u8 240,.int .u8 240,.int .u8 240,.int .u8 240,.int .u8 240,.int .u8 240,.int .u8 240,.int .u8 240,.int .u8 240,.int .u8 240,.int .u8 240,.int .u8 240,.int .u8 240,.int .u8 240,.int .u8 240,.int .u8 240,.int .u8 240,.int .u8 240,.int .u8 240,.int .u8 240,.int .u8 240,.int .u8 240,.int .u8 240,.int .u8 240,.int .u8 240,.int .u8 240,.int .u8 240,.int .u8 241,.int .u8 241,.int .u8 241,.int .u8 241,.int .u8 241,.int .u8 241,.int .u8 241,.int .u8 241,.int .u8 241,.int .u8 241,.int .u8 241,.int .u8 241,.int .u8 241,.int .u8 241,.int .u8 241,.int .u8 241,.int .u8 241,.int .u8 241,.int .u8 241,.int .u8 241,.int .u8 241,.int .u8 241,.int .u8 241,.int .u8 241,.int .u8 241,.int .u8 241,.int .u8 241,.int .u8 241,.int .u8 241,.int .u8 241,.int .u8 241,.int .u8 241,.int .u8 241,.int .u8 241,.int .u8 241,.int .u8 241,.int .u8 241,.int .u8 241,.int .u8 241,.int .u8 241,.int .u8 241,.int .u8 241,.int .u8 241,.int .u8 241,.int .u8 241,.int .u8 241,.int .u8 241,.int .u8 241,.int .u8 241,.int .u8 241,.int .u8 241,.int .u8 241,.int .u8 241,.int .u8 241,.int .u8 241,.int .u8 241,.int .u8 241,.int .u8 241,.int .u8 241,.int .u8 241,.int .u8 241,.int .u8 241,.int .u8 241,.int .u8 241,.int .u8 241,.int .u8 241,.int .u8 2,.int .u8 2,.int .u8 2,.int .u8 2,.int .u8 2,.int .u8 2,.int .u8 2,.int .u8 2,.int .u8 2,.int .u8 2,.int .u8 2,.int .u8 2,.int .u8 2,.int .u8 2,.int .u8 2,.int .u8 2,.int .u8 2,.int .u8 2,.int .u8 2,.int .u8 2,.int .u8 2,.int .u8 2,.int .u8 2,.int .u8 2,.int .u8 2,.int .u8 2,.int .u8 2,.int .u8 2,.int .u8 2,.int .u8 2,.int .u8 19,.int .u8 3,.int .u8 3,.int .u8 3,.int .u8 3,.int .u8 3,.int .u8 3,.int .u8 3,.int .u8 3,.int .u8 3,.int .u8 3,.int .u8 3,.int .u8 3,.int .u8 35,.int .u8 3,.int .u8 3,.int .u8 52,.int .u8 4,.int .u8 4,.int .u8 4,.int .u8 68,.int .u8 241,.int .u8 241,.int .u8 241,.int .u8 241,.int .u8 241,.int .u8 241,.int .u8 241,.int .u8 241,.int .u8 241,.int .u8 241,.int .u8 241] t frozen
   | o=>o)) ++ #[.cells #[.string ⟨#[118,97,108,117,101,32,111,117,116,32,111,102,32,114,97,110,103,101]⟩] 264 (0,0),.cells #[.string ⟨#[105,110,118,97,108,105,100,32,115,121,110,116,97,120]⟩] 264 (0,0)]}
theorem Ij (os:Os):laidMet Tryz.prog Rows.eventBackRow.laid ((rC os).forCall (fun _ _=>0) ⟨#[],#[.agg #[.string ⟨#[]⟩,.string ⟨#[]⟩,.string ⟨#[]⟩,.bool false,.string ⟨#[]⟩,.int .i64 0,.bool false,.int .i64 0,.string ⟨#[]⟩,.slice none 0 0,.slice none 0 0,.slice none 0 0,.slice none 0 0,.int .i64 0,.int .i64 0,.string ⟨#[]⟩,.slice none 0 0],.string ⟨#[]⟩],[]⟩).memory:=
 laidMet_of_run' 8 (by kernel_rfl) (by kernel_rfl)
theorem reads (os:Os) {H:Type} (enc:TypeId×Value→H):∃ places,DataW.whole enc Tryz.prog ((rC os).forCall (fun _ _=>0) ⟨#[],#[.agg #[.string ⟨#[]⟩,.string ⟨#[]⟩,.string ⟨#[]⟩,.bool false,.string ⟨#[]⟩,.int .i64 0,.bool false,.int .i64 0,.string ⟨#[]⟩,.slice none 0 0,.slice none 0 0,.slice none 0 0,.slice none 0 0,.int .i64 0,.int .i64 0,.string ⟨#[]⟩,.slice none 0 0],.string ⟨#[]⟩],[]⟩).memory Tryz.f12.params.toList Rows.eventBackSpec.vars false (#[.agg #[.string ⟨#[]⟩,.string ⟨#[]⟩,.string ⟨#[]⟩,.bool false,.string ⟨#[]⟩,.int .i64 0,.bool false,.int .i64 0,.string ⟨#[]⟩,.slice none 0 0,.slice none 0 0,.slice none 0 0,.slice none 0 0,.int .i64 0,.int .i64 0,.string ⟨#[]⟩,.slice none 0 0],.string ⟨#[]⟩]:Array Value).toList 8=some ([.agg [.lit (.string []),.lit (.string []),.lit (.string []),.lit (.bool false),.lit (.string []),.agg [.lit (.int .i64 0),.lit (.bool false),.lit (.int .i64 0),.lit (.string []),.nil,.nil],.nil,.nil,.lit (.int .i64 0),.lit (.int .i64 0),.lit (.string []),.nil],.lit (.string [])],[],places):=
 ⟨[],by kernel_rfl⟩
set_option maxRecDepth 100000 in
theorem lifted (os:Os) (started:os.Started) (H:Type) (enc:TypeId×Value→H) (F:Stop.Interp) :
  ReturnsInHanded {} Tryz.checked os 12 .any ((OpenSpec.ofChange Rows.eventBackSpec).preRow enc Tryz.prog Tryz.f12 Rows.eventBackRow.domain false Rows.eventBackRow.laid) (((OpenSpec.ofChange Rows.eventBackSpec).at F).post enc Tryz.prog Tryz.f12 false true false false):=by
 obtain⟨places,ab⟩:=reads os enc
 refine returnsInHanded_of_row (C:=Tryz.checked) (s:=OpenSpec.ofChange Rows.eventBackSpec) own started (by kernel_rfl) Tryz.func12
  (witness_row_at (enc:=enc) (C:=Tryz.checked) false (rC os) #[.agg #[.string ⟨#[]⟩,.string ⟨#[]⟩,.string ⟨#[]⟩,.bool false,.string ⟨#[]⟩,.int .i64 0,.bool false,.int .i64 0,.string ⟨#[]⟩,.slice none 0 0,.slice none 0 0,.slice none 0 0,.slice none 0 0,.int .i64 0,.int .i64 0,.string ⟨#[]⟩,.slice none 0 0],.string ⟨#[]⟩] rfl (by kernel_rfl) (by kernel_rfl) (by kernel_rfl)
   (OpenSpec.preRow_of_cond 8 ab (by kernel_rfl) (fun k hk=>by cases hk) (by kernel_rfl) (Ij os))) ?_
 intro W base args ds gs before yS hp _ _ hm nn UJ _
 exact contract H enc W base args ds gs before yS hp hm nn UJ
theorem agW:Tryz.pinned.checked.prog.inPlace 12=Rows.eventBackRow.inPlace:=by kernel_rfl
theorem agX:Tryz.pinned.checked.prog.unfollowed 12=Rows.eventBackRow.unfollowed:=by kernel_rfl
theorem agY:Tryz.pinned.checked.prog.recurses 12=Rows.eventBackRow.recurses:=by kernel_rfl
theorem agZ:Tryz.pinned.checked.prog.varsNamed 12=Rows.eventBackRow.named:=by kernel_rfl
theorem ag0:laidOutB Tryz.pinned.checked.prog=true:=by kernel_rfl
theorem ag1:mapsRowed Tryz.pinned.checked.prog=true:=by kernel_rfl
theorem ag2:Tryz.pinned.checked.prog.stopsHeard=true:=by kernel_rfl
theorem ag3:Tryz.pinned.checked.prog.mayEnter=true:=by kernel_rfl
theorem ag4:Tryz.pinned.checked.prog.liftsFinal=Rows.eventBackRow.lifted:=by kernel_rfl
theorem closed:joinedFacts Tryz.pinned.checked.prog 12 Tryz.f12 (OpenSpec.ofChange Rows.eventBackSpec).bare Rows.eventBackRow=true:=by
 unfold joinedFacts;rw [agW,agX,agY,agZ,ag0,ag1,ag2,ag3,ag4]
 kernel_rfl
theorem UO:Tryz.f12.isInstance Tryz.pinned.checked.prog Rows.eventBackRow.origin Rows.eventBackRow.targs:=of_decide_eq_true (by kernel_rfl)
theorem UP:Tryz.f12.isWrapper Tryz.pinned.checked.prog Rows.eventBackRow.wrapper Rows.eventBackRow.mainSum:=by unfold Func.isWrapper;first | (rw [if_pos (by decide +kernel)];kernel_rfl) | (rw [if_neg (by decide +kernel)];exact⟨rfl,rfl⟩)
theorem Qd:Tryz.pinned.checked.prog.funcNamed Rows.eventBackRow.func=some 12:=by kernel_rfl
theorem said:Rows.EventBackSaid:=
 OpenClaim.holds_of_cond 12 Tryz.f12 rfl rfl rfl rfl rfl rfl rfl ⟨rfl,rfl,rfl,rfl,rfl⟩ rfl rfl rfl rfl rfl Qd Tryz.func12 closed UO UP
  (fun os started H enc _ F=>by rw [OpenClaim.pre_eq_preRow];exact lifted os started H enc F)
theorem plain (f:FuncId) (fn:Func) (dm:Tryz.pinned.checked.prog.funcNamed "hustings/hustingslaw11.EventBack" = some f) (ag5:Tryz.pinned.checked.prog.funcs[f]? = some fn) :
  true=Tryz.pinned.checked.prog.looks []∧∀ (j:Nat) t,fn.params[j]? = some t→Tryz.pinned.checked.prog.wantsStandIn t=false:=by
 obtain rfl:f=12:=Option.some.inj ((show Tryz.prog.funcNamed "hustings/hustingslaw11.EventBack" = some 12 by kernel_rfl).symm.trans dm) |>.symm
 obtain rfl:fn=Tryz.f12:=(Option.some.inj (Tryz.func12.symm.trans ag5)).symm
 refine⟨by kernel_rfl,fun j t bQ=>?_⟩
 rw [Tryz.params12] at bQ
 have hm:=Array.mem_of_getElem? bQ
 simp at hm
 rcases hm with rfl | rfl
 ·exact(show Tryz.prog.wantsStandIn 29=false by kernel_rfl)
 exact(show Tryz.prog.wantsStandIn 9=false by kernel_rfl)
theorem Td:Rows.EventBackCardSaid:=
 Claim7.holds_tied_plain_at .later [] _ _ _ _ said (fun _ h=>by cases h) (by kernel_rfl) (fun _ h=>by cases h) eventBack_row_tie rfl ⟨rfl,rfl⟩ (by kernel_rfl) rfl plain (by kernel_rfl)
end Go.Proofs.YtnihidkbkhcfoaaGreatDoor.V.EventBack
namespace Go.Proofs.YtnihidkbkhcfoaaGreatDoor
theorem eventBackCard_holds:Rows.EventBackCardSaid:=Go.Proofs.YtnihidkbkhcfoaaGreatDoor.V.EventBack.Td
end Go.Proofs.YtnihidkbkhcfoaaGreatDoor
