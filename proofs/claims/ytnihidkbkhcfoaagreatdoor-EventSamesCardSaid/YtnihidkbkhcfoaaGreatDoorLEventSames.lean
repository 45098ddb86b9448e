/-
  Proved: the law EventSames answers true at every input, and each argument reads afterwards as it read before. No condition beside the given statement's own.
-/
import Derived.Test.YtnihidkbkhcfoaaGreatDoorM13
import Derived.Test.YtnihidkbkhcfoaaGreatDoorM15
import Derived.Test.YtnihidkbkhcfoaaGreatDoorRows
import Derived.OpenShut
import Derived.Deep.DeepHandedRow
import Derived.Test.YtnihidkbkhcfoaaGreatDoorCards
import Derived.Test.YtnihidkbkhcfoaaGreatDoorTie
import Derived.Lib.LaidTab
set_option linter.unusedVariables false
set_option linter.unusedSimpArgs false
namespace Go.Proofs.YtnihidkbkhcfoaaGreatDoor.V.EventSames
open Go Go.Proofs Go.Proofs.YtnihidkbkhcfoaaGreatDoor Go.ChangeShapes Go.WideShapes Go.RowKit
section
variable {H:Type} {enc:TypeId×Value→H} {w:World}
end
theorem laid:laidOutB Tryz.prog=true:=by kernel_rfl
theorem own:ownKnob Tryz.prog.godebug=none:=by kernel_rfl
set_option maxRecDepth 100000 in
theorem contract (H:Type) (enc:TypeId×Value→H) (W:World) (base:Nat) (args:Array Value) (ds gs:List (DataW H)) (before:List MemPlace)
  (qc:∀ (j:Nat) t v,Tryz.f13.params[j]? = some t→args[j]? = some v→Value.okWide Tryz.prog W .any base t v)
  (hh:DataW.Whole enc Tryz.prog Tryz.f13.params.toList Rows.eventSamesSpec.vars false W args.toList ds gs before)
  (hm:(DataW.weightsEach Tryz.prog (Tryz.f13.params.toList++(OpenSpec.ofChange Rows.eventSamesSpec).bare.plain.varTypes Tryz.prog) (ds++gs)).all (·≤reachBytes)=true) (pc:laidMetH Tryz.prog Rows.eventSamesRow.laid W) (ab2:W.ShapedOpen Tryz.prog) :
  Calls Tryz.prog 13 args W fun e aaw=>∃ v,e = .returned v∧Rows.eventSamesSpec.post enc Tryz.prog Tryz.f13 false true false false W args v aaw:=by
 have akP:=hh
 obtain⟨p,q,agJ,pk,rfl,akQ,IL⟩:=hh
 have dF:DataW.TrodAll enc Tryz.prog W 0 (fun _=>true) true Tryz.f13.params.toList args.toList ds p:=agJ
 rw [Tryz.params13] at dF qc hm
 obtain⟨v0,aqS,d0,aqT,ash,ajT,ab3,rfl,rfl,b3,aax⟩:=trodAll_cons dF
 obtain⟨v1,akR,d1,akS,MS,qL,rfl,rfl,rfl,h1,r1⟩:=trodAll_cons aax
 obtain⟨rfl,rfl,rfl⟩:=trodAll_nil r1
 obtain rfl:args = #[v0,v1]:=Array.toList_inj.1 ab3
 obtain⟨rfl,rfl⟩:=trodVars_none pk
 obtain⟨ab4,b3⟩:=b3
 have akT:∀ m∈d0.weights Tryz.prog 29,m≤reachBytes:=fun m y9=>by
  have:=List.all_eq_true.1 hm m (by simp [DataW.weightsEach,y9])
  simpa using this
 obtain⟨ab5,h1⟩:=h1
 have nu:∀ m∈d1.weights Tryz.prog 29,m≤reachBytes:=fun m y9=>by
  have:=List.all_eq_true.1 hm m (by simp [DataW.weightsEach,y9])
  simpa using this
 clear hm
 obtain⟨agK,rfl,_⟩:=okWide_struct Tryz.underlying29 (qc 0 29 v0 rfl rfl)
 obtain⟨e,agL,s0⟩:=Ld ab4 _ _ b3 akT
 obtain⟨eE,rfl,_⟩:=okWide_struct Tryz.underlying29 (qc 1 29 v1 rfl rfl)
 obtain⟨d,agM,Ip⟩:=Ld ab5 _ _ h1 nu
 obtain⟨akU,rfl⟩:∃ us:List Value,agK=us.toArray:=⟨agK.toList,by simp⟩
 simp only [Value.cells] at agL
 obtain⟨Qt,rfl⟩:∃ us:List Value,eE=us.toArray:=⟨eE.toList,by simp⟩
 simp only [Value.cells] at agM
 have e4:Env W:=ab1 pc
 have eY:iK W:=iK.Qd ab2
 refine(Br W e d akU Qt agL agM s0 Ip e4 eY).mono fun e W1 he=>?_
 cases e with
 | returned v=>
  obtain⟨rfl,k⟩:=he
  exact⟨_,rfl,IM laid (by rfl) (by kernel_rfl) Tryz.underlying4 (by kernel_rfl) (by rfl) akP k⟩
 | _=>exact he.elim
noncomputable def tJ (os:Os):World:=
 {(World.holding Tryz.prog os ⟨#[],#[],[]⟩)with heap:=((((((((World.holding Tryz.prog os ⟨#[],#[],[]⟩).heap.modify 7 (fun
   | .cells _ t frozen=>.cells #[.int .u8 0,.int .u8 1,.int .u8 28,.int .u8 2,.int .u8 29,.int .u8 14,.int .u8 24,.int .u8 3,.int .u8 30,.int .u8 22,.int .u8 20,.int .u8 15,.int .u8 25,.int .u8 17,.int .u8 4,.int .u8 8,.int .u8 31,.int .u8 27,.int .u8 13,.int .u8 23,.int .u8 21,.int .u8 19,.int .u8 16,.int .u8 7,.int .u8 26,.int .u8 12,.int .u8 18,.int .u8 6,.int .u8 11,.int .u8 5,.int .u8 10,.int .u8 9] t frozen
   | o=>o)).modify 8 (fun
   | .cells _ t frozen=>.cells #[.int .u8 0,.int .u8 1,.int .u8 56,.int .u8 2,.int .u8 57,.int .u8 49,.int .u8 28,.int .u8 3,.int .u8 61,.int .u8 58,.int .u8 42,.int .u8 50,.int .u8 38,.int .u8 29,.int .u8 17,.int .u8 4,.int .u8 62,.int .u8 47,.int .u8 59,.int .u8 36,.int .u8 45,.int .u8 43,.int .u8 51,.int .u8 22,.int .u8 53,.int .u8 39,.int .u8 33,.int .u8 30,.int .u8 24,.int .u8 18,.int .u8 12,.int .u8 5,.int .u8 63,.int .u8 55,.int .u8 48,.int .u8 27,.int .u8 60,.int .u8 41,.int .u8 37,.int .u8 16,.int .u8 46,.int .u8 35,.int .u8 44,.int .u8 21,.int .u8 52,.int .u8 32,.int .u8 23,.int .u8 11,.int .u8 54,.int .u8 26,.int .u8 40,.int .u8 15,.int .u8 34,.int .u8 20,.int .u8 31,.int .u8 10,.int .u8 25,.int .u8 14,.int .u8 19,.int .u8 9,.int .u8 13,.int .u8 8,.int .u8 7,.int .u8 6] t frozen
   | o=>o)).modify 4 (fun
   | .cells _ t frozen=>.cells #[.int .u64 1,.int .u64 10,.int .u64 100,.int .u64 1000,.int .u64 10000,.int .u64 100000,.int .u64 1000000,.int .u64 10000000,.int .u64 100000000,.int .u64 1000000000,.int .u64 10000000000,.int .u64 100000000000,.int .u64 1000000000000,.int .u64 10000000000000,.int .u64 100000000000000,.int .u64 1000000000000000,.int .u64 10000000000000000,.int .u64 100000000000000000,.int .u64 1000000000000000000,.int .u64 10000000000000000000] t frozen
   | o=>o)).modify 6 (fun
   | .cells _ t frozen=>.cells #[.int .u8 128,.int .u8 191,.int .u8 160,.int .u8 191,.int .u8 128,.int .u8 159,.int .u8 144,.int .u8 191,.int .u8 128,.int .u8 143,.int .u8 0,.int .u8 0,.int .u8 0,.int .u8 0,.int .u8 0,.int .u8 0,.int .u8 0,.int .u8 0,.int .u8 0,.int .u8 0,.int .u8 0,.int .u8 0,.int .u8 0,.int .u8 0,.int .u8 0,.int .u8 0,.int .u8 0,.int .u8 0,.int .u8 0,.int .u8 0,.int .u8 0,.int .u8 0] t frozen
   | o=>o)).modify 3 (fun
   | .cells _ t frozen=>.cells #[.iface 262 (.pointer (some ⟨14,0,none⟩))] t frozen
   | o=>o)).modify 2 (fun
   | .cells _ t frozen=>.cells #[.iface 262 (.pointer (some ⟨15,0,none⟩))] t frozen
   | o=>o)).modify 5 (fun
   | .cells _ t frozen=>.cells #[.int .u8 240,.int .u8 240,.int .u8 240,.int .u8 240,.int .u8 240,.int .u8 240,.int .u8 240,.int .u8 240,.int .u8 240,.int .u8 240,.int .u8 240,.int .u8 240,.int .u8 240,.int .u8 240,.int .u8 240,.int .u8 240,.int .u8 240,.int .u8 240,.int .u8 240,.int .u8 240,.int .u8 240,.int .u8 240,.int .u8 240,.int .u8 240,.int .u8 240,.int .u8 240,.int .u8 240,.int .u8 240,.int .u8 240,.int .u8 240,.int .u8 240,.int .u8 240,.int .u8 240,.int .u8 240,.int .u8 240,.int .u8 240,.int .u8 240,.int .u8 240,.int .u8 240,.int .u8 240,.int .u8 240,.int .u8 240,.int .u8 240,.int .u8 240,.int .u8 240,.int .u8 240,.int .u8 240,.int .u8 240,.int .u8 240,.int .u8 240,.int .u8 240,.int .u8 240,.int .u8 240,.int .u8 240,.int .u8 240,.int .u8 240,.int .u8 240,.int .u8 240,.int .u8 240,.int .u8 240,.int .u8 240,.int .u8 240,.int .u8 240,.int .u8 240,.int .u8 240,.int .u8 240,.int .u8 240,.int .u8 240,.int .u8 240,.int .u8 240,.int .u8 240,.int .u8 240,.int .u8 240,.int .u8 240,.int .u8 240,.int .u8 240,.int .u8 240,.int .u8 240,.int .u8 240,.int .u8 240,.int .u8 240,.int .u8 240,.int .u8 240,.int .u8 240,.int .u8 240,.int .u8 240,.int .u8 240,.int .u8 240,.int .u8 240,.int .u8 240,.int .u8 240,.int .u8 240,.int .u8 240,.int .u8 240,.int .u8 240,.int .u8 240,.int .u8 240,.int .u8 240,.int .u8 240,.int .u8 240,.int .u8 240,.int .u8 240,.int .u8 240,.int .u8 240,.int .u8 240,.int .u8 240,.int .u8 240,.int .u8 240,.int .u8 240,.int .u8 240,.int .u8 240,.int .u8 240,.int .u8 240,.int .u8 240,.int .u8 240,.int .u8 240,.int .u8 240,.int .u8 240,.int .u8 240,.int .u8 240,.int .u8 240,.int .u8 240,.int .u8 240,.int .u8 240,.int .u8 240,.int .u8 240,.int .u8 240,.int .u8 240,.int .u8 241,.int .u8 241,.int .u8 241,.int .u8 241,.int .u8 241,.int .u8 241,.int .u8 241,.int .u8 241,.int .u8 241,.int .u8 241,.int .u8 241,.int .u8 241,.int .u8 241,.int .u8 241,.int .u8 241,.int .u8 241,.int .u8 241,.int .u8 241,.int .u8 241,.int .u8 241,.int .u8 241,.int .u8 241,.int .u8 241,.int .u8 241,.int .u8 241,.int .u8 241,.int .u8 241,.int .u8 241,.int .u8 241,.int .u8 241,.int .u8 241,.int .u8 241,.int .u8 241,.int .u8 241,.int .u8 241,.int .u8 241,.int .u8 241,.int .u8 241,.int .u8 241,.int .u8 241,.int .u8 241,.int .u8 241,.int .u8 241,.int .u8 241,.int .u8 241,.int .u8 241,.int .u8 241,.int .u8 241,.int .u8 241,.int .u8 241,.int .u8 241,.int .u8 241,.int .u8 241,.int .u8 241,.int .u8 241,.int .u8 241,.int .u8 241,.int .u8 241,.int .u8 241,.int .u8 241,.int .u8 241,.int .u8 241,.int .u8 241,.int .u8 241,.int .u8 241,.int .u8 241,.int .u8 2,.int .u8 2,.int .u8 2,.int .u8 2,.int .u8 2,.int .u8 2,.int .u8 2,.int .u8 2,.int .u8 2,.int .u8 2,.int .u8 2,.int .u8 2,.int .u8 2,.int .u8 2,.int .u8 2,.int .u8 2,.int .u8 2,.int .u8 2,.int .u8 2,.int .u8 2,.int .u8 2,.int .u8 2,.int .u8 2,.int .u8 2,.int .u8 2,.int .u8 2,.int .u8 2,.int .u8 2,.int .u8 2,.int .u8 2,.int .u8 19,.int .u8 3,.int .u8 3,.int .u8 3,.int .u8 3,.int .u8 3,.int .u8 3,.int .u8 3,.int .u8 3,.int .u8 3,.int .u8 3,.int .u8 3,.int .u8 3,.int .u8 35,.int .u8 3,.int .u8 3,.int .u8 52,.int .u8 4,.int .u8 4,.int .u8 4,.int .u8 68,.int .u8 241,.int .u8 241,.int .u8 241,.int .u8 241,.int .u8 241,.int .u8 241,.int .u8 241,.int .u8 241,.int .u8 241,.int .u8 241,.int .u8 241] t frozen
   | o=>o)) ++ #[.cells #[.string ⟨#[118,97,108,117,101,32,111,117,116,32,111,102,32,114,97,110,103,101]⟩] 264 (0,0),.cells #[.string ⟨#[105,110,118,97,108,105,100,32,115,121,110,116,97,120]⟩] 264 (0,0)]}
theorem MT (os:Os):laidMet Tryz.prog Rows.eventSamesRow.laid ((tJ os).forCall (fun _ _=>0) ⟨#[],#[.agg #[.string ⟨#[]⟩,.string ⟨#[]⟩,.string ⟨#[]⟩,.bool false,.string ⟨#[]⟩,.int .i64 0,.bool false,.int .i64 0,.string ⟨#[]⟩,.slice none 0 0,.slice none 0 0,.slice none 0 0,.slice none 0 0,.int .i64 0,.int .i64 0,.string ⟨#[]⟩,.slice none 0 0],.agg #[.string ⟨#[]⟩,.string ⟨#[]⟩,.string ⟨#[]⟩,.bool false,.string ⟨#[]⟩,.int .i64 0,.bool false,.int .i64 0,.string ⟨#[]⟩,.slice none 0 0,.slice none 0 0,.slice none 0 0,.slice none 0 0,.int .i64 0,.int .i64 0,.string ⟨#[]⟩,.slice none 0 0]],[]⟩).memory:=
 laidMet_of_run' 8 (by kernel_rfl) (by kernel_rfl)
theorem reads (os:Os) {H:Type} (enc:TypeId×Value→H):∃ places,DataW.whole enc Tryz.prog ((tJ os).forCall (fun _ _=>0) ⟨#[],#[.agg #[.string ⟨#[]⟩,.string ⟨#[]⟩,.string ⟨#[]⟩,.bool false,.string ⟨#[]⟩,.int .i64 0,.bool false,.int .i64 0,.string ⟨#[]⟩,.slice none 0 0,.slice none 0 0,.slice none 0 0,.slice none 0 0,.int .i64 0,.int .i64 0,.string ⟨#[]⟩,.slice none 0 0],.agg #[.string ⟨#[]⟩,.string ⟨#[]⟩,.string ⟨#[]⟩,.bool false,.string ⟨#[]⟩,.int .i64 0,.bool false,.int .i64 0,.string ⟨#[]⟩,.slice none 0 0,.slice none 0 0,.slice none 0 0,.slice none 0 0,.int .i64 0,.int .i64 0,.string ⟨#[]⟩,.slice none 0 0]],[]⟩).memory Tryz.f13.params.toList Rows.eventSamesSpec.vars false (#[.agg #[.string ⟨#[]⟩,.string ⟨#[]⟩,.string ⟨#[]⟩,.bool false,.string ⟨#[]⟩,.int .i64 0,.bool false,.int .i64 0,.string ⟨#[]⟩,.slice none 0 0,.slice none 0 0,.slice none 0 0,.slice none 0 0,.int .i64 0,.int .i64 0,.string ⟨#[]⟩,.slice none 0 0],.agg #[.string ⟨#[]⟩,.string ⟨#[]⟩,.string ⟨#[]⟩,.bool false,.string ⟨#[]⟩,.int .i64 0,.bool false,.int .i64 0,.string ⟨#[]⟩,.slice none 0 0,.slice none 0 0,.slice none 0 0,.slice none 0 0,.int .i64 0,.int .i64 0,.string ⟨#[]⟩,.slice none 0 0]]:Array Value).toList 8=some ([.agg [.lit (.string []),.lit (.string []),.lit (.string []),.lit (.bool false),.lit (.string []),.agg [.lit (.int .i64 0),.lit (.bool false),.lit (.int .i64 0),.lit (.string []),.nil,.nil],.nil,.nil,.lit (.int .i64 0),.lit (.int .i64 0),.lit (.string []),.nil],.agg [.lit (.string []),.lit (.string []),.lit (.string []),.lit (.bool false),.lit (.string []),.agg [.lit (.int .i64 0),.lit (.bool false),.lit (.int .i64 0),.lit (.string []),.nil,.nil],.nil,.nil,.lit (.int .i64 0),.lit (.int .i64 0),.lit (.string []),.nil]],[],places):=
 ⟨[],by kernel_rfl⟩
set_option maxRecDepth 100000 in
theorem lifted (os:Os) (started:os.Started) (H:Type) (enc:TypeId×Value→H) (F:Stop.Interp) :
  ReturnsInHanded {} Tryz.checked os 13 .any ((OpenSpec.ofChange Rows.eventSamesSpec).preRow enc Tryz.prog Tryz.f13 Rows.eventSamesRow.domain false Rows.eventSamesRow.laid) (((OpenSpec.ofChange Rows.eventSamesSpec).at F).post enc Tryz.prog Tryz.f13 false true false false):=by
 obtain⟨places,ae⟩:=reads os enc
 refine returnsInHanded_of_row (C:=Tryz.checked) (s:=OpenSpec.ofChange Rows.eventSamesSpec) own started (by kernel_rfl) Tryz.func13
  (witness_row_at (enc:=enc) (C:=Tryz.checked) false (tJ os) #[.agg #[.string ⟨#[]⟩,.string ⟨#[]⟩,.string ⟨#[]⟩,.bool false,.string ⟨#[]⟩,.int .i64 0,.bool false,.int .i64 0,.string ⟨#[]⟩,.slice none 0 0,.slice none 0 0,.slice none 0 0,.slice none 0 0,.int .i64 0,.int .i64 0,.string ⟨#[]⟩,.slice none 0 0],.agg #[.string ⟨#[]⟩,.string ⟨#[]⟩,.string ⟨#[]⟩,.bool false,.string ⟨#[]⟩,.int .i64 0,.bool false,.int .i64 0,.string ⟨#[]⟩,.slice none 0 0,.slice none 0 0,.slice none 0 0,.slice none 0 0,.int .i64 0,.int .i64 0,.string ⟨#[]⟩,.slice none 0 0]] rfl (by kernel_rfl) (by kernel_rfl) (by kernel_rfl)
   (OpenSpec.preRow_of_cond 8 ae (by kernel_rfl) (fun k hk=>by cases hk) (by kernel_rfl) (MT os))) ?_
 intro W base args ds gs before qc hh _ _ hm pc ab2 _
 exact contract H enc W base args ds gs before qc hh hm pc ab2
theorem akV:Tryz.pinned.checked.prog.inPlace 13=Rows.eventSamesRow.inPlace:=by kernel_rfl
theorem akW:Tryz.pinned.checked.prog.unfollowed 13=Rows.eventSamesRow.unfollowed:=by kernel_rfl
theorem akX:Tryz.pinned.checked.prog.recurses 13=Rows.eventSamesRow.recurses:=by kernel_rfl
theorem akY:Tryz.pinned.checked.prog.varsNamed 13=Rows.eventSamesRow.named:=by kernel_rfl
theorem akZ:laidOutB Tryz.pinned.checked.prog=true:=by kernel_rfl
theorem ak0:mapsRowed Tryz.pinned.checked.prog=true:=by kernel_rfl
theorem ak1:Tryz.pinned.checked.prog.stopsHeard=true:=by kernel_rfl
theorem ak2:Tryz.pinned.checked.prog.mayEnter=true:=by kernel_rfl
theorem ak3:Tryz.pinned.checked.prog.liftsFinal=Rows.eventSamesRow.lifted:=by kernel_rfl
theorem closed:joinedFacts Tryz.pinned.checked.prog 13 Tryz.f13 (OpenSpec.ofChange Rows.eventSamesSpec).bare Rows.eventSamesRow=true:=by
 unfold joinedFacts;rw [akV,akW,akX,akY,akZ,ak0,ak1,ak2,ak3]
 kernel_rfl
theorem ab6:Tryz.f13.isInstance Tryz.pinned.checked.prog Rows.eventSamesRow.origin Rows.eventSamesRow.targs:=of_decide_eq_true (by kernel_rfl)
theorem ab7:Tryz.f13.isWrapper Tryz.pinned.checked.prog Rows.eventSamesRow.wrapper Rows.eventSamesRow.mainSum:=by unfold Func.isWrapper;first | (rw [if_pos (by decide +kernel)];kernel_rfl) | (rw [if_neg (by decide +kernel)];exact⟨rfl,rfl⟩)
theorem WZ:Tryz.pinned.checked.prog.funcNamed Rows.eventSamesRow.func=some 13:=by kernel_rfl
theorem said:Rows.EventSamesSaid:=
 OpenClaim.holds_of_cond 13 Tryz.f13 rfl rfl rfl rfl rfl rfl rfl ⟨rfl,rfl,rfl,rfl,rfl⟩ rfl rfl rfl rfl rfl WZ Tryz.func13 closed ab6 ab7
  (fun os started H enc _ F=>by rw [OpenClaim.pre_eq_preRow];exact lifted os started H enc F)
theorem plain (f:FuncId) (fn:Func) (dI:Tryz.pinned.checked.prog.funcNamed "hustings/hustingslaw11.EventSames" = some f) (ak4:Tryz.pinned.checked.prog.funcs[f]? = some fn) :
  true=Tryz.pinned.checked.prog.looks []∧∀ (j:Nat) t,fn.params[j]? = some t→Tryz.pinned.checked.prog.wantsStandIn t=false:=by
 obtain rfl:f=13:=Option.some.inj ((show Tryz.prog.funcNamed "hustings/hustingslaw11.EventSames" = some 13 by kernel_rfl).symm.trans dI) |>.symm
 obtain rfl:fn=Tryz.f13:=(Option.some.inj (Tryz.func13.symm.trans ak4)).symm
 refine⟨by kernel_rfl,fun j t cf=>?_⟩
 rw [Tryz.params13] at cf
 have hm:=Array.mem_of_getElem? cf
 simp at hm
 rcases hm with rfl
 ·exact(show Tryz.prog.wantsStandIn 29=false by kernel_rfl)
theorem aay:Rows.EventSamesCardSaid:=
 Claim7.holds_tied_plain_at .later [] _ _ _ _ said (fun _ h=>by cases h) (by kernel_rfl) (fun _ h=>by cases h) eventSames_row_tie rfl ⟨rfl,rfl⟩ (by kernel_rfl) rfl plain (by kernel_rfl)
end Go.Proofs.YtnihidkbkhcfoaaGreatDoor.V.EventSames
namespace Go.Proofs.YtnihidkbkhcfoaaGreatDoor
theorem eventSamesCard_holds:Rows.EventSamesCardSaid:=Go.Proofs.YtnihidkbkhcfoaaGreatDoor.V.EventSames.aay
end Go.Proofs.YtnihidkbkhcfoaaGreatDoor
