/-
  Proved: the law EventReads answers true at every input, and each argument reads afterwards as it read before. No condition beside the given statement's own.
-/
import Derived.Test.YtkjgljnkocnnpaaGreatDoorM11
import Derived.Test.YtkjgljnkocnnpaaGreatDoorM15
import Derived.Test.YtkjgljnkocnnpaaGreatDoorRows
import Derived.OpenShut
import Derived.Deep.DeepHandedRow
import Derived.Test.YtkjgljnkocnnpaaGreatDoorCards
import Derived.Test.YtkjgljnkocnnpaaGreatDoorTie
import Derived.Lib.LaidTab
set_option linter.all false
namespace Go.Proofs.YtkjgljnkocnnpaaGreatDoor.V.EventReads
open Go Go.Proofs Go.Proofs.YtkjgljnkocnnpaaGreatDoor Go.ChangeShapes Go.WideShapes Go.RowKit
section
variable {H:Type} {enc:TypeId×Value→H} {w:World}
end
theorem laid:laidOutB Tryz.prog=true:=by kernel_rfl
theorem own:ownKnob Tryz.prog.godebug=none:=by kernel_rfl
set_option maxRecDepth 100000 in
theorem contract (H:Type) (enc:TypeId×Value→H) (W:World) (base:Nat) (args:Array Value) (ds gs:List (DataW H)) (before:List MemPlace)
  (q7:∀ (j:Nat) t v,Tryz.f4.params[j]? = some t→args[j]? = some v→Value.okWide Tryz.prog W .any base t v)
  (hI:DataW.Whole enc Tryz.prog Tryz.f4.params.toList Rows.eventReadsSpec.vars false W args.toList ds gs before)
  (hm:(DataW.weightsEach Tryz.prog (Tryz.f4.params.toList++(OpenSpec.ofChange Rows.eventReadsSpec).bare.plain.varTypes Tryz.prog) (ds++gs)).all (·≤reachBytes)=true) (pS:laidMetH Tryz.prog Rows.eventReadsRow.laid W) (ags:W.ShapedOpen Tryz.prog) :
  Calls Tryz.prog 4 args W fun e aeT=>∃ v,e = .returned v∧Rows.eventReadsSpec.post enc Tryz.prog Tryz.f4 false true false false W args v aeT:=by
 have al0:=hI
 obtain⟨p,q,al1,qW,rfl,arC,Mf⟩:=hI
 have dy:DataW.TrodAll enc Tryz.prog W 0 (fun _=>true) true Tryz.f4.params.toList args.toList ds p:=al1
 rw [Tryz.params4] at dy q7 hm
 obtain⟨v0,azr,d0,azs,aBe,aBf,UH,rfl,rfl,cg,aeU⟩:=trodAll_cons dy
 obtain⟨v1,arD,d1,arE,Gv,nc,rfl,rfl,rfl,h1,r1⟩:=trodAll_cons aeU
 obtain⟨rfl,rfl,rfl⟩:=trodAll_nil r1
 obtain rfl:args = #[v0,v1]:=Array.toList_inj.1 UH
 obtain⟨rfl,rfl⟩:=trodVars_none qW
 obtain⟨agt,cg⟩:=cg
 have arF:∀ m∈d0.weights Tryz.prog 25,m≤reachBytes:=fun m BI=>by
  have:=List.all_eq_true.1 hm m (by simp [DataW.weightsEach,BI])
  simpa using this
 obtain⟨agu,h1⟩:=h1
 have qu:∀ m∈d1.weights Tryz.prog 9,m≤reachBytes:=fun m BI=>by
  have:=List.all_eq_true.1 hm m (by simp [DataW.weightsEach,BI])
  simpa using this
 clear hm
 obtain⟨al2,rfl,_⟩:=okWide_struct Tryz.underlying25 (q7 0 25 v0 rfl rfl)
 obtain⟨v,al3,vP⟩:=ace agt _ _ cg arF
 obtain⟨dN,rfl⟩:=okWide_string Tryz.underlying9 (q7 1 9 v1 rfl rfl)
 obtain⟨s,agv,P1⟩:=BJ Tryz.underlying9 (n:=agu) _ _ h1 qu
 obtain⟨u,us,hu,agv,agw⟩:=agv
 have al4:=bq.np agv
 simp only [Value.cells] at hu
 obtain⟨rfl,rfl⟩:=(List.cons.injEq ..).mp hu
 rw [al4] at q7 al0 h1 UH ⊢
 obtain⟨arG,rfl⟩:∃ us:List Value,al2=us.toArray:=⟨al2.toList,by simp⟩
 simp only [Value.cells] at al3
 have gR:Env W:=agr pS
 have eX:kv W:=kv.Uo ags
 refine(DH W v s arG al3 gR eX).mono fun e W1 he=>?_
 cases e with
 | returned v=>
  obtain⟨rfl,k⟩:=he
  exact⟨_,rfl,Mg laid (by rfl) (by kernel_rfl) Tryz.underlying4 (by kernel_rfl) (by rfl) al0 k⟩
 | _=>exact he.elim
noncomputable def vV (os:Os):World:=
 {(World.holding Tryz.prog os ⟨#[],#[],[]⟩)with heap:=((((((((World.holding Tryz.prog os ⟨#[],#[],[]⟩).heap.modify 6 (fun
   | .cells _ t frozen=>.cells #[.int .u8 0,.int .u8 1,.int .u8 28,.int .u8 2,.int .u8 29,.int .u8 14,.int .u8 24,.int .u8 3,.int .u8 30,.int .u8 22,.int .u8 20,.int .u8 15,.int .u8 25,.int .u8 17,.int .u8 4,.int .u8 8,.int .u8 31,.int .u8 27,.int .u8 13,.int .u8 23,.int .u8 21,.int .u8 19,.int .u8 16,.int .u8 7,.int .u8 26,.int .u8 12,.int .u8 18,.int .u8 6,.int .u8 11,.int .u8 5,.int .u8 10,.int .u8 9] t frozen
   | o=>o)).modify 7 (fun
   | .cells _ t frozen=>.cells #[.int .u8 0,.int .u8 1,.int .u8 56,.int .u8 2,.int .u8 57,.int .u8 49,.int .u8 28,.int .u8 3,.int .u8 61,.int .u8 58,.int .u8 42,.int .u8 50,.int .u8 38,.int .u8 29,.int .u8 17,.int .u8 4,.int .u8 62,.int .u8 47,.int .u8 59,.int .u8 36,.int .u8 45,.int .u8 43,.int .u8 51,.int .u8 22,.int .u8 53,.int .u8 39,.int .u8 33,.int .u8 30,.int .u8 24,.int .u8 18,.int .u8 12,.int .u8 5,.int .u8 63,.int .u8 55,.int .u8 48,.int .u8 27,.int .u8 60,.int .u8 41,.int .u8 37,.int .u8 16,.int .u8 46,.int .u8 35,.int .u8 44,.int .u8 21,.int .u8 52,.int .u8 32,.int .u8 23,.int .u8 11,.int .u8 54,.int .u8 26,.int .u8 40,.int .u8 15,.int .u8 34,.int .u8 20,.int .u8 31,.int .u8 10,.int .u8 25,.int .u8 14,.int .u8 19,.int .u8 9,.int .u8 13,.int .u8 8,.int .u8 7,.int .u8 6] t frozen
   | o=>o)).modify 1 (fun
   | .cells _ t frozen=>.cells #[.int .u64 1,.int .u64 10,.int .u64 100,.int .u64 1000,.int .u64 10000,.int .u64 100000,.int .u64 1000000,.int .u64 10000000,.int .u64 100000000,.int .u64 1000000000,.int .u64 10000000000,.int .u64 100000000000,.int .u64 1000000000000,.int .u64 10000000000000,.int .u64 100000000000000,.int .u64 1000000000000000,.int .u64 10000000000000000,.int .u64 100000000000000000,.int .u64 1000000000000000000,.int .u64 10000000000000000000] t frozen
   | o=>o)).modify 5 (fun
   | .cells _ t frozen=>.cells #[.int .u8 128,.int .u8 191,.int .u8 160,.int .u8 191,.int .u8 128,.int .u8 159,.int .u8 144,.int .u8 191,.int .u8 128,.int .u8 143,.int .u8 0,.int .u8 0,.int .u8 0,.int .u8 0,.int .u8 0,.int .u8 0,.int .u8 0,.int .u8 0,.int .u8 0,.int .u8 0,.int .u8 0,.int .u8 0,.int .u8 0,.int .u8 0,.int .u8 0,.int .u8 0,.int .u8 0,.int .u8 0,.int .u8 0,.int .u8 0,.int .u8 0,.int .u8 0] t frozen
   | o=>o)).modify 3 (fun
   | .cells _ t frozen=>.cells #[.iface 233 (.pointer (some ⟨13,0,none⟩))] t frozen
   | o=>o)).modify 2 (fun
   | .cells _ t frozen=>.cells #[.iface 233 (.pointer (some ⟨14,0,none⟩))] t frozen
   | o=>o)).modify 4 (fun
   | .cells _ t frozen=>.cells #[.int .u8 240,.int .u8 240,.int .u8 240,.int .u8 240,.int .u8 240,.int .u8 240,.int .u8 240,.int .u8 240,.int .u8 240,.int .u8 240,.int .u8 240,.int .u8 240,.int .u8 240,.int .u8 240,.int .u8 240,.int .u8 240,.int .u8 240,.int .u8 240,.int .u8 240,.int .u8 240,.int .u8 240,.int .u8 240,.int .u8 240,.int .u8 240,.int .u8 240,.int .u8 240,.int .u8 240,.int .u8 240,.int .u8 240,.int .u8 240,.int .u8 240,.int .u8 240,.int .u8 240,.int .u8 240,.int .u8 240,.int .u8 240,.int .u8 240,.int .u8 240,.int .u8 240,.int .u8 240,.int .u8 240,.int .u8 240,.int .u8 240,.int .u8 240,.int .u8 240,.int .u8 240,.int .u8 240,.int .u8 240,.int .u8 240,.int .u8 240,.int .u8 240,.int .u8 240,.int .u8 240,.int .u8 240,.int .u8 240,.int .u8 240,.int .u8 240,.int .u8 240,.int .u8 240,.int .u8 240,.int .u8 240,.int .u8 240,.int .u8 240,.int .u8 240,.int .u8 240,.int .u8 240,.int .u8 240,.int .u8 240,.int .u8 240,.int .u8 240,.int .u8 240,.int .u8 240,.int .u8 240,.int .u8 240,.int .u8 240,.int .u8 240,.int .u8 240,.int .u8 240,.int .u8 240,.int .u8 240,.int .u8 240,.int .u8 240,.int .u8 240,.int .u8 240,.int .u8 240,.int .u8 240,.int .u8 240,.int .u8 240,.int .u8 240,.int .u8 240,.int .u8 240,.int .u8 240,.int .u8 240,.int .u8 240,.int .u8 240,.int .u8 240,.int .u8 240,.int .u8 240,.int .u8 240,.int .u8 240,.int .u8 240,.int .u8 240,.int .u8 240,.int .u8 240,.int .u8 240,.int .u8 240,.int .u8 240,.int .u8 240,.int .u8 240,.int .u8 240,.int .u8 240,.int .u8 240,.int .u8 240,.int .u8 240,.int .u8 240,.int .u8 240,.int .u8 240,.int .u8 240,.int .u8 240,.int .u8 240,.int .u8 240,.int .u8 240,.int .u8 240,.int .u8 240,.int .u8 240,.int .u8 240,.int .u8 240,.int .u8 240,.int .u8 241,.int .u8 241,.int .u8 241,.int .u8 241,.int .u8 241,.int .u8 241,.int .u8 241,.int .u8 241,.int .u8 241,.int .u8 241,.int .u8 241,.int .u8 241,.int .u8 241,.int .u8 241,.int .u8 241,.int .u8 241,.int .u8 241,.int .u8 241,.int .u8 241,.int .u8 241,.int .u8 241,.int .u8 241,.int .u8 241,.int .u8 241,.int .u8 241,.int .u8 241,.int .u8 241,.int .u8 241,.int .u8 241,.int .u8 241,.int .u8 241,.int .u8 241,.int .u8 241,.int .u8 241,.int .u8 241,.int .u8 241,.int .u8 241,.int .u8 241,.int .u8 241,.int .u8 241,.int .u8 241,.int .u8 241,.int .u8 241,.int .u8 241,.int .u8 241,.int .u8 241,.int .u8 241,.int .u8 241,.int .u8 241,.int .u8 241,.int .u8 241,.int .u8 241,.int .u8 241,.int .u8 241,.int .u8 241,.int .u8 241,.int .u8 241,.int .u8 241,.int .u8 241,.int .u8 241,.int .u8 241,.int .u8 241,.int .u8 241,.int .u8 241,.int .u8 241,.int .u8 241,.int .u8 2,.int .u8 2,.int .u8 2,.int .u8 2,.int .u8 2,.int .u8 2,.int .u8 2,.int .u8 2,.int .u8 2,.int .u8 2,.int .u8 2,.int .u8 2,.int .u8 2,.int .u8 2,.int .u8 2,.int .u8 2,.int .u8 2,.int .u8 2,.int .u8 2,.int .u8 2,.int .u8 2,.int .u8 2,.int .u8 2,.int .u8 2,.int .u8 2,.int .u8 2,.int .u8 2,.int .u8 2,.int .u8 2,.int .u8 2,.int .u8 19,.int .u8 3,.int .u8 3,.int .u8 3,.int .u8 3,.int .u8 3,.int .u8 3,.int .u8 3,.int .u8 3,.int .u8 3,.int .u8 3,.int .u8 3,.int .u8 3,.int .u8 35,.int .u8 3,.int .u8 3,.int .u8 52,.int .u8 4,.int .u8 4,.int .u8 4,.int .u8 68,.int .u8 241,.int .u8 241,.int .u8 241,.int .u8 241,.int .u8 241,.int .u8 241,.int .u8 241,.int .u8 241,.int .u8 241,.int .u8 241,.int .u8 241] t frozen
   | o=>o)) ++ #[.cells #[.string ⟨#[118,97,108,117,101,32,111,117,116,32,111,102,32,114,97,110,103,101]⟩] 235 (0,0),.cells #[.string ⟨#[105,110,118,97,108,105,100,32,115,121,110,116,97,120]⟩] 235 (0,0)]}
theorem Ql (os:Os):laidMet Tryz.prog Rows.eventReadsRow.laid ((vV os).forCall (fun _ _=>0) ⟨#[],#[.agg #[.int .i64 0,.bool false,.int .i64 0,.string ⟨#[]⟩,.slice none 0 0,.slice none 0 0],.string ⟨#[]⟩],[]⟩).memory:=
 laidMet_of_run' 8 (by kernel_rfl) (by kernel_rfl)
theorem reads (os:Os) {H:Type} (enc:TypeId×Value→H):∃ places,DataW.whole enc Tryz.prog ((vV os).forCall (fun _ _=>0) ⟨#[],#[.agg #[.int .i64 0,.bool false,.int .i64 0,.string ⟨#[]⟩,.slice none 0 0,.slice none 0 0],.string ⟨#[]⟩],[]⟩).memory Tryz.f4.params.toList Rows.eventReadsSpec.vars false (#[.agg #[.int .i64 0,.bool false,.int .i64 0,.string ⟨#[]⟩,.slice none 0 0,.slice none 0 0],.string ⟨#[]⟩]:Array Value).toList 8=some ([.agg [.lit (.int .i64 0),.lit (.bool false),.lit (.int .i64 0),.lit (.string []),.nil,.nil],.lit (.string [])],[],places):=
 ⟨[],by kernel_rfl⟩
set_option maxRecDepth 100000 in
theorem lifted (os:Os) (started:os.Started) (H:Type) (enc:TypeId×Value→H) (F:Stop.Interp) :
  ReturnsInHanded {} Tryz.checked os 4 .any ((OpenSpec.ofChange Rows.eventReadsSpec).preRow enc Tryz.prog Tryz.f4 Rows.eventReadsRow.domain false Rows.eventReadsRow.laid) (((OpenSpec.ofChange Rows.eventReadsSpec).at F).post enc Tryz.prog Tryz.f4 false true false false):=by
 obtain⟨places,ae⟩:=reads os enc
 refine returnsInHanded_of_row (C:=Tryz.checked) (s:=OpenSpec.ofChange Rows.eventReadsSpec) own started (by kernel_rfl) Tryz.func4
  (witness_row_at (enc:=enc) (C:=Tryz.checked) false (vV os) #[.agg #[.int .i64 0,.bool false,.int .i64 0,.string ⟨#[]⟩,.slice none 0 0,.slice none 0 0],.string ⟨#[]⟩] rfl (by kernel_rfl) (by kernel_rfl) (by kernel_rfl)
   (OpenSpec.preRow_of_cond 8 ae (by kernel_rfl) (fun k hk=>by cases hk) (by kernel_rfl) (Ql os))) ?_
 intro W base args ds gs before q7 hI _ _ hm pS ags _
 exact contract H enc W base args ds gs before q7 hI hm pS ags
theorem arH:Tryz.pinned.checked.prog.inPlace 4=Rows.eventReadsRow.inPlace:=by kernel_rfl
theorem arI:Tryz.pinned.checked.prog.unfollowed 4=Rows.eventReadsRow.unfollowed:=by kernel_rfl
theorem arJ:Tryz.pinned.checked.prog.recurses 4=Rows.eventReadsRow.recurses:=by kernel_rfl
theorem arK:Tryz.pinned.checked.prog.varsNamed 4=Rows.eventReadsRow.named:=by kernel_rfl
theorem arL:laidOutB Tryz.pinned.checked.prog=true:=by kernel_rfl
theorem arM:mapsRowed Tryz.pinned.checked.prog=true:=by kernel_rfl
theorem arN:Tryz.pinned.checked.prog.stopsHeard=true:=by kernel_rfl
theorem arO:Tryz.pinned.checked.prog.mayEnter=true:=by kernel_rfl
theorem arP:Tryz.pinned.checked.prog.liftsFinal=Rows.eventReadsRow.lifted:=by kernel_rfl
theorem closed:joinedFacts Tryz.pinned.checked.prog 4 Tryz.f4 (OpenSpec.ofChange Rows.eventReadsSpec).bare Rows.eventReadsRow=true:=by
 unfold joinedFacts;rw [arH,arI,arJ,arK,arL,arM,arN,arO,arP]
 kernel_rfl
theorem agx:Tryz.f4.isInstance Tryz.pinned.checked.prog Rows.eventReadsRow.origin Rows.eventReadsRow.targs:=of_decide_eq_true (by kernel_rfl)
theorem agy:Tryz.f4.isWrapper Tryz.pinned.checked.prog Rows.eventReadsRow.wrapper Rows.eventReadsRow.mainSum:=by unfold Func.isWrapper;first | (rw [if_pos (by decide +kernel)];kernel_rfl) | (rw [if_neg (by decide +kernel)];exact⟨rfl,rfl⟩)
theorem acf:Tryz.pinned.checked.prog.funcNamed Rows.eventReadsRow.func=some 4:=by kernel_rfl
theorem said:Rows.EventReadsSaid:=
 OpenClaim.holds_of_cond 4 Tryz.f4 rfl rfl rfl rfl rfl rfl rfl ⟨rfl,rfl,rfl,rfl,rfl⟩ rfl rfl rfl rfl rfl acf Tryz.func4 closed agx agy
  (fun os started H enc _ F=>by rw [OpenClaim.pre_eq_preRow];exact lifted os started H enc F)
theorem plain (f:FuncId) (fn:Func) (dn:Tryz.pinned.checked.prog.funcNamed "hustings/hustingslaw11.EventReads" = some f) (arQ:Tryz.pinned.checked.prog.funcs[f]? = some fn) :
  true=Tryz.pinned.checked.prog.looks []∧∀ (j:Nat) t,fn.params[j]? = some t→Tryz.pinned.checked.prog.wantsStandIn t=false:=by
 obtain rfl:f=4:=Option.some.inj ((show Tryz.prog.funcNamed "hustings/hustingslaw11.EventReads" = some 4 by kernel_rfl).symm.trans dn) |>.symm
 obtain rfl:fn=Tryz.f4:=(Option.some.inj (Tryz.func4.symm.trans arQ)).symm
 refine⟨by kernel_rfl,fun j t bW=>?_⟩
 rw [Tryz.params4] at bW
 have hm:=Array.mem_of_getElem? bW
 simp at hm
 rcases hm with rfl | rfl
 ·exact(show Tryz.prog.wantsStandIn 25=false by kernel_rfl)
 exact(show Tryz.prog.wantsStandIn 9=false by kernel_rfl)
theorem aeV:Rows.EventReadsCardSaid:=
 Claim7.holds_tied_plain_at .later [] _ _ _ _ said (fun _ h=>by cases h) (by kernel_rfl) (fun _ h=>by cases h) eventReads_row_tie rfl ⟨rfl,rfl⟩ (by kernel_rfl) rfl plain (by kernel_rfl)
end Go.Proofs.YtkjgljnkocnnpaaGreatDoor.V.EventReads
namespace Go.Proofs.YtkjgljnkocnnpaaGreatDoor
theorem eventReadsCard_holds:Rows.EventReadsCardSaid:=Go.Proofs.YtkjgljnkocnnpaaGreatDoor.V.EventReads.aeV
end Go.Proofs.YtkjgljnkocnnpaaGreatDoor
