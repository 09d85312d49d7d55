/- Part 31 of a chain that ends in the statement named in GOCLAIM.json; no condition. -/
import Derived.Test.YtggoiofammbchaaGreatDoorK29
set_option maxRecDepth 100000
set_option maxHeartbeats 2000000
set_option linter.all false
namespace Go.Proofs.YtggoiofammbchaaGreatDoor.Loc
open Go
open Go.RowKit Go.Joins Go.ChangeShapes Go.WideShapes Go.ChangeAt
theorem jPlaceAnswerOf:(Rows.fnExactAnswerOfRow.inPlace == Tryz.prog.inPlace 4)=true:=by kernel_rfl
theorem jUnAnswerOf:(Rows.fnExactAnswerOfRow.unfollowed == Tryz.prog.unfollowed 4)=true:=by kernel_rfl
theorem jRecAnswerOf:(Rows.fnExactAnswerOfRow.recurses == Tryz.prog.recurses 4)=true:=by kernel_rfl
theorem jNamedAnswerOf:(Rows.fnExactAnswerOfRow.named == Tryz.prog.varsNamed 4)=true:=by kernel_rfl
theorem jLiftAnswerOf:(Rows.fnExactAnswerOfRow.lifted == Tryz.prog.liftsFinal)=true:=by kernel_rfl
theorem jMakeAnswerOf:(Tryz.prog.make == some Rows.fnExactAnswerOfRow.make)=true:=by kernel_rfl
theorem jKeysAnswerOf:(Rows.fnExactAnswerOfRow.plainKeys == Tryz.prog.plainKeys)=true:=by kernel_rfl
theorem jfAnswerOf:joinedFacts Tryz.pinned.checked.prog 4 Tryz.f4 Rows.fnExactAnswerOfSpec Rows.fnExactAnswerOfRow=true:=by
 rw [show Tryz.pinned.checked.prog=Tryz.prog from rfl];unfold joinedFacts;repeat' (with_reducible refine Fb ?_ ?_)
 all_goals first | with_reducible exact xR | with_reducible exact xS | with_reducible exact xP | with_reducible exact EI | with_reducible exact jPlaceAnswerOf | with_reducible exact jUnAnswerOf | with_reducible exact jRecAnswerOf | with_reducible exact jNamedAnswerOf | with_reducible exact jLiftAnswerOf | with_reducible exact jMakeAnswerOf | with_reducible exact jKeysAnswerOf | kernel_rfl
theorem jFnAnswerOf:Tryz.pinned.checked.prog.funcNamed Rows.fnExactAnswerOfRow.func=some 4:=by kernel_rfl
theorem cWfAnswerOf:Rows.fnExactAnswerOfRow.wfByText (OpenSpec.ofChange Rows.fnExactAnswerOfSpec)=true:=by kernel_rfl
theorem cGoesAnswerOf:false=Rows.fnExactAnswerOfRow.goesBy Tryz.pinned.checked.prog:=by kernel_rfl
theorem jInstAnswerOf:decide (Tryz.f4.isInstance Tryz.pinned.checked.prog Rows.fnExactAnswerOfRow.origin Rows.fnExactAnswerOfRow.targs)=true:=by kernel_rfl
theorem liftedAnswerOf (os:Os) (started:os.Started) (H:Type) (enc:TypeId×Value->H) :
  ReturnsInHanded {} Tryz.checked os 4 .any (fun w args=>(Rows.fnExactAnswerOfSpec.pre enc Tryz.prog Tryz.f4 [] false w args/\laidMetH Tryz.prog l3 w)/\sizedMet enc Tryz.prog Tryz.f4 (OpenSpec.ofChange Rows.fnExactAnswerOfSpec) false w args) (Rows.fnExactAnswerOfSpec.post enc Tryz.prog Tryz.f4 false true false false):=by
 refine returnsInHanded_of_change_and (C:=Tryz.checked) (X:=fun w _=>laidMetH Tryz.prog l3 w) (fun _ _ _ hh h=>h.of_heap hh) own started (by kernel_rfl) Tryz.func4
  (ChangeSpec.witness_shaped (enc:=enc) (C:=Tryz.checked) (os:=os) (X:=fun w _=>laidMetH Tryz.prog l3 w) false (World.doorLaid Tryz.prog 400 os) #[.string ⟨#[]⟩,.string ⟨#[]⟩] 8 rfl (World.shaped_of_RefB (by kernel_rfl) (by kernel_rfl)) (by kernel_rfl) (by kernel_rfl) (by kernel_rfl) (rR os _)) ?_
 intro W base args ds gs before hval0 hW _ _ hL _;have hval:∀ (j:Nat) t v,Tryz.f4.params[j]?=some t->args[j]?=some v->Value.okWide Tryz.prog W .any base t v:=hval0;have hW':=hW;obtain ⟨p,q,hA0,hV,rfl,hfz,hnd⟩:=hW;have hA:DataW.TrodAll enc Tryz.prog W 0 (fun _=>true) true Tryz.f4.params.toList args.toList ds p:=hA0;rw [Tryz.params4] at hA hval;obtain ⟨v0,v1,d0,d1,p0,p1,rfl,rfl,rfl,h0,h1⟩:=trodAll_two hA;obtain ⟨rfl,rfl⟩:=trodVars_none hV;obtain ⟨s0,rfl,rfl,rfl,ws0⟩:=Go.ChangeMaps.open_string Tryz.underlying9 (hval 0 9 v0 rfl rfl) h0;obtain ⟨s1,rfl,rfl,rfl,ws1⟩:=Go.ChangeMaps.open_string Tryz.underlying9 (hval 1 9 v1 rfl rfl) h1;clear hA0 hval0;have hg:=BG hL;have hcalls:=r9 (C:=ctx) (l:=[s0.data.toList,s1.data.toList]) (He (C:=ctx) rfl sh s0.data.toList s1.data.toList) W hg hg.lt;refine hcalls.mono fun e W' ⟨he,bel⟩=>?_
 subst he;exact ⟨_,rfl,_,_,_,[],_,[],hW',trodAll_mk1 (shut_bool Tryz.underlying4 _),trodAll_mk2 (Go.ChangeMaps.shut_string Tryz.underlying9 ws0) (Go.ChangeMaps.shut_string Tryz.underlying9 ws1),rfl,bel.frame _,fun h=>by cases h⟩
theorem row_holdsAnswerOf:Rows.fnExactAnswerOfRow.holds Tryz.pinned (OpenSpec.ofChange Rows.fnExactAnswerOfSpec) :=
 OpenClaim.holds_of_wide 4 Tryz.f4 rfl rfl rfl rfl rfl rfl rfl ⟨rfl,rfl,rfl,rfl,rfl⟩ rfl rfl rfl rfl rfl jFnAnswerOf Tryz.func4 jfAnswerOf
  (ai jInstAnswerOf) (by unfold Func.isWrapper;first | (rw [aj (by decide +kernel)];kernel_rfl) | (rw [ab (by decide +kernel)];exact ⟨rfl,rfl⟩))
  (fun os started H enc _=>liftedAnswerOf os started H enc)
theorem card_holdsAnswerOf:Rows.FnExactAnswerOfCardSaid :=
 Claim7.holds_tied_plain_at .later [] [.data,.data,.data,.sentinel,.sentinel] true (true,"9f526b0afcea9f6f6f5399081bc8a1ce9c66197a540853f9ec4053e40f0fdfb7") true
  row_holdsAnswerOf (fun _ h=>by cases h) cWfAnswerOf (fun _ h=>by cases h) fnExactAnswerOf_row_tie rfl ⟨rfl,rfl⟩ B1 rfl
  (fun f fn hf hfn=>by
   obtain rfl:f=4:=Option.some.inj (jFnAnswerOf.symm.trans hf) |>.symm
   obtain rfl:fn=Tryz.f4:=(Option.some.inj (Tryz.func4.symm.trans hfn)).symm;exact ⟨yc,fun j t ht=>by
    rw [Tryz.params4] at ht;have hm:t∈[9]:=by have:=Array.mem_of_getElem? ht;simp at this;simp [this]
    exact (show Tryz.prog.wantsStandIn t=false by simpa using List.all_eq_true.1 B0 t hm)⟩)
  cGoesAnswerOf
end Go.Proofs.YtggoiofammbchaaGreatDoor.Loc
namespace Go.Proofs.YtggoiofammbchaaGreatDoor
open Go
theorem fnExactAnswerOf_holds:Rows.FnExactAnswerOfCardSaid:=Loc.card_holdsAnswerOf
end Go.Proofs.YtggoiofammbchaaGreatDoor
