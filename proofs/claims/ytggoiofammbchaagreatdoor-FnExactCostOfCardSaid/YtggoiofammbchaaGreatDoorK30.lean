/- Part 30 of a chain that ends in the statement named in GOCLAIM.json; no condition. -/
import Derived.Test.YtggoiofammbchaaGreatDoorK29
set_option maxRecDepth 100000
set_option maxHeartbeats 2000000
set_option linter.all false
namespace Go.Proofs.YtggoiofammbchaaGreatDoor.Loc
open Go
open Go.RowKit Go.Joins Go.ChangeShapes Go.WideShapes Go.ChangeAt
theorem uV:(Rows.fnExactCostOfRow.inPlace == Tryz.prog.inPlace 3)=true:=by kernel_rfl
theorem zO:(Rows.fnExactCostOfRow.unfollowed == Tryz.prog.unfollowed 3)=true:=by kernel_rfl
theorem xQ:(Rows.fnExactCostOfRow.recurses == Tryz.prog.recurses 3)=true:=by kernel_rfl
theorem uW:(Rows.fnExactCostOfRow.named == Tryz.prog.varsNamed 3)=true:=by kernel_rfl
theorem wC:(Rows.fnExactCostOfRow.lifted == Tryz.prog.liftsFinal)=true:=by kernel_rfl
theorem wB:(Tryz.prog.make == some Rows.fnExactCostOfRow.make)=true:=by kernel_rfl
theorem wD:(Rows.fnExactCostOfRow.plainKeys == Tryz.prog.plainKeys)=true:=by kernel_rfl
theorem Bw:joinedFacts Tryz.pinned.checked.prog 3 Tryz.f3 Rows.fnExactCostOfSpec Rows.fnExactCostOfRow=true:=by
 rw [show Tryz.pinned.checked.prog=Tryz.prog from rfl];unfold joinedFacts;repeat' (with_reducible refine Fb ?_ ?_)
 all_goals first | with_reducible exact xR | with_reducible exact xS | with_reducible exact xP | with_reducible exact EI | with_reducible exact uV | with_reducible exact zO | with_reducible exact xQ | with_reducible exact uW | with_reducible exact wC | with_reducible exact wB | with_reducible exact wD | kernel_rfl
theorem tM:Tryz.pinned.checked.prog.funcNamed Rows.fnExactCostOfRow.func=some 3:=by kernel_rfl
theorem Af:Rows.fnExactCostOfRow.wfByText (OpenSpec.ofChange Rows.fnExactCostOfSpec)=true:=by kernel_rfl
theorem xe:false=Rows.fnExactCostOfRow.goesBy Tryz.pinned.checked.prog:=by kernel_rfl
theorem wE:decide (Tryz.f3.isInstance Tryz.pinned.checked.prog Rows.fnExactCostOfRow.origin Rows.fnExactCostOfRow.targs)=true:=by kernel_rfl
theorem uK (os:Os) (started:os.Started) (H:Type) (enc:TypeId×Value->H) :
  ReturnsInHanded {} Tryz.checked os 3 .any (fun w args=>(Rows.fnExactCostOfSpec.pre enc Tryz.prog Tryz.f3 [] false w args/\laidMetH Tryz.prog l3 w)/\sizedMet enc Tryz.prog Tryz.f3 (OpenSpec.ofChange Rows.fnExactCostOfSpec) false w args) (Rows.fnExactCostOfSpec.post enc Tryz.prog Tryz.f3 false true false false):=by
 refine returnsInHanded_of_change_and (C:=Tryz.checked) (X:=fun w _=>laidMetH Tryz.prog l3 w) (fun _ _ _ hh h=>h.of_heap hh) own started (by kernel_rfl) Tryz.func3
  (ChangeSpec.witness_shaped (enc:=enc) (C:=Tryz.checked) (os:=os) (X:=fun w _=>laidMetH Tryz.prog l3 w) false (World.doorLaid Tryz.prog 400 os) #[.string ⟨#[]⟩,.string ⟨#[]⟩] 8 rfl (World.shaped_of_RefB (by kernel_rfl) (by kernel_rfl)) (by kernel_rfl) (by kernel_rfl) (by kernel_rfl) (rR os _)) ?_
 intro W base args ds gs before hval0 hW _ _ hL _;have hval:∀ (j:Nat) t v,Tryz.f3.params[j]?=some t->args[j]?=some v->Value.okWide Tryz.prog W .any base t v:=hval0;have hW':=hW;obtain ⟨p,q,hA0,hV,rfl,hfz,hnd⟩:=hW;have hA:DataW.TrodAll enc Tryz.prog W 0 (fun _=>true) true Tryz.f3.params.toList args.toList ds p:=hA0;rw [Tryz.params3] at hA hval;obtain ⟨v0,v1,d0,d1,p0,p1,rfl,rfl,rfl,h0,h1⟩:=trodAll_two hA;obtain ⟨rfl,rfl⟩:=trodVars_none hV;obtain ⟨s0,rfl,rfl,rfl,ws0⟩:=Go.ChangeMaps.open_string Tryz.underlying9 (hval 0 9 v0 rfl rfl) h0;obtain ⟨s1,rfl,rfl,rfl,ws1⟩:=Go.ChangeMaps.open_string Tryz.underlying9 (hval 1 9 v1 rfl rfl) h1;clear hA0 hval0;have hg:=BG hL;have hcalls:=r9 (C:=ctx) (l:=[s0.data.toList,s1.data.toList]) (Hf (C:=ctx) rfl sh s0.data.toList s1.data.toList) W hg hg.lt;refine hcalls.mono fun e W' ⟨he,bel⟩=>?_
 subst he;exact ⟨_,rfl,_,_,_,[],_,[],hW',trodAll_mk1 (shut_bool Tryz.underlying4 _),trodAll_mk2 (Go.ChangeMaps.shut_string Tryz.underlying9 ws0) (Go.ChangeMaps.shut_string Tryz.underlying9 ws1),rfl,bel.frame _,fun h=>by cases h⟩
theorem pU:Rows.fnExactCostOfRow.holds Tryz.pinned (OpenSpec.ofChange Rows.fnExactCostOfSpec) :=
 OpenClaim.holds_of_wide 3 Tryz.f3 rfl rfl rfl rfl rfl rfl rfl ⟨rfl,rfl,rfl,rfl,rfl⟩ rfl rfl rfl rfl rfl tM Tryz.func3 Bw
  (ai wE) (by unfold Func.isWrapper;first | (rw [aj (by decide +kernel)];kernel_rfl) | (rw [ab (by decide +kernel)];exact ⟨rfl,rfl⟩))
  (fun os started H enc _=>uK os started H enc)
theorem card_holdsCostOf:Rows.FnExactCostOfCardSaid :=
 Claim7.holds_tied_plain_at .later [] [.data,.data,.data,.sentinel,.sentinel] true (true,"9f526b0afcea9f6f6f5399081bc8a1ce9c66197a540853f9ec4053e40f0fdfb7") true
  pU (fun _ h=>by cases h) Af (fun _ h=>by cases h) fnExactCostOf_row_tie rfl ⟨rfl,rfl⟩ B1 rfl
  (fun f fn hf hfn=>by
   obtain rfl:f=3:=Option.some.inj (tM.symm.trans hf) |>.symm
   obtain rfl:fn=Tryz.f3:=(Option.some.inj (Tryz.func3.symm.trans hfn)).symm;exact ⟨yc,fun j t ht=>by
    rw [Tryz.params3] at ht;have hm:t∈[9]:=by have:=Array.mem_of_getElem? ht;simp at this;simp [this]
    exact (show Tryz.prog.wantsStandIn t=false by simpa using List.all_eq_true.1 B0 t hm)⟩)
  xe
end Go.Proofs.YtggoiofammbchaaGreatDoor.Loc
namespace Go.Proofs.YtggoiofammbchaaGreatDoor
open Go
theorem fnExactCostOf_holds:Rows.FnExactCostOfCardSaid:=Loc.card_holdsCostOf
end Go.Proofs.YtggoiofammbchaaGreatDoor
