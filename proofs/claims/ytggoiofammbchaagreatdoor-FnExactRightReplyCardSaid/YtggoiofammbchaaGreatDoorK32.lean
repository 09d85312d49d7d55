/- Part 32 of a chain that ends in the statement named in GOCLAIM.json; no condition. -/
import Derived.Test.YtggoiofammbchaaGreatDoorK29
set_option maxRecDepth 100000
set_option maxHeartbeats 2000000
set_option linter.all false
namespace Go.Proofs.YtggoiofammbchaaGreatDoor.Loc
open Go
open Go.RowKit Go.Joins Go.ChangeShapes Go.WideShapes Go.ChangeAt
theorem jPlaceRightReply:(Rows.fnExactRightReplyRow.inPlace == Tryz.prog.inPlace 5)=true:=by kernel_rfl
theorem jUnRightReply:(Rows.fnExactRightReplyRow.unfollowed == Tryz.prog.unfollowed 5)=true:=by kernel_rfl
theorem jRecRightReply:(Rows.fnExactRightReplyRow.recurses == Tryz.prog.recurses 5)=true:=by kernel_rfl
theorem jNamedRightReply:(Rows.fnExactRightReplyRow.named == Tryz.prog.varsNamed 5)=true:=by kernel_rfl
theorem jLiftRightReply:(Rows.fnExactRightReplyRow.lifted == Tryz.prog.liftsFinal)=true:=by kernel_rfl
theorem jMakeRightReply:(Tryz.prog.make == some Rows.fnExactRightReplyRow.make)=true:=by kernel_rfl
theorem jKeysRightReply:(Rows.fnExactRightReplyRow.plainKeys == Tryz.prog.plainKeys)=true:=by kernel_rfl
theorem jfRightReply:joinedFacts Tryz.pinned.checked.prog 5 Tryz.f5 Rows.fnExactRightReplySpec Rows.fnExactRightReplyRow=true:=by
 rw [show Tryz.pinned.checked.prog=Tryz.prog from rfl];unfold joinedFacts;repeat' (with_reducible refine Fb ?_ ?_)
 all_goals first | with_reducible exact xR | with_reducible exact xS | with_reducible exact xP | with_reducible exact EI | with_reducible exact jPlaceRightReply | with_reducible exact jUnRightReply | with_reducible exact jRecRightReply | with_reducible exact jNamedRightReply | with_reducible exact jLiftRightReply | with_reducible exact jMakeRightReply | with_reducible exact jKeysRightReply | kernel_rfl
theorem jFnRightReply:Tryz.pinned.checked.prog.funcNamed Rows.fnExactRightReplyRow.func=some 5:=by kernel_rfl
theorem cWfRightReply:Rows.fnExactRightReplyRow.wfByText (OpenSpec.ofChange Rows.fnExactRightReplySpec)=true:=by kernel_rfl
theorem cGoesRightReply:false=Rows.fnExactRightReplyRow.goesBy Tryz.pinned.checked.prog:=by kernel_rfl
theorem jInstRightReply:decide (Tryz.f5.isInstance Tryz.pinned.checked.prog Rows.fnExactRightReplyRow.origin Rows.fnExactRightReplyRow.targs)=true:=by kernel_rfl
theorem liftedRightReply (os:Os) (started:os.Started) (H:Type) (enc:TypeId×Value->H) :
  ReturnsInHanded {} Tryz.checked os 5 .any (fun w args=>(Rows.fnExactRightReplySpec.pre enc Tryz.prog Tryz.f5 [] false w args/\laidMetH Tryz.prog l3 w)/\sizedMet enc Tryz.prog Tryz.f5 (OpenSpec.ofChange Rows.fnExactRightReplySpec) false w args) (Rows.fnExactRightReplySpec.post enc Tryz.prog Tryz.f5 false true false false):=by
 refine returnsInHanded_of_change_and (C:=Tryz.checked) (X:=fun w _=>laidMetH Tryz.prog l3 w) (fun _ _ _ hh h=>h.of_heap hh) own started (by kernel_rfl) Tryz.func5
  (ChangeSpec.witness_shaped (enc:=enc) (C:=Tryz.checked) (os:=os) (X:=fun w _=>laidMetH Tryz.prog l3 w) false (World.doorLaid Tryz.prog 400 os) #[.string ⟨#[]⟩,.string ⟨#[]⟩,.string ⟨#[]⟩] 8 rfl (World.shaped_of_RefB (by kernel_rfl) (by kernel_rfl)) (by kernel_rfl) (by kernel_rfl) (by kernel_rfl) (rR os _)) ?_
 intro W base args ds gs before hval0 hW _ _ hL _;have hval:∀ (j:Nat) t v,Tryz.f5.params[j]?=some t->args[j]?=some v->Value.okWide Tryz.prog W .any base t v:=hval0;have hW':=hW;obtain ⟨p,q,hA0,hV,rfl,hfz,hnd⟩:=hW;have hA:DataW.TrodAll enc Tryz.prog W 0 (fun _=>true) true Tryz.f5.params.toList args.toList ds p:=hA0;rw [Tryz.params5] at hA hval;obtain ⟨v0,v1,v2,d0,d1,d2,p0,p1,p2,rfl,rfl,rfl,h0,h1,h2⟩:=trodAll_three hA;obtain ⟨rfl,rfl⟩:=trodVars_none hV;obtain ⟨s0,rfl,rfl,rfl,ws0⟩:=Go.ChangeMaps.open_string Tryz.underlying9 (hval 0 9 v0 rfl rfl) h0;obtain ⟨s1,rfl,rfl,rfl,ws1⟩:=Go.ChangeMaps.open_string Tryz.underlying9 (hval 1 9 v1 rfl rfl) h1;obtain ⟨s2,rfl,rfl,rfl,ws2⟩:=Go.ChangeMaps.open_string Tryz.underlying9 (hval 2 9 v2 rfl rfl) h2;clear hA0 hval0;have hg:=BG hL;have hcalls:=r9 (C:=ctx) (l:=[s0.data.toList,s1.data.toList,s2.data.toList]) (Hd (C:=ctx) rfl sh s0.data.toList s1.data.toList s2.data.toList) W hg hg.lt;refine hcalls.mono fun e W' ⟨he,bel⟩=>?_
 subst he;exact ⟨_,rfl,_,_,_,[],_,[],hW',trodAll_mk1 (shut_bool Tryz.underlying4 _),trodAll_mk3 (Go.ChangeMaps.shut_string Tryz.underlying9 ws0) (Go.ChangeMaps.shut_string Tryz.underlying9 ws1) (Go.ChangeMaps.shut_string Tryz.underlying9 ws2),rfl,bel.frame _,fun h=>by cases h⟩
theorem row_holdsRightReply:Rows.fnExactRightReplyRow.holds Tryz.pinned (OpenSpec.ofChange Rows.fnExactRightReplySpec) :=
 OpenClaim.holds_of_wide 5 Tryz.f5 rfl rfl rfl rfl rfl rfl rfl ⟨rfl,rfl,rfl,rfl,rfl⟩ rfl rfl rfl rfl rfl jFnRightReply Tryz.func5 jfRightReply
  (ai jInstRightReply) (by unfold Func.isWrapper;first | (rw [aj (by decide +kernel)];kernel_rfl) | (rw [ab (by decide +kernel)];exact ⟨rfl,rfl⟩))
  (fun os started H enc _=>liftedRightReply os started H enc)
theorem card_holdsRightReply:Rows.FnExactRightReplyCardSaid :=
 Claim7.holds_tied_plain_at .later [] [.data,.data,.data,.sentinel,.sentinel] true (true,"9f526b0afcea9f6f6f5399081bc8a1ce9c66197a540853f9ec4053e40f0fdfb7") true
  row_holdsRightReply (fun _ h=>by cases h) cWfRightReply (fun _ h=>by cases h) fnExactRightReply_row_tie rfl ⟨rfl,rfl⟩ B1 rfl
  (fun f fn hf hfn=>by
   obtain rfl:f=5:=Option.some.inj (jFnRightReply.symm.trans hf) |>.symm
   obtain rfl:fn=Tryz.f5:=(Option.some.inj (Tryz.func5.symm.trans hfn)).symm;exact ⟨yc,fun j t ht=>by
    rw [Tryz.params5] at ht;have hm:t∈[9]:=by have:=Array.mem_of_getElem? ht;simp at this;simp [this]
    exact (show Tryz.prog.wantsStandIn t=false by simpa using List.all_eq_true.1 B0 t hm)⟩)
  cGoesRightReply
end Go.Proofs.YtggoiofammbchaaGreatDoor.Loc
namespace Go.Proofs.YtggoiofammbchaaGreatDoor
open Go
theorem fnExactRightReply_holds:Rows.FnExactRightReplyCardSaid:=Loc.card_holdsRightReply
end Go.Proofs.YtggoiofammbchaaGreatDoor
