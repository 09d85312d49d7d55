/- For every Config, laws.FnExactConfigOK returns true and its argument reads as it read; no condition. -/
import Derived.Test.YtjlecokclcpciaaRows
import Derived.Test.YtjlecokclcpciaaPFnExactConfigOKx1
import Derived.WalkKit
import Derived.ProofKit
import Derived.OpenShut
import Derived.ChangeOld
import Derived.Below
import Derived.Carry
import Derived.Lib.SmallJoins
namespace Go.Proofs.Ytjlecokclcpciaa.LConfigOK
open Go.ChangeShapes Go.WideShapes Go.ChangeAt Go.RowKit Go.Joins
theorem own : ownKnob Try.prog.godebug = none := by kernel_rfl
theorem laidOut : laidOutB Try.prog = true := by kernel_rfl
theorem cells23 : Try.prog.cellsOf 23 = 3 := by kernel_rfl

open PFnExactConfigOK in
theorem plain (a b c : Int) : laws_FnExactConfigOK.f a b c = some true := by
  have hw : ∀ x y z : Int, impl_within.f x y z = spec_l01In.f x y z := fun _ _ _ => rfl
  have hb : ∀ x y z : Int, ∃ r, spec_l01In.f x y z = some r := by
    intro x y z
    unfold spec_l01In.f
    split <;> exact ⟨_, rfl⟩
  have hs : ∃ r, spec_ConfigOK.f a b c = some r := by
    obtain ⟨r1, h1⟩ := hb a 1 4
    obtain ⟨r2, h2⟩ := hb b 1 1000
    obtain ⟨r3, h3⟩ := hb c 1 1000
    unfold spec_ConfigOK.f
    rw [h1, h2, h3]
    cases r1 <;> cases r2 <;> exact ⟨_, rfl⟩
  obtain ⟨r, hr⟩ := hs
  have hi : impl_ConfigOK.f a b c = some r := hr
  simp [laws_FnExactConfigOK.f, laws_toConfig.f, hr, hi]

set_option maxRecDepth 100000 in
theorem lifted (os : Os) (started : os.Started) (H : Type) (enc : TypeId × Value → H) :
    ReturnsInHanded {} Try.checked os 3 .any (Rows.fnExactConfigOKSpec.pre6 enc Try.prog Try.f3 Rows.fnExactConfigOKRow.domain false) (Rows.fnExactConfigOKSpec.post enc Try.prog Try.f3 false true false false) := by
  refine returnsInHanded_of_change (C := Try.checked) own started (by kernel_rfl) Try.func3
    (ChangeSpec.witness6 (enc := enc) (C := Try.checked) false ⟨#[], #[.agg #[.int .i64 0, .int .i64 0, .int .i64 0]], []⟩ 8 (by kernel_rfl) (by kernel_rfl) (by kernel_rfl) (by kernel_rfl)) ?_
  intro W base args ds gs before hval0 hW hcnd _
  have hval : ∀ (j : Nat) t v, Try.f3.params[j]? = some t → args[j]? = some v → Value.okWide Try.prog W .any base t v := hval0
  have hW' := hW
  obtain ⟨p, q, hA0, hV, rfl, hfz, hnd⟩ := hW
  have hA : DataW.TrodAll enc Try.prog W 0 (fun _ => true) true Try.f3.params.toList args.toList ds p := hA0
  rw [Try.params3] at hA hval
  obtain ⟨v0, vs0, d0, ds0, p0, q0, hargs, rfl, rfl, h0, r0⟩ := trodAll_cons hA
  obtain ⟨rfl, rfl, rfl⟩ := trodAll_nil r0
  obtain rfl : args = #[v0] := by cases args; simp_all
  obtain ⟨rfl, rfl⟩ := trodVars_none hV
  have k0 := h0
  have lt0 : ∀ x ∈ p0, x.block < W.heap.size := by obtain ⟨m, hm⟩ := k0; exact DataW.trod_lt m _ _ _ hm
  obtain ⟨c0, c1, c2, y0, y1, y2, m, rfl, hd, hp, hy0, hy1, hy2⟩ := open_agg3 Try.underlying23 (by kernel_rfl) cells23 (hval 0 23 v0 rfl rfl) h0
  obtain ⟨x, e0, rfl, wx⟩ := DataW.trod_int Try.underlying3 hy0
  obtain ⟨y, e1, rfl, wy⟩ := DataW.trod_int Try.underlying3 hy1
  obtain ⟨z, e2, rfl, wz⟩ := DataW.trod_int Try.underlying3 hy2
  simp at e0 e1 e2
  subst e0 e1 e2
  clear hA0 hval0
  refine (PFnExactConfigOK.laws_FnExactConfigOK.calls x y z true W (plain x y z)).mono fun e W' ⟨he, bel⟩ => ?_
  subst he
  exact ⟨_, rfl, _, _, _, [], _, [], hW', trodAll_mk1 (shut_bool Try.underlying4 _), (trodAll_cons_mk (Below.trod laidOut (by kernel_rfl) (of_decide_eq_true (by kernel_rfl)) k0 bel lt0) trodAll_mk0), rfl, bel.frame _, fun h => by cases h⟩
theorem over : Rows.fnExactConfigOKRow.holds Try.pinned (OpenSpec.ofChange Rows.fnExactConfigOKSpec) :=
  OpenClaim.holds_of_wide 3 Try.f3 rfl rfl rfl rfl rfl rfl rfl ⟨rfl, rfl, rfl, rfl, rfl⟩ rfl rfl rfl rfl rfl (by kernel_rfl) Try.func3 (by kernel_rfl)
    (of_decide_eq_true (by kernel_rfl)) (by unfold Func.isWrapper; first | (rw [if_pos (by decide +kernel)]; kernel_rfl) | (rw [if_neg (by decide +kernel)]; exact ⟨rfl, rfl⟩))
    (fun os started H enc _ => lifted os started H enc)
end Go.Proofs.Ytjlecokclcpciaa.LConfigOK
namespace Go.Proofs.Ytjlecokclcpciaa
theorem fnExactConfigOK_holds : Rows.FnExactConfigOKSaid := LConfigOK.over
#print axioms fnExactConfigOK_holds
end Go.Proofs.Ytjlecokclcpciaa
