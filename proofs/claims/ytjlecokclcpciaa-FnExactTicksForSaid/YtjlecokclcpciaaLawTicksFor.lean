/- For every Config and every three numbers, laws.FnExactTicksFor returns true and its arguments read as they read; no condition. -/
import Derived.Test.YtjlecokclcpciaaRows
import Derived.Test.YtjlecokclcpciaaPFnExactTicksForx1
import Derived.WalkKit
import Derived.ProofKit
import Derived.OpenShut
import Derived.ChangeOld
import Derived.Below
import Derived.Carry
import Derived.Lib.SmallJoins
namespace Go.Proofs.Ytjlecokclcpciaa.LTicksFor
open Go.ChangeShapes Go.WideShapes Go.ChangeAt Go.RowKit Go.Joins
theorem own : ownKnob Try.prog.godebug = none := by kernel_rfl
theorem laidOut : laidOutB Try.prog = true := by kernel_rfl
theorem cells23 : Try.prog.cellsOf 23 = 3 := by kernel_rfl

open PFnExactTicksFor in
theorem in_some (x y z : Int) : ∃ r, spec_l01In.f x y z = some r := by
  unfold spec_l01In.f
  split <;> exact ⟨_, rfl⟩
open PFnExactTicksFor in
theorem ticks_some (a b c t u v : Int) : ∃ r, spec_TicksFor.f a b c t u v = some r := by
  obtain ⟨r1, h1⟩ := in_some a 1 4
  obtain ⟨r3, h3⟩ := in_some c 1 1000
  obtain ⟨r4, h4⟩ := in_some t 1 4
  obtain ⟨r5, h5⟩ := in_some u 0 1000000
  obtain ⟨r6, h6⟩ := in_some v 0 1000000
  by_cases hb : b = 0
  · subst hb
    have h2 : spec_l01In.f 0 1 1000 = some false := by decide
    unfold spec_TicksFor.f spec_ConfigOK.f
    rw [h1, h2, h3, h4, h5, h6]
    cases r1 <;> exact ⟨_, rfl⟩
  · obtain ⟨r2, h2⟩ := in_some b 1 1000
    unfold spec_TicksFor.f spec_ConfigOK.f
    rw [h1, h2, h3, h4, h5, h6, if_neg hb]
    cases r1 <;> cases r2 <;> cases r3 <;> cases r4 <;> cases r5 <;> cases r6 <;> exact ⟨_, rfl⟩
open PFnExactTicksFor in
theorem plain (a b c t u v : Int) : laws_FnExactTicksFor.f a b c t u v = some true := by
  obtain ⟨r, hr⟩ := ticks_some a b c t u v
  have hi : impl_TicksFor.f a b c t u v = some r := hr
  simp [laws_FnExactTicksFor.f, laws_toConfig.f, hr, hi]

set_option maxRecDepth 100000 in
theorem lifted (os : Os) (started : os.Started) (H : Type) (enc : TypeId × Value → H) :
    ReturnsInHanded {} Try.checked os 4 .any (Rows.fnExactTicksForSpec.pre6 enc Try.prog Try.f4 Rows.fnExactTicksForRow.domain false) (Rows.fnExactTicksForSpec.post enc Try.prog Try.f4 false true false false) := by
  refine returnsInHanded_of_change (C := Try.checked) own started (by kernel_rfl) Try.func4
    (ChangeSpec.witness6 (enc := enc) (C := Try.checked) false ⟨#[], #[.agg #[.int .i64 0, .int .i64 0, .int .i64 0], .int .i64 0, .int .i64 0, .int .i64 0], []⟩ 8 (by kernel_rfl) (by kernel_rfl) (by kernel_rfl) (by kernel_rfl)) ?_
  intro W base args ds gs before hval0 hW hcnd _
  have hval : ∀ (j : Nat) t v, Try.f4.params[j]? = some t → args[j]? = some v → Value.okWide Try.prog W .any base t v := hval0
  have hW' := hW
  obtain ⟨p, q, hA0, hV, rfl, hfz, hnd⟩ := hW
  have hA : DataW.TrodAll enc Try.prog W 0 (fun _ => true) true Try.f4.params.toList args.toList ds p := hA0
  rw [Try.params4] at hA hval
  obtain ⟨v0, vs0, d0, ds0, p0, q0, hargs, rfl, rfl, h0, r0⟩ := trodAll_cons hA
  obtain ⟨v1, vs1, d1, ds1, p1, q1, rfl, rfl, rfl, h1, r1⟩ := trodAll_cons r0
  obtain ⟨v2, vs2, d2, ds2, p2, q2, rfl, rfl, rfl, h2, r2⟩ := trodAll_cons r1
  obtain ⟨v3, vs3, d3, ds3, p3, q3, rfl, rfl, rfl, h3, r3⟩ := trodAll_cons r2
  obtain ⟨rfl, rfl, rfl⟩ := trodAll_nil r3
  obtain rfl : args = #[v0, v1, v2, v3] := by cases args; simp_all
  obtain ⟨rfl, rfl⟩ := trodVars_none hV
  have k0 := h0
  have lt0 : ∀ x ∈ p0, x.block < W.heap.size := by obtain ⟨m, hm⟩ := k0; exact DataW.trod_lt m _ _ _ hm
  obtain ⟨c0, c1, c2, y0, y1, y2, m, rfl, hd, hp, hy0, hy1, hy2⟩ := open_agg3 Try.underlying23 (by kernel_rfl) cells23 (hval 0 23 v0 rfl rfl) h0
  obtain ⟨x, e0, rfl, wx⟩ := DataW.trod_int Try.underlying3 hy0
  obtain ⟨y, e1, rfl, wy⟩ := DataW.trod_int Try.underlying3 hy1
  obtain ⟨z, e2, rfl, wz⟩ := DataW.trod_int Try.underlying3 hy2
  simp at e0 e1 e2
  subst e0 e1 e2
  obtain ⟨a1, rfl, rfl, rfl, w1⟩ := open_int Try.underlying3 (hval 1 3 v1 rfl rfl) h1
  obtain ⟨a2, rfl, rfl, rfl, w2⟩ := open_int Try.underlying3 (hval 2 3 v2 rfl rfl) h2
  obtain ⟨a3, rfl, rfl, rfl, w3⟩ := open_int Try.underlying3 (hval 3 3 v3 rfl rfl) h3
  clear hA0 hval0
  refine (PFnExactTicksFor.laws_FnExactTicksFor.calls x y z a1 a2 a3 true W (plain x y z a1 a2 a3)).mono fun e W' ⟨he, bel⟩ => ?_
  subst he
  exact ⟨_, rfl, _, _, _, [], _, [], hW', trodAll_mk1 (shut_bool Try.underlying4 _), (trodAll_cons_mk (Below.trod laidOut (by kernel_rfl) (of_decide_eq_true (by kernel_rfl)) k0 bel lt0) (trodAll_cons_mk (shut_int Try.underlying3 w1) (trodAll_cons_mk (shut_int Try.underlying3 w2) (trodAll_cons_mk (shut_int Try.underlying3 w3) trodAll_mk0)))), rfl, bel.frame _, fun h => by cases h⟩
theorem over : Rows.fnExactTicksForRow.holds Try.pinned (OpenSpec.ofChange Rows.fnExactTicksForSpec) :=
  OpenClaim.holds_of_wide 4 Try.f4 rfl rfl rfl rfl rfl rfl rfl ⟨rfl, rfl, rfl, rfl, rfl⟩ rfl rfl rfl rfl rfl (by kernel_rfl) Try.func4 (by kernel_rfl)
    (of_decide_eq_true (by kernel_rfl)) (by unfold Func.isWrapper; first | (rw [if_pos (by decide +kernel)]; kernel_rfl) | (rw [if_neg (by decide +kernel)]; exact ⟨rfl, rfl⟩))
    (fun os started H enc _ => lifted os started H enc)
end Go.Proofs.Ytjlecokclcpciaa.LTicksFor
namespace Go.Proofs.Ytjlecokclcpciaa
theorem fnExactTicksFor_holds : Rows.FnExactTicksForSaid := LTicksFor.over
#print axioms fnExactTicksFor_holds
end Go.Proofs.Ytjlecokclcpciaa
