/- For every list of Sent and every number, laws.FnExactSentTo returns true and its arguments read as they read; no condition. -/
import Derived.Test.YtjlecokclcpciaaRows
import Derived.Test.YtjlecokclcpciaaSentPure
import Derived.WalkKit
import Derived.ProofKit
import Derived.OpenShut
import Derived.ChangeOld
import Derived.Below
import Derived.Carry
import Derived.Deep.Slices
import Derived.Lib.SmallJoins
namespace Go.Proofs.Ytjlecokclcpciaa.LSentTo
open Go.ChangeShapes Go.WideShapes Go.ChangeAt Go.RowKit Go.Joins Go.Deep
open Go.Proofs.YtjlecokclcpciaaW.PrintWords Go.Proofs.YtjlecokclcpciaaW.PrintLast Go.Proofs.YtjlecokclcpciaaW.PrintMore
open Go.Proofs.Ytjlecokclcpciaa.PFnExactSentTo Go.Proofs.Ytjlecokclcpciaa.HSentTo
set_option linter.unusedVariables false
theorem own : ownKnob Try.prog.godebug = none := by kernel_rfl
theorem laidOut : laidOutB Try.prog = true := by kernel_rfl
theorem cells42 : Try.prog.cellsOf 42 = 3 := by kernel_rfl
theorem one3 : Try.prog.cellsOf 3 = 1 := by kernel_rfl
theorem one9 : Try.prog.cellsOf 9 = 1 := by kernel_rfl
theorem one4 : Try.prog.cellsOf 4 = 1 := by kernel_rfl

/-! ### the law's walk -/
set_option maxHeartbeats 4000000 in
set_option maxRecDepth 100000 in
theorem law_calls (A0 : Option Addr) (c0 : Nat) (l0 : List S42) (a1 : Int) (w : World) (hr0 : Kd.C k42 w A0 l0.length l0) (hc0 : l0.length ≤ c0) (hN : l0.length ≤ 9223372036854775807) :
    Calls Try.prog 5 #[.slice A0 l0.length c0, .int .i64 a1] w fun e w' => e = .returned (.bool true) ∧ Below w.heap.size w w' := by
  obtain ⟨s, hs, hsN⟩ := sz_some l0 hN
  have HR0 := Aside0.mk hr0
  have HC0 := Aside0.mk hc0
  have HS := Aside0.mk hs
  have HT := Aside0.mk hsN
  clear hr0 hc0 hN hs hsN
  by_cases c1 : s < 0
  · have c1b : decide (s < 0) = true := decide_eq_true c1
    clear c1
    go_enter Try.func5, Try.ntmps5
    go_wp2_with (go_at_call 11; (with_reducible refine (laws_szSentS.calls (l0.length + 1) A0 c0 l0 1048576 s _ HR0.out HC0.out HS.out).mono ?_); (first | rintro e w1 ⟨rfl, b1⟩ | rintro e w1 rfl b1); have B1 := Aside0.mk b1; clear b1)
    go_ret
    exact ⟨rfl, B1.out⟩
  · have c1b : decide (s < 0) = false := decide_eq_false c1
    have hM := HT.out (by omega)
    obtain ⟨r, hr, hrl⟩ := to_some l0 hM
    have HM := Aside0.mk (show r.length ≤ 1048576 by omega)
    have HTO := Aside0.mk hr
    have HEQ := Aside0.mk (eq_self r HM.out)
    obtain ⟨k, b, c, hsp, him⟩ := sent_same r a1
    have HSP := Aside0.mk hsp
    have HIM := Aside0.mk him
    clear hsp him
    clear c1 hM hr hrl
    go_enter Try.func5, Try.ntmps5
    go_wp2_with (go_at_call 11; (with_reducible refine (laws_szSentS.calls (l0.length + 1) A0 c0 l0 1048576 s _ HR0.out HC0.out HS.out).mono ?_); (first | rintro e w1 ⟨rfl, b1⟩ | rintro e w1 rfl b1); have B1 := Aside0.mk b1; clear b1)
    go_wp2_with (go_at_call 13; (with_reducible refine (laws_toSentS.calls (l0.length + 1) A0 c0 l0 r _ (Kd.C_below HR0.out B1.out) HC0.out HTO.out).mono ?_); (first | rintro e w2 ⟨v0, rfl, ho, b2⟩ | rintro e w2 v0 rfl ho b2))
    obtain ⟨A1, c1, rfl, hc1, hC1⟩ := Kd.R_reads ho
    have R1 := Aside0.mk hC1
    have L1 := Aside0.mk hc1
    have B2 := Aside0.mk (below_step B1.out b2)
    clear ho hC1 hc1 b2
    go_wp2_with (go_at_call 12; (with_reducible refine (spec_SentTo.calls k A1 c1 r a1 b c _ R1.out L1.out HSP.out).mono ?_); (first | rintro e w3 ⟨rfl, hd⟩ | rintro e w3 rfl hd))
    have B3 := Aside0.mk (below_step B2.out hd.below)
    clear hd
    go_wp2_with (go_at_call 13; (with_reducible refine (laws_toSentS.calls (l0.length + 1) A0 c0 l0 r _ (Kd.C_below HR0.out B3.out) HC0.out HTO.out).mono ?_); (first | rintro e w4 ⟨v0, rfl, ho, b4⟩ | rintro e w4 v0 rfl ho b4))
    obtain ⟨A2, c2, rfl, hc2, hC2⟩ := Kd.R_reads ho
    have R2 := Aside0.mk hC2
    have L2 := Aside0.mk hc2
    have B4 := Aside0.mk (below_step B3.out b4)
    clear ho hC2 hc2 b4
    go_wp2_with (go_at_call 14; (with_reducible refine (HIM.out A2 c2 _ L2.out R2.out).mono ?_); (first | rintro e w5 ⟨rfl, b5⟩ | rintro e w5 rfl b5))
    have R3 := Aside0.mk (Kd.C_below R2.out b5)
    have B5 := Aside0.mk (below_step B4.out b5)
    clear b5
    go_wp2_with (go_at_call 13; (with_reducible refine (laws_toSentS.calls (l0.length + 1) A0 c0 l0 r _ (Kd.C_below HR0.out B5.out) HC0.out HTO.out).mono ?_); (first | rintro e w6 ⟨v0, rfl, ho, b6⟩ | rintro e w6 v0 rfl ho b6))
    obtain ⟨A3, c3, rfl, hc3, hC3⟩ := Kd.R_reads ho
    have R4 := Aside0.mk (Kd.C_below R3.out b6)
    have R5 := Aside0.mk hC3
    have L5 := Aside0.mk hc3
    have B6 := Aside0.mk (below_step B5.out b6)
    clear ho hC3 hc3 b6
    go_wp2_with (go_at_call 15; (with_reducible refine (laws_eqSentS.calls (r.length + 1) A2 c2 r A3 c3 r true _ R4.out L2.out R5.out L5.out HEQ.out).mono ?_); (first | rintro e w7 ⟨rfl, b7⟩ | rintro e w7 rfl b7))
    have B7 := Aside0.mk (below_step B6.out b7)
    clear b7
    go_wp2
    go_ret
    exact ⟨rfl, B7.out⟩

/-! ### the argument, opened -/
section
variable {H : Type} {enc : TypeId × Value → H} {W : World} {base : Nat} {spare : Nat → Bool} {held : Bool}
theorem open_sent {n : Nat} {cs : List Value} {x : DataW H × List MemPlace} (h : DataW.trod enc Try.prog W base spare held n 42 cs = some x) :
    ∃ s : S42, cs = [.int .i64 s.f0, .string s.f1, .bool s.f2] := by
  obtain ⟨ys, m, _, _, hl, hlen, hf⟩ := DataW.trod_struct Try.underlying42 h
  rw [cells42] at hl
  match cs, hl with
  | [u0, u1, u2], _ =>
    match ys, hlen with
    | [y0, y1, y2], _ =>
      have h0 : DataW.trod enc Try.prog W base spare held m 3 ((List.drop 0 [u0, u1, u2]).take (Try.prog.cellsOf 3)) = some y0 := hf 0 _ rfl
      have h1 : DataW.trod enc Try.prog W base spare held m 9 ((List.drop 1 [u0, u1, u2]).take (Try.prog.cellsOf 9)) = some y1 := hf 1 _ rfl
      have h2 : DataW.trod enc Try.prog W base spare held m 4 ((List.drop 2 [u0, u1, u2]).take (Try.prog.cellsOf 4)) = some y2 := hf 2 _ rfl
      rw [one3] at h0
      rw [one9] at h1
      rw [one4] at h2
      obtain ⟨a, e0, _, _⟩ := DataW.trod_int Try.underlying3 h0
      obtain ⟨b, e1, _⟩ := DataW.trod_string Try.underlying9 h1
      obtain ⟨c, e2, _⟩ := DataW.trod_bool Try.underlying4 h2
      simp at e0 e1 e2
      subst e0 e1 e2
      exact ⟨⟨a, b, c⟩, rfl⟩

theorem open_sents {v : Value} {d : DataW H} {ps : List MemPlace} {r : Reach} {b0 : Nat} (hv : Value.okWide Try.prog W r b0 31 v) (h : DataW.Trod enc Try.prog W base spare held 31 v d ps) :
    ∃ (A : Option Addr) (c : Nat) (xs : List S42), v = .slice A xs.length c ∧ xs.length ≤ c ∧ xs.length ≤ 9223372036854775807 ∧ Kd.C k42 W A xs.length xs := by
  obtain ⟨A, len, cap, rfl⟩ := okWide_slice Try.underlying31 hv
  obtain ⟨fuel, hf⟩ := h
  rcases open_slice Try.underlying31 hf with ⟨hcs, _⟩ | ⟨a, l, c, m, n, D, Pl, hcs, _, hl, hm, hmm, _, hi⟩
  · simp [Value.cells] at hcs
    obtain ⟨rfl, rfl, rfl⟩ := hcs
    exact ⟨none, 0, [], rfl, Nat.le_refl _, by simp, rfl, by simp, fun h => absurd h (by simp)⟩
  · simp [Value.cells] at hcs
    obtain ⟨rfl, rfl, rfl⟩ := hcs
    unfold maxLen at hm
    have hlm : len ≤ m := by
      rw [hmm]
      split <;> omega
    have hx : ∀ i, i < len → ∃ s : S42, ∀ j u, [Value.int .i64 s.f0, .string s.f1, .bool s.f2][j]? = some u → W.cell? (a.add (i * 3 + j)) = some u := by
      intro i hil
      obtain ⟨cs', h1, h2⟩ := hi i (by omega)
      rw [cells42] at h1
      obtain ⟨s, rfl⟩ := open_sent h2
      obtain ⟨_, hcl, hat⟩ := World.cells?_some h1
      refine ⟨s, fun j u hj => ?_⟩
      have hj3 : j < 3 := by
        have := (List.getElem?_eq_some_iff.1 hj).1
        simpa using this
      rw [← Go.Deep.add_add, hat j hj3]
      exact hj
    obtain ⟨f, hfx⟩ : ∃ f : Nat → S42, ∀ i, i < len → ∀ j u, [Value.int .i64 (f i).f0, .string (f i).f1, .bool (f i).f2][j]? = some u → W.cell? (a.add (i * 3 + j)) = some u := by
      refine ⟨fun i => if hil : i < len then Classical.choose (hx i hil) else z42, fun i hil => ?_⟩
      simp only [hil, dite_true]
      exact Classical.choose_spec (hx i hil)
    refine ⟨some a, cap, (List.range len).map f, by simp, by simpa using hl, by simp; omega, by simp, by simp; omega, fun _ => ⟨a, rfl, fun j p hp => ?_⟩⟩
    obtain ⟨hj, hp⟩ := List.getElem?_eq_some_iff.1 hp
    simp at hj hp
    subst hp
    exact ⟨_, rfl, k42_mk W (f j), fun i u hu => hfx j hj i u hu⟩
end

set_option maxRecDepth 100000 in
theorem lifted (os : Os) (started : os.Started) (H : Type) (enc : TypeId × Value → H) :
    ReturnsInHanded {} Try.checked os 5 .any (Rows.fnExactSentToSpec.pre6 enc Try.prog Try.f5 Rows.fnExactSentToRow.domain false) (Rows.fnExactSentToSpec.post enc Try.prog Try.f5 false true false false) := by
  refine returnsInHanded_of_change (C := Try.checked) own started (by kernel_rfl) Try.func5
    (ChangeSpec.witness6 (enc := enc) (C := Try.checked) false ⟨#[], #[.slice none 0 0, .int .i64 0], []⟩ 8 (by kernel_rfl) (by kernel_rfl) (by kernel_rfl) (by kernel_rfl)) ?_
  intro W base args ds gs before hval0 hW hcnd _
  have hval : ∀ (j : Nat) t v, Try.f5.params[j]? = some t → args[j]? = some v → Value.okWide Try.prog W .any base t v := hval0
  have hW' := hW
  obtain ⟨p, q, hA0, hV, rfl, hfz, hnd⟩ := hW
  have hA : DataW.TrodAll enc Try.prog W 0 (fun _ => true) true Try.f5.params.toList args.toList ds p := hA0
  rw [Try.params5] at hA hval
  obtain ⟨v0, vs0, d0, ds0, p0, q0, hargs, rfl, rfl, h0, r0⟩ := trodAll_cons hA
  obtain ⟨v1, vs1, d1, ds1, p1, q1, rfl, rfl, rfl, h1, r1⟩ := trodAll_cons r0
  obtain ⟨rfl, rfl, rfl⟩ := trodAll_nil r1
  obtain rfl : args = #[v0, v1] := by cases args; simp_all
  obtain ⟨rfl, rfl⟩ := trodVars_none hV
  have k0 := h0
  have lt0 : ∀ x ∈ p0, x.block < W.heap.size := by obtain ⟨m, hm⟩ := k0; exact DataW.trod_lt m _ _ _ hm
  obtain ⟨A, c, xs, rfl, hc, hN, hC⟩ := open_sents (hval 0 31 v0 rfl rfl) h0
  obtain ⟨a1, rfl, rfl, rfl, w1⟩ := open_int Try.underlying3 (hval 1 3 v1 rfl rfl) h1
  clear hA0 hval0
  refine (law_calls A c xs a1 W hC hc hN).mono fun e W' ⟨he, bel⟩ => ?_
  subst he
  exact ⟨_, rfl, _, _, _, [], _, [], hW', trodAll_mk1 (shut_bool Try.underlying4 _), (trodAll_cons_mk (Below.trod laidOut (by kernel_rfl) (of_decide_eq_true (by kernel_rfl)) k0 bel lt0) (trodAll_cons_mk (shut_int Try.underlying3 w1) trodAll_mk0)), rfl, bel.frame _, fun h => by cases h⟩
theorem over : Rows.fnExactSentToRow.holds Try.pinned (OpenSpec.ofChange Rows.fnExactSentToSpec) :=
  OpenClaim.holds_of_wide 5 Try.f5 rfl rfl rfl rfl rfl rfl rfl ⟨rfl, rfl, rfl, rfl, rfl⟩ rfl rfl rfl rfl rfl (by kernel_rfl) Try.func5 (by kernel_rfl)
    (of_decide_eq_true (by kernel_rfl)) (by unfold Func.isWrapper; first | (rw [if_pos (by decide +kernel)]; kernel_rfl) | (rw [if_neg (by decide +kernel)]; exact ⟨rfl, rfl⟩))
    (fun os started H enc _ => lifted os started H enc)
end Go.Proofs.Ytjlecokclcpciaa.LSentTo
namespace Go.Proofs.Ytjlecokclcpciaa
theorem fnExactSentTo_holds : Rows.FnExactSentToSaid := LSentTo.over
#print axioms fnExactSentTo_holds
end Go.Proofs.Ytjlecokclcpciaa
