/- For every list of Sent and every number, laws.FnExactCountStatus returns true and its arguments read as they read; the row's condition (strconv's tables as the program's text lays them) is met by the card's tie. -/
import Derived.Test.YtjlecokclcpciaaDoorCards
import Derived.Test.YtjlecokclcpciaaDoorTie
import Derived.Test.YtjlecokclcpciaaDoorCountPure
import Derived.WalkKit
import Derived.ProofKit
import Derived.LaidMore
import Derived.OpenShut
import Derived.ChangeOld
import Derived.Below
import Derived.Carry
import Derived.Deep.Slices
import Derived.Lib.SmallJoins
import Derived.Stop.Joined
import Derived.Stop.LaidErr
import Derived.Stop.FmtTextKit
import Derived.SevenTiedAt
namespace Go.Proofs.YtjlecokclcpciaaDoor.LCount
open Go.ChangeShapes Go.WideShapes Go.ChangeAt Go.RowKit Go.Joins Go.Deep
open Go.Proofs.YtjlecokclcpciaaDoorW.PrintWords Go.Proofs.YtjlecokclcpciaaDoorW.PrintLast Go.Proofs.YtjlecokclcpciaaDoorW.PrintMore
open Go.Proofs.YtjlecokclcpciaaDoor.PFnExactCountStatus Go.Proofs.YtjlecokclcpciaaDoor.HCount
set_option linter.unusedVariables false
theorem own : ownKnob Tryd.prog.godebug = none := by kernel_rfl
theorem laidOut : laidOutB Tryd.prog = true := by kernel_rfl
theorem cells38 : Tryd.prog.cellsOf 38 = 3 := by kernel_rfl
theorem one3 : Tryd.prog.cellsOf 3 = 1 := by kernel_rfl
theorem one9 : Tryd.prog.cellsOf 9 = 1 := by kernel_rfl
theorem one4 : Tryd.prog.cellsOf 4 = 1 := by kernel_rfl

/-! ### the eight statuses -/
theorem word_cases (a : Int) : impl_StatusWord.f a = some ⟨#[]⟩ ∨
    ∃ (t : ByteArray) (u : List UInt8) (k : Nat), impl_StatusWord.f a = some t ∧ (t.toList == ([] : List UInt8)) = false ∧ (headOf a).data.toList = 72 :: u ∧ 72 ∉ u ∧ (headOf a).size = 13 ∧ spec_l00Digits.f k a = some (itoaB a) := by
  by_cases h1 : a = 200
  · subst h1
    have e : itoaB 200 = ⟨#[50, 48, 48]⟩ := by unfold itoaB Lib.itoa; simp [Lib.decDigits]
    refine .inr ⟨⟨#[79, 75]⟩, _, 3, by unfold impl_StatusWord.f; rfl, by rw [Lib.toList_data]; rfl, by rw [headOf, e]; rfl, by decide, by rw [headOf, e]; rfl, by rw [e]; decide +kernel⟩
  by_cases h2 : a = 400
  · subst h2
    have e : itoaB 400 = ⟨#[52, 48, 48]⟩ := by unfold itoaB Lib.itoa; simp [Lib.decDigits]
    refine .inr ⟨_, _, 3, by unfold impl_StatusWord.f; rfl, by rw [Lib.toList_data]; rfl, by rw [headOf, e]; rfl, by decide, by rw [headOf, e]; rfl, by rw [e]; decide +kernel⟩
  by_cases h3 : a = 404
  · subst h3
    have e : itoaB 404 = ⟨#[52, 48, 52]⟩ := by unfold itoaB Lib.itoa; simp [Lib.decDigits]
    refine .inr ⟨_, _, 3, by unfold impl_StatusWord.f; rfl, by rw [Lib.toList_data]; rfl, by rw [headOf, e]; rfl, by decide, by rw [headOf, e]; rfl, by rw [e]; decide +kernel⟩
  by_cases h4 : a = 431
  · subst h4
    have e : itoaB 431 = ⟨#[52, 51, 49]⟩ := by unfold itoaB Lib.itoa; simp [Lib.decDigits]
    refine .inr ⟨_, _, 3, by unfold impl_StatusWord.f; rfl, by rw [Lib.toList_data]; rfl, by rw [headOf, e]; rfl, by decide, by rw [headOf, e]; rfl, by rw [e]; decide +kernel⟩
  by_cases h5 : a = 500
  · subst h5
    have e : itoaB 500 = ⟨#[53, 48, 48]⟩ := by unfold itoaB Lib.itoa; simp [Lib.decDigits]
    refine .inr ⟨_, _, 3, by unfold impl_StatusWord.f; rfl, by rw [Lib.toList_data]; rfl, by rw [headOf, e]; rfl, by decide, by rw [headOf, e]; rfl, by rw [e]; decide +kernel⟩
  by_cases h6 : a = 501
  · subst h6
    have e : itoaB 501 = ⟨#[53, 48, 49]⟩ := by unfold itoaB Lib.itoa; simp [Lib.decDigits]
    refine .inr ⟨_, _, 3, by unfold impl_StatusWord.f; rfl, by rw [Lib.toList_data]; rfl, by rw [headOf, e]; rfl, by decide, by rw [headOf, e]; rfl, by rw [e]; decide +kernel⟩
  by_cases h7 : a = 503
  · subst h7
    have e : itoaB 503 = ⟨#[53, 48, 51]⟩ := by unfold itoaB Lib.itoa; simp [Lib.decDigits]
    refine .inr ⟨_, _, 3, by unfold impl_StatusWord.f; rfl, by rw [Lib.toList_data]; rfl, by rw [headOf, e]; rfl, by decide, by rw [headOf, e]; rfl, by rw [e]; decide +kernel⟩
  by_cases h8 : a = 504
  · subst h8
    have e : itoaB 504 = ⟨#[53, 48, 52]⟩ := by unfold itoaB Lib.itoa; simp [Lib.decDigits]
    refine .inr ⟨_, _, 3, by unfold impl_StatusWord.f; rfl, by rw [Lib.toList_data]; rfl, by rw [headOf, e]; rfl, by decide, by rw [headOf, e]; rfl, by rw [e]; decide +kernel⟩
  · refine .inl ?_
    unfold impl_StatusWord.f
    rw [if_neg h1, if_neg h2, if_neg h3, if_neg h4, if_neg h5, if_neg h6, if_neg h7, if_neg h8]

/-- more fuel, the same answer -/
theorem digits_more {a : Int} {t : ByteArray} {k : Nat} (h : spec_l00Digits.f k a = some t) : ∀ m, spec_l00Digits.f (k + m) a = some t
  | 0 => h
  | m + 1 => spec_l00Digits.mono a (k + m) _ (digits_more h m)
theorem loop_more {r : List S40} {hd : ByteArray} {a n : Int} {x : Int × Int} {k : Nat} (h : spec_CountStatus.l0 k r hd a n = some x) : ∀ m, spec_CountStatus.l0 (k + m) r hd a n = some x
  | 0 => h
  | m + 1 => (spec_CountStatus.mono_l (k + m)).2.1 _ _ _ _ _ (loop_more h m)

/-- The program's CountStatus and the reference's come to the same, at every list that is read. -/
theorem count_same (r : List S40) (a1 : Int) (hN0 : -9223372036854775808 ≤ a1) (hN1 : a1 ≤ 9223372036854775807) :
    ∃ (k : Nat) (b c : Int), spec_CountStatus.f k r a1 = some (b, c) ∧
      ∀ (A0 : Option Addr) (c0 : Nat) (M : Int) (w : World), r.length ≤ c0 → Kd.C k40 w A0 r.length r → TabAt w → w.cell? ⟨0, 0, none⟩ = some (.int .i64 M) → Calls Tryd.prog 8 #[.slice A0 r.length c0, .int .i64 a1] w fun e w' => e = .returned (.tuple #[.int .i64 b, .int .i64 c]) ∧ Below w.heap.size w w' := by
  by_cases h1 : 4096 < r.length
  · refine ⟨0, 0, 2, ?_, fun A0 c0 M w _ _ _ _ => count_long A0 c0 r a1 w h1⟩
    unfold spec_CountStatus.f
    rw [if_pos (by omega)]
  · by_cases h2 : 500 < r.length
    · refine ⟨1, 0, 4, ?_, fun A0 c0 M w _ _ _ _ => count_many A0 c0 r a1 w (by omega) h2⟩
      unfold spec_CountStatus.f
      rw [if_neg (by omega), if_pos (by omega), spec_CountStatus.j0, if_pos rfl]
    · rcases word_cases a1 with hw | ⟨t, u, kd, hw, he, hh, hu, hs, hdig⟩
      · refine ⟨1, 0, 4, ?_, fun A0 c0 M w _ _ _ _ => count_word A0 c0 r a1 w (by omega) hw⟩
        unfold spec_CountStatus.f
        rw [if_neg (by omega), if_neg (by omega), show spec_StatusWord.f a1 = some ⟨#[]⟩ from hw, Option.bind_some, spec_CountStatus.j0, if_pos (by rw [Lib.toList_data]; rfl)]
      · have hj : ∀ K x, spec_CountStatus.l0 K r (headOf a1) 0 0 = some x → spec_CountStatus.f (kd + K + 1) r a1 = some x := by
          intro K x hx
          have hsz := itoa_size a1 hN0 hN1
          unfold spec_CountStatus.f
          rw [if_neg (by omega), if_neg (by omega), show spec_StatusWord.f a1 = some t from hw, Option.bind_some, spec_CountStatus.j0, if_neg (by rw [he]; decide), digits_more hdig K, Option.bind_some, if_pos (by omega), if_pos (by rw [ByteArray.size_append]; show 9 + _ + 1 ≤ _; omega), Nat.add_comm kd K]
          exact loop_more hx kd
        rcases both_loop r (headOf a1) u hu hh hs (by omega) r.length 0 0 (by omega) (by omega) (by omega) with ⟨i, K, hi, h0, hsp⟩ | ⟨hi, hz, out, K, ho, hsp⟩
        · exact ⟨_, 0, 1, hj K _ hsp, fun A0 c0 M w hc0 hr _ _ => count_bad (r.length + 1) A0 c0 r a1 i t w hr hc0 (by omega) hw he hi h0⟩
        · refine ⟨_, out, 0, hj K _ hsp, fun A0 c0 M w hc0 hr htab hM => count_good (r.length + 1) (r.length + 1) A0 c0 r a1 (-1) M out t w hr hc0 (by omega) hw he hi (by omega) (fun i => ?_) hN0 hN1 htab hM ho⟩
          by_cases hb : i.toNat < r.length
          · have := hz i.toNat (by omega) hb
            simp only [rd_T40, Int.toNat_natCast] at this ⊢
            exact this
          · have : rd_T40 r i = z40 := by
              unfold rd_T40
              rw [List.getD_eq_getElem?_getD, List.getElem?_eq_none (by omega)]
              rfl
            rw [this]
            simp [z40, ByteArray.size]

/-! ### the law's walk -/
set_option maxHeartbeats 4000000 in
set_option maxRecDepth 100000 in
theorem law_calls (A0 : Option Addr) (c0 : Nat) (l0 : List S38) (a1 M : Int) (w : World) (hr0 : Kd.C k38 w A0 l0.length l0) (hc0 : l0.length ≤ c0) (hN : l0.length ≤ 9223372036854775807) (hN0 : -9223372036854775808 ≤ a1) (hN1 : a1 ≤ 9223372036854775807)
    (htab : TabAt w) (hM : w.cell? ⟨0, 0, none⟩ = some (.int .i64 M)) :
    Calls Tryd.prog 3 #[.slice A0 l0.length c0, .int .i64 a1] w fun e w' => e = .returned (.bool true) ∧ Below w.heap.size w w' := by
  obtain ⟨s, hs, hsN⟩ := sz_some l0 hN
  have HR0 := Aside0.mk hr0
  have HC0 := Aside0.mk hc0
  have HS := Aside0.mk hs
  have HT := Aside0.mk hsN
  have HTab := Aside0.mk htab
  have HMc := Aside0.mk hM
  clear hr0 hc0 hN hs hsN htab hM
  by_cases c1 : s < 0
  · have c1b : decide (s < 0) = true := decide_eq_true c1
    clear c1 hN0 hN1
    go_enter Tryd.func3, Tryd.ntmps3
    go_wp2_with (go_at_call 5; (with_reducible refine (laws_szSentS.calls (l0.length + 1) A0 c0 l0 1048576 s _ HR0.out HC0.out HS.out).mono ?_); (first | rintro e w1 ⟨rfl, b1⟩ | rintro e w1 rfl b1); have B1 := Aside0.mk b1; clear b1)
    go_ret
    exact ⟨rfl, B1.out⟩
  · have c1b : decide (s < 0) = false := decide_eq_false c1
    have hM := HT.out (by omega)
    obtain ⟨r, hr, hrl⟩ := to_some l0 hM
    have HM := Aside0.mk (show r.length ≤ 1048576 by omega)
    have HTO := Aside0.mk hr
    have HEQ := Aside0.mk (eq_self r HM.out)
    obtain ⟨k, b, c, hsp, him⟩ := count_same r a1 hN0 hN1
    have HSP := Aside0.mk hsp
    have HIM := Aside0.mk him
    clear hsp him hN0 hN1
    clear c1 hM hr hrl
    go_enter Tryd.func3, Tryd.ntmps3
    go_wp2_with (go_at_call 5; (with_reducible refine (laws_szSentS.calls (l0.length + 1) A0 c0 l0 1048576 s _ HR0.out HC0.out HS.out).mono ?_); (first | rintro e w1 ⟨rfl, b1⟩ | rintro e w1 rfl b1); have B1 := Aside0.mk b1; clear b1)
    go_wp2_with (go_at_call 7; (with_reducible refine (laws_toSentS.calls (l0.length + 1) A0 c0 l0 r _ (Kd.C_below HR0.out B1.out) HC0.out HTO.out).mono ?_); (first | rintro e w2 ⟨v0, rfl, ho, b2⟩ | rintro e w2 v0 rfl ho b2))
    obtain ⟨A1, c1, rfl, hc1, hC1⟩ := Kd.R_reads ho
    have R1 := Aside0.mk hC1
    have L1 := Aside0.mk hc1
    have B2 := Aside0.mk (below_step B1.out b2)
    clear ho hC1 hc1 b2
    go_wp2_with (go_at_call 6; (with_reducible refine (spec_CountStatus.calls k A1 c1 r a1 b c _ R1.out L1.out HSP.out).mono ?_); (first | rintro e w3 ⟨rfl, hd⟩ | rintro e w3 rfl hd))
    have B3 := Aside0.mk (below_step B2.out hd)
    clear hd
    go_wp2_with (go_at_call 7; (with_reducible refine (laws_toSentS.calls (l0.length + 1) A0 c0 l0 r _ (Kd.C_below HR0.out B3.out) HC0.out HTO.out).mono ?_); (first | rintro e w4 ⟨v0, rfl, ho, b4⟩ | rintro e w4 v0 rfl ho b4))
    obtain ⟨A2, c2, rfl, hc2, hC2⟩ := Kd.R_reads ho
    have R2 := Aside0.mk hC2
    have L2 := Aside0.mk hc2
    have B4 := Aside0.mk (below_step B3.out b4)
    clear ho hC2 hc2 b4
    go_wp2_with (go_at_call 8; (with_reducible refine (HIM.out A2 c2 M _ L2.out R2.out (tab_at HTab.out B4.out) ((B4.out.cell (World.block_lt_of_cell? w _ HMc.out)).trans HMc.out)).mono ?_); (first | rintro e w5 ⟨rfl, b5⟩ | rintro e w5 rfl b5))
    have R3 := Aside0.mk (Kd.C_below R2.out b5)
    have B5 := Aside0.mk (below_step B4.out b5)
    clear b5
    go_wp2_with (go_at_call 7; (with_reducible refine (laws_toSentS.calls (l0.length + 1) A0 c0 l0 r _ (Kd.C_below HR0.out B5.out) HC0.out HTO.out).mono ?_); (first | rintro e w6 ⟨v0, rfl, ho, b6⟩ | rintro e w6 v0 rfl ho b6))
    obtain ⟨A3, c3, rfl, hc3, hC3⟩ := Kd.R_reads ho
    have R4 := Aside0.mk (Kd.C_below R3.out b6)
    have R5 := Aside0.mk hC3
    have L5 := Aside0.mk hc3
    have B6 := Aside0.mk (below_step B5.out b6)
    clear ho hC3 hc3 b6
    go_wp2_with (go_at_call 9; (with_reducible refine (laws_eqSentS.calls (r.length + 1) A2 c2 r A3 c3 r true _ R4.out L2.out R5.out L5.out HEQ.out).mono ?_); (first | rintro e w7 ⟨rfl, b7⟩ | rintro e w7 rfl b7))
    have B7 := Aside0.mk (below_step B6.out b7)
    clear b7
    go_wp2
    go_ret
    exact ⟨rfl, B7.out⟩

/-! ### the argument, opened -/
section
variable {H : Type} {enc : TypeId × Value → H} {W : World} {base : Nat} {spare : Nat → Bool} {held : Bool}
set_option maxRecDepth 100000 in
theorem open_sent {n : Nat} {cs : List Value} {x : DataW H × List MemPlace} (h : DataW.trod enc Tryd.prog W base spare held n 38 cs = some x) :
    ∃ s : S38, cs = [.int .i64 s.f0, .string s.f1, .bool s.f2] := by
  obtain ⟨ys, m, _, _, hl, hlen, hf⟩ := DataW.trod_struct Tryd.underlying38 h
  rw [cells38] at hl
  match cs, hl with
  | [u0, u1, u2], _ =>
    match ys, hlen with
    | [y0, y1, y2], _ =>
      have h0 : DataW.trod enc Tryd.prog W base spare held m 3 ((List.drop 0 [u0, u1, u2]).take (Tryd.prog.cellsOf 3)) = some y0 := hf 0 _ rfl
      have h1 : DataW.trod enc Tryd.prog W base spare held m 9 ((List.drop 1 [u0, u1, u2]).take (Tryd.prog.cellsOf 9)) = some y1 := hf 1 _ rfl
      have h2 : DataW.trod enc Tryd.prog W base spare held m 4 ((List.drop 2 [u0, u1, u2]).take (Tryd.prog.cellsOf 4)) = some y2 := hf 2 _ rfl
      rw [one3] at h0
      rw [one9] at h1
      rw [one4] at h2
      obtain ⟨a, e0, _, _⟩ := DataW.trod_int Tryd.underlying3 h0
      obtain ⟨b, e1, _⟩ := DataW.trod_string Tryd.underlying9 h1
      obtain ⟨c, e2, _⟩ := DataW.trod_bool Tryd.underlying4 h2
      simp at e0 e1 e2
      subst e0 e1 e2
      exact ⟨⟨a, b, c⟩, rfl⟩

set_option maxRecDepth 100000 in
theorem open_sents {v : Value} {d : DataW H} {ps : List MemPlace} {r : Reach} {b0 : Nat} (hv : Value.okWide Tryd.prog W r b0 22 v) (h : DataW.Trod enc Tryd.prog W base spare held 22 v d ps) :
    ∃ (A : Option Addr) (c : Nat) (xs : List S38), v = .slice A xs.length c ∧ xs.length ≤ c ∧ xs.length ≤ 9223372036854775807 ∧ Kd.C k38 W A xs.length xs := by
  obtain ⟨A, len, cap, rfl⟩ := okWide_slice Tryd.underlying22 hv
  obtain ⟨fuel, hf⟩ := h
  rcases open_slice Tryd.underlying22 hf with ⟨hcs, _⟩ | ⟨a, l, c, m, n, D, Pl, hcs, _, hl, hm, hmm, _, hi⟩
  · simp [Value.cells] at hcs
    obtain ⟨rfl, rfl, rfl⟩ := hcs
    exact ⟨none, 0, [], rfl, Nat.le_refl _, by simp, rfl, by simp, fun h => absurd h (by simp)⟩
  · simp [Value.cells] at hcs
    obtain ⟨rfl, rfl, rfl⟩ := hcs
    unfold maxLen at hm
    have hlm : len ≤ m := by
      rw [hmm]
      split <;> omega
    have hx : ∀ i, i < len → ∃ s : S38, ∀ j u, [Value.int .i64 s.f0, .string s.f1, .bool s.f2][j]? = some u → W.cell? (a.add (i * 3 + j)) = some u := by
      intro i hil
      obtain ⟨cs', h1, h2⟩ := hi i (by omega)
      rw [cells38] at h1
      obtain ⟨s, rfl⟩ := open_sent h2
      obtain ⟨_, hcl, hat⟩ := World.cells?_some h1
      refine ⟨s, fun j u hj => ?_⟩
      have hj3 : j < 3 := by
        have := (List.getElem?_eq_some_iff.1 hj).1
        simpa using this
      rw [← Go.Deep.add_add, hat j hj3]
      exact hj
    obtain ⟨f, hfx⟩ : ∃ f : Nat → S38, ∀ i, i < len → ∀ j u, [Value.int .i64 (f i).f0, .string (f i).f1, .bool (f i).f2][j]? = some u → W.cell? (a.add (i * 3 + j)) = some u := by
      refine ⟨fun i => if hil : i < len then Classical.choose (hx i hil) else z38, fun i hil => ?_⟩
      simp only [hil, dite_true]
      exact Classical.choose_spec (hx i hil)
    refine ⟨some a, cap, (List.range len).map f, by simp, by simpa using hl, by simp; omega, by simp, by simp; omega, fun _ => ⟨a, rfl, fun j p hp => ?_⟩⟩
    obtain ⟨hj, hp⟩ := List.getElem?_eq_some_iff.1 hp
    simp at hj hp
    subst hp
    exact ⟨_, rfl, k38_mk W (f j), fun i u hu => hfx j hj i u hu⟩
end


abbrev laid3 {H : Type} : List (String × DataW H) := [("math/bits.deBruijn32tab", Rows.laid_math_bits_deBruijn32tab), ("math/bits.deBruijn64tab", Rows.laid_math_bits_deBruijn64tab), ("internal/strconv.uint64pow10", Rows.laid_internal_strconv_uint64pow10)]
theorem door_met (os : Os) (args : Array Value) : laidMetH Tryd.prog laid3 ((World.doorLaid Tryd.prog 400 os).forCall (fun _ _ => 0) ⟨#[], args, []⟩).memory := by
  rw [MakeChecks.laidMetH_plain _ _ _ (by kernel_rfl)]
  exact laidMet_of_run' 8 (by kernel_rfl) (by kernel_rfl)
theorem p10Type : (Tryd.prog.globals[1]?).map (·.type) = some 106 := by kernel_rfl
theorem tab_of {W : World} (h : laidMetH Tryd.prog laid3 W) : TabAt W := by
  rw [MakeChecks.laidMetH_plain _ _ _ (by kernel_rfl)] at h
  exact Lib.tabIs_of_head (rest := []) gP10 p10Type Tryd.underlying106 Tryd.underlying91 (by kernel_rfl) (by kernel_rfl) (laidMet.tail (laidMet.tail h))

set_option maxRecDepth 100000 in
theorem lifted (os : Os) (started : os.Started) (H : Type) (enc : TypeId × Value → H) :
    ReturnsInHanded {} Tryd.checked os 3 .any (fun w args => (Rows.fnExactCountStatusSpec.pre enc Tryd.prog Tryd.f3 [] false w args ∧ laidMetH Tryd.prog laid3 w) ∧ sizedMet enc Tryd.prog Tryd.f3 (OpenSpec.ofChange Rows.fnExactCountStatusSpec) false w args) (Rows.fnExactCountStatusSpec.post enc Tryd.prog Tryd.f3 false true false false) := by
  refine returnsInHanded_of_calls own started (by kernel_rfl)
    (ChangeSpec.witness_shaped (enc := enc) (C := Tryd.checked) (os := os) (X := fun w _ => laidMetH Tryd.prog laid3 w) false (World.doorLaid Tryd.prog 400 os) #[.slice none 0 0, .int .i64 200] 8 rfl (World.shaped_of_RefB (by kernel_rfl) (by kernel_rfl)) (by kernel_rfl) (by kernel_rfl) (by kernel_rfl) (door_met os _)) ?_
  intro w tape i _ hsh _ hok hpre hholds
  obtain ⟨_, _, _, fn', hfn', _, _, _, _, hval0⟩ := hok
  have efn : fn' = Tryd.f3 := Option.some.inj (hfn'.symm.trans Tryd.func3)
  subst efn
  obtain ⟨⟨⟨ds, gs, before, hw, hc⟩, hx⟩, hz⟩ := hpre
  have hW := DataW.Whole.of_heap (w' := w.forCall tape i) (by rfl) hw
  have hL : laidMetH Tryd.prog laid3 (w.forCall tape i) := hx.of_heap (by rfl)
  have key : Calls Tryd.checked.prog 3 i.args (w.forCall tape i) fun e W' => ∃ v, e = .returned v ∧ Rows.fnExactCountStatusSpec.post enc Tryd.prog Tryd.f3 false true false false (w.forCall tape i) i.args v W' := by
    clear hfn' hw hx hz hholds hc
    generalize w.forCall tape i = W at hsh hval0 hW hL ⊢
    generalize i.args = args at hval0 hW ⊢
    have hval : ∀ (j : Nat) t v, Tryd.f3.params[j]? = some t → args[j]? = some v → Value.okWide Tryd.prog W .any _ t v := hval0
    have hW' := hW
    obtain ⟨p, q, hA0, hV, rfl, hfz, hnd⟩ := hW
    have hA : DataW.TrodAll enc Tryd.prog W 0 (fun _ => true) true Tryd.f3.params.toList args.toList ds p := hA0
    rw [Tryd.params3] at hA hval
    obtain ⟨v0, vs0, d0, ds0, p0, q0, hargs, rfl, rfl, h0, r0⟩ := trodAll_cons hA
    obtain ⟨v1, vs1, d1, ds1, p1, q1, rfl, rfl, rfl, h1, r1⟩ := trodAll_cons r0
    obtain ⟨rfl, rfl, rfl⟩ := trodAll_nil r1
    obtain rfl : args = #[v0, v1] := by cases args; simp_all
    obtain ⟨rfl, rfl⟩ := trodVars_none hV
    have k0 := h0
    have lt0 : ∀ x ∈ p0, x.block < W.heap.size := by obtain ⟨m, hm⟩ := k0; exact DataW.trod_lt m _ _ _ hm
    obtain ⟨A, c, xs, rfl, hc, hN, hC⟩ := open_sents (hval 0 22 v0 rfl rfl) h0
    obtain ⟨a1, rfl, rfl, rfl, w1⟩ := open_int Tryd.underlying3 (hval 1 3 v1 rfl rfl) h1
    obtain ⟨n0, n1⟩ : -9223372036854775808 ≤ a1 ∧ a1 ≤ 9223372036854775807 := by
      have := Go.Extern.FmtText.int_bounds w1
      simpa [IntKind.min, IntKind.max, IntKind.signed, IntKind.bits] using this
    obtain ⟨M, hM⟩ := Tryd.laysM138.s1_3 W hsh
    clear hA0 hval0
    refine (law_calls A c xs a1 M W hC hc hN n0 n1 (tab_of hL) hM).mono fun e W' ⟨he, bel⟩ => ?_
    subst he
    exact ⟨_, rfl, _, _, _, [], _, [], hW', trodAll_mk1 (shut_bool Tryd.underlying4 _), (trodAll_cons_mk (Below.trod laidOut (by kernel_rfl) (of_decide_eq_true (by kernel_rfl)) k0 bel lt0) (trodAll_cons_mk (shut_int Tryd.underlying3 w1) trodAll_mk0)), rfl, bel.frame _, fun h => by cases h⟩
  refine key.mono fun e W' ⟨v, he, hp⟩ => ?_
  subst he
  exact ChangeSpec.post_blind hp
theorem row_holds : Rows.fnExactCountStatusRow.holds Tryd.pinned (OpenSpec.ofChange Rows.fnExactCountStatusSpec) :=
  OpenClaim.holds_of_wide 3 Tryd.f3 rfl rfl rfl rfl rfl rfl rfl ⟨rfl, rfl, rfl, rfl, rfl⟩ rfl rfl rfl rfl rfl (by kernel_rfl) Tryd.func3 (by kernel_rfl)
    (of_decide_eq_true (by kernel_rfl)) (by unfold Func.isWrapper; first | (rw [if_pos (by decide +kernel)]; kernel_rfl) | (rw [if_neg (by decide +kernel)]; exact ⟨rfl, rfl⟩))
    (fun os started H enc _ => lifted os started H enc)
theorem card_holds : Rows.FnExactCountStatusCardSaid :=
  Claim7.holds_tied_plain_at .later [] [.data, .data, .data] true (true, "bd068d6055ff78b5cf51e8e288bc4c0eb7c3380ac8db0290a6a2b636119b27a6") true
    row_holds (fun _ h => by cases h) (by kernel_rfl) (fun _ h => by cases h) fnExactCountStatus_row_tie rfl ⟨rfl, rfl⟩ (by kernel_rfl) rfl
    (fun f fn hf hfn => by
      obtain rfl : f = 3 := Option.some.inj ((show Tryd.prog.funcNamed "loop.example/g00370/laws.FnExactCountStatus" = some 3 by kernel_rfl).symm.trans hf) |>.symm
      obtain rfl : fn = Tryd.f3 := (Option.some.inj (Tryd.func3.symm.trans hfn)).symm
      exact ⟨by kernel_rfl, fun j t ht => by
        rw [Tryd.params3] at ht
        have hm : t ∈ [22, 3] := by simpa using Array.mem_of_getElem? ht
        have hall : ([22, 3].all fun u => !Tryd.prog.wantsStandIn u) = true := by kernel_rfl
        exact (show Tryd.prog.wantsStandIn t = false by simpa using List.all_eq_true.1 hall t hm)⟩)
    (by kernel_rfl)
end Go.Proofs.YtjlecokclcpciaaDoor.LCount
namespace Go.Proofs.YtjlecokclcpciaaDoor
theorem fnExactCountStatus_holds : Rows.FnExactCountStatusCardSaid := LCount.card_holds
#print axioms fnExactCountStatus_holds
end Go.Proofs.YtjlecokclcpciaaDoor
