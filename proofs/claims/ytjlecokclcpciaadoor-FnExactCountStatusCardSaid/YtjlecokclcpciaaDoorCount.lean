/- The contracts of the functions that laws.FnExactCountStatus reaches and the print does not take: slices.IndexFunc and ContainsFunc at longSent, impl.statusHead, impl.CountStatus; they ask for strconv's table of powers and the cell of bytealg.MaxLen. -/
import Derived.Test.YtjlecokclcpciaaDoorCountBase
import Derived.Test.YtjlecokclcpciaaDoorShelf
import Derived.Lib.SmallJoins
import Derived.Lib.ItoaLen
import Derived.Lib.AppendIntMem
import Derived.Lib.QuietBelow
namespace Go.Proofs.YtjlecokclcpciaaDoor.HCount
open Go.RowKit Go.Joins Go.Sort Go.Proofs.YtjlecokclcpciaaDoorW.PrintWords Go.Proofs.YtjlecokclcpciaaDoorW.PrintLast Go.Proofs.YtjlecokclcpciaaDoorW.PrintMore
open Go.Proofs.YtjlecokclcpciaaDoor.PFnExactCountStatus
set_option linter.unusedVariables false
set_option linter.unusedSimpArgs false

/-! ### slices.IndexFunc at longSent -/
def idx0 : Nat → List S40 → Int → Option Int
  | 0, _, _ => none
  | k + 1, xs, i => if i < (xs.length : Int) then (if 0 ≤ i then (if decide (((rd_T40 xs i).f1.size : Int) > 4000) = true then some i else idx0 k xs (wrap64 (i + 1))) else none) else some (-1)

set_option maxHeartbeats 4000000 in
set_option maxRecDepth 100000 in
theorem index_calls (k : Nat) (A0 : Option Addr) (c0 : Nat) (l0 : List S40) (r : Int) (w : World) (hr0 : Kd.C k40 w A0 l0.length l0) (hc0 : l0.length ≤ c0) (h : idx0 k l0 0 = some r) :
    Calls Tryd.prog 27 #[.slice A0 l0.length c0, .func (.func 20) #[] #[]] w fun e w' => e = .returned (.int .i64 r) ∧ Below w.heap.size w w' := by
  have HR0 := Aside0.mk hr0
  have HC0 := Aside0.mk hc0
  have H' := Aside0.mk h
  clear hr0 hc0 h
  have HB := Aside0.mk (Below.refl w.heap.size w)
  go_enter Tryd.func27, Tryd.ntmps27
  go_wp2
  go_loopg [8] k (fun kq v8 w' => ∃ (x : Int), v8 = .int .i64 x ∧ Aside0 (idx0 kq l0 x = some r) ∧ Aside0 (kq ≤ k) ∧ Aside0 (Below w.heap.size w w'))
  case atStart => exact ⟨0, rfl, H', ⟨Nat.le_refl _⟩, HB⟩
  case round =>
    clear H' HB
    obtain ⟨x, rfl, HA, HK1, HB⟩ := hrel
    cases gk with
    | zero => exact absurd HA.out (by simp [idx0])
    | succ k1 =>
      have H := HA.out
      clear HA
      simp only [idx0] at H
      by_cases c4 : x < (l0.length : Int)
      · rw [if_pos c4] at H
        have c4b0 : decide (x < (l0.length : Int)) = true := decide_eq_true c4
        by_cases c5 : 0 ≤ x
        · rw [if_pos c5] at H
          have c5b0 : decide (0 ≤ x) = true := decide_eq_true c5
          obtain ⟨ad, e1, hx0, hx1, hx2⟩ := at_T40 HR0.out x c5 c4
          cases e1
          replace hx0 := (HB.out.cell (World.block_lt_of_cell? w _ hx0)).trans hx0
          replace hx1 := (HB.out.cell (World.block_lt_of_cell? w _ hx1)).trans hx1
          replace hx2 := (HB.out.cell (World.block_lt_of_cell? w _ hx2)).trans hx2
          have p1 := eq_true c5
          have q1 := eq_true c4
          clear c4 c5
          by_cases c7 : decide (((rd_T40 l0 x).f1.size : Int) > 4000) = true
          · rw [if_pos c7] at H
            obtain rfl := Option.some.inj H
            have A6 := Aside0.mk (show impl_longSent.f ((rd_T40 l0 x).f0) ((rd_T40 l0 x).f1) ((rd_T40 l0 x).f2) = some true by unfold impl_longSent.f; rw [c7])
            clear c7
            go_wp2_with (go_at_call 20; (with_reducible refine (impl_longSent.calls ((rd_T40 l0 x).f0) ((rd_T40 l0 x).f1) ((rd_T40 l0 x).f2) true _ A6.out).mono ?_); rintro e w8 ⟨rfl, hb⟩; have n0_ := Aside0.mk (below_step HB.out hb); clear HB; have HB := n0_; clear n0_ hb)
            go_ret
            exact ⟨rfl, HB.out⟩
          · rw [if_neg c7] at H
            have H' := Aside0.mk H
            clear H
            have A6 := Aside0.mk (show impl_longSent.f ((rd_T40 l0 x).f0) ((rd_T40 l0 x).f1) ((rd_T40 l0 x).f2) = some false by unfold impl_longSent.f; rw [Bool.eq_false_iff.mpr c7])
            clear c7
            go_wp2_with (go_at_call 20; (with_reducible refine (impl_longSent.calls ((rd_T40 l0 x).f0) ((rd_T40 l0 x).f1) ((rd_T40 l0 x).f2) false _ A6.out).mono ?_); rintro e w8 ⟨rfl, hb⟩; have n0_ := Aside0.mk (below_step HB.out hb); clear HB; have HB := n0_; clear n0_ hb)
            go_roundg k1
            case measure => have := HK1.out; omega
            case rel => exact ⟨wrap64 (x + 1), (by first | rfl | (simp; done)), H', ⟨by have := HK1.out; omega⟩, HB⟩
        · rw [if_neg c5] at H
          exact absurd H (by simp)
      · rw [if_neg c4] at H
        have c4b0 : decide (x < (l0.length : Int)) = false := decide_eq_false c4
        obtain rfl := Option.some.inj H
        clear c4
        go_wp2
        go_ret
        exact ⟨rfl, HB.out⟩

/-! ### slices.ContainsFunc at longSent -/
set_option maxHeartbeats 1000000 in
theorem contains_calls (k : Nat) (A0 : Option Addr) (c0 : Nat) (l0 : List S40) (r : Int) (w : World) (hr0 : Kd.C k40 w A0 l0.length l0) (hc0 : l0.length ≤ c0) (h : idx0 k l0 0 = some r) :
    Calls Tryd.prog 19 #[.slice A0 l0.length c0, .func (.func 20) #[] #[]] w fun e w' => e = .returned (.bool (decide (0 ≤ r))) ∧ Below w.heap.size w w' := by
  have HR0 := Aside0.mk hr0
  have HC0 := Aside0.mk hc0
  have H' := Aside0.mk h
  clear hr0 hc0 h
  go_enter Tryd.func19, Tryd.ntmps19
  go_wp2_with (go_at_call 27; (with_reducible refine (index_calls k A0 c0 l0 r _ HR0.out HC0.out H'.out).mono ?_); rintro e w8 ⟨rfl, hb⟩)
  go_ret
  exact ⟨by first | rfl | simp, hb⟩

/-! ### impl.statusHead -/
abbrev TabAt (w : World) : Prop := Lib.TabIs Tryd.prog w "internal/strconv.uint64pow10" .u64 Lib.pow10Tab
def itoaB (n : Int) : ByteArray := ⟨(Lib.itoa n).toArray⟩
def headOf (n : Int) : ByteArray := (⟨#[72, 84, 84, 80, 47, 49, 46, 49, 32]⟩ : ByteArray) ++ itoaB n ++ (⟨#[32]⟩ : ByteArray)
theorem gP10 : Tryd.prog.globalNamed "internal/strconv.uint64pow10" = some 1 := by kernel_rfl
theorem tab_at {w w' : World} (h : TabAt w) (hb : Below w.heap.size w w') : TabAt w' := by
  exact tab_stays gP10 h hb (Nat.le_refl _)
theorem itoa_size (n : Int) (h0 : -9223372036854775808 ≤ n) (h1 : n ≤ 9223372036854775807) : (itoaB n).size ≤ 21 := by
  have := Lib.itoa_length_le n h0 h1
  simpa [ByteArray.size, itoaB] using this

set_option maxHeartbeats 1000000 in
set_option maxRecDepth 100000 in
theorem head_calls (n : Int) (h0 : -9223372036854775808 ≤ n) (h1 : n ≤ 9223372036854775807) (w : World) (htab : TabAt w) :
    Calls Tryd.prog 22 #[.int .i64 n] w fun e w' => e = .returned (.string (headOf n)) ∧ Below w.heap.size w w' := by
  have hs := itoa_size n h0 h1
  have hI := Tryd.strconv_Itoa n h0 h1 w htab
  change Calls Tryd.prog 31 #[.int .i64 n] w fun e w' => e = .returned (.string (itoaB n)) ∧ _ at hI
  unfold headOf
  generalize itoaB n = t at hs hI
  have e9 : (⟨#[72, 84, 84, 80, 47, 49, 46, 49, 32]⟩ : ByteArray).size = 9 := rfl
  have c9 : 9 + t.size ≤ 9223372036854775807 := by omega
  have c9b0 := eq_true c9
  have c9b1 : decide (9 + t.size ≤ 9223372036854775807) = true := decide_eq_true c9
  have c9b2 : (9223372036854775807 < 9 + t.size) = False := eq_false (Nat.not_lt.2 c9)
  have c10 : ((⟨#[72, 84, 84, 80, 47, 49, 46, 49, 32]⟩ : ByteArray) ++ t).size + 1 ≤ 9223372036854775807 := by rw [ByteArray.size_append]; omega
  have c10b0 := eq_true c10
  have c10b1 : decide (((⟨#[72, 84, 84, 80, 47, 49, 46, 49, 32]⟩ : ByteArray) ++ t).size + 1 ≤ 9223372036854775807) = true := decide_eq_true c10
  have c10b2 : (9223372036854775807 < ((⟨#[72, 84, 84, 80, 47, 49, 46, 49, 32]⟩ : ByteArray) ++ t).size + 1) = False := eq_false (Nat.not_lt.2 c10)
  have c11b0 : (9 + t.size + 1 ≤ 9223372036854775807) = True := eq_true (by omega)
  have c11b1 : decide (9 + t.size + 1 ≤ 9223372036854775807) = true := decide_eq_true (by omega)
  have c11b2 : (9223372036854775807 < 9 + t.size + 1) = False := eq_false (by omega)
  have HI := Aside0.mk hI
  clear htab h0 h1 hs hI c9 c10 e9
  go_enter Tryd.func22, Tryd.ntmps22
  go_wp2_with (go_at_call 31; (refine HI.out.mono ?_; (first | rintro e w1 ⟨rfl, k, os, rfl⟩ | rintro e w1 rfl k os rfl); have B1 := Aside0.mk (Go.Lib.below_grow w.heap.size w (Nat.le_refl _) k os)))
  go_ret
  exact ⟨rfl, B1.out⟩

/-! ### impl.CountStatus -/
def cnt0 (h : ByteArray) : Nat → List S40 → Int → Int → Option Int
  | 0, _, _, _ => none
  | k + 1, xs, n, i => if i < (xs.length : Int) then (if 0 ≤ i then cnt0 h k xs (wrap64 (n + (Lib.countB (rd_T40 xs i).f1 h : Nat))) (wrap64 (i + 1)) else none) else some n

set_option maxHeartbeats 1000000 in
set_option maxRecDepth 100000 in
theorem count_long (A0 : Option Addr) (c0 : Nat) (l0 : List S40) (a1 : Int) (w : World) (hl : 4096 < l0.length) :
    Calls Tryd.prog 8 #[.slice A0 l0.length c0, .int .i64 a1] w fun e w' => e = .returned (.tuple #[.int .i64 0, .int .i64 2]) ∧ Below w.heap.size w w' := by
  have c3b0 : decide (4096 < (l0.length : Int)) = true := decide_eq_true (by omega)
  have c3b1 : decide (4096 < l0.length) = true := decide_eq_true hl
  clear hl
  go_enter Tryd.func8, Tryd.ntmps8
  go_wp2
  go_ret2
  exact ⟨by first | rfl | (simp; done), Below.refl _ _⟩

set_option maxHeartbeats 1000000 in
set_option maxRecDepth 100000 in
theorem count_many (A0 : Option Addr) (c0 : Nat) (l0 : List S40) (a1 : Int) (w : World) (hl : l0.length ≤ 4096) (hm : 500 < l0.length) :
    Calls Tryd.prog 8 #[.slice A0 l0.length c0, .int .i64 a1] w fun e w' => e = .returned (.tuple #[.int .i64 0, .int .i64 4]) ∧ Below w.heap.size w w' := by
  have c3b0 : decide (4096 < (l0.length : Int)) = false := decide_eq_false (by omega)
  have c3b1 : decide (4096 < l0.length) = false := decide_eq_false (by omega)
  have c4b0 : decide (500 < (l0.length : Int)) = true := decide_eq_true (by omega)
  have c4b1 : decide (500 < l0.length) = true := decide_eq_true hm
  clear hl hm
  go_enter Tryd.func8, Tryd.ntmps8
  go_wp2
  go_ret2
  exact ⟨by first | rfl | (simp; done), Below.refl _ _⟩

set_option maxHeartbeats 1000000 in
set_option maxRecDepth 100000 in
theorem count_word (A0 : Option Addr) (c0 : Nat) (l0 : List S40) (a1 : Int) (w : World) (hm : l0.length ≤ 500) (hw : impl_StatusWord.f a1 = some ⟨#[]⟩) :
    Calls Tryd.prog 8 #[.slice A0 l0.length c0, .int .i64 a1] w fun e w' => e = .returned (.tuple #[.int .i64 0, .int .i64 4]) ∧ Below w.heap.size w w' := by
  have c3b0 : decide (4096 < (l0.length : Int)) = false := decide_eq_false (by omega)
  have c3b1 : decide (4096 < l0.length) = false := decide_eq_false (by omega)
  have c4b0 : decide (500 < (l0.length : Int)) = false := decide_eq_false (by omega)
  have c4b1 : decide (500 < l0.length) = false := decide_eq_false (by omega)
  have HW := Aside0.mk hw
  clear hm hw
  go_enter Tryd.func8, Tryd.ntmps8
  go_wp2_with (go_at_call 18; (with_reducible refine (impl_StatusWord.calls a1 _ _ HW.out).mono ?_); (first | rintro e w1 ⟨rfl, nd, rfl⟩ | rintro e w1 rfl nd rfl))
  go_ret2
  exact ⟨by first | rfl | (simp; done), by first | exact pw_below_drewN (Below.refl _ _) _ | (repeat (first | exact Below.refl _ _ | apply pw_below_drewN | apply below_drew1))⟩

set_option maxHeartbeats 1000000 in
set_option maxRecDepth 100000 in
theorem count_bad (k : Nat) (A0 : Option Addr) (c0 : Nat) (l0 : List S40) (a1 r : Int) (t : ByteArray) (w : World) (hr0 : Kd.C k40 w A0 l0.length l0) (hc0 : l0.length ≤ c0) (hm : l0.length ≤ 500) (hw : impl_StatusWord.f a1 = some t) (he : (t.toList == ([] : List UInt8)) = false) (h : idx0 k l0 0 = some r) (h0 : 0 ≤ r) :
    Calls Tryd.prog 8 #[.slice A0 l0.length c0, .int .i64 a1] w fun e w' => e = .returned (.tuple #[.int .i64 0, .int .i64 1]) ∧ Below w.heap.size w w' := by
  have c3b0 : decide (4096 < (l0.length : Int)) = false := decide_eq_false (by omega)
  have c3b1 : decide (4096 < l0.length) = false := decide_eq_false (by omega)
  have c4b0 : decide (500 < (l0.length : Int)) = false := decide_eq_false (by omega)
  have c4b1 : decide (500 < l0.length) = false := decide_eq_false (by omega)
  have c5b0 : decide (0 ≤ r) = true := decide_eq_true h0
  have HR0 := Aside0.mk hr0
  have HC0 := Aside0.mk hc0
  have HW := Aside0.mk hw
  have H' := Aside0.mk h
  clear hr0 hc0 h hm h0 hw
  go_enter Tryd.func8, Tryd.ntmps8
  go_wp2_with (first | (go_at_call 18; (with_reducible refine (impl_StatusWord.calls a1 _ _ HW.out).mono ?_); (first | rintro e w1 ⟨rfl, nd, rfl⟩ | rintro e w1 rfl nd rfl); have HB := Aside0.mk (pw_below_drewN (Below.refl w.heap.size w) nd)) | (go_at_call 19; (with_reducible refine (contains_calls k A0 c0 l0 r _ (Kd.C_below HR0.out HB.out) HC0.out H'.out).mono ?_); rintro e w8 ⟨rfl, hb⟩))
  go_ret2
  exact ⟨by first | rfl | (simp; done), below_step HB.out hb⟩

set_option maxHeartbeats 4000000 in
set_option maxRecDepth 100000 in
theorem count_good (k m : Nat) (A0 : Option Addr) (c0 : Nat) (l0 : List S40) (a1 r M out : Int) (t : ByteArray) (w : World) (hr0 : Kd.C k40 w A0 l0.length l0) (hc0 : l0.length ≤ c0) (hm : l0.length ≤ 500) (hw : impl_StatusWord.f a1 = some t) (he : (t.toList == ([] : List UInt8)) = false) (h : idx0 k l0 0 = some r) (h0 : r < 0)
    (hs : ∀ i, (rd_T40 l0 i).f1.size ≤ 4000) (hN0 : -9223372036854775808 ≤ a1) (hN1 : a1 ≤ 9223372036854775807) (htab : TabAt w) (hM : w.cell? ⟨0, 0, none⟩ = some (.int .i64 M)) (ho : cnt0 (headOf a1) m l0 0 0 = some out) :
    Calls Tryd.prog 8 #[.slice A0 l0.length c0, .int .i64 a1] w fun e w' => e = .returned (.tuple #[.int .i64 out, .int .i64 0]) ∧ Below w.heap.size w w' := by
  have c3b0 : decide (4096 < (l0.length : Int)) = false := decide_eq_false (by omega)
  have c3b1 : decide (4096 < l0.length) = false := decide_eq_false (by omega)
  have c4b0 : decide (500 < (l0.length : Int)) = false := decide_eq_false (by omega)
  have c4b1 : decide (500 < l0.length) = false := decide_eq_false (by omega)
  have c5b0 : decide (0 ≤ r) = false := decide_eq_false (by omega)
  have HR0 := Aside0.mk hr0
  have HC0 := Aside0.mk hc0
  have HW := Aside0.mk hw
  have HM := Aside0.mk hm
  have HS := Aside0.mk hs
  have HN0 := Aside0.mk hN0
  have HN1 := Aside0.mk hN1
  have HT := Aside0.mk htab
  have HC := Aside0.mk hM
  have H' := Aside0.mk h
  have HO := Aside0.mk ho
  clear hr0 hc0 h h0 hm hs ho hw hN0 hN1 htab hM
  go_enter Tryd.func8, Tryd.ntmps8
  go_wp2_with (first | (go_at_call 18; (with_reducible refine (impl_StatusWord.calls a1 _ _ HW.out).mono ?_); (first | rintro e w1 ⟨rfl, nd, rfl⟩ | rintro e w1 rfl nd rfl); have HB0 := Aside0.mk (pw_below_drewN (Below.refl w.heap.size w) nd)) | (go_at_call 19; (with_reducible refine (contains_calls k A0 c0 l0 r _ (Kd.C_below HR0.out HB0.out) HC0.out H'.out).mono ?_); rintro e w8 ⟨rfl, hb⟩; have HB := Aside0.mk (below_step HB0.out hb); clear hb))
  go_loopg [6, 27] m (fun kq v6 v27 wr => ∃ (n x : Int), v6 = .int .i64 n ∧ v27 = .int .i64 x ∧ Aside0 (cnt0 (headOf a1) kq l0 n x = some out) ∧ Aside0 (kq ≤ m) ∧ Aside0 (Below w.heap.size w wr))
  case atStart => exact ⟨0, 0, rfl, rfl, HO, ⟨Nat.le_refl _⟩, HB⟩
  case round =>
    clear HO HB HB0
    obtain ⟨n, x, rfl, rfl, HA, HK1, HB⟩ := hrel
    cases gk with
    | zero => exact absurd HA.out (by simp [cnt0])
    | succ k1 =>
      have H := HA.out
      clear HA
      simp only [cnt0] at H
      by_cases c4 : x < (l0.length : Int)
      · rw [if_pos c4] at H
        have c4b0 : decide (x < (l0.length : Int)) = true := decide_eq_true c4
        by_cases c5 : 0 ≤ x
        · rw [if_pos c5] at H
          have c5b0 : decide (0 ≤ x) = true := decide_eq_true c5
          obtain ⟨ad, e1, hx0, hx1, hx2⟩ := at_T40 HR0.out x c5 c4
          cases e1
          replace hx0 := (HB.out.cell (World.block_lt_of_cell? w _ hx0)).trans hx0
          replace hx1 := (HB.out.cell (World.block_lt_of_cell? w _ hx1)).trans hx1
          replace hx2 := (HB.out.cell (World.block_lt_of_cell? w _ hx2)).trans hx2
          have H' := Aside0.mk H
          have p1 := eq_true c5
          have q1 := eq_true c4
          clear c4 c5 H
          go_wp2
          have HB1 := Aside0.mk (show Below w.heap.size w (wr.alloc (.cells #[.int .i64 (rd_T40 l0 x).f0, .string (rd_T40 l0 x).f1, .bool (rd_T40 l0 x).f2] 40 (0, 0))) from below_alloc HB.out _)
          have hz : (wr.alloc (.cells #[.int .i64 (rd_T40 l0 x).f0, .string (rd_T40 l0 x).f1, .bool (rd_T40 l0 x).f2] 40 (0, 0))).cell? ⟨wr.heap.size, 1, none⟩ = some (.string (rd_T40 l0 x).f1) := by simp
          generalize (wr.alloc (.cells #[.int .i64 (rd_T40 l0 x).f0, .string (rd_T40 l0 x).f1, .bool (rd_T40 l0 x).f2] 40 (0, 0))) = w9 at HB1 hz ⊢
          have k1' := cell_regrown hz
          have cH : ∀ d os, Calls Tryd.prog 22 #[.int .i64 a1] (grow (redrawn w9 d) os) fun e w'' => e = .returned (.string (headOf a1)) ∧ ∃ p : Regrown, w'' = grow (redrawn w9 p.d) p.os := fun d os => Calls.regrown_of (head_calls a1 HN0.out HN1.out _ (tab_at HT.out (below_step HB1.out (below_regrown w9 d os))))
          have cC : ∀ d os, Calls Tryd.prog 21 #[.string (rd_T40 l0 x).f1, .string (headOf a1)] (grow (redrawn w9 d) os) fun e w'' => e = .returned (.int .i64 (Lib.countB (rd_T40 l0 x).f1 (headOf a1) : Nat)) ∧ ∃ p : Regrown, w'' = grow (redrawn w9 p.d) p.os := fun d os => Calls.regrown_of ((Tryd.strings_Count ((rd_T40 l0 x).f1) (headOf a1) M _ (by have := HS.out x; omega) (((below_step HB1.out (below_regrown w9 d os)).cell (World.block_lt_of_cell? w _ HC.out)).trans HC.out) (by unfold headOf; rw [ByteArray.size_append, ByteArray.size_append]; show 2 ≤ 9 + _ + 1; omega)).mono fun e w' ⟨he, hw⟩ => ⟨he, hw ▸ Below.refl _ _⟩)
          refine wp_region_quiet_below (by kernel_rfl) (by kernel_rfl) ?_
          repeat (quiet_step (first | exact cH _ _ | exact cC _ _))
          refine wpQuiet_nil ?_
          intro _ hw'
          obtain ⟨⟨dq, osq⟩, hw''⟩ := hw'
          subst hw''
          have HB2 := Aside0.mk (below_step HB1.out (below_regrown w9 dq osq))
          go_wp2
          go_roundg k1
          case measure => have := HK1.out; omega
          case rel => exact ⟨wrap64 (n + (Lib.countB (rd_T40 l0 x).f1 (headOf a1) : Nat)), wrap64 (x + 1), (by first | rfl | (simp [i64_w]; done)), (by first | rfl | (simp [i64_w]; done)), H', ⟨by have := HK1.out; omega⟩, HB2⟩
        · rw [if_neg c5] at H
          exact absurd H (by simp)
      · rw [if_neg c4] at H
        have c4b0 : decide (x < (l0.length : Int)) = false := decide_eq_false c4
        obtain rfl := Option.some.inj H
        clear c4
        go_wp2
        go_ret2
        exact ⟨by first | rfl | (simp; done), HB.out⟩

end Go.Proofs.YtjlecokclcpciaaDoor.HCount
