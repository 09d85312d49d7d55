/- The plain side of laws.FnExactReadLine, 3: spec.l00Number, l08Path, l08Text, l00Join, l15Read and ReadLine come to what the program's come to. -/
import Derived.Test.YtjlecokclcpciaaDoorReadNum
namespace Go.Proofs.YtjlecokclcpciaaDoor.HRead
open Go.RowKit Go.Proofs.YtjlecokclcpciaaDoorW.PrintWords Go.Proofs.YtjlecokclcpciaaDoorW.PrintLast Go.Proofs.YtjlecokclcpciaaDoorW.PrintMore
open Go.Proofs.YtjlecokclcpciaaDoor.PFnExactReadLine
set_option linter.unusedVariables false

theorem wrap_mid {z : Int} (h0 : -4611686018427387904 ≤ z) (h1 : z ≤ 4611686018427387904) : wrap64 z = z := by
  unfold wrap64
  omega

theorem bt_list (s : ByteArray) (pos : Nat) (h : pos < s.data.toList.length) : bt s (pos : Int) = ((s.data.toList[pos]).toNat : Int) := by
  have hs : pos < s.size := h
  unfold bt
  rw [dif_pos (by simpa using hs)]
  simp only [Int.toNat_natCast]
  rfl

theorem digits_loop (x : ByteArray) (x4 : Int) (hx4 : x4 = 1 ∨ x4 = -1) (hs : x.data.toList.length ≤ 18) (m : Nat) : ∀ (d pos a : Nat), pos + d = x.data.toList.length → a < 10 ^ pos →
    spec_l00Number.l0 (d + 1 + m) x x4 a pos = some (if (x.data.toList.drop pos).all dig1 = true then (x4 * (valF a (x.data.toList.drop pos) : Int), true) else (0, false)) := by
  have hsz : (x.size : Int) = (x.data.toList.length : Int) := rfl
  intro d
  induction d with
  | zero =>
    intro pos a hd ha
    have hp : 10 ^ pos ≤ 10 ^ 18 := Nat.pow_le_pow_right (by decide) (by omega)
    rw [List.drop_eq_nil_of_le (by omega), show 0 + 1 + m = m + 1 by omega, spec_l00Number.l0, hsz, if_neg (by omega), List.all_nil, if_pos rfl, valF_nil, wrap_mid]
    · rcases hx4 with rfl | rfl <;> omega
    · rcases hx4 with rfl | rfl <;> omega
  | succ d ih =>
    intro pos a hd ha
    have hlt : pos < x.data.toList.length := by omega
    have hp : 10 ^ pos ≤ 10 ^ 17 := Nat.pow_le_pow_right (by decide) (by omega)
    rw [List.drop_eq_getElem_cons hlt, List.all_cons, valF_cons, show d + 1 + 1 + m = (d + 1 + m) + 1 by omega, spec_l00Number.l0, hsz, if_pos (by omega), if_pos (by omega), bt_list x pos hlt]
    generalize x.data.toList[pos] = c
    by_cases h1 : c.toNat < 48
    · rw [if_pos (by omega), show dig1 c = false from decide_eq_false (by omega), Bool.false_and, if_neg (by decide)]
    · by_cases h2 : 57 < c.toNat
      · rw [if_neg (by omega), if_pos (by omega), show dig1 c = false from decide_eq_false (by omega), Bool.false_and, if_neg (by decide)]
      · have e1 : wrap64 ((a : Int) * 10) = (a : Int) * 10 := wrap_mid (by omega) (by omega)
        have e2 : wrap64 ((c.toNat : Nat) : Int) = (c.toNat : Int) := wrap_mid (by omega) (by omega)
        have e3 : wrap64 ((a : Int) * 10 + (c.toNat : Int)) = (a : Int) * 10 + (c.toNat : Int) := wrap_mid (by omega) (by omega)
        have e4 : wrap64 ((a : Int) * 10 + (c.toNat : Int) - 48) = ((a * 10 + (c.toNat - 48) : Nat) : Int) := (wrap_mid (by omega) (by omega)).trans (by omega)
        rw [if_neg (by omega), if_neg (by omega), e1, e2, e3, e4, next_wrap (n := pos) (N := 18) (by omega) (by omega), show dig1 c = true from decide_eq_true (by omega), Bool.true_and]
        exact ih (pos + 1) _ (by omega) (by rw [Nat.pow_succ]; omega)

theorem j1_spec (x : ByteArray) (neg : Bool) (m : Nat) : spec_l00Number.j1 (21 + m) x (if neg = true then -1 else 1) = some (if canon neg x.data.toList = true then ((if neg = true then -1 else 1) * (valF 0 x.data.toList : Int), true) else (0, false)) := by
  have hsz : (x.size : Int) = (x.data.toList.length : Int) := rfl
  rw [show 21 + m = (20 + m) + 1 by omega, spec_l00Number.j1, hsz]
  by_cases h0 : x.data.toList.length = 0
  · have hn : x.data.toList = [] := List.length_eq_zero_iff.1 h0
    rw [if_pos (by omega), show 20 + m = (19 + m) + 1 by omega, spec_l00Number.j2, if_pos rfl, hn]
    cases neg <;> rfl
  rw [if_neg (by omega)]
  by_cases h1 : 18 < x.data.toList.length
  · rw [if_pos (by omega), show 20 + m = (19 + m) + 1 by omega, spec_l00Number.j2, if_pos rfl, if_neg]
    unfold canon
    rw [decide_eq_false (p := x.data.toList.length ≤ 18) (by omega)]
    simp
  rw [if_neg (by omega), if_pos (by omega)]
  have hb := bt_list x 0 (by omega)
  have hne : x.data.toList ≠ [] := fun e => h0 (by rw [e]; rfl)
  have hloop := digits_loop x (if neg = true then -1 else 1) (by cases neg <;> simp) (by omega) (19 + m - (x.data.toList.length + 1)) x.data.toList.length 0 0 (by omega) (by simp)
  rw [show x.data.toList.length + 1 + (19 + m - (x.data.toList.length + 1)) = 19 + m by omega, List.drop_zero] at hloop
  change spec_l00Number.l0 (19 + m) x (if neg = true then -1 else 1) 0 0 = _ at hloop
  have hb0 : bt x 0 = ((x.data.toList[0]'(by omega)).toNat : Int) := hb
  have hhead : x.data.toList.head? = some (x.data.toList[0]'(by omega)) := by
    rw [List.head?_eq_getElem?, List.getElem?_eq_getElem (by omega)]
  have hcan : canon neg x.data.toList = ((decide (x.data.toList.head? ≠ some 48) || (decide (x.data.toList.length = 1) && !neg)) && x.data.toList.all dig1) := by
    unfold canon
    rw [decide_eq_true hne, decide_eq_true (p := x.data.toList.length ≤ 18) (by omega)]
    simp
  rw [hb0, hcan, hhead]
  generalize x.data.toList[0]'(by omega) = c at *
  by_cases hc : c = 48
  · subst hc
    rw [if_pos (show ((UInt8.toNat 48 : Nat) : Int) = 48 from rfl)]
    by_cases h2 : 1 < x.data.toList.length
    · rw [if_pos (by omega), show 20 + m = (19 + m) + 1 by omega, spec_l00Number.j2, if_pos rfl, decide_eq_false (p := x.data.toList.length = 1) (by omega)]
      simp
    · rw [if_neg (by omega), show 20 + m = (19 + m) + 1 by omega, spec_l00Number.j2, decide_eq_true (p := x.data.toList.length = 1) (by omega)]
      cases neg with
      | true => simp
      | false =>
        rw [if_neg (by decide)]
        simp only [Bool.false_eq_true, if_false] at hloop ⊢
        rw [hloop]
        simp
  · have hc2 : ¬ (c.toNat : Int) = 48 := fun e => hc (UInt8.toNat_inj.1 (by have : c.toNat = 48 := by omega
                                                                            rw [this]; rfl))
    rw [if_neg hc2, show 20 + m = (19 + m) + 1 by omega, spec_l00Number.j2, if_neg (by decide), hloop, decide_eq_true (p := (some c ≠ some (48 : UInt8))) (by simpa using hc)]
    simp

theorem number_spec (t : ByteArray) : ∃ n, Ev (fun k => spec_l00Number.f k t) (n, (numB t).2) ∧ ((numB t).2 = true → n = (numB t).1) := by
  have hsz : (t.size : Int) = (t.data.toList.length : Int) := rfl
  by_cases h45 : t.data.toList.head? = some 45
  · obtain ⟨r, hr⟩ : ∃ r, t.data.toList = 45 :: r := by
      generalize t.data.toList = l at h45
      cases l with
      | nil => cases h45
      | cons c r => exact ⟨r, by rw [show c = 45 by simpa using h45]⟩
    obtain ⟨h1, h2⟩ := numB_neg t r hr
    have hlen : t.data.toList.length = r.length + 1 := by rw [hr]; rfl
    have hb := bt_list t 0 (by omega)
    have hb0 : bt t 0 = 45 := by
      refine (show bt t 0 = _ from hb).trans ?_
      have : t.data.toList[0]'(by omega) = 45 := by simp [hr]
      rw [this]; rfl
    have hx : (t.extract 1 t.size).data.toList = r := by
      rw [Lib.extract_to_end, hr]
      rfl
    have hj := j1_spec (t.extract 1 t.size) true 0
    rw [hx] at hj
    simp only [if_true] at hj
    have hf : spec_l00Number.f (21 + 1) t = some (if canon true r = true then (-1 * (valF 0 r : Int), true) else (0, false)) := by
      unfold spec_l00Number.f
      rw [hsz, if_pos (by omega), if_pos (by omega), hb0, spec_l00Number.j0, if_pos (show ((45 : Int) == 45) = true from rfl), hsz, if_pos (by omega)]
      exact hj
    rw [h1]
    by_cases hc : canon true r = true
    · rw [hc] at hf ⊢
      exact ⟨_, Ev.of (fun k => spec_l00Number.mono t k) hf, fun _ => by rw [h2 hc]; omega⟩
    · rw [if_neg hc] at hf
      rw [Bool.eq_false_iff.2 hc]
      exact ⟨_, Ev.of (fun k => spec_l00Number.mono t k) hf, fun e => by cases e⟩
  · obtain ⟨h1, h2⟩ := numB_pos t h45
    have hj := j1_spec t false 0
    simp only [Bool.false_eq_true, if_false] at hj
    have hf : spec_l00Number.f (21 + 1) t = some (if canon false t.data.toList = true then (1 * (valF 0 t.data.toList : Int), true) else (0, false)) := by
      unfold spec_l00Number.f
      rw [hsz]
      by_cases h0 : t.data.toList.length = 0
      · rw [if_neg (by omega), spec_l00Number.j0, if_neg (by decide)]
        exact hj
      · have hb := bt_list t 0 (by omega)
        have hne : (bt t 0 == 45) = false := by
          rw [show bt t 0 = _ from hb]
          refine beq_eq_false_iff_ne.2 fun e => h45 ?_
          rw [List.head?_eq_getElem?, List.getElem?_eq_getElem (by omega)]
          congr 1
          refine UInt8.toNat_inj.1 ?_
          have h45n : (45 : UInt8).toNat = 45 := rfl
          omega
        rw [if_pos (by omega), if_pos (by omega), hne, spec_l00Number.j0, if_neg (by decide)]
        exact hj
    rw [h1]
    by_cases hc : canon false t.data.toList = true
    · rw [hc] at hf ⊢
      exact ⟨_, Ev.of (fun k => spec_l00Number.mono t k) hf, fun _ => by rw [h2 hc]; omega⟩
    · rw [if_neg hc] at hf
      rw [Bool.eq_false_iff.2 hc]
      exact ⟨_, Ev.of (fun k => spec_l00Number.mono t k) hf, fun e => by cases e⟩

/-! ### a path -/
theorem letter_spec (c : Int) : spec_l00Letter.f c = some (letB c) := by
  unfold spec_l00Letter.f letB
  repeat' split
  all_goals
    congr 1
    rw [Bool.eq_iff_iff]
    simp only [Bool.or_eq_true, Bool.and_eq_true, decide_eq_true_eq, beq_iff_eq, true_iff]
    omega
theorem digit_spec (c : Int) : spec_l00Digit.f c = some (digB c) := by
  unfold spec_l00Digit.f digB
  split
  · rw [decide_eq_true (p := 48 ≤ c) (by omega), Bool.true_and]
  · rw [decide_eq_false (p := 48 ≤ c) (by omega), Bool.false_and]

def pkB (s : ByteArray) : Nat → Nat → Bool
  | 0, _ => true
  | d + 1, pos => pathByte (bt s (pos : Int)) && pkB s d (pos + 1)

theorem run_loop (s : ByteArray) (hs : s.size ≤ 40) (m : Nat) : ∀ (d pos : Nat), pos + d = s.size → ∃ r : Int, run0 (d + 1 + m) s pos = some r ∧ (r == (s.size : Int)) = pkB s d pos := by
  intro d
  induction d with
  | zero =>
    intro pos hd
    refine ⟨pos, ?_, ?_⟩
    · rw [show 0 + 1 + m = m + 1 by omega, run0, if_neg (by omega)]
    · rw [pkB]; exact beq_iff_eq.2 (by omega)
  | succ d ih =>
    intro pos hd
    rw [show d + 1 + 1 + m = (d + 1 + m) + 1 by omega, run0, if_pos (by omega), if_pos (by omega), pkB]
    by_cases hb : pathByte (bt s (pos : Int)) = true
    · obtain ⟨r, h1, h2⟩ := ih (pos + 1) (by omega)
      rw [if_pos hb, next_wrap (n := pos) (N := 41) (by omega) (by omega), hb, Bool.true_and]
      exact ⟨r, h1, h2⟩
    · rw [if_neg hb, Bool.eq_false_iff.2 hb, Bool.false_and]
      exact ⟨pos, rfl, beq_eq_false_iff_ne.2 (by omega)⟩

theorem path_loop (s : ByteArray) (hs : s.size ≤ 40) (m : Nat) : ∀ (d pos : Nat), pos + d = s.size → spec_l08Path.l0 (d + 1 + m) s pos = some (pkB s d pos) := by
  intro d
  induction d with
  | zero =>
    intro pos hd
    rw [show 0 + 1 + m = m + 1 by omega, spec_l08Path.l0, if_neg (by omega), pkB]
  | succ d ih =>
    intro pos hd
    have hn := ih (pos + 1) (by omega)
    rw [show d + 1 + 1 + m = (d + 1 + m) + 1 by omega, spec_l08Path.l0, if_pos (by omega), if_pos (by omega), letter_spec, Option.bind_some, digit_spec, Option.bind_some, next_wrap (n := pos) (N := 41) (by omega) (by omega), hn, pkB]
    unfold pathByte
    cases letB (bt s (pos : Int)) <;> cases digB (bt s (pos : Int))
    · simp only [Bool.false_eq_true, if_false, Bool.false_or]
      by_cases h1 : bt s (pos : Int) = 47
      · simp [h1]
      · by_cases h2 : bt s (pos : Int) = 46
        · simp [h2]
        · by_cases h3 : bt s (pos : Int) = 45
          · simp [h3]
          · simp [h1, h2, h3]
    all_goals simp

theorem path_spec (s : ByteArray) : ∃ (b : Bool) (k : Nat), ∀ m, k ≤ m → pathB m s = some b ∧ spec_l08Path.f m s = some b := by
  by_cases h1 : s.size < 1
  · refine ⟨false, 1, fun m hm => ?_⟩
    obtain ⟨m, rfl⟩ : ∃ j, m = j + 1 := ⟨m - 1, by omega⟩
    unfold pathB spec_l08Path.f
    rw [if_pos h1, if_pos (by omega), spec_l08Path.j0, if_pos rfl]
    exact ⟨rfl, rfl⟩
  by_cases h2 : 40 < s.size
  · refine ⟨false, 1, fun m hm => ?_⟩
    obtain ⟨m, rfl⟩ : ∃ j, m = j + 1 := ⟨m - 1, by omega⟩
    unfold pathB spec_l08Path.f
    rw [if_neg h1, if_pos h2, if_neg (by omega), if_pos (by omega), spec_l08Path.j0, if_pos rfl]
    exact ⟨rfl, rfl⟩
  by_cases h3 : bt s 0 = 47
  · refine ⟨pkB s s.size 0, s.size + 2, fun m hm => ?_⟩
    obtain ⟨m, rfl⟩ : ∃ j, m = s.size + 1 + j + 1 := ⟨m - (s.size + 2), by omega⟩
    obtain ⟨r, e1, e2⟩ := run_loop s (by omega) (m + 1) s.size 0 (by omega)
    have e3 := path_loop s (by omega) m s.size 0 (by omega)
    unfold pathB spec_l08Path.f
    rw [if_neg h1, if_neg h2, if_neg (by simp [h3]), if_neg (by omega), if_neg (by omega), if_pos (by omega), h3, spec_l08Path.j0, if_neg (by decide)]
    refine ⟨?_, e3⟩
    rw [show s.size + 1 + m + 1 = s.size + 1 + (m + 1) by omega, show run0 (s.size + 1 + (m + 1)) s 0 = some r from e1, Option.map_some, e2]
  · refine ⟨false, 1, fun m hm => ?_⟩
    obtain ⟨m, rfl⟩ : ∃ j, m = j + 1 := ⟨m - 1, by omega⟩
    unfold pathB spec_l08Path.f
    rw [if_neg h1, if_neg h2, if_pos h3, if_neg (by omega), if_neg (by omega), if_pos (by omega), bne_iff_ne.2 h3, spec_l08Path.j0, if_pos rfl]
    exact ⟨rfl, rfl⟩

/-! ### a request's text -/
theorem bytes_ext {a b : ByteArray} (h : a.data.toList = b.data.toList) : a = b := by
  cases a; cases b
  simp only [ByteArray.mk.injEq]
  exact Array.toList_inj.1 h

theorem text_spec (p : ByteArray) (c : Bool) (h : p.size ≤ 40) : spec_l08Text.f p c = some (textB p c) := by
  unfold spec_l08Text.f textB
  have s4 : (⟨#[71, 69, 84, 32]⟩ : ByteArray).size = 4 := rfl
  have s23 : (⟨#[32, 72, 84, 84, 80, 47, 49, 46, 49, 13, 10, 72, 111, 115, 116, 58, 32, 101, 100, 103, 101, 13, 10]⟩ : ByteArray).size = 23 := rfl
  have s19 : (⟨#[67, 111, 110, 110, 101, 99, 116, 105, 111, 110, 58, 32, 99, 108, 111, 115, 101, 13, 10]⟩ : ByteArray).size = 19 := rfl
  simp only [ByteArray.size_append, s4, s23, s19]
  rw [if_pos (by omega), if_pos (by omega)]
  cases c
  · simp only [Bool.false_eq_true, if_false]
    rw [if_pos (by omega)]
    congr 1
    apply bytes_ext
    simp
  · simp only [if_true]
    rw [if_pos (by omega), if_pos (by omega)]
    congr 1
    apply bytes_ext
    simp

/-! ### words joined -/
theorem rdOf_get (r : List ByteArray) (i : Nat) (h : i < r.length) : rdOf ByteArray.empty r (i : Int) = r[i] := by
  unfold rdOf
  rw [Int.toNat_natCast, List.getD_eq_getElem?_getD, List.getElem?_eq_getElem h]
  rfl

theorem join_loop (r : List ByteArray) (hN : r.length ≤ 65536) (hz : ∀ z ∈ r, z.size ≤ 65536) (m : Nat) : ∀ (d i : Nat) (acc : ByteArray), 1 ≤ i → i + d = r.length → acc.size ≤ 65537 * i →
    spec_l00Join.l0 (d + 1 + m) r ⟨#[32]⟩ acc i = some ⟨(acc.data.toList ++ Lib.joinTail [32] ((r.drop i).map (·.data.toList))).toArray⟩ := by
  intro d
  induction d with
  | zero =>
    intro i acc hi hd ha
    rw [List.drop_eq_nil_of_le (by omega), show 0 + 1 + m = m + 1 by omega, spec_l00Join.l0, if_neg (by omega)]
    simp [Lib.joinTail]
  | succ d ih =>
    intro i acc hi hd ha
    have hlt : i < r.length := by omega
    have hsz := hz r[i] (List.getElem_mem hlt)
    have s1 : (⟨#[32]⟩ : ByteArray).size = 1 := rfl
    rw [show d + 1 + 1 + m = (d + 1 + m) + 1 by omega, spec_l00Join.l0, if_pos (by omega), if_pos (by omega), s1, if_pos (by omega), if_pos (by omega), rdOf_get r i hlt, ByteArray.size_append, s1, if_pos (by omega), next_wrap (n := i) (N := 65536) (by omega) (by omega),
      ih (i + 1) (acc ++ ⟨#[32]⟩ ++ r[i]) (by omega) (by omega) (by rw [ByteArray.size_append, ByteArray.size_append, s1]; omega), List.drop_eq_getElem_cons hlt, List.map_cons]
    generalize (r.drop (i + 1)).map (·.data.toList) = tl
    simp [Lib.joinTail]

theorem join_spec (r : List ByteArray) (hN : r.length ≤ 65536) (hz : ∀ z ∈ r, z.size ≤ 65536) : ∃ k, ∀ m, k ≤ m → spec_l00Join.f m r ⟨#[32]⟩ = some (joinB r) := by
  refine ⟨r.length + 1, fun m hm => ?_⟩
  unfold spec_l00Join.f joinB
  cases r with
  | nil =>
    obtain ⟨m, rfl⟩ : ∃ j, m = j + 1 := ⟨m - 1, by omega⟩
    rw [spec_l00Join.l0, if_neg (by simp)]
    simp [Lib.join]
  | cons z s =>
    simp only [List.length_cons] at hm hN
    obtain ⟨m, rfl⟩ : ∃ j, m = (s.length + 1 + j) + 1 := ⟨m - (s.length + 2), by omega⟩
    have hzz := hz z (by simp)
    have h0 := rdOf_get (z :: s) 0 (by simp)
    have e0 : (⟨#[]⟩ : ByteArray).size = 0 := rfl
    rw [spec_l00Join.l0, if_pos (by simp only [List.length_cons]; omega), if_neg (by omega), if_pos (by omega), show rdOf ByteArray.empty (z :: s) 0 = z from h0, e0, if_pos (by omega)]
    have hl := join_loop (z :: s) (by simp only [List.length_cons]; omega) hz m s.length 1 (⟨#[]⟩ ++ z) (by omega) (by simp only [List.length_cons]; omega) (by rw [ByteArray.size_append, e0]; omega)
    rw [show wrap64 ((0 : Int) + 1) = ((1 : Nat) : Int) by unfold wrap64; rfl, hl, List.map_cons, Lib.join_cons]
    simp

/-! ### the line -/
theorem rd0 (x : ByteArray) (r : List ByteArray) : rdOf ByteArray.empty (x :: r) 0 = x := rfl
theorem rd1 (x y : ByteArray) (r : List ByteArray) : rdOf ByteArray.empty (x :: y :: r) 1 = y := rfl
theorem rd2 (x y z : ByteArray) (r : List ByteArray) : rdOf ByteArray.empty (x :: y :: z :: r) 2 = z := rfl

theorem beq_of {x : ByteArray} {l : List UInt8} (h : x.toList = l) : (x.toList == l) = true := by simp [h]
theorem beq_no {x : ByteArray} {l : List UInt8} (h : x.toList ≠ l) : (x.toList == l) = false := beq_eq_false_iff_ne.2 h

/-- the reference's reading of two words or more, behind its number: as the program's -/
theorem two_spec (x y : ByteArray) (r : List ByteArray) (hN : r.length ≤ 65536) (hz : ∀ z ∈ r, z.size ≤ 65536) :
    ∃ (a : Int × Int × ByteArray × Bool) (k : Nat), ∀ m, k ≤ m → actR m x y r = some a ∧
      (x.toList ≠ [116, 105, 99, 107] → ∃ a', spec_l15Read.j0 m (x :: y :: r) false 0 0 ⟨#[]⟩ = some a' ∧ a'.2.2.2 = a.2.2.2 ∧ (a.2.2.2 = true → a' = a)) ∧
      (x.toList = [116, 105, 99, 107] → ∃ a', spec_l15Read.j0 m (x :: y :: r) false 0 0 ⟨#[]⟩ = some a' ∧ a'.2.2.2 = false) := by
  obtain ⟨n, hn, hnv⟩ := number_spec y
  obtain ⟨kn, hn⟩ := hn.at_
  have hlen : ((x :: y :: r).length : Int) = (r.length : Int) + 2 := by simp only [List.length_cons]; omega
  have j0n : ∀ m, kn ≤ m → (numB y).2 = false → spec_l15Read.j0 (m + 1) (x :: y :: r) false 0 0 ⟨#[]⟩ = some (0, 0, ⟨#[]⟩, false) := by
    intro m hm h
    rw [spec_l15Read.j0, if_neg (by decide), hlen, if_neg (by omega), if_pos (by omega), rd1, hn m hm, Option.bind_some]
    simp only [h]
    rfl
  by_cases hb : (numB y).2 = false
  · refine ⟨actBad, kn + 1, fun m hm => ?_⟩
    obtain ⟨m, rfl⟩ : ∃ j, m = j + 1 := ⟨m - 1, by omega⟩
    have hj := j0n m (by omega) hb
    refine ⟨by unfold actR; rw [if_pos hb], fun _ => ⟨_, hj, rfl, fun h => by cases h⟩, fun _ => ⟨_, hj, rfl⟩⟩
  have hb := (Bool.not_eq_false _).mp hb
  have hnv := hnv hb
  subst hnv
  have j0y : ∀ m, kn ≤ m → spec_l15Read.j0 (m + 1) (x :: y :: r) false 0 0 ⟨#[]⟩ = spec_l15Read.j1 m (x :: y :: r) (decide (x.toList = [111, 112, 101, 110]) && ((r.length : Int) + 2 == 2)) 0 0 ⟨#[]⟩ 0 (numB y).1 ⟨#[]⟩ := by
    intro m hm
    rw [spec_l15Read.j0, if_neg (by decide), hlen, if_neg (by omega), if_pos (by omega), rd1, hn m hm, Option.bind_some]
    simp only [hb, if_true]
    rw [if_pos (by omega), rd0]
    by_cases h : x.toList = [111, 112, 101, 110]
    · rw [if_pos h, decide_eq_true h, Bool.true_and]
    · rw [if_neg h, decide_eq_false h, Bool.false_and]
  have j1y : ∀ m b, spec_l15Read.j1 (m + 1) (x :: y :: r) b 0 0 ⟨#[]⟩ 0 (numB y).1 ⟨#[]⟩ = if b = true then some (1, (numB y).1, ⟨#[]⟩, true) else spec_l15Read.j2 m (x :: y :: r) (decide (x.toList = [99, 108, 111, 115, 101]) && ((r.length : Int) + 2 == 2)) 0 0 ⟨#[]⟩ 0 (numB y).1 ⟨#[]⟩ := by
    intro m b
    rw [spec_l15Read.j1, hlen, if_pos (by omega : (0 : Int) < (r.length : Int) + 2), rd0]
    congr 1
    by_cases h : x.toList = [99, 108, 111, 115, 101]
    · rw [if_pos h, decide_eq_true h, Bool.true_and]
    · rw [if_neg h, decide_eq_false h, Bool.false_and]
  have j3n : ∀ m, x.toList ≠ [115, 101, 110, 100] → spec_l15Read.j3 (m + 1) (x :: y :: r) false 0 0 ⟨#[]⟩ 0 (numB y).1 ⟨#[]⟩ = some (0, 0, ⟨#[]⟩, false) := by
    intro m h
    rw [spec_l15Read.j3, if_neg (by decide), hlen, if_pos (by omega), rd0, if_neg h]
  have j2n : ∀ m b, x.toList ≠ [103, 101, 116] → x.toList ≠ [108, 97, 115, 116] → spec_l15Read.j2 (m + 1) (x :: y :: r) b 0 0 ⟨#[]⟩ 0 (numB y).1 ⟨#[]⟩ = if b = true then some (3, (numB y).1, ⟨#[]⟩, true) else spec_l15Read.j3 m (x :: y :: r) false 0 0 ⟨#[]⟩ 0 (numB y).1 ⟨#[]⟩ := by
    intro m b h1 h2
    rw [spec_l15Read.j2, hlen, if_pos (by omega : (0 : Int) < (r.length : Int) + 2), rd0, if_neg h1, if_neg h2]
  have hbn : ¬ (numB y).2 = false := by rw [hb]; decide
  -- open
  by_cases hO : x.toList = [111, 112, 101, 110]
  · have hnt : x.toList ≠ [116, 105, 99, 107] := by rw [hO]; decide
    by_cases hr : r.length = 0
    · refine ⟨(1, (numB y).1, ⟨#[]⟩, true), kn + 2, fun m hm => ?_⟩
      obtain ⟨m, rfl⟩ : ∃ j, m = j + 2 := ⟨m - 2, by omega⟩
      refine ⟨by unfold actR; rw [if_neg hbn, if_pos hO, if_pos hr], fun _ => ⟨_, ?_, rfl, fun _ => rfl⟩, fun h => absurd h hnt⟩
      rw [j0y (m + 1) (by omega), j1y, if_pos (by rw [decide_eq_true hO, hr]; rfl)]
    · refine ⟨actBad, kn + 4, fun m hm => ?_⟩
      obtain ⟨m, rfl⟩ : ∃ j, m = j + 4 := ⟨m - 4, by omega⟩
      refine ⟨by unfold actR; rw [if_neg hbn, if_pos hO, if_neg hr], fun _ => ⟨actBad, ?_, rfl, fun _ => rfl⟩, fun h => absurd h hnt⟩
      rw [j0y (m + 3) (by omega), j1y, if_neg (by simp; omega), j2n _ _ (by rw [hO]; decide) (by rw [hO]; decide), if_neg (by rw [decide_eq_false (by rw [hO]; decide)]; simp), j3n _ (by rw [hO]; decide)]
      rfl
  have j0o : ∀ m, kn ≤ m → spec_l15Read.j0 (m + 2) (x :: y :: r) false 0 0 ⟨#[]⟩ = spec_l15Read.j2 m (x :: y :: r) (decide (x.toList = [99, 108, 111, 115, 101]) && ((r.length : Int) + 2 == 2)) 0 0 ⟨#[]⟩ 0 (numB y).1 ⟨#[]⟩ := by
    intro m hm
    rw [j0y (m + 1) (by omega), j1y, if_neg (by rw [decide_eq_false hO]; simp)]
  by_cases hC : x.toList = [99, 108, 111, 115, 101]
  · have hnt : x.toList ≠ [116, 105, 99, 107] := by rw [hC]; decide
    by_cases hr : r.length = 0
    · refine ⟨(3, (numB y).1, ⟨#[]⟩, true), kn + 3, fun m hm => ?_⟩
      obtain ⟨m, rfl⟩ : ∃ j, m = j + 3 := ⟨m - 3, by omega⟩
      refine ⟨by unfold actR; rw [if_neg hbn, if_neg hO, if_pos hC, if_pos hr], fun _ => ⟨_, ?_, rfl, fun _ => rfl⟩, fun h => absurd h hnt⟩
      rw [j0o (m + 1) (by omega), j2n _ _ (by rw [hC]; decide) (by rw [hC]; decide), if_pos (by rw [decide_eq_true hC, hr]; rfl)]
    · refine ⟨actBad, kn + 4, fun m hm => ?_⟩
      obtain ⟨m, rfl⟩ : ∃ j, m = j + 4 := ⟨m - 4, by omega⟩
      refine ⟨by unfold actR; rw [if_neg hbn, if_neg hO, if_pos hC, if_neg hr], fun _ => ⟨actBad, ?_, rfl, fun _ => rfl⟩, fun h => absurd h hnt⟩
      rw [j0o (m + 2) (by omega), j2n _ _ (by rw [hC]; decide) (by rw [hC]; decide), if_neg (by simp; omega), j3n _ (by rw [hC]; decide)]
      rfl
  have hcl : (decide (x.toList = [99, 108, 111, 115, 101]) && ((r.length : Int) + 2 == 2)) = false := by rw [decide_eq_false hC, Bool.false_and]
  by_cases hG : x.toList = [103, 101, 116] ∨ x.toList = [108, 97, 115, 116]
  · have hnt : x.toList ≠ [116, 105, 99, 107] := by rcases hG with h | h <;> (rw [h]; decide)
    have hns : x.toList ≠ [115, 101, 110, 100] := by rcases hG with h | h <;> (rw [h]; decide)
    have j2g : ∀ m, spec_l15Read.j2 (m + 1) (x :: y :: r) false 0 0 ⟨#[]⟩ 0 (numB y).1 ⟨#[]⟩ = if (r.length : Int) + 2 = 3 then (if 2 < (r.length : Int) + 2 then ((spec_l08Path.f m (rdOf ByteArray.empty (x :: y :: r) 2)).bind fun t => spec_l15Read.j3 m (x :: y :: r) t 0 0 ⟨#[]⟩ 0 (numB y).1 ⟨#[]⟩) else none) else spec_l15Read.j3 m (x :: y :: r) false 0 0 ⟨#[]⟩ 0 (numB y).1 ⟨#[]⟩ := by
      intro m
      rw [spec_l15Read.j2, if_neg (by decide), hlen, if_pos (by omega : (0 : Int) < (r.length : Int) + 2), rd0]
      rcases hG with h | h
      · rw [if_pos h]
      · rw [if_neg (by rw [h]; decide), if_pos h]
    by_cases hr : r.length = 1
    · obtain ⟨z, rfl⟩ := List.length_eq_one_iff.1 hr
      obtain ⟨p, kp, hp⟩ := path_spec z
      have hA : ∀ m, kp ≤ m → actR m x y [z] = some (if p = true then (2, (numB y).1, textB z (decide (x.toList = [108, 97, 115, 116])), true) else actBad) := by
        intro m hm
        unfold actR
        rw [if_neg hbn, if_neg hO, if_neg hC, if_pos hG]
        simp only [(hp m hm).1, Option.bind_some]
        split <;> rfl
      refine ⟨(if p = true then (2, (numB y).1, textB z (decide (x.toList = [108, 97, 115, 116])), true) else actBad), kn + kp + 4, fun m hm => ?_⟩
      obtain ⟨m, rfl⟩ : ∃ j, m = j + 4 := ⟨m - 4, by omega⟩
      refine ⟨hA _ (by omega), fun _ => ⟨(if p = true then (2, (numB y).1, textB z (decide (x.toList = [108, 97, 115, 116])), true) else actBad), ?_, rfl, fun _ => rfl⟩, fun h => absurd h hnt⟩
      rw [j0o (m + 2) (by omega), hcl, j2g, if_pos (by simp), if_pos (by simp), rd2, (hp (m + 1) (by omega)).2, Option.bind_some]
      cases p with
      | false => rw [j3n _ hns]; rfl
      | true =>
        have h40 : z.size ≤ 40 := by
          have := (hp (kp) (Nat.le_refl _)).1
          unfold pathB at this
          split at this
          · simp at this
          split at this
          · simp at this
          · omega
        have e : (x.toList == ([108, 97, 115, 116] : List UInt8)) = decide (x.toList = [108, 97, 115, 116]) := by
          by_cases h : x.toList = [108, 97, 115, 116]
          · rw [beq_of h, decide_eq_true h]
          · rw [beq_no h, decide_eq_false h]
        rw [spec_l15Read.j3, if_pos rfl, hlen, if_pos (by simp), if_pos (by simp), rd2, rd0, e, text_spec z _ h40, Option.bind_some, if_pos rfl]
    · refine ⟨actBad, kn + 4, fun m hm => ?_⟩
      obtain ⟨m, rfl⟩ : ∃ j, m = j + 4 := ⟨m - 4, by omega⟩
      refine ⟨?_, fun _ => ⟨actBad, ?_, rfl, fun _ => rfl⟩, fun h => absurd h hnt⟩
      · unfold actR
        rw [if_neg hbn, if_neg hO, if_neg hC, if_pos hG]
        rcases r with _ | ⟨z, _ | ⟨z2, rs⟩⟩
        · rfl
        · exact absurd rfl hr
        · rfl
      · rw [j0o (m + 2) (by omega), hcl, j2g, if_neg (by omega), j3n _ hns]
        rfl
  have hg : x.toList ≠ [103, 101, 116] := fun e => hG (.inl e)
  have hl : x.toList ≠ [108, 97, 115, 116] := fun e => hG (.inr e)
  by_cases hS : x.toList = [115, 101, 110, 100]
  · have hnt : x.toList ≠ [116, 105, 99, 107] := by rw [hS]; decide
    obtain ⟨kj, hj⟩ := join_spec r hN hz
    have hjs := joinB_le r hN hz
    refine ⟨(2, (numB y).1, joinB r ++ ⟨#[13, 10]⟩, true), kn + kj + 4, fun m hm => ?_⟩
    obtain ⟨m, rfl⟩ : ∃ j, m = j + 4 := ⟨m - 4, by omega⟩
    refine ⟨by unfold actR; rw [if_neg hbn, if_neg hO, if_neg hC, if_neg hG, if_pos hS], fun _ => ⟨_, ?_, rfl, fun _ => rfl⟩, fun h => absurd h hnt⟩
    rw [j0o (m + 2) (by omega), hcl, j2n _ _ hg hl, if_neg (by decide), spec_l15Read.j3, if_neg (by decide), hlen, if_pos (by omega), rd0, if_pos hS, if_pos (by omega)]
    show ((spec_l00Join.f m r ⟨#[32]⟩).bind _) = _
    rw [hj m (by omega), Option.bind_some, if_pos (by omega)]
  · have hbad : ∀ m, kn ≤ m → spec_l15Read.j0 (m + 4) (x :: y :: r) false 0 0 ⟨#[]⟩ = some (0, 0, ⟨#[]⟩, false) := by
      intro m hm
      rw [j0o (m + 2) (by omega), hcl, j2n _ _ hg hl, if_neg (by decide), j3n _ hS]
    refine ⟨actBad, kn + 4, fun m hm => ?_⟩
    obtain ⟨m, rfl⟩ : ∃ j, m = j + 4 := ⟨m - 4, by omega⟩
    refine ⟨by unfold actR; rw [if_neg hbn, if_neg hO, if_neg hC, if_neg hG, if_neg hS], fun _ => ⟨_, hbad m (by omega), rfl, fun h => by cases h⟩, fun _ => ⟨_, hbad m (by omega), rfl⟩⟩

/-- the words of a line are no longer than the line, and not more -/
theorem words_small (s : ByteArray) (hs : s.size ≤ 65536) : (words s).length ≤ 65536 + 2 ∧ ∀ z ∈ words s, z.size ≤ 65536 := by
  refine ⟨?_, fun z hz => ?_⟩
  · rw [words_eq]
    have : ∀ (d pos : Nat) (st : Option Nat) (acc : List (Nat × Nat)), (spansB s d pos st acc).length ≤ acc.length + d + 1 := by
      intro d
      induction d with
      | zero =>
        intro pos st acc
        cases st <;> simp [spansB, Lib.closeSpans]
      | succ d ih =>
        intro pos st acc
        rw [spansB]
        split
        · refine Nat.le_trans (ih _ _ _) ?_
          cases st <;> simp [closeOne] <;> omega
        · exact Nat.le_trans (ih _ _ _) (by omega)
    have h := this s.size 0 none []
    simp only [cutsB, List.length_map, List.length_nil] at h ⊢
    omega
  · rw [words_eq] at hz
    obtain ⟨x, _, rfl⟩ := List.mem_map.1 hz
    rw [ByteArray.size_extract]
    omega

/-- The program's ReadLine and the reference's come to the same. -/
theorem read_same (s : ByteArray) : ∃ (k1 k2 : Int) (t : ByteArray) (c : Int) (k : Nat), readB k s = some (k1, k2, t, c) ∧ spec_ReadLine.f k s = some (k1, k2, t, c) := by
  by_cases hs : 65536 < s.size
  · refine ⟨0, 0, ⟨#[]⟩, 2, 0, ?_, ?_⟩
    · unfold readB; rw [if_pos hs]
    · unfold spec_ReadLine.f; rw [if_pos (by omega)]
  obtain ⟨kw, hw⟩ := (words_spec s (by omega)).at_
  obtain ⟨hl, hz⟩ := words_small s (by omega)
  have hread : ∀ k, readB k s = (match words s with
      | [] => some (0, 0, ⟨#[]⟩, 3)
      | [x] => if x.toList = [116, 105, 99, 107] then some (4, 0, ⟨#[]⟩, 0) else some (0, 0, ⟨#[]⟩, 3)
      | x :: y :: r => if x.toList = [116, 105, 99, 107] then some (0, 0, ⟨#[]⟩, 3) else
        (actR k x y r).map fun a => if a.2.2.2 = true then (a.1, a.2.1, a.2.2.1, 0) else (0, 0, ⟨#[]⟩, 3)) := by
    intro k
    unfold readB
    rw [if_neg hs]
    rfl
  have hspec : ∀ k, kw ≤ k → spec_ReadLine.f k s = (if ((words s).length : Int) = 1 then (if 0 < ((words s).length : Int) then (spec_l15Read.j0 k (words s) ((rdOf ByteArray.empty (words s) 0).toList == ([116, 105, 99, 107] : List UInt8)) 0 0 (⟨#[]⟩ : ByteArray)) else (none)) else (spec_l15Read.j0 k (words s) false 0 0 (⟨#[]⟩ : ByteArray))).bind fun bt => if bt.2.2.2 = true then some (bt.1, bt.2.1, bt.2.2.1, 0) else some (0, 0, ⟨#[]⟩, 3) := by
    intro k hk
    unfold spec_ReadLine.f spec_l15Read.f
    rw [if_neg (by omega), hw k hk, Option.bind_some]
  generalize words s = ws at hread hspec hl hz
  match ws with
  | [] =>
    refine ⟨0, 0, ⟨#[]⟩, 3, kw + 1, (hread _), ?_⟩
    rw [hspec _ (by omega), if_neg (by simp), spec_l15Read.j0, if_neg (by decide), if_pos (by simp), Option.bind_some, if_neg (by decide)]
  | [x] =>
    by_cases hx : x.toList = [116, 105, 99, 107]
    · refine ⟨4, 0, ⟨#[]⟩, 0, kw + 1, (hread _).trans (by simp only [hx, if_true]), ?_⟩
      rw [hspec _ (by omega), if_pos (by simp), if_pos (by simp), rd0, beq_of hx, spec_l15Read.j0, if_pos rfl, Option.bind_some, if_pos rfl]
    · refine ⟨0, 0, ⟨#[]⟩, 3, kw + 1, (hread _).trans (by simp only [hx, if_false]), ?_⟩
      rw [hspec _ (by omega), if_pos (by simp), if_pos (by simp), rd0, beq_no hx, spec_l15Read.j0, if_neg (by decide), if_pos (by simp), Option.bind_some, if_neg (by decide)]
  | x :: y :: r =>
    simp only [List.length_cons] at hl
    obtain ⟨⟨a1, a2, a3, a4⟩, k, ha⟩ := two_spec x y r (by omega) (fun z h => hz z (by simp [h]))
    obtain ⟨h1, h2, h3⟩ := ha (kw + k) (by omega)
    have hne : ¬ (((x :: y :: r).length : Int) = 1) := by simp only [List.length_cons]; omega
    by_cases hx : x.toList = [116, 105, 99, 107]
    · obtain ⟨⟨b1, b2, b3, b4⟩, hb, hb2⟩ := h3 hx
      simp only at hb2
      subst hb2
      refine ⟨0, 0, ⟨#[]⟩, 3, kw + k, (hread _).trans (by simp only [hx, if_true]), ?_⟩
      rw [hspec _ (by omega), if_neg hne, hb, Option.bind_some, if_neg (by simp)]
    · obtain ⟨⟨b1, b2, b3, b4⟩, hb, hb2, hb3⟩ := h2 hx
      simp only at hb2 hb3
      subst hb2
      cases b4 with
      | false =>
        refine ⟨0, 0, ⟨#[]⟩, 3, kw + k, (hread _).trans (by simp only [hx, if_false, h1, Option.map_some]; rfl), ?_⟩
        rw [hspec _ (by omega), if_neg hne, hb, Option.bind_some, if_neg (by simp)]
      | true =>
        have e := hb3 rfl
        refine ⟨a1, a2, a3, 0, kw + k, (hread _).trans (by simp only [hx, if_false, h1, Option.map_some]; rfl), ?_⟩
        rw [hspec _ (by omega), if_neg hne, hb, Option.bind_some, if_pos rfl, e]

end Go.Proofs.YtjlecokclcpciaaDoor.HRead
