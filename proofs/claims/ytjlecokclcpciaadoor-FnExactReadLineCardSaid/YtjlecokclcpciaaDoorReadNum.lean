/- The plain side of laws.FnExactReadLine, 2: a number's text: strconv.Atoi, its length and strconv.Itoa back against spec.l00Number. -/
import Derived.Test.YtjlecokclcpciaaDoorReadWords
namespace Go.Proofs.YtjlecokclcpciaaDoor.HRead
open Go.RowKit Go.Proofs.YtjlecokclcpciaaDoorW.PrintWords Go.Proofs.YtjlecokclcpciaaDoorW.PrintLast Go.Proofs.YtjlecokclcpciaaDoorW.PrintMore
open Go.Proofs.YtjlecokclcpciaaDoor.PFnExactReadLine
set_option linter.unusedVariables false

def dig1 (c : UInt8) : Bool := decide (48 ≤ c.toNat ∧ c.toNat ≤ 57)
def valF (a : Nat) (r : List UInt8) : Nat := r.foldl (fun a c => a * 10 + (c.toNat - 48)) a
theorem valF_nil (a : Nat) : valF a [] = a := rfl
theorem valF_cons (a : Nat) (c : UInt8) (r : List UInt8) : valF a (c :: r) = valF (a * 10 + (c.toNat - 48)) r := by unfold valF; rw [List.foldl_cons]

theorem valF_append (c : UInt8) : ∀ (r : List UInt8) (a : Nat), valF a (r ++ [c]) = valF a r * 10 + (c.toNat - 48)
  | [], a => rfl
  | x :: r, a => by rw [List.cons_append, valF_cons, valF_cons, valF_append c r]
theorem valF_ge : ∀ (r : List UInt8) (a : Nat), a ≤ valF a r
  | [], a => Nat.le_refl _
  | c :: r, a => by
    have := valF_ge r (a * 10 + (c.toNat - 48))
    rw [valF_cons]
    omega
theorem valF_lt : ∀ (r : List UInt8) (a : Nat), r.all dig1 = true → valF a r < (a + 1) * 10 ^ r.length
  | [], a, _ => by simp [valF_nil]
  | c :: r, a, h => by
    simp only [List.all_cons, Bool.and_eq_true] at h
    have hc := of_decide_eq_true h.1
    have := valF_lt r (a * 10 + (c.toNat - 48)) h.2
    rw [valF_cons, List.length_cons, Nat.pow_succ]
    refine Nat.lt_of_lt_of_le this ?_
    rw [Nat.mul_comm (10 ^ r.length) 10, ← Nat.mul_assoc]
    exact Nat.mul_le_mul_right _ (by omega)
theorem valF_pos (c : UInt8) (r : List UInt8) (h : 49 ≤ c.toNat) : 1 ≤ valF 0 (c :: r) := by
  have := valF_ge r (0 * 10 + (c.toNat - 48))
  rw [valF_cons]
  omega

theorem byte_eq (c : UInt8) (h : 48 ≤ c.toNat) : UInt8.ofNat (48 + (c.toNat - 48)) = c := by
  rw [Nat.add_sub_cancel' h]
  simp

theorem dec_of (n : Nat) : ∀ r : List UInt8, r.length = n → r ≠ [] → r.all dig1 = true → (r.head? ≠ some 48 ∨ r = [48]) → Lib.decDigits (valF 0 r) = r := by
  induction n with
  | zero => intro r hl hne; exact absurd (List.length_eq_zero_iff.1 hl) hne
  | succ n ih =>
    intro r hl hne hd hh
    obtain ⟨r', c, rfl⟩ : ∃ r' c, r = r' ++ [c] := ⟨r.dropLast, r.getLast hne, (List.dropLast_concat_getLast hne).symm⟩
    rw [valF_append]
    simp only [List.all_append, List.all_cons, List.all_nil, Bool.and_true, Bool.and_eq_true] at hd
    have hc := of_decide_eq_true hd.2
    cases r' with
    | nil =>
      rw [show valF 0 [] = 0 from rfl, Nat.zero_mul, Nat.zero_add, Lib.decDigits_one (by omega), byte_eq c hc.1]
      rfl
    | cons x s =>
      have hx : x ≠ 48 := by
        rcases hh with h | h
        · simpa using h
        · simp at h
      have hxd : dig1 x = true := by
        have := hd.1
        simp only [List.all_cons, Bool.and_eq_true] at this
        exact this.1
      have hx2 := of_decide_eq_true hxd
      have hx3 : x.toNat ≠ 48 := fun e => hx (UInt8.toNat_inj.1 (by rw [e]; rfl))
      have hp := valF_pos x s (by omega)
      have := ih (x :: s) (by simp at hl ⊢; omega) (by simp) hd.1 (.inl (by simpa using hx))
      generalize valF 0 (x :: s) = v at hp this ⊢
      rw [Lib.decDigits, dif_neg (by omega), show (v * 10 + (c.toNat - 48)) / 10 = v by omega, show (v * 10 + (c.toNat - 48)) % 10 = c.toNat - 48 by omega, this, byte_eq c hc.1]

theorem digits_of (u : Nat) : (Lib.decDigits u).all dig1 = true ∧ Lib.decDigits u ≠ [] ∧ ((Lib.decDigits u).head? = some 48 → u = 0) := by
  induction u using Nat.strongRecOn with
  | _ u ih =>
    by_cases h : u < 10
    · rw [Lib.decDigits_one h]
      have hb : (UInt8.ofNat (48 + u)).toNat = 48 + u := by
        rw [UInt8.toNat_ofNat']
        omega
      refine ⟨?_, by simp, ?_⟩
      · simp only [List.all_cons, List.all_nil, Bool.and_true]
        exact decide_eq_true (by omega)
      · intro e
        have e : UInt8.ofNat (48 + u) = 48 := by simpa using e
        have := congrArg UInt8.toNat e
        rw [hb] at this
        have h48 : (48 : UInt8).toNat = 48 := rfl
        omega
    · obtain ⟨h1, h2, h3⟩ := ih (u / 10) (by omega)
      rw [Lib.decDigits, dif_neg h]
      have hb : (UInt8.ofNat (48 + u % 10)).toNat = 48 + u % 10 := by
        rw [UInt8.toNat_ofNat']
        omega
      refine ⟨?_, by simp, ?_⟩
      · rw [List.all_append, h1]
        simp only [List.all_cons, List.all_nil, Bool.and_true, Bool.true_and]
        exact decide_eq_true (by omega)
      · intro e
        obtain ⟨x, s, hs⟩ := List.exists_cons_of_ne_nil h2
        rw [hs] at e h3
        have := h3 (by simpa using e)
        omega

theorem parse_of : ∀ (r : List UInt8) (a : Nat), r.all dig1 = true → valF a r < 1000000000000000000 → Lib.parseUint10 a r = .ok (valF a r)
  | [], a, _, _ => rfl
  | c :: r, a, h, hv => by
    simp only [List.all_cons, Bool.and_eq_true] at h
    have hc := of_decide_eq_true h.1
    rw [valF_cons] at hv ⊢
    have hg := valF_ge r (a * 10 + (c.toNat - 48))
    rw [Lib.parseUint10, if_pos hc, if_neg (by omega), if_neg (by omega)]
    exact parse_of r _ h.2 hv

/-- a number's text, as both see it -/
def canon (neg : Bool) (r : List UInt8) : Bool := decide (r ≠ []) && decide (r.length ≤ 18) && (decide (r.head? ≠ some 48) || (decide (r.length = 1) && !neg)) && r.all dig1

theorem toList_eq (a b : ByteArray) : (a.toList == b.toList) = true ↔ a.data.toList = b.data.toList := by
  rw [Lib.toList_data, Lib.toList_data]
  simp

theorem trim_neg (t : ByteArray) (r : List UInt8) (h : t.data.toList = 45 :: r) : (trimB t).size = r.length := by
  unfold trimB
  rw [h]
  simp [Lib.trimPrefix, Lib.hasPrefix, ByteArray.size]
theorem trim_pos (t : ByteArray) (h : t.data.toList.head? ≠ some 45) : (trimB t).size = t.data.toList.length := by
  unfold trimB
  generalize t.data.toList = l at h
  cases l with
  | nil => simp [Lib.trimPrefix, Lib.hasPrefix, ByteArray.size]
  | cons c r =>
    have : c ≠ 45 := by simpa using h
    simp [Lib.trimPrefix, Lib.hasPrefix, ByteArray.size, Ne.symm this]

theorem canon_val {neg : Bool} {r : List UInt8} (h : canon neg r = true) : r ≠ [] ∧ r.length ≤ 18 ∧ r.all dig1 = true ∧ valF 0 r < 1000000000000000000 ∧ (r.head? ≠ some 48 ∨ r = [48]) ∧ (neg = true → 1 ≤ valF 0 r) := by
  unfold canon at h
  simp only [Bool.and_eq_true, Bool.or_eq_true, decide_eq_true_eq, Bool.not_eq_true'] at h
  obtain ⟨⟨⟨h1, h2⟩, h3⟩, h4⟩ := h
  have hv := valF_lt r 0 h4
  have hp : 10 ^ r.length ≤ 10 ^ 18 := Nat.pow_le_pow_right (by decide) h2
  refine ⟨h1, h2, h4, by omega, ?_, ?_⟩
  · rcases h3 with h | ⟨h, _⟩
    · exact .inl h
    · obtain ⟨c, rfl⟩ := List.length_eq_one_iff.1 h
      by_cases hc : c = 48
      · subst hc; exact .inr rfl
      · exact .inl (by simpa using hc)
  · intro hn
    rcases h3 with h | ⟨_, h⟩
    · obtain ⟨c, s, rfl⟩ := List.exists_cons_of_ne_nil h1
      simp only [List.all_cons, Bool.and_eq_true] at h4
      have hc := of_decide_eq_true h4.1
      have hx : c.toNat ≠ 48 := fun e => h (by rw [List.head?_cons, UInt8.toNat_inj.1 (by rw [e]; rfl : c.toNat = (48 : UInt8).toNat)])
      exact valF_pos c s (by omega)
    · rw [hn] at h; cases h

theorem canon_dec (u : Nat) (neg : Bool) (hl : (Lib.decDigits u).length ≤ 18) (hn : neg = true → 1 ≤ u) : canon neg (Lib.decDigits u) = true := by
  obtain ⟨h1, h2, h3⟩ := digits_of u
  unfold canon
  simp only [Bool.and_eq_true, Bool.or_eq_true, decide_eq_true_eq, Bool.not_eq_true']
  refine ⟨⟨⟨h2, hl⟩, ?_⟩, h1⟩
  by_cases h : (Lib.decDigits u).head? = some 48
  · have h0 := h3 h
    subst h0
    refine .inr ⟨by rw [Lib.decDigits_one (by omega)]; rfl, ?_⟩
    cases neg with
    | false => rfl
    | true => have := hn rfl; omega
  · exact .inl h

/-- the program's number, by the text's form -/
theorem numB_neg (t : ByteArray) (r : List UInt8) (h : t.data.toList = 45 :: r) : (numB t).2 = canon true r ∧ (canon true r = true → (numB t).1 = -(valF 0 r : Int)) := by
  by_cases hc : canon true r = true
  · obtain ⟨h1, h2, h3, h4, h5, h6⟩ := canon_val hc
    have hA : Lib.atoiAll t.data.toList = .ok (-(valF 0 r : Int)) := by
      rw [h]
      simp only [Lib.atoiAll]
      rw [if_pos (.inr rfl), Lib.parseMag, if_neg h1, parse_of r 0 h3 h4]
      simp only
      rw [if_neg (fun h => h.1 rfl), if_neg (by omega), if_pos (show UInt8.toNat 45 = 45 from rfl)]
    unfold numB
    rw [hA, hc]
    refine ⟨?_, fun _ => rfl⟩
    simp only [Bool.and_eq_true, decide_eq_true_eq]
    refine ⟨by rw [trim_neg t r h]; exact h2, (toList_eq _ _).2 ?_⟩
    rw [h]
    show (itoaB _).data.toList = _
    unfold itoaB
    rw [Lib.itoa_neg _ (h6 rfl), dec_of _ r rfl h1 h3 h5]
  · refine ⟨?_, fun e => absurd e hc⟩
    rw [Bool.eq_false_iff.2 hc]
    cases hb : (numB t).2 with
    | false => rfl
    | true =>
      exfalso
      apply hc
      unfold numB at hb
      split at hb
      · rename_i v hv
        simp only [Bool.and_eq_true, decide_eq_true_eq] at hb
        rw [trim_neg t r h] at hb
        have he := (toList_eq _ _).1 hb.2
        rw [h] at he
        change Lib.itoa v = 45 :: r at he
        unfold Lib.itoa at he
        split at he
        · injection he with _ he
          rw [← he]
          exact canon_dec _ true (by rw [he]; exact hb.1) (fun _ => by omega)
        · obtain ⟨h1, _, _⟩ := digits_of v.toNat
          rw [he] at h1
          simp only [List.all_cons, Bool.and_eq_true] at h1
          exact absurd h1.1 (by decide)
      · cases hb
      · cases hb

theorem numB_pos (t : ByteArray) (h : t.data.toList.head? ≠ some 45) : (numB t).2 = canon false t.data.toList ∧ (canon false t.data.toList = true → (numB t).1 = (valF 0 t.data.toList : Int)) := by
  have htr := trim_pos t h
  by_cases hc : canon false t.data.toList = true
  · obtain ⟨h1, h2, h3, h4, h5, h6⟩ := canon_val hc
    have hA : Lib.atoiAll t.data.toList = .ok (valF 0 t.data.toList : Int) := by
      obtain ⟨c, s, hs⟩ := List.exists_cons_of_ne_nil h1
      rw [hs] at h h1 h3 h4 ⊢
      have hcd : dig1 c = true := by
        simp only [List.all_cons, Bool.and_eq_true] at h3
        exact h3.1
      have hcd := of_decide_eq_true hcd
      simp only [Lib.atoiAll]
      rw [if_neg (by omega), Lib.parseMag, if_neg h1, parse_of _ 0 h3 h4]
      simp only
      rw [if_neg (by omega), if_neg (by omega), if_neg (by omega)]
    unfold numB
    rw [hA, hc]
    refine ⟨?_, fun _ => rfl⟩
    simp only [Bool.and_eq_true, decide_eq_true_eq]
    refine ⟨by rw [htr]; exact h2, (toList_eq _ _).2 ?_⟩
    show (itoaB _).data.toList = _
    unfold itoaB
    rw [Lib.itoa_nonneg, dec_of _ _ rfl h1 h3 h5]
  · refine ⟨?_, fun e => absurd e hc⟩
    rw [Bool.eq_false_iff.2 hc]
    cases hb : (numB t).2 with
    | false => rfl
    | true =>
      exfalso
      apply hc
      unfold numB at hb
      split at hb
      · rename_i v hv
        simp only [Bool.and_eq_true, decide_eq_true_eq] at hb
        rw [htr] at hb
        have he := (toList_eq _ _).1 hb.2
        change Lib.itoa v = t.data.toList at he
        unfold Lib.itoa at he
        split at he
        · rw [← he] at h
          exact absurd rfl h
        · rw [← he]
          exact canon_dec _ false (by rw [he]; exact hb.1) (fun e => by cases e)
      · cases hb
      · cases hb

end Go.Proofs.YtjlecokclcpciaaDoor.HRead
