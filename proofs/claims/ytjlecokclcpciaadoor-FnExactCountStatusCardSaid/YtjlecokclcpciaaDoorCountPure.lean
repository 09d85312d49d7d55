/- The plain side of laws.FnExactCountStatus: over lists and numbers alone: a head of a reply does not overlap itself, so strings.Count counts all its places. -/
import Derived.Test.YtjlecokclcpciaaDoorCount
import Derived.Test.YtjlecokclcpciaaDoorCountSpec
import Derived.Lib.CountLaws
namespace Go.Proofs.YtjlecokclcpciaaDoor.HCount
open Go.RowKit Go.Proofs.YtjlecokclcpciaaDoorW.PrintWords Go.Proofs.YtjlecokclcpciaaDoorW.PrintLast Go.Proofs.YtjlecokclcpciaaDoorW.PrintMore
open Go.Proofs.YtjlecokclcpciaaDoor.PFnExactCountStatus

theorem wrap_next {n N : Nat} (h : n < N) (hN : N ≤ 4611686018427387904) : wrap64 ((n : Int) + 1) = ((n + 1 : Nat) : Int) := by
  unfold wrap64
  omega

theorem sz_loop (xs : List S38) (hN : xs.length ≤ 1048576) : ∀ (d k n : Nat) (a : Int), n + d = xs.length → d < k → ∃ s, laws_szSentS.l0 k xs a n = some s := by
  intro d
  induction d with
  | zero =>
    intro k n a hd hk
    obtain ⟨k, rfl⟩ : ∃ m, k = m + 1 := ⟨k - 1, by omega⟩
    exact ⟨a, by simp only [laws_szSentS.l0]; rw [if_neg (by omega)]⟩
  | succ d ih =>
    intro k n a hd hk
    obtain ⟨k, rfl⟩ : ∃ m, k = m + 1 := ⟨k - 1, by omega⟩
    have ht : ∃ t, laws_szSent.f (rd_T38 xs n).f0 (rd_T38 xs n).f1 (rd_T38 xs n).f2 a = some t := by
      unfold laws_szSent.f
      split <;> exact ⟨_, rfl⟩
    obtain ⟨t, ht⟩ := ht
    simp only [laws_szSentS.l0]
    rw [if_pos (by omega), if_pos (by omega), ht]
    simp only [Option.bind_some]
    rw [wrap_next (N := xs.length) (by omega) (by omega)]
    split
    · exact ⟨_, rfl⟩
    · exact ih k (n + 1) t (by omega) (by omega)

theorem sz_some (xs : List S38) (hN : xs.length ≤ 9223372036854775807) : ∃ s, laws_szSentS.f (xs.length + 1) xs 1048576 = some s ∧ (0 ≤ s → xs.length ≤ 1048576) := by
  unfold laws_szSentS.f
  by_cases h : wrap64 ((1048576 : Int) - xs.length) < 0
  · rw [if_pos h]
    exact ⟨-1, rfl, fun h => absurd h (by omega)⟩
  · have hM : xs.length ≤ 1048576 := by
      unfold wrap64 at h
      omega
    rw [if_neg h]
    obtain ⟨s, hs⟩ := sz_loop xs hM xs.length (xs.length + 1) 0 (wrap64 ((1048576 : Int) - xs.length)) (by omega) (by omega)
    exact ⟨s, hs, fun _ => hM⟩

theorem to_loop (xs : List S38) (hN : xs.length ≤ 1048576) : ∀ (d k n : Nat) (ys : List S40), n + d = xs.length → d < k → ys.length = xs.length → ∃ r, laws_toSentS.l0 k xs ys n = some r ∧ r.length = xs.length := by
  intro d
  induction d with
  | zero =>
    intro k n ys hd hk hy
    obtain ⟨k, rfl⟩ : ∃ m, k = m + 1 := ⟨k - 1, by omega⟩
    exact ⟨ys, by simp only [laws_toSentS.l0]; rw [if_neg (by omega)], hy⟩
  | succ d ih =>
    intro k n ys hd hk hy
    obtain ⟨k, rfl⟩ : ∃ m, k = m + 1 := ⟨k - 1, by omega⟩
    simp only [laws_toSentS.l0, laws_toSent.f, Option.bind_some]
    rw [if_pos (by omega), if_pos (by omega), if_pos (by omega), wrap_next (N := xs.length) (by omega) (by omega)]
    exact ih k (n + 1) _ (by omega) (by omega) (by rw [List.length_set]; exact hy)

theorem to_some (xs : List S38) (hN : xs.length ≤ 1048576) : ∃ r, laws_toSentS.f (xs.length + 1) xs = some r ∧ r.length = xs.length := by
  unfold laws_toSentS.f
  rw [if_pos (by omega), if_pos (by omega)]
  exact to_loop xs hN xs.length (xs.length + 1) 0 _ (by omega) (by omega) (by simp)

theorem eq_loop (r : List S40) (hN : r.length ≤ 1048576) : ∀ (d k n : Nat), n + d = r.length → d < k → laws_eqSentS.l0 k r r n = some true := by
  intro d
  induction d with
  | zero =>
    intro k n hd hk
    obtain ⟨k, rfl⟩ : ∃ m, k = m + 1 := ⟨k - 1, by omega⟩
    simp only [laws_eqSentS.l0]
    rw [if_neg (by omega)]
  | succ d ih =>
    intro k n hd hk
    obtain ⟨k, rfl⟩ : ∃ m, k = m + 1 := ⟨k - 1, by omega⟩
    simp only [laws_eqSentS.l0, laws_eqSent.f]
    rw [if_pos (by omega), if_pos (by omega), if_pos (by omega), wrap_next (N := r.length) (by omega) (by omega)]
    simp only [if_true, bne_self_eq_false, Bool.false_eq_true, if_false, Option.bind_some]
    exact ih k (n + 1) (by omega) (by omega)

theorem eq_self (r : List S40) (hN : r.length ≤ 1048576) : laws_eqSentS.f (r.length + 1) r r = some true := by
  unfold laws_eqSentS.f
  rw [if_pos rfl]
  exact eq_loop r hN r.length (r.length + 1) 0 (by omega) (by omega)


/-! ### places of a word that cannot overlap itself -/
def occ (h : List UInt8) : List UInt8 → Nat
  | [] => 0
  | b :: l => (if h.isPrefixOf (b :: l) then 1 else 0) + occ h l

theorem occ_skip (t : List UInt8) : ∀ (u s : List UInt8), 72 ∉ u → occ (72 :: t) (u ++ s) = occ (72 :: t) s
  | [], s, _ => rfl
  | b :: u, s, h => by
    have hb : b ≠ 72 := fun e => h (by simp [e])
    have hp : (72 :: t).isPrefixOf (b :: (u ++ s)) = false := by
      simp only [List.isPrefixOf]
      rw [beq_false_of_ne (Ne.symm hb), Bool.false_and]
    rw [List.cons_append, occ, hp, occ_skip t u s (fun e => h (by simp [e]))]
    simp

theorem occ_pre (t : List UInt8) (ht : 72 ∉ t) (s : List UInt8) (h : (72 :: t).isPrefixOf s = true) : occ (72 :: t) s = 1 + occ (72 :: t) (s.drop (72 :: t).length) := by
  obtain ⟨r, rfl⟩ := List.isPrefixOf_iff_prefix.1 h
  rw [List.drop_left]
  conv => lhs; rw [List.cons_append, occ]
  rw [List.cons_append] at h
  rw [h, occ_skip t t r ht]
  rfl

theorem occ_short (h : List UInt8) : ∀ s : List UInt8, s.length < h.length → occ h s = 0
  | [], _ => rfl
  | b :: l, hs => by
    have hp : h.isPrefixOf (b :: l) = false := by
      rw [Bool.eq_false_iff]
      intro e
      have := (List.isPrefixOf_iff_prefix.1 e).length_le
      omega
    rw [occ, hp, occ_short h l (by simp at hs; omega)]
    simp

theorem occ_index (h : List UInt8) (hne : h ≠ []) : ∀ s : List UInt8, (Lib.index s h = -1 → occ h s = 0) ∧ (∀ i : Nat, Lib.index s h = i → occ h s = occ h (s.drop i) ∧ h.isPrefixOf (s.drop i) = true)
  | [] => ⟨fun _ => rfl, fun i hi => by
      unfold Lib.index at hi
      rw [if_neg (by simpa using hne)] at hi
      omega⟩
  | b :: l => by
    obtain ⟨ih1, ih2⟩ := occ_index h hne l
    unfold Lib.index
    by_cases hp : h.isPrefixOf (b :: l) = true
    · rw [if_pos hp]
      refine ⟨fun e => by omega, fun i hi => ?_⟩
      obtain rfl : i = 0 := by omega
      exact ⟨rfl, hp⟩
    · rw [if_neg hp]
      have hp' := Bool.eq_false_iff.2 hp
      have hge := Lib.index_ge l h
      by_cases hm : Lib.index l h = -1
      · rw [if_pos (by simpa using hm)]
        refine ⟨fun _ => ?_, fun i hi => by omega⟩
        rw [occ, hp', ih1 hm]
        simp
      · rw [if_neg (by simpa using hm)]
        refine ⟨fun e => by omega, fun i hi => ?_⟩
        obtain ⟨j, rfl⟩ : ∃ j, i = j + 1 := ⟨i - 1, by omega⟩
        obtain ⟨h1, h2⟩ := ih2 j (by omega)
        refine ⟨?_, h2⟩
        rw [occ, hp', h1]
        simp

theorem count_occ (t : List UInt8) (ht : 72 ∉ t) : ∀ (n : Nat) (s : List UInt8), s.length ≤ n → Lib.count s (72 :: t) = occ (72 :: t) s := by
  intro n
  induction n with
  | zero =>
    intro s hs
    obtain rfl : s = [] := List.length_eq_zero_iff.1 (by omega)
    rfl
  | succ n ih =>
    intro s hs
    obtain ⟨h1, h2⟩ := occ_index (72 :: t) (by simp) s
    by_cases hm : Lib.index s (72 :: t) = -1
    · rw [Lib.count_miss hm, h1 hm]
    · have hge := Lib.index_ge s (72 :: t)
      obtain ⟨i, hi⟩ : ∃ i : Nat, Lib.index s (72 :: t) = i := ⟨(Lib.index s (72 :: t)).toNat, by omega⟩
      obtain ⟨e1, e2⟩ := h2 i hi
      rw [Lib.count_hit (by simp) hi, e1, occ_pre t ht _ e2, List.drop_drop]
      congr 1
      refine ih _ ?_
      have := (List.isPrefixOf_iff_prefix.1 e2).length_le
      simp only [List.length_drop, List.length_cons] at this ⊢
      omega

theorem occ_le (h : List UInt8) : ∀ s : List UInt8, occ h s ≤ s.length
  | [] => Nat.le_refl _
  | b :: l => by
    have := occ_le h l
    rw [occ]
    split <;> simp <;> omega

theorem occ_drop (h s : List UInt8) (j : Nat) (hj : j < s.length) : occ h (s.drop j) = (if Lib.occAt s h j then 1 else 0) + occ h (s.drop (j + 1)) := by
  rw [List.drop_eq_getElem_cons hj, occ, ← List.drop_eq_getElem_cons hj]
  rfl

/-! ### the reference's inner loop -/
theorem wrap_small {a : Int} (h0 : 0 ≤ a) (h1 : a ≤ 1000000001) : wrap64 a = a := by
  unfold wrap64
  omega

theorem l1_end (k : Nat) (r : List S40) (hd : ByteArray) (a i j : Int) (h0 : 0 ≤ i) (h1 : i < (r.length : Int)) (h2 : ¬ wrap64 (j + (hd.size : Int)) ≤ ((rd_T40 r i).f1.size : Int)) :
    spec_CountStatus.l1 (k + 1) r hd a i j = spec_CountStatus.l0 k r hd a (wrap64 (i + 1)) := by
  rw [spec_CountStatus.l1, if_pos h0, if_pos h1, if_neg h2]

theorem l1_step (k : Nat) (r : List S40) (hd : ByteArray) (a i : Int) (j m : Nat) (h0 : 0 ≤ i) (h1 : i < (r.length : Int)) (hm : wrap64 ((j : Int) + (hd.size : Int)) = (m : Int)) (h2 : (m : Int) ≤ ((rd_T40 r i).f1.size : Int)) (h3 : (j : Int) ≤ (m : Int)) :
    spec_CountStatus.l1 (k + 1) r hd a i j = spec_CountStatus.l1 k r hd (wrap64 (a + (if (((rd_T40 r i).f1.extract j m).toList == hd.toList) = true then 1 else 0))) i (wrap64 ((j : Int) + 1)) := by
  rw [spec_CountStatus.l1, if_pos h0, if_pos h1, hm, if_pos h2, if_pos (Int.natCast_nonneg j), if_pos h3, Int.toNat_natCast, Int.toNat_natCast]
  simp only [spec_l01Bit.f]
  split <;> rfl

theorem inner (r : List S40) (hd s : ByteArray) (i : Int) (hi0 : 0 ≤ i) (hi : i < (r.length : Int)) (hrs : (rd_T40 r i).f1 = s) (hh : hd.size = 13) (hl : s.size ≤ 4000) (k : Nat) : ∀ (d j : Nat) (a : Int), 0 ≤ a → a + d ≤ 1000000000 → d = s.size + 1 - (j + 13) → j ≤ 4000 →
    spec_CountStatus.l1 (k + d + 1) r hd a i j = spec_CountStatus.l0 k r hd (a + (occ hd.data.toList (s.data.toList.drop j) : Nat)) (wrap64 (i + 1)) := by
  intro d
  have hlen : s.data.toList.length = s.size := Array.length_toList
  have hhl : hd.data.toList.length = 13 := by rw [← hh]; exact Array.length_toList
  have hW : ∀ j : Nat, j ≤ 4000 → wrap64 ((j : Int) + (hd.size : Int)) = ((j + 13 : Nat) : Int) := fun j hj => by
    rw [hh]
    exact (wrap_small (by omega) (by omega)).trans (by omega)
  induction d with
  | zero =>
    intro j a ha hb hd0 hj
    rw [Nat.add_zero, l1_end k r hd a i j hi0 hi (by rw [hW j hj, hrs]; omega), occ_short _ _ (by rw [List.length_drop, hlen, hhl]; omega), Int.natCast_zero, Int.add_zero]
  | succ d ih =>
    intro j a ha hb hd0 hj
    have hocc := Lib.occ_of_piece s hd j (by omega)
    rw [hh] at hocc
    rw [show k + (d + 1) + 1 = (k + d + 1) + 1 by omega, l1_step (k + d + 1) r hd a i j (j + 13) hi0 hi (hW j hj) (by rw [hrs]; omega) (by omega), hrs, ← hocc, wrap_next (n := j) (N := 5000) (by omega) (by decide), occ_drop _ _ _ (by omega)]
    split
    · rw [wrap_small (by omega) (by omega), ih (j + 1) (a + 1) (by omega) (by omega) (by omega) (by omega)]
      generalize occ hd.data.toList (List.drop (j + 1) s.data.toList) = o
      rw [show a + ((1 + o : Nat) : Int) = a + 1 + (o : Int) by omega]
    · rw [Int.add_zero, wrap_small (by omega) (by omega), ih (j + 1) a (by omega) (by omega) (by omega) (by omega), Nat.zero_add]

theorem both_loop (r : List S40) (hd : ByteArray) (t : List UInt8) (ht : 72 ∉ t) (hh : hd.data.toList = 72 :: t) (hs : hd.size = 13) (hN : r.length ≤ 500) : ∀ (d n : Nat) (a : Int), n + d = r.length → 0 ≤ a → a ≤ 4000 * n →
    (∃ i K, idx0 (d + 1) r n = some i ∧ 0 ≤ i ∧ spec_CountStatus.l0 K r hd a n = some (0, 1)) ∨
    (idx0 (d + 1) r n = some (-1) ∧ (∀ j : Nat, n ≤ j → j < r.length → (rd_T40 r j).f1.size ≤ 4000) ∧ ∃ out K, cnt0 hd (d + 1) r a n = some out ∧ spec_CountStatus.l0 K r hd a n = some (out, 0)) := by
  intro d
  induction d with
  | zero =>
    intro n a hd0 h0 ha
    refine .inr ⟨?_, fun j h1 h2 => by omega, a, 1, ?_, ?_⟩
    · simp only [idx0]; rw [if_neg (by omega)]
    · simp only [cnt0]; rw [if_neg (by omega)]
    · simp only [spec_CountStatus.l0]; rw [if_neg (by omega)]
  | succ d ih =>
    intro n a hd0 h0 ha
    by_cases hl : ((rd_T40 r n).f1.size : Int) > 4000
    · refine .inl ⟨n, 1, ?_, by omega, ?_⟩
      · unfold idx0
        rw [if_pos (by omega), if_pos (by omega), if_pos (by simpa using hl)]
      · unfold spec_CountStatus.l0
        rw [if_pos (by omega), if_pos (by omega), if_pos hl]
    · have hi : idx0 (d + 1 + 1) r n = idx0 (d + 1) r (n + 1 : Nat) := by
        conv => lhs; unfold idx0
        rw [if_pos (by omega), if_pos (by omega), if_neg (by simpa using hl), wrap_next (N := r.length) (by omega) (by omega)]
      have hle := occ_le hd.data.toList (rd_T40 r n).f1.data.toList
      have hlen : (rd_T40 r n).f1.data.toList.length = (rd_T40 r n).f1.size := Array.length_toList
      have hcb : Lib.countB (rd_T40 r n).f1 hd = occ hd.data.toList (rd_T40 r n).f1.data.toList := by
        show Lib.count _ _ = _
        rw [hh]
        exact count_occ t ht _ _ (Nat.le_refl _)
      have hcat : cnt0 hd (d + 1 + 1) r a n = cnt0 hd (d + 1) r (a + (occ hd.data.toList (rd_T40 r n).f1.data.toList : Nat)) (n + 1 : Nat) := by
        conv => lhs; unfold cnt0
        rw [if_pos (by omega), if_pos (by omega), wrap_next (N := r.length) (by omega) (by omega), hcb]
        rw [wrap_small (by omega) (by omega)]
      have hsp : ∀ K, spec_CountStatus.l0 (K + ((rd_T40 r n).f1.size + 1 - (0 + 13)) + 1 + 1) r hd a n = spec_CountStatus.l0 K r hd (a + (occ hd.data.toList (rd_T40 r n).f1.data.toList : Nat)) (n + 1 : Nat) := by
        intro K
        conv => lhs; unfold spec_CountStatus.l0
        rw [if_pos (by omega), if_pos (by omega), if_neg hl]
        have := inner r hd (rd_T40 r n).f1 n (by omega) (by omega) rfl hs (by omega) K _ 0 a h0 (by omega) rfl (by omega)
        rw [wrap_next (N := r.length) (by omega) (by omega)] at this
        simpa using this
      have h := ih (n + 1) (a + (occ hd.data.toList (rd_T40 r n).f1.data.toList : Nat)) (by omega) (by omega) (by omega)
      rw [hi, hcat]
      rcases h with ⟨i, K, h1, h2, h3⟩ | ⟨h1, h2, out, K, h3, h4⟩
      · exact .inl ⟨i, _, h1, h2, (hsp K).trans h3⟩
      · refine .inr ⟨h1, fun j hj hj2 => ?_, out, _, h3, (hsp K).trans h4⟩
        by_cases e : j = n
        · subst e; omega
        · exact h2 j (by omega) hj2

end Go.Proofs.YtjlecokclcpciaaDoor.HCount
