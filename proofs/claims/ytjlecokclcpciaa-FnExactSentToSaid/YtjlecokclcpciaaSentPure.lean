/- The plain side of laws.FnExactSentTo: what the printed functions and SentTo's own come to, over lists and numbers alone. -/
import Derived.Test.YtjlecokclcpciaaSentTo
namespace Go.Proofs.Ytjlecokclcpciaa.HSentTo
open Go.RowKit Go.Proofs.YtjlecokclcpciaaW.PrintWords Go.Proofs.YtjlecokclcpciaaW.PrintLast Go.Proofs.YtjlecokclcpciaaW.PrintMore
open Go.Proofs.Ytjlecokclcpciaa.PFnExactSentTo

theorem wrap_next {n N : Nat} (h : n < N) (hN : N ≤ 4611686018427387904) : wrap64 ((n : Int) + 1) = ((n + 1 : Nat) : Int) := by
  unfold wrap64
  omega

theorem sz_loop (xs : List S42) (hN : xs.length ≤ 1048576) : ∀ (d k n : Nat) (a : Int), n + d = xs.length → d < k → ∃ s, laws_szSentS.l0 k xs a n = some s := by
  intro d
  induction d with
  | zero =>
    intro k n a hd hk
    obtain ⟨k, rfl⟩ : ∃ m, k = m + 1 := ⟨k - 1, by omega⟩
    exact ⟨a, by simp only [laws_szSentS.l0]; rw [if_neg (by omega)]⟩
  | succ d ih =>
    intro k n a hd hk
    obtain ⟨k, rfl⟩ : ∃ m, k = m + 1 := ⟨k - 1, by omega⟩
    have ht : ∃ t, laws_szSent.f (rd_T42 xs n).f0 (rd_T42 xs n).f1 (rd_T42 xs n).f2 a = some t := by
      unfold laws_szSent.f
      split <;> exact ⟨_, rfl⟩
    obtain ⟨t, ht⟩ := ht
    simp only [laws_szSentS.l0]
    rw [if_pos (by omega), if_pos (by omega), ht]
    simp only [Option.bind_some]
    rw [wrap_next (N := xs.length) (by omega) (by omega)]
    split
    · exact ⟨_, rfl⟩
    · exact ih k (n + 1) t (by omega) (by omega)

theorem sz_some (xs : List S42) (hN : xs.length ≤ 9223372036854775807) : ∃ s, laws_szSentS.f (xs.length + 1) xs 1048576 = some s ∧ (0 ≤ s → xs.length ≤ 1048576) := by
  unfold laws_szSentS.f
  by_cases h : wrap64 ((1048576 : Int) - xs.length) < 0
  · rw [if_pos h]
    exact ⟨-1, rfl, fun h => absurd h (by omega)⟩
  · have hM : xs.length ≤ 1048576 := by
      unfold wrap64 at h
      omega
    rw [if_neg h]
    obtain ⟨s, hs⟩ := sz_loop xs hM xs.length (xs.length + 1) 0 (wrap64 ((1048576 : Int) - xs.length)) (by omega) (by omega)
    exact ⟨s, hs, fun _ => hM⟩

theorem to_loop (xs : List S42) (hN : xs.length ≤ 1048576) : ∀ (d k n : Nat) (ys : List S43), n + d = xs.length → d < k → ys.length = xs.length → ∃ r, laws_toSentS.l0 k xs ys n = some r ∧ r.length = xs.length := by
  intro d
  induction d with
  | zero =>
    intro k n ys hd hk hy
    obtain ⟨k, rfl⟩ : ∃ m, k = m + 1 := ⟨k - 1, by omega⟩
    exact ⟨ys, by simp only [laws_toSentS.l0]; rw [if_neg (by omega)], hy⟩
  | succ d ih =>
    intro k n ys hd hk hy
    obtain ⟨k, rfl⟩ : ∃ m, k = m + 1 := ⟨k - 1, by omega⟩
    simp only [laws_toSentS.l0, laws_toSent.f, Option.bind_some]
    rw [if_pos (by omega), if_pos (by omega), if_pos (by omega), wrap_next (N := xs.length) (by omega) (by omega)]
    exact ih k (n + 1) _ (by omega) (by omega) (by rw [List.length_set]; exact hy)

theorem to_some (xs : List S42) (hN : xs.length ≤ 1048576) : ∃ r, laws_toSentS.f (xs.length + 1) xs = some r ∧ r.length = xs.length := by
  unfold laws_toSentS.f
  rw [if_pos (by omega), if_pos (by omega)]
  exact to_loop xs hN xs.length (xs.length + 1) 0 _ (by omega) (by omega) (by simp)

theorem eq_loop (r : List S43) (hN : r.length ≤ 1048576) : ∀ (d k n : Nat), n + d = r.length → d < k → laws_eqSentS.l0 k r r n = some true := by
  intro d
  induction d with
  | zero =>
    intro k n hd hk
    obtain ⟨k, rfl⟩ : ∃ m, k = m + 1 := ⟨k - 1, by omega⟩
    simp only [laws_eqSentS.l0]
    rw [if_neg (by omega)]
  | succ d ih =>
    intro k n hd hk
    obtain ⟨k, rfl⟩ : ∃ m, k = m + 1 := ⟨k - 1, by omega⟩
    simp only [laws_eqSentS.l0, laws_eqSent.f]
    rw [if_pos (by omega), if_pos (by omega), if_pos (by omega), wrap_next (N := r.length) (by omega) (by omega)]
    simp only [if_true, bne_self_eq_false, Bool.false_eq_true, if_false, Option.bind_some]
    exact ih k (n + 1) (by omega) (by omega)

theorem eq_self (r : List S43) (hN : r.length ≤ 1048576) : laws_eqSentS.f (r.length + 1) r r = some true := by
  unfold laws_eqSentS.f
  rw [if_pos rfl]
  exact eq_loop r hN r.length (r.length + 1) 0 (by omega) (by omega)

theorem append_list (a b : ByteArray) : (a ++ b).data.toList = a.data.toList ++ b.data.toList := by simp

theorem both_loop (r : List S43) (a1 : Int) (hN : r.length ≤ 500) : ∀ (d k n : Nat) (acc : ByteArray), n + d = r.length → 2 * d < k → acc.size ≤ 4000 * n →
    (∃ i, idx0 (d + 1) r n = some i ∧ 0 ≤ i ∧ spec_SentTo.l0 k r a1 acc n = some ((⟨#[]⟩ : ByteArray), 1)) ∨
    (idx0 (d + 1) r n = some (-1) ∧ (∀ j : Nat, n ≤ j → j < r.length → (rd_T43 r j).f1.size ≤ 4000) ∧ ∃ out, cat0 (d + 1) r a1 acc.data.toList n = some out ∧ spec_SentTo.l0 k r a1 acc n = some (⟨out.toArray⟩, 0)) := by
  intro d
  induction d with
  | zero =>
    intro k n acc hd hk ha
    obtain ⟨k, rfl⟩ : ∃ m, k = m + 1 := ⟨k - 1, by omega⟩
    refine .inr ⟨?_, fun j h1 h2 => by omega, acc.data.toList, ?_, ?_⟩
    · simp only [idx0]; rw [if_neg (by omega)]
    · simp only [cat0]; rw [if_neg (by omega)]
    · simp only [spec_SentTo.l0]; rw [if_neg (by omega)]
  | succ d ih =>
    intro k n acc hd hk ha
    obtain ⟨k, rfl⟩ : ∃ m, k = m + 2 := ⟨k - 2, by omega⟩
    by_cases hl : ((rd_T43 r n).f1.size : Int) > 4000
    · refine .inl ⟨n, ?_, by omega, ?_⟩
      · unfold idx0
        rw [if_pos (by omega), if_pos (by omega), if_pos (by simpa using hl)]
      · unfold spec_SentTo.l0
        rw [if_pos (by omega), if_pos (by omega), if_pos hl]
        unfold spec_SentTo.j1
        rw [if_pos rfl]
    · have hs : idx0 (d + 1 + 1) r n = idx0 (d + 1) r (n + 1 : Nat) := by
        conv => lhs; unfold idx0
        rw [if_pos (by omega), if_pos (by omega), if_neg (by simpa using hl), wrap_next (N := r.length) (by omega) (by omega)]
      have hm : ¬ ((r.length : Int) > 500) := by omega
      by_cases hc : (rd_T43 r n).f0 = a1
      · have hcat : cat0 (d + 1 + 1) r a1 acc.data.toList n = cat0 (d + 1) r a1 (acc ++ (rd_T43 r n).f1).data.toList (n + 1 : Nat) := by
          conv => lhs; unfold cat0
          rw [if_pos (by omega), if_pos (by omega), if_pos hc, wrap_next (N := r.length) (by omega) (by omega), append_list]
        have hsp : spec_SentTo.l0 (k + 2) r a1 acc n = spec_SentTo.l0 k r a1 (acc ++ (rd_T43 r n).f1) (n + 1 : Nat) := by
          conv => lhs; unfold spec_SentTo.l0
          rw [if_pos (by omega), if_pos (by omega), if_neg hl]
          conv => lhs; unfold spec_SentTo.j1
          rw [if_neg (by simpa using hm), if_pos (by omega), if_pos (by omega), if_pos hc, if_pos (by omega), wrap_next (N := r.length) (by omega) (by omega)]
        have h := ih k (n + 1) (acc ++ (rd_T43 r n).f1) (by omega) (by omega) (by rw [ByteArray.size_append]; omega)
        rw [hs, hcat, hsp]
        refine h.imp id fun ⟨h1, h2, h3⟩ => ⟨h1, fun j hj hj2 => ?_, h3⟩
        by_cases e : j = n
        · subst e; omega
        · exact h2 j (by omega) hj2
      · have hcat : cat0 (d + 1 + 1) r a1 acc.data.toList n = cat0 (d + 1) r a1 acc.data.toList (n + 1 : Nat) := by
          conv => lhs; unfold cat0
          rw [if_pos (by omega), if_pos (by omega), if_neg hc, wrap_next (N := r.length) (by omega) (by omega)]
        have hsp : spec_SentTo.l0 (k + 2) r a1 acc n = spec_SentTo.l0 k r a1 acc (n + 1 : Nat) := by
          conv => lhs; unfold spec_SentTo.l0
          rw [if_pos (by omega), if_pos (by omega), if_neg hl]
          conv => lhs; unfold spec_SentTo.j1
          rw [if_neg (by simpa using hm), if_pos (by omega), if_pos (by omega), if_neg hc, wrap_next (N := r.length) (by omega) (by omega)]
        have h := ih k (n + 1) acc (by omega) (by omega) (by omega)
        rw [hs, hcat, hsp]
        refine h.imp id fun ⟨h1, h2, h3⟩ => ⟨h1, fun j hj hj2 => ?_, h3⟩
        by_cases e : j = n
        · subst e; omega
        · exact h2 j (by omega) hj2

/-- The program's SentTo and the reference's come to the same, at every list that is read. -/
theorem sent_same (r : List S43) (a1 : Int) :
    ∃ (k : Nat) (b : ByteArray) (c : Int), spec_SentTo.f k r a1 = some (b, c) ∧
      ∀ (A0 : Option Addr) (c0 : Nat) (w : World), r.length ≤ c0 → Kd.C k43 w A0 r.length r → Calls Try.prog 14 #[.slice A0 r.length c0, .int .i64 a1] w fun e w' => e = .returned (.tuple #[.string b, .int .i64 c]) ∧ Below w.heap.size w w' := by
  by_cases h1 : 4096 < r.length
  · refine ⟨0, ⟨#[]⟩, 2, ?_, fun A0 c0 w _ _ => sent_long A0 c0 r a1 w h1⟩
    unfold spec_SentTo.f
    rw [if_pos (by omega)]
  · by_cases h2 : 500 < r.length
    · refine ⟨2, ⟨#[]⟩, 1, ?_, fun A0 c0 w _ _ => sent_many A0 c0 r a1 w (by omega) h2⟩
      unfold spec_SentTo.f
      rw [if_neg (by omega)]
      unfold spec_SentTo.l0
      rw [if_pos (by omega), if_pos (by omega)]
      unfold spec_SentTo.j1
      split
      · rw [if_pos rfl]
      · rw [if_pos (decide_eq_true (by omega))]
    · rcases both_loop r a1 (by omega) r.length (2 * r.length + 1) 0 ⟨#[]⟩ (by omega) (by omega) (by simp [ByteArray.size]) with ⟨i, hi, h0, hs⟩ | ⟨hi, hz, out, ho, hs⟩
      · refine ⟨2 * r.length + 1, ⟨#[]⟩, 1, ?_, fun A0 c0 w hc0 hr => sent_bad (r.length + 1) A0 c0 r a1 i w hr hc0 (by omega) hi h0⟩
        unfold spec_SentTo.f
        rw [if_neg (by omega)]
        exact hs
      · refine ⟨2 * r.length + 1, ⟨out.toArray⟩, 0, ?_, fun A0 c0 w hc0 hr => sent_good (r.length + 1) (r.length + 1) A0 c0 r a1 (-1) out w hr hc0 (by omega) hi (by omega) (fun i => ?_) ho⟩
        · unfold spec_SentTo.f
          rw [if_neg (by omega)]
          exact hs
        · by_cases hb : i.toNat < r.length
          · have := hz i.toNat (by omega) hb
            simp only [rd_T43, Int.toNat_natCast] at this ⊢
            exact this
          · have : rd_T43 r i = z43 := by
              unfold rd_T43
              rw [List.getD_eq_getElem?_getD, List.getElem?_eq_none (by omega)]
              rfl
            rw [this]
            simp [z43, ByteArray.size]

end Go.Proofs.Ytjlecokclcpciaa.HSentTo
