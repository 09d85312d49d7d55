/- The plain side of laws.FnExactReadLine, 1: a line's words: by runes (strings.FieldsFunc) and by bytes (spec.l00Words) are the same. -/
import Derived.Test.YtjlecokclcpciaaDoorReadAct
import Derived.Test.YtjlecokclcpciaaDoorReadB
import Derived.Lib.SpaceUEq
import Derived.Lib.MapLaws
import Derived.Lib.RuneCount
namespace Go.Proofs.YtjlecokclcpciaaDoor.HRead
open Go.RowKit Go.Proofs.YtjlecokclcpciaaDoorW.PrintWords Go.Proofs.YtjlecokclcpciaaDoorW.PrintLast Go.Proofs.YtjlecokclcpciaaDoorW.PrintMore
open Go.Proofs.YtjlecokclcpciaaDoor.PFnExactReadLine
set_option linter.unusedVariables false

/-- From some fuel on, this answer. -/
def Ev {α : Type} (f : Nat → Option α) (r : α) : Prop := ∃ k, ∀ m, f (k + m) = some r
theorem Ev.of {α : Type} {f : Nat → Option α} {r : α} (hm : ∀ k, LeO (f k) (f (k + 1))) {k : Nat} (h : f k = some r) : Ev f r :=
  ⟨k, fun m => by
    induction m with
    | zero => exact h
    | succ m ih => exact hm (k + m) r ih⟩
theorem Ev.at_ {α : Type} {f : Nat → Option α} {r : α} (h : Ev f r) : ∃ k, ∀ m, k ≤ m → f m = some r := by
  obtain ⟨k, hk⟩ := h
  exact ⟨k, fun m hm => by have := hk (m - k); rwa [Nat.add_sub_cancel' hm] at this⟩

theorem next_wrap {n N : Nat} (h : n < N) (hN : N ≤ 4611686018427387904) : wrap64 ((n : Int) + 1) = ((n + 1 : Nat) : Int) := by
  unfold wrap64
  omega

def B (s : ByteArray) (i : Nat) : Nat := (s.get! i).toNat
theorem bt_B (s : ByteArray) (i : Nat) (h : i < s.size) : bt s (i : Int) = (B s i : Int) := by
  unfold bt B
  rw [dif_pos (by simpa using h)]
  simp only [Int.toNat_natCast]
  congr 2
  have hd : i < s.data.size := h
  simp [ByteArray.get!, getElem!_def, ByteArray.getElem_eq_getElem_data, Array.getElem?_eq_getElem hd]

def closeOne (st : Option Nat) (pos : Nat) (acc : List (Nat × Nat)) : List (Nat × Nat) :=
  match st with
  | some a => acc ++ [(a, pos)]
  | none => acc
/-- the spans, byte for byte -/
def spansB (s : ByteArray) : Nat → Nat → Option Nat → List (Nat × Nat) → List (Nat × Nat)
  | 0, _, st, acc => Lib.closeSpans s (acc, st)
  | d + 1, pos, st, acc => if B s pos = 32 then spansB s d (pos + 1) none (closeOne st pos acc) else spansB s d (pos + 1) (some (st.getD pos)) acc

theorem spansB_skip (s : ByteArray) (acc : List (Nat × Nat)) : ∀ (n d pos a : Nat), n ≤ d → (∀ j, j < n → B s (pos + j) ≠ 32) → spansB s d pos (some a) acc = spansB s (d - n) (pos + n) (some a) acc
  | 0, _, _, _, _, _ => rfl
  | n + 1, d + 1, pos, a, h, hz => by
    rw [spansB, if_neg (by have := hz 0 (by omega); simpa using this), spansB_skip s acc n d (pos + 1) _ (by omega) (fun j hj => by have := hz (j + 1) (by omega); rwa [show pos + (j + 1) = pos + 1 + j by omega] at this)]
    simp only [Option.getD_some]
    rw [show d + 1 - (n + 1) = d - n by omega, show pos + 1 + n = pos + (n + 1) by omega]

theorem byte_lt (s : ByteArray) (i : Nat) : (s.get! i).toNat < 256 := UInt8.toNat_lt _

/-- a rune's bytes: a blank is one byte; no blank is among the bytes of another rune -/
theorem rune_bytes (s : ByteArray) (pos : Nat) (h : pos < s.size) :
    1 ≤ (Utf8.decode s pos).2 ∧ pos + (Utf8.decode s pos).2 ≤ s.size ∧
    (isSp (Utf8.decode s pos).1 = true → B s pos = 32 ∧ (Utf8.decode s pos).2 = 1) ∧
    (isSp (Utf8.decode s pos).1 = false → ∀ j, j < (Utf8.decode s pos).2 → B s (pos + j) ≠ 32) := by
  have hpos := Lib.decode_width_pos s pos h
  rw [Lib.decode_at] at hpos ⊢
  unfold isSp B
  have hle := Lib.decodeN_le_n' (s.size - pos) (s.get! pos).toNat (s.get! (pos + 1)).toNat (s.get! (pos + 2)).toNat (s.get! (pos + 3)).toNat (by omega)
  refine ⟨hpos, ?_, ?_, ?_⟩
  · have h9 := Nat.add_le_add_left hle pos
    rwa [Nat.add_sub_cancel' (Nat.le_of_lt h)] at h9
  · intro hs
    have hs := beq_iff_eq.1 hs
    rcases Lib.decodeN_shape (s.size - pos) (s.get! pos).toNat (s.get! (pos + 1)).toNat (s.get! (pos + 2)).toNat (s.get! (pos + 3)).toNat with ⟨h1, e⟩ | ⟨h1, h2, h3, h4, e⟩ | ⟨h1, h2, h3, h4, h5, h6, e⟩ | ⟨h1, h2, h3, h4, h5, h6, h7, e⟩ | e
    all_goals (rw [e] at hs ⊢; dsimp only at hs ⊢; first | exact ⟨hs, rfl⟩ | (exfalso; omega) | exact absurd hs (by decide))
  · intro hs j hj
    have hs := beq_eq_false_iff_ne.1 hs
    have hc := Lib.decodeN_conts (s.size - pos) (s.get! pos).toNat (s.get! (pos + 1)).toNat (s.get! (pos + 2)).toNat (s.get! (pos + 3)).toNat
    obtain ⟨c1, c2, c3, c4⟩ := hc
    match j with
    | 0 =>
      rw [Nat.add_zero]
      intro h32
      have : (Lib.decodeN (s.size - pos) (s.get! pos).toNat (s.get! (pos + 1)).toNat (s.get! (pos + 2)).toNat (s.get! (pos + 3)).toNat) = ((s.get! pos).toNat, 1) := by
        unfold Lib.decodeN
        rw [if_pos (by omega)]
      rw [this] at hs
      exact hs h32
    | 1 => have := c1 (by omega); omega
    | 2 => have := c2 (by omega); omega
    | 3 => have := c3 (by omega); omega
    | j + 4 => omega

theorem spans_same (s : ByteArray) : ∀ (d f pos : Nat) (st : Option Nat) (acc : List (Nat × Nat)), d = s.size - pos → d ≤ f → pos ≤ s.size → Lib.closeSpans s (Lib.spansFromP isSp s f pos st acc) = spansB s d pos st acc := by
  intro d
  induction d using Nat.strongRecOn with
  | _ d ih =>
    intro f pos st acc hd hf hp
    cases d with
    | zero =>
      rw [Lib.spansFromP_end isSp s f pos st acc (by omega)]
      rfl
    | succ d =>
      obtain ⟨f, rfl⟩ : ∃ g, f = g + 1 := ⟨f - 1, by omega⟩
      have hlt : pos < s.size := by omega
      obtain ⟨h1, h2, h3, h4⟩ := rune_bytes s pos hlt
      conv => lhs; arg 2; unfold Lib.spansFromP
      rw [if_pos hlt]
      generalize Utf8.decode s pos = rn at h1 h2 h3 h4 ⊢
      obtain ⟨r, n⟩ := rn
      simp only at h1 h2 h3 h4 ⊢
      by_cases hs : isSp r = true
      · obtain ⟨hb, rfl⟩ := h3 hs
        rw [if_pos hs, spansB, if_pos hb]
        cases st with
        | none => exact ih d (by omega) f (pos + 1) none acc (by omega) (by omega) (by omega)
        | some a => exact ih d (by omega) f (pos + 1) none _ (by omega) (by omega) (by omega)
      · have hs' := Bool.eq_false_iff.2 hs
        have hz := h4 hs'
        rw [if_neg hs, spansB, if_neg (by simpa using hz 0 (by omega))]
        have hk : ∀ a, spansB s d (pos + 1) (some a) acc = spansB s (d - (n - 1)) (pos + n) (some a) acc := fun a => by
          rw [spansB_skip s acc (n - 1) d (pos + 1) a (by omega) (fun j hj => by have := hz (j + 1) (by omega); rwa [show pos + (j + 1) = pos + 1 + j by omega] at this)]
          rw [show pos + 1 + (n - 1) = pos + n by omega]
        cases st with
        | none => simp only [Option.getD_none]; rw [hk]; exact ih _ (by omega) f (pos + n) _ acc (by omega) (by omega) (by omega)
        | some a => simp only [Option.getD_some]; rw [hk]; exact ih _ (by omega) f (pos + n) _ acc (by omega) (by omega) (by omega)

def cutsB (s : ByteArray) (l : List (Nat × Nat)) : List ByteArray := l.map fun x => s.extract x.1 x.2

theorem words_eq (s : ByteArray) : words s = cutsB s (spansB s s.size 0 none []) := by
  unfold words Lib.goFieldsP Lib.spansOfP
  rw [spans_same s s.size s.size 0 none [] (by omega) (Nat.le_refl _) (by omega)]
  rfl

/-- the reference's walk -/
theorem words_loop (s : ByteArray) (hs : s.size ≤ 65536) : ∀ (d pos frm : Nat) (acc : List (Nat × Nat)), d = s.size - pos → pos ≤ s.size → frm ≤ pos → acc.length ≤ pos →
    spec_l00Words.l0 (2 * d + 3) s (cutsB s acc) frm pos = some (cutsB s (spansB s d pos (if frm < pos then some frm else none) acc)) := by
  intro d
  induction d with
  | zero =>
    intro pos frm acc hd hp hf hacc
    obtain rfl : pos = s.size := by omega
    rw [show 2 * 0 + 3 = 0 + 1 + 1 + 1 from rfl, spec_l00Words.l0, if_pos (by omega), if_pos rfl, spec_l00Words.j1, if_pos rfl]
    by_cases hlt : frm < s.size
    · rw [if_pos (by omega), if_pos (by omega), if_pos (by omega), if_pos (by omega), if_pos (by simp [cutsB]; omega), spec_l00Words.l0, next_wrap (N := 65537) (by omega) (by omega), if_neg (by omega), if_pos hlt]
      simp [spansB, Lib.closeSpans, cutsB]
    · rw [if_neg (by omega), spec_l00Words.l0, next_wrap (N := 65537) (by omega) (by omega), if_neg (by omega), if_neg hlt]
      simp [spansB, Lib.closeSpans, cutsB]
  | succ d ih =>
    intro pos frm acc hd hp hf hacc
    have hlt : pos < s.size := by omega
    rw [show 2 * (d + 1) + 3 = (2 * d + 3) + 1 + 1 by omega, spec_l00Words.l0, if_pos (by omega), if_neg (by omega), if_pos (by omega), if_pos (by omega), bt_B s pos hlt, spec_l00Words.j1, next_wrap (n := pos) (N := 65537) (by omega) (by omega), spansB]
    by_cases hb : B s pos = 32
    · rw [if_pos (by rw [hb]; rfl), if_pos hb]
      by_cases h2 : frm < pos
      · rw [if_pos (by omega), if_pos (by omega), if_pos (by omega), if_pos (by omega), if_pos (by simp [cutsB]; omega), if_pos h2]
        have := ih (pos + 1) (pos + 1) (acc ++ [(frm, pos)]) (by omega) (by omega) (by omega) (by simp; omega)
        rw [if_neg (by omega)] at this
        rw [show closeOne (some frm) pos acc = acc ++ [(frm, pos)] from rfl, ← this]
        simp [cutsB]
      · rw [if_neg (by omega), if_neg h2]
        have := ih (pos + 1) (pos + 1) acc (by omega) (by omega) (by omega) (by omega)
        rw [if_neg (by omega)] at this
        exact this
    · rw [if_neg (by simp; omega), if_neg hb]
      have := ih (pos + 1) frm acc (by omega) (by omega) (by omega) (by omega)
      rw [if_pos (by omega)] at this
      rw [this]
      congr 3
      split
      · rfl
      · simp; omega

theorem words_spec (s : ByteArray) (hs : s.size ≤ 65536) : Ev (fun k => spec_l00Words.f k s) (words s) := by
  refine Ev.of (fun k => spec_l00Words.mono s k) (k := 2 * s.size + 3) ?_
  have := words_loop s hs s.size 0 0 [] (by omega) (by omega) (by omega) (by simp)
  rw [words_eq]
  exact this

end Go.Proofs.YtjlecokclcpciaaDoor.HRead
