/- The contracts of the program's functions under impl.ReadLine that the kit's print does not take: lineWords, number, pathOK, RequestText. They ask for strconv's table of powers, and for what strconv.ErrSyntax and ErrRange hold. -/
import Derived.Test.YtjlecokclcpciaaDoorPFnExactReadLinex6
import Derived.Test.YtjlecokclcpciaaDoorShelfB
import Derived.Lib.SmallJoins
import Derived.Lib.ItoaLen
import Derived.Lib.AppendIntMem
import Derived.Lib.QuietBelow
namespace Go.Proofs.YtjlecokclcpciaaDoor.HRead
open Go.RowKit Go.Joins Go.Sort Go.Proofs.YtjlecokclcpciaaDoorW.PrintWords Go.Proofs.YtjlecokclcpciaaDoorW.PrintLast Go.Proofs.YtjlecokclcpciaaDoorW.PrintMore
open Go.Proofs.YtjlecokclcpciaaDoor.PFnExactReadLine
set_option linter.unusedVariables false
set_option linter.unusedSimpArgs false

/-! ### lineWords -/
def isSp (x : Nat) : Bool := x == 32
def words (s : ByteArray) : List ByteArray := Lib.goFieldsP isSp s
def Words (w : World) (b : Nat) (ws : List ByteArray) : Prop := ∀ j x, ws[j]? = some x → w.cell? ⟨b, j, none⟩ = some (.string x)
theorem Words.below {w w' : World} {b : Nat} {ws : List ByteArray} (h : Words w b ws) (hb : Below w.heap.size w w') : Words w' b ws := fun j x hx =>
  (hb.cell (World.block_lt_of_cell? w _ (h j x hx))).trans (h j x hx)

theorem sp_pred (w : World) : PredAtRunes Tryd.prog 38 #[] isSp w := by
  intro W x hx hb
  have e : ((x : Int) == 32) = isSp x := by
    unfold isSp
    rw [Bool.eq_iff_iff]
    simp only [beq_iff_eq]
    omega
  show Calls Tryd.prog 38 #[.int .i32 (x : Int)] W fun e w' => e = .returned (.bool (isSp x)) ∧ ∃ q, w' = W.drewN q
  rw [← e]
  clear e
  go_enter Tryd.func38, Tryd.ntmps38
  go_wp2
  go_ret
  exact ⟨rfl, 0, rfl⟩

set_option maxRecDepth 100000 in
theorem enters38 : ∀ args w, (callFunc 38 args).run Tryd.prog w = .ok (.enter 38 args) w := Go.Proofs.enters_of Tryd.func38 (by kernel_rfl) rfl

theorem lineWords_calls (s : ByteArray) (hs : s.size ≤ 65536) (w : World) :
    Calls Tryd.prog 25 #[.string s] w fun e w' => ∃ b, e = .returned (.slice (some ⟨b, 0, none⟩) (words s).length (words s).length) ∧ Words w' b (words s) ∧ b < w'.heap.size ∧ Below w.heap.size w w' := by
  have hS := Aside0.mk (show s.size ≤ 4294967296 by omega)
  clear hs
  go_enter Tryd.func25, Tryd.ntmps25
  go_wp2_with (go_at_call 37; refine (Tryd.strings_FieldsFunc_runes 38 #[] enters38 isSp s _ hS.out (sp_pred _)).mono ?_; rintro e w1 ⟨A, rfl, hA, hown, hb⟩)
  go_ret
  have hl : ((words s).map Value.string).length = (words s).length := by simp
  refine ⟨A, rfl, fun j x hx => ?_, ?_, hb⟩
  · have hj : j < (words s).length := (List.getElem?_eq_some_iff.1 hx).1
    have := hown.cells (g := A) rfl j (.string x) (by
      show ((words s).map Value.string)[j]? = some (.string x)
      rw [List.getElem?_map, hx]; rfl)
    by_cases hj0 : j = 0
    · subst hj0; simpa [Addr.add] using this
    · simpa [Addr.add, hj0] using this
  · rcases hown.2 with ⟨hv, _⟩ | ⟨g, cap, cur, hv, _, hg, _⟩
    · cases hv
    · injection hv with ha
      injection ha with ha
      injection ha with hb'
      subst hb'
      rcases Nat.lt_or_ge A w1.heap.size with h' | h'
      · exact h'
      · rw [Array.getElem?_eq_none h'] at hg; cases hg

/-! ### number -/
abbrev TabAt (w : World) : Prop := Lib.TabIs Tryd.prog w "internal/strconv.uint64pow10" .u64 Lib.pow10Tab
def ErrAt (w : World) (b : Nat) : Prop := ∃ ev, w.cell? ⟨b, 0, none⟩ = some ev ∧ (ev = .nilIface ∨ ∃ te pe, ev = .iface te pe)
theorem gP10 : Tryd.prog.globalNamed "internal/strconv.uint64pow10" = some 1 := by kernel_rfl
theorem tab_at {w w' : World} (h : TabAt w) (hb : Below w.heap.size w w') : TabAt w' := tab_stays gP10 h hb (Nat.le_refl _)
theorem ErrAt.below {w w' : World} {b : Nat} (h : ErrAt w b) (hb : Below w.heap.size w w') : ErrAt w' b := by
  obtain ⟨ev, h1, h2⟩ := h
  exact ⟨ev, (hb.cell (World.block_lt_of_cell? w _ h1)).trans h1, h2⟩
structure Env (w : World) : Prop where
  tab : TabAt w
  syn : ErrAt w 2
  ran : ErrAt w 3
theorem Env.below {w w' : World} (h : Env w) (hb : Below w.heap.size w w') : Env w' := ⟨tab_at h.tab hb, h.syn.below hb, h.ran.below hb⟩
def itoaB (n : Int) : ByteArray := ⟨(Lib.itoa n).toArray⟩
def trimB (s : ByteArray) : ByteArray := ⟨(Lib.trimPrefix s.data.toList [45]).toArray⟩
def numB (s : ByteArray) : Int × Bool :=
  match Lib.atoiAll s.data.toList with
  | .ok v => (v, decide ((trimB s).size ≤ 18) && ((itoaB v).toList == s.toList))
  | .range => (Lib.atoiSat s.data.toList, false)
  | _ => (0, false)

set_option maxHeartbeats 1000000 in
set_option maxRecDepth 100000 in
theorem number_bad (s : ByteArray) (v : Int) (N : Nat) (w w1 : World) (hA : Calls Tryd.prog 47 #[.string s] w fun e w' => ∃ N, e = .returned (.tuple #[.int .i64 v, .iface 99 (.pointer (some ⟨N, 0, none⟩))]) ∧ Below w.heap.size w w') :
    Calls Tryd.prog 39 #[.string s] w fun e w' => e = .returned (.tuple #[.int .i64 v, .bool false]) ∧ Below w.heap.size w w' := by
  have HA := Aside0.mk hA
  clear hA
  go_enter Tryd.func39, Tryd.ntmps39
  go_wp2_with (go_at_call 47; refine HA.out.mono ?_; rintro e w1 ⟨N, rfl, hb⟩)
  go_ret2
  exact ⟨rfl, hb⟩


set_option maxHeartbeats 1000000 in
set_option maxRecDepth 100000 in
theorem number_long (s : ByteArray) (v : Int) (w : World) (hA : Calls Tryd.prog 47 #[.string s] w fun e w' => e = .returned (.tuple #[.int .i64 v, .nilIface]) ∧ Below w.heap.size w w') (hl : 18 < (trimB s).size) :
    Calls Tryd.prog 39 #[.string s] w fun e w' => e = .returned (.tuple #[.int .i64 v, .bool false]) ∧ Below w.heap.size w w' := by
  have HA := Aside0.mk hA
  have hT := Tryd.strings_TrimPrefix s ⟨#[45]⟩
  change ∀ w, Calls Tryd.prog 48 #[.string s, .string ⟨#[45]⟩] w fun e w' => e = .returned (.string (trimB s)) ∧ w' = w at hT
  have HT := Aside0.mk hT
  generalize trimB s = t at hl HT
  have c1 : decide ((t.size : Int) ≤ 18) = false := decide_eq_false (by omega)
  have c2 : decide (t.size ≤ 18) = false := decide_eq_false (by omega)
  clear hA hT hl
  go_enter Tryd.func39, Tryd.ntmps39
  go_wp2_with (first | (go_at_call 47; refine HA.out.mono ?_; (first | rintro e w1 ⟨rfl, hb⟩ | rintro e w1 rfl hb)) | (go_at_call 48; refine (HT.out _).mono ?_; (first | rintro e w2 ⟨rfl, rfl⟩ | rintro e w2 rfl rfl)))
  go_ret2
  exact ⟨rfl, hb⟩

set_option maxHeartbeats 1000000 in
set_option maxRecDepth 100000 in
theorem number_ok (s : ByteArray) (v : Int) (w : World) (hA : Calls Tryd.prog 47 #[.string s] w fun e w' => e = .returned (.tuple #[.int .i64 v, .nilIface]) ∧ Below w.heap.size w w') (hl : (trimB s).size ≤ 18)
    (h0 : -9223372036854775808 ≤ v) (h1 : v ≤ 9223372036854775807) (htab : TabAt w) :
    Calls Tryd.prog 39 #[.string s] w fun e w' => e = .returned (.tuple #[.int .i64 v, .bool ((itoaB v).toList == s.toList)]) ∧ Below w.heap.size w w' := by
  have HA := Aside0.mk hA
  have hT := Tryd.strings_TrimPrefix s ⟨#[45]⟩
  change ∀ w, Calls Tryd.prog 48 #[.string s, .string ⟨#[45]⟩] w fun e w' => e = .returned (.string (trimB s)) ∧ w' = w at hT
  have HT := Aside0.mk hT
  generalize trimB s = t at hl HT
  have c1 : decide ((t.size : Int) ≤ 18) = true := decide_eq_true (by omega)
  have c2 : decide (t.size ≤ 18) = true := decide_eq_true (by omega)
  have hI := fun w' => Tryd.strconv_Itoa v h0 h1 w'
  change ∀ w', TabAt w' → Calls Tryd.prog 31 #[.int .i64 v] w' fun e w'' => e = .returned (.string (itoaB v)) ∧ _ at hI
  generalize itoaB v = u at hI
  have HI := Aside0.mk hI
  have HTab := Aside0.mk htab
  clear hA hT hl hI htab h0 h1
  go_enter Tryd.func39, Tryd.ntmps39
  go_wp2_with (first | (go_at_call 47; refine HA.out.mono ?_; (first | rintro e w1 ⟨rfl, hb⟩ | rintro e w1 rfl hb); have HB := Aside0.mk hb; clear hb) | (go_at_call 48; refine (HT.out _).mono ?_; (first | rintro e w2 ⟨rfl, rfl⟩ | rintro e w2 rfl rfl)) | (go_at_call 31; refine (HI.out _ (tab_at HTab.out HB.out)).mono ?_; (first | rintro e w3 ⟨rfl, k, os, rfl⟩ | rintro e w3 rfl k os rfl)))
  go_ret2
  exact ⟨rfl, below_step HB.out (Go.Lib.below_grow _ _ (Nat.le_refl _) k os)⟩

theorem number_calls (s : ByteArray) (hs : s.size ≤ 65536) (w : World) (hE : Env w) :
    Calls Tryd.prog 39 #[.string s] w fun e w' => e = .returned (.tuple #[.int .i64 (numB s).1, .bool (numB s).2]) ∧ Below w.heap.size w w' := by
  unfold numB
  cases h : Lib.atoiAll s.data.toList with
  | ok v =>
    have hA : Calls Tryd.prog 47 #[.string s] w fun e w' => e = .returned (.tuple #[.int .i64 v, .nilIface]) ∧ Below w.heap.size w w' :=
      (Tryd.strconv_Atoi_ok s (by omega) v h w).mono fun e w' ⟨he, hw⟩ => ⟨he, by
        rcases hw with rfl | ⟨t, rfl⟩
        · exact Below.refl _ _
        · exact bytes_below (Below.refl _ _) (Nat.le_refl _) _ _⟩
    by_cases hl : (trimB s).size ≤ 18
    · refine (number_ok s v w hA hl ?_ ?_ hE.tab).mono fun e w' ⟨he, hb⟩ => ⟨by rw [he]; simp [hl], hb⟩
      all_goals
        unfold Lib.atoiAll at h
        split at h
        · cases h
        · simp only at h
          split at h
          · cases h
          · cases h
          · rename_i c r _ u hu
            have := Lib.parseMag_lt hu
            split at h
            · cases h
            · split at h
              · cases h
              · injection h with h
                subst h
                split <;> omega
    · exact (number_long s v w hA (by omega)).mono fun e w' ⟨he, hb⟩ => ⟨by rw [he]; simp [hl], hb⟩
  | range =>
    obtain ⟨ev, h1, h2⟩ := hE.ran
    exact number_bad s _ 0 w w ((Tryd.strconv_Atoi_range s (by omega) h ev w h1 h2).mono fun e w' ⟨N, he, _, _, hb⟩ => ⟨N, he, hb⟩)
  | _ =>
    obtain ⟨ev, h1, h2⟩ := hE.syn
    exact number_bad s 0 0 w w ((Any.strconv_Atoi_syntax Tryd.laysC172 s (by omega) h ev w h1 h2).mono fun e w' ⟨N, he, _, _, hb⟩ => ⟨N, he, hb⟩)

/-! ### pathOK -/
def letB (c : Int) : Bool := (decide (97 ≤ c) && decide (c ≤ 122)) || (decide (65 ≤ c) && decide (c ≤ 90)) || (c == 95)
def digB (c : Int) : Bool := decide (48 ≤ c) && decide (c ≤ 57)
def pathByte (c : Int) : Bool := letB c || digB c || c == 47 || c == 46 || c == 45

theorem letter_calls (c : Int) (w : World) : Calls Tryd.prog 64 #[.int .u8 c] w fun e w' => e = .returned (.bool (letB c)) ∧ w' = w := by
  unfold letB
  rcases Bool.eq_false_or_eq_true (decide (97 ≤ c)) with a1 | a1 <;>
  rcases Bool.eq_false_or_eq_true (decide (c ≤ 122)) with a2 | a2 <;>
  rcases Bool.eq_false_or_eq_true (decide (65 ≤ c)) with a3 | a3 <;>
  rcases Bool.eq_false_or_eq_true (decide (c ≤ 90)) with a4 | a4 <;>
  rcases Bool.eq_false_or_eq_true (c == 95) with a5 | a5 <;>
  (rw [a1, a2, a3, a4, a5]
   go_enter Tryd.func64, Tryd.ntmps64
   go_wp2
   go_ret
   exact ⟨rfl, rfl⟩)

theorem digit_calls (c : Int) (w : World) : Calls Tryd.prog 65 #[.int .u8 c] w fun e w' => e = .returned (.bool (digB c)) ∧ w' = w := by
  unfold digB
  rcases Bool.eq_false_or_eq_true (decide (48 ≤ c)) with a1 | a1 <;>
  rcases Bool.eq_false_or_eq_true (decide (c ≤ 57)) with a2 | a2 <;>
  (rw [a1, a2]
   go_enter Tryd.func65, Tryd.ntmps65
   go_wp2
   go_ret
   exact ⟨rfl, rfl⟩)

theorem ident_calls (c : Int) (w : World) : Calls Tryd.prog 52 #[.int .u8 c] w fun e w' => e = .returned (.bool (letB c || digB c)) ∧ w' = w := by
  have hl := letter_calls c
  have hd := digit_calls c
  generalize letB c = l at hl ⊢
  generalize digB c = d at hd ⊢
  have HL := Aside0.mk hl
  have HD := Aside0.mk hd
  clear hl hd
  cases l <;>
  (go_enter Tryd.func52, Tryd.ntmps52
   go_wp2_with (first | (go_at_call 64; refine (HL.out _).mono ?_; (first | rintro e w2 ⟨rfl, rfl⟩ | rintro e w2 rfl rfl)) | (go_at_call 65; refine (HD.out _).mono ?_; (first | rintro e w2 ⟨rfl, rfl⟩ | rintro e w2 rfl rfl)))
   go_ret
   exact ⟨by simp, rfl⟩)

theorem pathByte_calls (c : Int) (w : World) : Calls Tryd.prog 51 #[.int .u8 c] w fun e w' => e = .returned (.bool (pathByte c)) ∧ w' = w := by
  have hl := ident_calls c
  unfold pathByte
  generalize (letB c || digB c) = l at hl ⊢
  have HL := Aside0.mk hl
  clear hl
  rcases Bool.eq_false_or_eq_true (c == 47) with a1 | a1 <;>
  rcases Bool.eq_false_or_eq_true (c == 46) with a2 | a2 <;>
  rcases Bool.eq_false_or_eq_true (c == 45) with a3 | a3 <;>
  cases l <;>
  (rw [a1, a2, a3]
   go_enter Tryd.func51, Tryd.ntmps51
   go_wp2_with (go_at_call 52; refine (HL.out _).mono ?_; (first | rintro e w2 ⟨rfl, rfl⟩ | rintro e w2 rfl rfl))
   go_ret
   exact ⟨by simp, rfl⟩)

/-- impl.run at pathByte -/
def run0 : Nat → ByteArray → Int → Option Int
  | 0, _, _ => none
  | k + 1, s, i => if i < (s.size : Int) then (if 0 ≤ i then (if pathByte (bt s i) = true then run0 k s (wrap64 (i + 1)) else some i) else none) else some i

set_option maxHeartbeats 1000000 in
set_option maxRecDepth 100000 in
theorem run_calls (k : Nat) (s : ByteArray) (r : Int) (w : World) (h : run0 k s 0 = some r) :
    Calls Tryd.prog 50 #[.string s, .int .i64 0, .func (.func 51) #[] #[]] w fun e w' => e = .returned (.int .i64 r) ∧ Drawn0 w w' := by
  have HO := Aside0.mk h
  clear h
  go_enter Tryd.func50, Tryd.ntmps50
  go_wp2
  go_loopg [1] k (fun kq v1 wr => ∃ (x : Int), v1 = .int .i64 x ∧ Aside0 (run0 kq s x = some r) ∧ Aside0 (kq ≤ k) ∧ Drawn0 w wr)
  case atStart => exact ⟨0, rfl, HO, ⟨Nat.le_refl _⟩, Drawn0.refl _⟩
  case round =>
    clear HO
    obtain ⟨x, rfl, HA, HK1, ⟨m1, rfl⟩⟩ := hrel
    cases gk with
    | zero => exact absurd HA.out (by simp [run0])
    | succ k1 =>
      have H := HA.out
      clear HA
      simp only [run0] at H
      by_cases c4 : x < (s.size : Int)
      · rw [if_pos c4] at H
        have c4b0 : decide (x < (s.size : Int)) = true := decide_eq_true c4
        by_cases c5 : 0 ≤ x
        · rw [if_pos c5] at H
          have c5b0 : decide (0 ≤ x) = true := decide_eq_true c5
          have hp := pathByte_calls (bt s x)
          have hx10 := bt_at s x
          have p10 := eq_true c5
          have q10 := eq_true c4
          clear c4 c5
          by_cases c6 : pathByte (bt s x) = true
          · rw [if_pos c6] at H
            rw [c6] at hp
            have HP := Aside0.mk hp
            have H' := Aside0.mk H
            clear hp H c6
            go_wp2_with (go_at_call 51; refine (HP.out _).mono ?_; (first | rintro e w2 ⟨rfl, rfl⟩ | rintro e w2 rfl rfl))
            go_roundg k1
            case measure => have := HK1.out; omega
            case rel => exact ⟨wrap64 (x + 1), (by first | (simp [i64_w]; done) | rfl), H', ⟨by have := HK1.out; omega⟩, by repeat (first | exact Drawn0.refl _ | apply Drawn0.step)⟩
          · rw [if_neg c6] at H
            rw [Bool.eq_false_iff.2 c6] at hp
            have HP := Aside0.mk hp
            obtain rfl := Option.some.inj H
            clear hp H c6
            go_wp2_with (go_at_call 51; refine (HP.out _).mono ?_; (first | rintro e w2 ⟨rfl, rfl⟩ | rintro e w2 rfl rfl))
            go_ret
            exact ⟨rfl, by repeat (first | exact Drawn0.refl _ | apply Drawn0.step)⟩
        · rw [if_neg c5] at H
          exact absurd H (by simp)
      · rw [if_neg c4] at H
        have c4b0 : decide (x < (s.size : Int)) = false := decide_eq_false c4
        obtain rfl := Option.some.inj H
        clear c4
        go_wp2
        go_ret
        exact ⟨rfl, by repeat (first | exact Drawn0.refl _ | apply Drawn0.step)⟩

def pathB (k : Nat) (s : ByteArray) : Option Bool := if s.size < 1 then some false else if 40 < s.size then some false else if bt s 0 ≠ 47 then some false else (run0 k s 0).map fun r => r == (s.size : Int)

set_option maxHeartbeats 1000000 in
set_option maxRecDepth 100000 in
theorem path_short (s : ByteArray) (w : World) (h : s.size < 1 ∨ 40 < s.size) :
    Calls Tryd.prog 40 #[.string s] w fun e w' => e = .returned (.bool false) ∧ Drawn0 w w' := by
  have hW : impl_within.f (s.size : Int) 1 40 = some false := by
    unfold impl_within.f
    split
    · rw [decide_eq_false (by omega)]
    · rfl
  have HW := Aside0.mk hW
  clear hW h
  go_enter Tryd.func40, Tryd.ntmps40
  go_wp2_with (go_at_call 49; (with_reducible refine (impl_within.calls _ 1 40 false _ HW.out).mono ?_); (first | rintro e w1 ⟨rfl, nd, rfl⟩ | rintro e w1 rfl nd rfl))
  go_ret
  exact ⟨rfl, by repeat (first | exact Drawn0.refl _ | apply Drawn0.step)⟩

set_option maxHeartbeats 1000000 in
set_option maxRecDepth 100000 in
theorem path_head (s : ByteArray) (w : World) (h0 : 1 ≤ s.size) (h1 : s.size ≤ 40) (hb : bt s 0 ≠ 47) :
    Calls Tryd.prog 40 #[.string s] w fun e w' => e = .returned (.bool false) ∧ Drawn0 w w' := by
  have hW : impl_within.f (s.size : Int) 1 40 = some true := by
    unfold impl_within.f
    rw [if_pos (by omega), decide_eq_true (by omega)]
  have HW := Aside0.mk hW
  have hx6 : ∀ h : 0 < s.size, ((s[0]'h).toNat : Int) = bt s 0 := bt_at s 0
  have c1 : (bt s 0 == 47) = false := beq_eq_false_iff_ne.mpr hb
  have c2 : (bt s 0 != 47) = true := bne_iff_ne.mpr hb
  have p1 : (0 < (s.size : Int)) = True := eq_true (by omega)
  have p2 : (0 < s.size) = True := eq_true (by omega)
  clear hW h0 h1 hb
  go_enter Tryd.func40, Tryd.ntmps40
  go_wp2_with (go_at_call 49; (with_reducible refine (impl_within.calls _ 1 40 true _ HW.out).mono ?_); (first | rintro e w1 ⟨rfl, nd, rfl⟩ | rintro e w1 rfl nd rfl))
  go_ret
  exact ⟨rfl, by repeat (first | exact Drawn0.refl _ | apply Drawn0.step)⟩

set_option maxHeartbeats 1000000 in
set_option maxRecDepth 100000 in
theorem path_run (k : Nat) (s : ByteArray) (r : Int) (w : World) (h0 : 1 ≤ s.size) (h1 : s.size ≤ 40) (hb : bt s 0 = 47) (hr : run0 k s 0 = some r) :
    Calls Tryd.prog 40 #[.string s] w fun e w' => e = .returned (.bool (r == (s.size : Int))) ∧ Drawn0 w w' := by
  have hW : impl_within.f (s.size : Int) 1 40 = some true := by
    unfold impl_within.f
    rw [if_pos (by omega), decide_eq_true (by omega)]
  have HW := Aside0.mk hW
  have HR := Aside0.mk hr
  have hx6 : ∀ h : 0 < s.size, ((s[0]'h).toNat : Int) = bt s 0 := bt_at s 0
  have c1 : (bt s 0 == 47) = true := beq_iff_eq.mpr hb
  have c2 : (bt s 0 != 47) = false := bne_eq_false_iff_eq.mpr hb
  have p1 : (0 < (s.size : Int)) = True := eq_true (by omega)
  have p2 : (0 < s.size) = True := eq_true (by omega)
  clear hW h0 h1 hb hr
  go_enter Tryd.func40, Tryd.ntmps40
  go_wp2_with (first | (go_at_call 49; (with_reducible refine (impl_within.calls _ 1 40 true _ HW.out).mono ?_); (first | rintro e w1 ⟨rfl, nd, rfl⟩ | rintro e w1 rfl nd rfl)) | (go_at_call 50; refine (run_calls k s r _ HR.out).mono ?_; (first | rintro e w1 ⟨rfl, nd2, rfl⟩ | rintro e w1 rfl nd2 rfl)))
  go_ret
  exact ⟨rfl, by repeat (first | exact Drawn0.refl _ | apply Drawn0.step)⟩

theorem path_calls (k : Nat) (s : ByteArray) (b : Bool) (w : World) (h : pathB k s = some b) :
    Calls Tryd.prog 40 #[.string s] w fun e w' => e = .returned (.bool b) ∧ Drawn0 w w' := by
  unfold pathB at h
  split at h
  · obtain rfl := Option.some.inj h; exact path_short s w (.inl (by assumption))
  split at h
  · obtain rfl := Option.some.inj h; exact path_short s w (.inr (by assumption))
  split at h
  · obtain rfl := Option.some.inj h; exact path_head s w (by omega) (by omega) (by assumption)
  · obtain ⟨r, hr, rfl⟩ := Option.map_eq_some_iff.1 h
    exact path_run k s r w (by omega) (by omega) (by rename_i hn; exact Decidable.not_not.1 hn) hr

/-! ### RequestText -/
def cGet : ByteArray := ⟨#[71, 69, 84, 32]⟩
def textB (p : ByteArray) (c : Bool) : ByteArray :=
  if c = true then (⟨#[71, 69, 84, 32]⟩ : ByteArray) ++ p ++ ⟨#[32]⟩ ++ ⟨#[72, 84, 84, 80, 47, 49, 46, 49]⟩ ++ ⟨#[13, 10]⟩ ++ ⟨#[72, 111, 115, 116, 58, 32, 101, 100, 103, 101]⟩ ++ ⟨#[13, 10]⟩ ++ ⟨#[67, 111, 110, 110, 101, 99, 116, 105, 111, 110, 58, 32, 99, 108, 111, 115, 101, 13, 10]⟩ ++ ⟨#[13, 10]⟩
  else (⟨#[71, 69, 84, 32]⟩ : ByteArray) ++ p ++ ⟨#[32]⟩ ++ ⟨#[72, 84, 84, 80, 47, 49, 46, 49]⟩ ++ ⟨#[13, 10]⟩ ++ ⟨#[72, 111, 115, 116, 58, 32, 101, 100, 103, 101]⟩ ++ ⟨#[13, 10]⟩ ++ ⟨#[13, 10]⟩

set_option maxHeartbeats 2000000 in
set_option maxRecDepth 100000 in
theorem text_calls (k : Nat) (p : ByteArray) (c : Bool) (w : World) (h : pathB k p = some true) (hs : p.size ≤ 40) :
    Calls Tryd.prog 41 #[.agg #[.string p, .bool c]] w fun e w' => e = .returned (.tuple #[.string (textB p c), .int .i64 0]) ∧ Below w.heap.size w w' := by
  have HP := Aside0.mk h
  have f1 : (9223372036854775807 < 4 + p.size) = False := eq_false (by omega)
  have f2 : (9223372036854775807 < 4 + p.size + 1) = False := eq_false (by omega)
  have f3 : (9223372036854775807 < 4 + p.size + 1 + 8) = False := eq_false (by omega)
  have f4 : (9223372036854775807 < 4 + p.size + 1 + 8 + 2) = False := eq_false (by omega)
  have f5 : (9223372036854775807 < 4 + p.size + 1 + 8 + 2 + 10) = False := eq_false (by omega)
  have f6 : (9223372036854775807 < 4 + p.size + 1 + 8 + 2 + 10 + 2) = False := eq_false (by omega)
  have f7 : (9223372036854775807 < 4 + p.size + 1 + 8 + 2 + 10 + 2 + 19) = False := eq_false (by omega)
  have f8 : (9223372036854775807 < 4 + p.size + 1 + 8 + 2 + 10 + 2 + 19 + 2) = False := eq_false (by omega)
  have f9 : (9223372036854775807 < 4 + p.size + 1 + 8 + 2 + 10 + 2 + 2) = False := eq_false (by omega)
  clear h hs
  cases c <;>
  (go_enter Tryd.func41, Tryd.ntmps41
   go_wp2_with (go_at_call 40; refine (path_calls k p true _ HP.out).mono ?_; (first | rintro e w1 ⟨rfl, nd, rfl⟩ | rintro e w1 rfl nd rfl))
   go_ret2
   exact ⟨rfl, by repeat (first | exact Below.refl _ _ | apply below_alloc | apply pw_below_drewN | apply below_drew1)⟩)

end Go.Proofs.YtjlecokclcpciaaDoor.HRead
