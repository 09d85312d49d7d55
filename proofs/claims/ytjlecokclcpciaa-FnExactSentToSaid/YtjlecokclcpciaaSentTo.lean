/- The contracts of the functions that laws.FnExactSentTo reaches and the print does not take: slices.IndexFunc and ContainsFunc at longSent, the builder's copyCheck and WriteString, impl.SentTo, and the law itself; no condition but the sizes that every reading has. -/
import Derived.Test.YtjlecokclcpciaaPFnExactSentTox2
import Derived.Test.YtjlecokclcpciaaShelf
namespace Go.Proofs.Ytjlecokclcpciaa.HSentTo
open Go.RowKit Go.Proofs.YtjlecokclcpciaaW.PrintWords Go.Proofs.YtjlecokclcpciaaW.PrintLast Go.Proofs.YtjlecokclcpciaaW.PrintMore
open Go.Proofs.Ytjlecokclcpciaa.PFnExactSentTo
open Go.Proofs.Try (Builder_String_any_k)
set_option linter.unusedVariables false
set_option linter.unusedSimpArgs false

/-! ### the builder -/
theorem sizeBuilder : (Try.prog.info? 50).map (·.size) = some 2 := by kernel_rfl
theorem liesBuilder : liesAt Try.prog Try.prog.depth 50 (2 / Try.prog.cellsOf 50) 0 50 1 = true := by kernel_rfl
theorem infoByte : (Try.prog.info? 5).map (fun i => (i.zero, i.size, i.bytes)) = some (some (.int .u8 0), 1, 1) := by kernel_rfl

set_option maxHeartbeats 1000000 in
set_option maxRecDepth 100000 in
theorem copyCheck_used (b : Nat) (w : World) (h0 : w.cell? ⟨b, 0, none⟩ = some (.pointer (some ⟨b, 0, none⟩))) :
    Calls Try.prog 26 #[.pointer (some ⟨b, 0, none⟩)] w fun e w' => e = .returned (.tuple #[]) ∧ w' = w := by
  obtain ⟨j, hj, _⟩ := Option.map_eq_some_iff.1 sizeBuilder
  go_enter Try.func26, Try.ntmps26
  go_wp2
  rw [Lib.run_neq_ptr_same w _ Try.underlying47 hj]
  go_wp2
  go_end0
  exact ⟨rfl, rfl⟩

set_option maxHeartbeats 1000000 in
set_option maxRecDepth 100000 in
theorem copyCheck_fresh (b : Nat) (w : World) (h0 : w.cell? ⟨b, 0, none⟩ = some (.pointer none)) (hsh : w.shape? b = some (50, 2)) (hfz : w.frozen? ⟨b, 0, none⟩ = false) :
    Calls Try.prog 26 #[.pointer (some ⟨b, 0, none⟩)] w fun e w' => e = .returned (.tuple #[]) ∧ w' = w.setCell ⟨b, 0, none⟩ (.pointer (some ⟨b, 0, none⟩)) := by
  obtain ⟨j, hj, hjs⟩ := Option.map_eq_some_iff.1 sizeBuilder
  go_enter Try.func26, Try.ntmps26
  go_wp2
  rw [Lib.run_to_unsafe w ⟨b, 0, none⟩ Try.underlying47 Try.underlying59 hj (by rw [hjs]; decide) hsh (Nat.zero_lt_succ 1)]
  simp only [Result.andThen]
  rw [Oper.upon_value]
  go_wp2
  rw [run_callFunc_extern Try.func27 (by kernel_rfl) (by kernel_rfl) (by kernel_rfl) (e := Extern.AbiNoEscape.same) (by kernel_rfl)]
  rw [Lib.run_noEscape]
  simp only [Result.andThen]
  rw [Oper.upon_value]
  go_wp2
  rw [Lib.run_from_unsafe w ⟨b, 0, none⟩ Try.underlying59 Try.underlying47 hj hsh liesBuilder]
  simp only [Result.andThen]
  rw [Oper.upon_value]
  go_wp2
  go_end0
  exact ⟨rfl, rfl⟩

theorem copyCheck (B b : Nat) (bs : List Value) (w : World) (h : Lib.IsBuilderF 50 5 B b bs w) :
    Calls Try.prog 26 #[.pointer (some ⟨b, 0, none⟩)] w fun e w' => e = .returned (.tuple #[]) ∧ (Lib.BuilderAtF 50 5 B b (.pointer (some ⟨b, 0, none⟩)) bs w' ∧ Below B w w' ∧ Lib.OthersKept 5 (some b) w w') := by
  rcases h with h | h
  · refine (copyCheck_fresh b w h.cell0 h.shape h.frozen0).mono ?_
    rintro e w' ⟨rfl, rfl⟩
    exact ⟨rfl, h.used _, (Below.refl B w).setCell (p := ⟨b, 0, none⟩) h.1 _, (Lib.OthersKept.refl _ _ w).setCell ⟨b, 0, none⟩ rfl _⟩
  · refine (copyCheck_used b w h.cell0).mono ?_
    rintro e w' ⟨rfl, rfl⟩
    exact ⟨rfl, h, Below.refl B _, Lib.OthersKept.refl _ _ _⟩

set_option maxHeartbeats 2000000 in
set_option maxRecDepth 100000 in
theorem writeString (B b : Nat) (bs : List Value) (s : ByteArray) (w : World) (h : Lib.IsBuilderF 50 5 B b bs w) (hlen : bs.length + s.size ≤ 140737488355328) (hBw : B ≤ w.heap.size) :
    Calls Try.prog 22 #[.pointer (some ⟨b, 0, none⟩), .string s] w fun e w' => e = .returned (.tuple #[.int .i64 s.size, .nilIface]) ∧ (Lib.BuilderAtF 50 5 B b (.pointer (some ⟨b, 0, none⟩)) (bs ++ Lib.strCells s) w' ∧ Below B w w' ∧ Lib.OthersKept 5 (some b) w w') := by
  obtain ⟨i0, hi, hz0, hz1, hz2⟩ := info_parts infoByte
  go_enter Try.func22, Try.ntmps22
  go_wp2_with (go_at_call 26; refine (copyCheck B b bs _ h).mono ?_)
  rintro e w1 ⟨rfl, h1, hb1, hk1⟩
  obtain ⟨hB, v, hbk, hown, hne⟩ := h1
  have c0 : w1.cell? ⟨b, 0, none⟩ = some (.pointer (some ⟨b, 0, none⟩)) := by rw [Lib.cell_of_heap hbk]; rfl
  have c1 : w1.cell? ⟨b, 1, none⟩ = some v := by rw [Lib.cell_of_heap hbk]; rfl
  go_wp2_with (at_builtin; refine Lib.wpList_append_own_stringF _ rfl _ _ 48 9 rfl B 5 i0 Try.underlying48 Try.underlying9 hi hz0 hz1 hz2 _ _ _ rfl hown s rfl ?c3 ?c4 ?c5 ?_)
  case c3 => unfold maxLen; omega
  case c4 => omega
  case c5 => have := hb1.size; omega
  intro v' w2 hown' hgrow _
  have hlt : b < w1.heap.size := by
    rcases Nat.lt_or_ge b w1.heap.size with h' | h'
    · exact h'
    · simp [Array.getElem?_eq_none h'] at hbk
  have hb2 : w2.heap[b]? = some (.cells #[.pointer (some ⟨b, 0, none⟩), v] 50 (0, 0)) := by
    rw [hgrow.block b hlt (fun e => hne e.symm)]
    exact hbk
  have d0 : w2.cell? ⟨b, 0, none⟩ = some (.pointer (some ⟨b, 0, none⟩)) := by rw [Lib.cell_of_heap hb2]; rfl
  have d1 : w2.cell? ⟨b, 1, none⟩ = some v := by rw [Lib.cell_of_heap hb2]; rfl
  have f1 : w2.frozen? ⟨b, 1, none⟩ = false := Lib.frozen_of_heap hb2 1
  obtain ⟨ao, n', cap, rfl⟩ : ∃ ao n' cap, v' = .slice ao n' cap := by
    rcases hown'.2 with ⟨hv, _⟩ | ⟨g, cap, cur, fz, hv, _⟩
    · exact ⟨_, _, _, hv⟩
    · exact ⟨_, _, _, hv⟩
  go_wp2
  go_ret2
  refine ⟨rfl, ?_, ?_, (hk1.grown hgrow (Lib.ownsRowF_kind hown)).setCell ⟨b, 1, none⟩ rfl _⟩
  · exact Lib.BuilderAtF.put (T := 50) (e := 5) hB hb2 (bs' := bs ++ Lib.strCells s) (by simpa [Lib.strCells_length] using hown') (by decide)
  · exact (hb1.grown hgrow (by have := hb1.size; omega) (fun k hk => (hown.lt k hk).1)).setCell (p := ⟨b, 1, none⟩) hB _

/-! ### slices.IndexFunc at longSent -/
def idx0 : Nat → List S43 → Int → Option Int
  | 0, _, _ => none
  | k + 1, xs, i => if i < (xs.length : Int) then (if 0 ≤ i then (if decide (((rd_T43 xs i).f1.size : Int) > 4000) = true then some i else idx0 k xs (wrap64 (i + 1))) else none) else some (-1)

set_option maxHeartbeats 4000000 in
set_option maxRecDepth 100000 in
theorem index_calls (k : Nat) (A0 : Option Addr) (c0 : Nat) (l0 : List S43) (r : Int) (w : World) (hr0 : Kd.C k43 w A0 l0.length l0) (hc0 : l0.length ≤ c0) (h : idx0 k l0 0 = some r) :
    Calls Try.prog 25 #[.slice A0 l0.length c0, .func (.func 21) #[] #[]] w fun e w' => e = .returned (.int .i64 r) ∧ Below w.heap.size w w' := by
  have HR0 := Aside0.mk hr0
  have HC0 := Aside0.mk hc0
  have H' := Aside0.mk h
  clear hr0 hc0 h
  have HB := Aside0.mk (Below.refl w.heap.size w)
  go_enter Try.func25, Try.ntmps25
  go_wp2
  go_loopg [8] k (fun kq v8 w' => ∃ (x : Int), v8 = .int .i64 x ∧ Aside0 (idx0 kq l0 x = some r) ∧ Aside0 (kq ≤ k) ∧ Aside0 (Below w.heap.size w w'))
  case atStart => exact ⟨0, rfl, H', ⟨Nat.le_refl _⟩, HB⟩
  case round =>
    clear H' HB
    obtain ⟨x, rfl, HA, HK1, HB⟩ := hrel
    cases gk with
    | zero => exact absurd HA.out (by simp [idx0])
    | succ k1 =>
      have H := HA.out
      clear HA
      simp only [idx0] at H
      by_cases c4 : x < (l0.length : Int)
      · rw [if_pos c4] at H
        have c4b0 : decide (x < (l0.length : Int)) = true := decide_eq_true c4
        by_cases c5 : 0 ≤ x
        · rw [if_pos c5] at H
          have c5b0 : decide (0 ≤ x) = true := decide_eq_true c5
          obtain ⟨ad, e1, hx0, hx1, hx2⟩ := at_T43 HR0.out x c5 c4
          cases e1
          replace hx0 := (HB.out.cell (World.block_lt_of_cell? w _ hx0)).trans hx0
          replace hx1 := (HB.out.cell (World.block_lt_of_cell? w _ hx1)).trans hx1
          replace hx2 := (HB.out.cell (World.block_lt_of_cell? w _ hx2)).trans hx2
          have p1 := eq_true c5
          have q1 := eq_true c4
          clear c4 c5
          by_cases c7 : decide (((rd_T43 l0 x).f1.size : Int) > 4000) = true
          · rw [if_pos c7] at H
            obtain rfl := Option.some.inj H
            have A6 := Aside0.mk (show impl_longSent.f ((rd_T43 l0 x).f0) ((rd_T43 l0 x).f1) ((rd_T43 l0 x).f2) = some true by unfold impl_longSent.f; rw [c7])
            clear c7
            go_wp2_with (go_at_call 21; (with_reducible refine (impl_longSent.calls ((rd_T43 l0 x).f0) ((rd_T43 l0 x).f1) ((rd_T43 l0 x).f2) true _ A6.out).mono ?_); rintro e w8 ⟨rfl, hb⟩; have n0_ := Aside0.mk (below_step HB.out hb); clear HB; have HB := n0_; clear n0_ hb)
            go_ret
            exact ⟨rfl, HB.out⟩
          · rw [if_neg c7] at H
            have H' := Aside0.mk H
            clear H
            have A6 := Aside0.mk (show impl_longSent.f ((rd_T43 l0 x).f0) ((rd_T43 l0 x).f1) ((rd_T43 l0 x).f2) = some false by unfold impl_longSent.f; rw [Bool.eq_false_iff.mpr c7])
            clear c7
            go_wp2_with (go_at_call 21; (with_reducible refine (impl_longSent.calls ((rd_T43 l0 x).f0) ((rd_T43 l0 x).f1) ((rd_T43 l0 x).f2) false _ A6.out).mono ?_); rintro e w8 ⟨rfl, hb⟩; have n0_ := Aside0.mk (below_step HB.out hb); clear HB; have HB := n0_; clear n0_ hb)
            go_roundg k1
            case measure => have := HK1.out; omega
            case rel => exact ⟨wrap64 (x + 1), (by first | rfl | (simp; done)), H', ⟨by have := HK1.out; omega⟩, HB⟩
        · rw [if_neg c5] at H
          exact absurd H (by simp)
      · rw [if_neg c4] at H
        have c4b0 : decide (x < (l0.length : Int)) = false := decide_eq_false c4
        obtain rfl := Option.some.inj H
        clear c4
        go_wp2
        go_ret
        exact ⟨rfl, HB.out⟩

/-! ### slices.ContainsFunc at longSent -/
set_option maxHeartbeats 1000000 in
theorem contains_calls (k : Nat) (A0 : Option Addr) (c0 : Nat) (l0 : List S43) (r : Int) (w : World) (hr0 : Kd.C k43 w A0 l0.length l0) (hc0 : l0.length ≤ c0) (h : idx0 k l0 0 = some r) :
    Calls Try.prog 20 #[.slice A0 l0.length c0, .func (.func 21) #[] #[]] w fun e w' => e = .returned (.bool (decide (0 ≤ r))) ∧ Below w.heap.size w w' := by
  have HR0 := Aside0.mk hr0
  have HC0 := Aside0.mk hc0
  have H' := Aside0.mk h
  clear hr0 hc0 h
  go_enter Try.func20, Try.ntmps20
  go_wp2_with (go_at_call 25; (with_reducible refine (index_calls k A0 c0 l0 r _ HR0.out HC0.out H'.out).mono ?_); rintro e w8 ⟨rfl, hb⟩)
  go_ret
  exact ⟨by first | rfl | simp, hb⟩

/-! ### impl.SentTo -/
def cat0 : Nat → List S43 → Int → List UInt8 → Int → Option (List UInt8)
  | 0, _, _, _, _ => none
  | k + 1, xs, a1, acc, i => if i < (xs.length : Int) then (if 0 ≤ i then (if (rd_T43 xs i).f0 = a1 then cat0 k xs a1 (acc ++ (rd_T43 xs i).f1.data.toList) (wrap64 (i + 1)) else cat0 k xs a1 acc (wrap64 (i + 1))) else none) else some acc

set_option maxHeartbeats 1000000 in
set_option maxRecDepth 100000 in
theorem sent_long (A0 : Option Addr) (c0 : Nat) (l0 : List S43) (a1 : Int) (w : World) (hl : 4096 < l0.length) :
    Calls Try.prog 14 #[.slice A0 l0.length c0, .int .i64 a1] w fun e w' => e = .returned (.tuple #[.string ⟨#[]⟩, .int .i64 2]) ∧ Below w.heap.size w w' := by
  have c3b0 : decide (4096 < (l0.length : Int)) = true := decide_eq_true (by omega)
  have c3b1 : decide (4096 < l0.length) = true := decide_eq_true hl
  clear hl
  go_enter Try.func14, Try.ntmps14
  go_wp2
  go_ret2
  exact ⟨by first | rfl | (simp; done), Below.refl _ _⟩

set_option maxHeartbeats 1000000 in
set_option maxRecDepth 100000 in
theorem sent_many (A0 : Option Addr) (c0 : Nat) (l0 : List S43) (a1 : Int) (w : World) (hl : l0.length ≤ 4096) (hm : 500 < l0.length) :
    Calls Try.prog 14 #[.slice A0 l0.length c0, .int .i64 a1] w fun e w' => e = .returned (.tuple #[.string ⟨#[]⟩, .int .i64 1]) ∧ Below w.heap.size w w' := by
  have c3b0 : decide (4096 < (l0.length : Int)) = false := decide_eq_false (by omega)
  have c3b1 : decide (4096 < l0.length) = false := decide_eq_false (by omega)
  have c4b0 : decide (500 < (l0.length : Int)) = true := decide_eq_true (by omega)
  have c4b1 : decide (500 < l0.length) = true := decide_eq_true hm
  clear hl hm
  go_enter Try.func14, Try.ntmps14
  go_wp2
  go_ret2
  exact ⟨by first | rfl | (simp; done), Below.refl _ _⟩

set_option maxHeartbeats 1000000 in
set_option maxRecDepth 100000 in
theorem sent_bad (k : Nat) (A0 : Option Addr) (c0 : Nat) (l0 : List S43) (a1 r : Int) (w : World) (hr0 : Kd.C k43 w A0 l0.length l0) (hc0 : l0.length ≤ c0) (hm : l0.length ≤ 500) (h : idx0 k l0 0 = some r) (h0 : 0 ≤ r) :
    Calls Try.prog 14 #[.slice A0 l0.length c0, .int .i64 a1] w fun e w' => e = .returned (.tuple #[.string ⟨#[]⟩, .int .i64 1]) ∧ Below w.heap.size w w' := by
  have c3b0 : decide (4096 < (l0.length : Int)) = false := decide_eq_false (by omega)
  have c3b1 : decide (4096 < l0.length) = false := decide_eq_false (by omega)
  have c4b0 : decide (500 < (l0.length : Int)) = false := decide_eq_false (by omega)
  have c4b1 : decide (500 < l0.length) = false := decide_eq_false (by omega)
  have c5b0 : decide (0 ≤ r) = true := decide_eq_true h0
  have HR0 := Aside0.mk hr0
  have HC0 := Aside0.mk hc0
  have H' := Aside0.mk h
  clear hr0 hc0 h hm h0
  go_enter Try.func14, Try.ntmps14
  go_wp2_with (go_at_call 20; (with_reducible refine (contains_calls k A0 c0 l0 r _ HR0.out HC0.out H'.out).mono ?_); rintro e w8 ⟨rfl, hb⟩)
  go_ret2
  exact ⟨by first | rfl | (simp; done), hb⟩

set_option maxHeartbeats 4000000 in
set_option maxRecDepth 100000 in
theorem sent_good (k m : Nat) (A0 : Option Addr) (c0 : Nat) (l0 : List S43) (a1 r : Int) (out : List UInt8) (w : World) (hr0 : Kd.C k43 w A0 l0.length l0) (hc0 : l0.length ≤ c0) (hm : l0.length ≤ 500) (h : idx0 k l0 0 = some r) (h0 : r < 0)
    (hs : ∀ i, (rd_T43 l0 i).f1.size ≤ 4000) (ho : cat0 m l0 a1 [] 0 = some out) :
    Calls Try.prog 14 #[.slice A0 l0.length c0, .int .i64 a1] w fun e w' => e = .returned (.tuple #[.string ⟨out.toArray⟩, .int .i64 0]) ∧ Below w.heap.size w w' := by
  have c3b0 : decide (4096 < (l0.length : Int)) = false := decide_eq_false (by omega)
  have c3b1 : decide (4096 < l0.length) = false := decide_eq_false (by omega)
  have c4b0 : decide (500 < (l0.length : Int)) = false := decide_eq_false (by omega)
  have c4b1 : decide (500 < l0.length) = false := decide_eq_false (by omega)
  have c5b0 : decide (0 ≤ r) = false := decide_eq_false (by omega)
  have HR0 := Aside0.mk hr0
  have HC0 := Aside0.mk hc0
  have HM := Aside0.mk hm
  have HS := Aside0.mk hs
  have H' := Aside0.mk h
  have HO := Aside0.mk ho
  clear hr0 hc0 h h0 hm hs ho
  go_enter Try.func14, Try.ntmps14
  go_wp2_with (go_at_call 20; (with_reducible refine (contains_calls k A0 c0 l0 r _ HR0.out HC0.out H'.out).mono ?_); rintro e w8 ⟨rfl, hb⟩; have HB := Aside0.mk hb; clear hb)
  go_loopg [24] m (fun kq v24 wr => ∃ (x : Int) (acc : List UInt8), v24 = .int .i64 x ∧ Aside0 (cat0 kq l0 a1 acc x = some out) ∧ Aside0 (0 ≤ x ∧ (acc.length : Int) ≤ 4000 * x) ∧ Aside0 (kq ≤ m) ∧ Aside0 (Below w8.heap.size w8 wr ∧ w8.heap.size ≤ wr.heap.size) ∧ Aside0 (Lib.IsBuilderF 50 5 w8.heap.size w8.heap.size (Lib.byteCells acc) wr))
  case atStart =>
    refine ⟨0, [], rfl, HO, ⟨by simp⟩, ⟨Nat.le_refl _⟩, ⟨(Below.refl _ _).alloc (Nat.le_refl _) _, by simp⟩, ⟨?_⟩⟩
    exact Lib.IsBuilderF.of (Lib.fresh_isBuilder 50 5 w8)
  case round =>
    clear HO
    obtain ⟨x, acc, rfl, HA, HX, HK1, HW, HI⟩ := hrel
    cases gk with
    | zero => exact absurd HA.out (by simp [cat0])
    | succ k1 =>
      have H := HA.out
      clear HA
      simp only [cat0] at H
      by_cases c4 : x < (l0.length : Int)
      · rw [if_pos c4] at H
        have c4b0 : decide (x < (l0.length : Int)) = true := decide_eq_true c4
        have c5 : 0 ≤ x := HX.out.1
        rw [if_pos c5] at H
        have c5b0 : decide (0 ≤ x) = true := decide_eq_true c5
        obtain ⟨ad, e1, hx0, hx1, hx2⟩ := at_T43 HR0.out x c5 c4
        cases e1
        have HBw : Below w.heap.size w wr := below_step HB.out HW.out.1
        replace hx0 := (HBw.cell (World.block_lt_of_cell? w _ hx0)).trans hx0
        replace hx1 := (HBw.cell (World.block_lt_of_cell? w _ hx1)).trans hx1
        replace hx2 := (HBw.cell (World.block_lt_of_cell? w _ hx2)).trans hx2
        have HL := Aside0.mk (show acc.length + (rd_T43 l0 x).f1.size ≤ 140737488355328 by
          have h1 := HX.out.2
          have h2 := HS.out x
          have h3 := HM.out
          omega)
        have HN := Aside0.mk (show x + 1 ≤ 500 ∧ wrap64 (x + 1) = x + 1 by
          have h3 := HM.out
          refine ⟨by omega, ?_⟩
          unfold wrap64
          omega)
        have p1 := eq_true c5
        have q1 := eq_true c4
        clear c4 c5 HBw
        by_cases c7 : (rd_T43 l0 x).f0 = a1
        · rw [if_pos c7] at H
          have H' := Aside0.mk H
          have c7b0 : ((rd_T43 l0 x).f0 == a1) = true := by simpa using c7
          clear H c7
          go_wp2_with (go_at_call 22; refine (writeString w8.heap.size w8.heap.size (Lib.byteCells acc) ((rd_T43 l0 x).f1) _ (HI.out.alloc _) (by rw [Lib.byteCells_length]; exact HL.out) (by have := HW.out.2; simp; omega)).mono ?_)
          rintro e W1 ⟨rfl, h1, b1, k1_⟩
          have HI1 := Aside0.mk h1
          have HB1 := Aside0.mk b1
          clear h1 b1 k1_
          go_wp2
          go_roundg k1
          case measure => have := HK1.out; omega
          case rel =>
            refine ⟨x + 1, acc ++ (rd_T43 l0 x).f1.data.toList, by rw [HN.out.2], by have h9 := H'.out; rw [HN.out.2] at h9; exact ⟨h9⟩, ⟨?_⟩, ⟨by have := HK1.out; omega⟩, ⟨?_⟩, ⟨?_⟩⟩
            · have h1 := HX.out
              have h2 := HS.out x
              have h3 : (rd_T43 l0 x).f1.data.toList.length = (rd_T43 l0 x).f1.size := Array.length_toList
              rw [List.length_append, h3]
              omega
            · exact ⟨(HW.out.1.alloc HW.out.2 _).trans HB1.out, by have := HB1.out.size; have := HW.out.2; simp at *; omega⟩
            · rw [Lib.byteCells_append, ← Lib.strCells_eq]
              exact Or.inr HI1.out
        · rw [if_neg c7] at H
          have H' := Aside0.mk H
          have c7b0 : ((rd_T43 l0 x).f0 == a1) = false := by simpa using c7
          clear H c7
          go_wp2
          go_roundg k1
          case measure => have := HK1.out; omega
          case rel =>
            refine ⟨x + 1, acc, by rw [HN.out.2], by have h9 := H'.out; rw [HN.out.2] at h9; exact ⟨h9⟩, ⟨?_⟩, ⟨by have := HK1.out; omega⟩, ⟨?_⟩, ⟨HI.out.alloc _⟩⟩
            · have h1 := HX.out
              omega
            · exact ⟨HW.out.1.alloc HW.out.2 _, by have := HW.out.2; simp; omega⟩
      · rw [if_neg c4] at H
        have c4b0 : decide (x < (l0.length : Int)) = false := decide_eq_false c4
        obtain rfl := Option.some.inj H
        clear c4
        go_wp2_with (go_at_call 23; refine (Builder_String_any_k w8.heap.size w8.heap.size acc _ HI.out HW.out.2).mono ?_)
        rintro e W1 rfl hx hy hz
        have HB1 := Aside0.mk hy
        clear hx hy hz
        go_wp2
        go_ret2
        exact ⟨by first | rfl | (simp; done), below_step HB.out (HW.out.1.trans HB1.out)⟩

end Go.Proofs.Ytjlecokclcpciaa.HSentTo
