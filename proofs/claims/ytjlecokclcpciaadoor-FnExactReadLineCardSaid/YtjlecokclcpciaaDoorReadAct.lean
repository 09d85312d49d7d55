/- The contracts of impl.readAct and impl.ReadLine. -/
import Derived.Test.YtjlecokclcpciaaDoorReadImpl
import Derived.Deep.RegionWith
namespace Go.Proofs.YtjlecokclcpciaaDoor.HRead
open Go.RowKit Go.Joins Go.Sort Go.Proofs.YtjlecokclcpciaaDoorW.PrintWords Go.Proofs.YtjlecokclcpciaaDoorW.PrintLast Go.Proofs.YtjlecokclcpciaaDoorW.PrintMore
open Go.Proofs.YtjlecokclcpciaaDoor.PFnExactReadLine
set_option linter.unusedVariables false
set_option linter.unusedSimpArgs false

theorem Words.at0 {w : World} {b : Nat} {x : ByteArray} {r : List ByteArray} (h : Words w b (x :: r)) : w.cell? ⟨b, 0, none⟩ = some (.string x) := h 0 x rfl
theorem Words.at1 {w : World} {b : Nat} {x y : ByteArray} {r : List ByteArray} (h : Words w b (x :: y :: r)) : w.cell? ⟨b, 1, none⟩ = some (.string y) := h 1 y rfl
theorem Words.at2 {w : World} {b : Nat} {x y z : ByteArray} {r : List ByteArray} (h : Words w b (x :: y :: z :: r)) : w.cell? ⟨b, 2, none⟩ = some (.string z) := h 2 z rfl

/-- What the walk knows behind its first region: the result's cell is new, the words lie as they lay. -/
structure St (w W : World) (N : Nat) : Prop where
  below : Below w.heap.size w W
  new : w.heap.size ≤ N
  blk : W.heap[N]? = some (.cells #[.int .i64 0, .int .i64 0, .string ⟨#[]⟩] 31 (0, 0))
theorem St.init (w : World) : St w (w.alloc (.cells #[.int .i64 0, .int .i64 0, .string ⟨#[]⟩] 31 (0, 0))) w.heap.size :=
  ⟨below_alloc (Below.refl _ _) _, Nat.le_refl _, by exact blk_new _ _⟩
theorem St.c0 {w W : World} {N : Nat} (h : St w W N) : W.cell? ⟨N, 0, none⟩ = some (.int .i64 0) := (blk_cell h.blk 0).trans rfl
theorem St.c1 {w W : World} {N : Nat} (h : St w W N) : W.cell? ⟨N, 1, none⟩ = some (.int .i64 0) := (blk_cell h.blk 1).trans rfl
theorem St.c2 {w W : World} {N : Nat} (h : St w W N) : W.cell? ⟨N, 2, none⟩ = some (.string ⟨#[]⟩) := (blk_cell h.blk 2).trans rfl
theorem St.f {w W : World} {N : Nat} (h : St w W N) (i : Nat) : W.frozen? ⟨N, i, none⟩ = false := blk_frozen h.blk i
theorem St.step {w W W' : World} {N : Nat} (h : St w W N) (hb : Below W.heap.size W W') : St w W' N :=
  ⟨below_step h.below hb, h.new, (hb.block N (blk_lt h.blk)).trans h.blk⟩

theorem St.put {w W : World} {N : Nat} (h : St w W N) (a b c : Value) : (((W.setCell ⟨N, 0, none⟩ a).setCell ⟨N, 1, none⟩ b).setCell ⟨N, 2, none⟩ c).heap[N]? = some (.cells #[a, b, c] 31 (0, 0)) :=
  blk_put (blk_put (blk_put h.blk 0 a rfl) 1 b rfl) 2 c rfl
theorem St.puts {w W : World} {N : Nat} (h : St w W N) (a b c : Value) : Below w.heap.size w (((W.setCell ⟨N, 0, none⟩ a).setCell ⟨N, 1, none⟩ b).setCell ⟨N, 2, none⟩ c) :=
  below_set (below_set (below_set h.below h.new) h.new) h.new

set_option maxHeartbeats 1000000 in
set_option maxRecDepth 100000 in
theorem act_tick (b : Nat) (x : ByteArray) (r : List ByteArray) (w : World) (hw : Words w b (x :: r)) (h0 : (x.toList == ([116, 105, 99, 107] : List UInt8)) = true) :
    Calls Tryd.prog 26 #[.slice (some ⟨b, 0, none⟩) (r.length + 1) (r.length + 1)] w fun e w' => e = .returned (.tuple #[.agg #[.int .i64 4, .int .i64 0, .string ⟨#[]⟩], .bool (((r.length : Int) + 1) == 1)]) ∧ Below w.heap.size w w' := by
  have p1 : ((0 : Int) < (r.length : Int) + 1) = True := eq_true (by omega)
  have p2 : (0 < r.length + 1) = True := eq_true (by omega)
  have HS0 := Aside0.mk (St.init w)
  have HW0 := Aside0.mk (hw.below HS0.out.below)
  clear hw
  go_enter Tryd.func26, Tryd.ntmps26
  go_upto_region 1 with (fail)
  generalize (w.alloc (.cells #[.int .i64 0, .int .i64 0, .string ⟨#[]⟩] 31 (0, 0))) = W at HS0 HW0 ⊢
  generalize w.heap.size = N at HS0 ⊢
  have hx0 := HW0.out.at0
  have c0 := HS0.out.c0
  have c1 := HS0.out.c1
  have c2 := HS0.out.c2
  have f0 := HS0.out.f 0
  have f1 := HS0.out.f 1
  have f2 := HS0.out.f 2
  go_wp2
  refine bodyPost_ret (results_ct rfl _ _ N 31 _ (0, 0) _ rfl (HS0.out.put _ _ _) Tryd.underlying31 rfl (by kernel_rfl)) rfl ?_
  exact ⟨rfl, HS0.out.puts _ _ _⟩


set_option maxHeartbeats 1000000 in
set_option maxRecDepth 100000 in
theorem act_one (b : Nat) (x : ByteArray) (w : World) (hw : Words w b [x]) (h0 : (x.toList == ([116, 105, 99, 107] : List UInt8)) = false) :
    Calls Tryd.prog 26 #[.slice (some ⟨b, 0, none⟩) 1 1] w fun e w' => e = .returned (.tuple #[.agg #[.int .i64 0, .int .i64 0, .string ⟨#[]⟩], .bool false]) ∧ Below w.heap.size w w' := by
  have HS0 := Aside0.mk (St.init w)
  have HW0 := Aside0.mk (hw.below HS0.out.below)
  clear hw
  go_enter Tryd.func26, Tryd.ntmps26
  go_upto_region 1 with (fail)
  generalize (w.alloc (.cells #[.int .i64 0, .int .i64 0, .string ⟨#[]⟩] 31 (0, 0))) = W at HS0 HW0 ⊢
  generalize w.heap.size = N at HS0 ⊢
  have hx0 := HW0.out.at0
  have c0 := HS0.out.c0
  have c1 := HS0.out.c1
  have c2 := HS0.out.c2
  have f0 := HS0.out.f 0
  have f1 := HS0.out.f 1
  have f2 := HS0.out.f 2
  go_wp2
  refine bodyPost_ret (results_ct rfl _ _ N 31 _ (0, 0) _ rfl (HS0.out.put _ _ _) Tryd.underlying31 rfl (by kernel_rfl)) rfl ?_
  exact ⟨rfl, HS0.out.puts _ _ _⟩

/-- .. and behind the number: the act's own block. -/
structure St2 (w W : World) (N M : Nat) (a k : Int) (t : ByteArray) : Prop where
  st : St w W N
  newM : w.heap.size ≤ M
  ne : N ≠ M
  blk : W.heap[M]? = some (.cells #[.int .i64 a, .int .i64 k, .string t] 31 (0, 0))
section
variable {w W W' : World} {N M : Nat} {a k : Int} {t : ByteArray}
theorem St2.step (h : St2 w W N M a k t) (hb : Below W.heap.size W W') : St2 w W' N M a k t :=
  ⟨h.st.step hb, h.newM, h.ne, (hb.block M (blk_lt h.blk)).trans h.blk⟩
theorem St2.m0 (h : St2 w W N M a k t) : W.cell? ⟨M, 0, none⟩ = some (.int .i64 a) := (blk_cell h.blk 0).trans rfl
theorem St2.m1 (h : St2 w W N M a k t) : W.cell? ⟨M, 1, none⟩ = some (.int .i64 k) := (blk_cell h.blk 1).trans rfl
theorem St2.m2 (h : St2 w W N M a k t) : W.cell? ⟨M, 2, none⟩ = some (.string t) := (blk_cell h.blk 2).trans rfl
theorem St2.g (h : St2 w W N M a k t) (i : Nat) : W.frozen? ⟨M, i, none⟩ = false := blk_frozen h.blk i
theorem St2.init (h : St w W N) (k : Int) : St2 w (W.alloc (.cells #[.int .i64 0, .int .i64 k, .string ⟨#[]⟩] 31 (0, 0))) N W.heap.size 0 k ⟨#[]⟩ :=
  ⟨⟨below_alloc h.below _, h.new, blk_alloc h.blk _⟩, h.below.size, Nat.ne_of_lt (blk_lt h.blk), blk_new _ _⟩
theorem St2.set0 (h : St2 w W N M a k t) (a' : Int) : St2 w (W.setCell ⟨M, 0, none⟩ (.int .i64 a')) N M a' k t :=
  ⟨⟨below_set h.st.below h.newM, h.st.new, blk_far h.st.blk h.ne _⟩, h.newM, h.ne, blk_put h.blk 0 _ rfl⟩
theorem St2.set2 (h : St2 w W N M a k t) (t' : ByteArray) : St2 w (W.setCell ⟨M, 2, none⟩ (.string t')) N M a k t' :=
  ⟨⟨below_set h.st.below h.newM, h.st.new, blk_far h.st.blk h.ne _⟩, h.newM, h.ne, blk_put h.blk 2 _ rfl⟩
end

theorem lens_le (n : Nat) : ∀ r : List ByteArray, (∀ z ∈ r, z.size ≤ n) → Lib.lens (r.map (·.data.toList)) ≤ n * r.length
  | [], _ => by simp [Lib.lens]
  | z :: r, h => by
    have h1 := lens_le n r (fun y hy => h y (by simp [hy]))
    have h2 : z.data.toList.length ≤ n := h z (by simp)
    simp only [Lib.lens, List.map_cons, List.sum_cons, List.length_cons] at h1 ⊢
    rw [Nat.mul_add]
    omega
def actBad : Int × Int × ByteArray × Bool := (0, 0, ⟨#[]⟩, false)
def joinB (r : List ByteArray) : ByteArray := ⟨(Lib.join (r.map (·.data.toList)) [32]).toArray⟩

theorem join_le (r : List ByteArray) (hN : r.length ≤ 65536) (hz : ∀ z ∈ r, z.size ≤ 65536) : (Lib.join (r.map (·.data.toList)) [32]).length ≤ 8589934592 := by
  cases r with
  | nil => simp [Lib.join]
  | cons z r =>
    have h := lens_le 65536 (z :: r) hz
    rw [List.map_cons] at h ⊢
    rw [Lib.join_length]
    simp only [List.length_cons, List.length_map, List.length_nil] at h hN ⊢
    omega
theorem joinB_le (r : List ByteArray) (hN : r.length ≤ 65536) (hz : ∀ z ∈ r, z.size ≤ 65536) : (joinB r).size ≤ 8589934592 := by
  have := join_le r hN hz
  simpa [joinB, ByteArray.size] using this
theorem join_calls (b : Nat) (x y : ByteArray) (r : List ByteArray) (W : World) (hw : Words W b (x :: y :: r)) (hN : r.length ≤ 65536) (hz : ∀ z ∈ r, z.size ≤ 65536) :
    Calls Tryd.prog 42 #[.slice (some ⟨b, 2, none⟩) r.length r.length, .string ⟨#[32]⟩] W fun e w' => e = .returned (.string (joinB r)) ∧ Below W.heap.size W w' :=
  Tryd.strings_Join b 2 r.length r ⟨#[32]⟩ W (fun j z hj => by
    have := hw (j + 2) z hj
    rwa [Nat.add_comm] at this) (World.block_lt_of_cell? W _ hw.at0) (by omega) (Nat.le_refl _) (Nat.le_trans (join_le r hN hz) (by omega))

/-- the words' classes: open 1, close 3, get 5, last 6, send 2 -/
def actR (k : Nat) (x y : ByteArray) (r : List ByteArray) : Option (Int × Int × ByteArray × Bool) :=
  if (numB y).2 = false then some actBad
  else if x.toList = [111, 112, 101, 110] then (if r.length = 0 then some (1, (numB y).1, ⟨#[]⟩, true) else some actBad)
  else if x.toList = [99, 108, 111, 115, 101] then (if r.length = 0 then some (3, (numB y).1, ⟨#[]⟩, true) else some actBad)
  else if x.toList = [103, 101, 116] ∨ x.toList = [108, 97, 115, 116] then
    (match r with
     | [z] => (pathB k z).bind fun p => if p = true then some (2, (numB y).1, textB z (decide (x.toList = [108, 97, 115, 116])), true) else some actBad
     | _ => some actBad)
  else if x.toList = [115, 101, 110, 100] then some (2, (numB y).1, joinB r ++ ⟨#[13, 10]⟩, true)
  else some actBad

theorem path_below (k : Nat) (s : ByteArray) (b : Bool) (w : World) (h : pathB k s = some b) :
    Calls Tryd.prog 40 #[.string s] w fun e w' => e = .returned (.bool b) ∧ Below w.heap.size w w' :=
  (path_calls k s b w h).mono fun e w' ⟨he, hd⟩ => ⟨he, hd.below⟩
theorem Words.far {w : World} {b : Nat} {ws : List ByteArray} (h : Words w b ws) {M i : Nat} (hne : b ≠ M) (v : Value) : Words (w.setCell ⟨M, i, none⟩ v) b ws := fun j x hx =>
  (cell_far (p := ⟨M, i, none⟩) hne v).trans (h j x hx)

set_option maxHeartbeats 1000000 in
set_option maxRecDepth 100000 in
theorem act_two (k : Nat) (b : Nat) (x y : ByteArray) (r : List ByteArray) (k1 k2 : Int) (t : ByteArray) (ok : Bool) (w : World) (hE : Env w) (hw : Words w b (x :: y :: r)) (hb : b < w.heap.size) (hy : y.size ≤ 65536)
    (hN : r.length ≤ 65536) (hz : ∀ z ∈ r, z.size ≤ 65536)
    (h0 : (x.toList == ([116, 105, 99, 107] : List UInt8)) = false) (H : actR k x y r = some (k1, k2, t, ok)) :
    Calls Tryd.prog 26 #[.slice (some ⟨b, 0, none⟩) (r.length + 1 + 1) (r.length + 1 + 1)] w fun e w' => e = .returned (.tuple #[.agg #[.int .i64 k1, .int .i64 k2, .string t], .bool ok]) ∧ Below w.heap.size w w' := by
  have p1 : ((0 : Int) < (r.length : Int) + 1 + 1) = True := eq_true (by omega)
  have p2 : (0 < r.length + 1 + 1) = True := eq_true (by omega)
  have p3 : ((1 : Int) < (r.length : Int) + 1 + 1) = True := eq_true (by omega)
  have p4 : (1 < r.length + 1 + 1) = True := eq_true (by omega)
  have q1 : (((r.length : Int) + 1 + 1) == 1) = false := beq_eq_false_iff_ne.mpr (by omega)
  have HS0 := Aside0.mk (St.init w)
  have HW0 := Aside0.mk (hw.below HS0.out.below)
  have HE0 := Aside0.mk (hE.below HS0.out.below)
  have HY := Aside0.mk hy
  unfold actR at H
  have HH := Aside0.mk H
  have HN := Aside0.mk hN
  have HZ := Aside0.mk hz
  have HBW := Aside0.mk hb
  clear hw hE hy H hN hz hb
  go_enter Tryd.func26, Tryd.ntmps26
  go_upto_region 1 with (fail)
  have HBw := Aside0.mk (Nat.lt_of_lt_of_le HBW.out HS0.out.below.size)
  generalize (w.alloc (.cells #[.int .i64 0, .int .i64 0, .string ⟨#[]⟩] 31 (0, 0))) = W at HS0 HW0 HE0 HBw ⊢
  generalize hNn : w.heap.size = N at HS0 ⊢
  clear hNn
  have hx0 := HW0.out.at0
  have hx1 := HW0.out.at1
  have c0 := HS0.out.c0
  have c1 := HS0.out.c1
  have c2 := HS0.out.c2
  have f0 := HS0.out.f 0
  have f1 := HS0.out.f 1
  have f2 := HS0.out.f 2
  go_upto_region 8 with (go_at_call 39; refine (number_calls y HY.out _ HE0.out).mono ?_; (first | rintro e w1 ⟨rfl, b1⟩ | rintro e w1 rfl b1); have B1 := Aside0.mk b1; clear b1)
  have HS2 := Aside0.mk (St2.init (HS0.out.step B1.out) (numB y).1)
  have HW2 := Aside0.mk (HW0.out.below (below_alloc B1.out (.cells #[.int .i64 0, .int .i64 (numB y).1, .string ⟨#[]⟩] 31 (0, 0))))
  have hbm : b ≠ w1.heap.size := Nat.ne_of_lt (Nat.lt_of_lt_of_le HBw.out B1.out.size)
  have HBM := Aside0.mk hbm
  clear c0 c1 c2 f0 f1 f2 hx0 hx1 hbm
  generalize (w1.alloc (.cells #[.int .i64 0, .int .i64 (numB y).1, .string ⟨#[]⟩] 31 (0, 0))) = W2 at HS2 HW2 ⊢
  generalize w1.heap.size = M at HS2 HBM ⊢
  clear B1 HS0 HW0 HE0 HBw HBW
  generalize numB y = nb at HH HS2 ⊢
  obtain ⟨kk, o⟩ := nb
  have hx0 := HW2.out.at0
  have c0 := HS2.out.st.c0
  have c1 := HS2.out.st.c1
  have c2 := HS2.out.st.c2
  have f0 := HS2.out.st.f 0
  have f1 := HS2.out.st.f 1
  have f2 := HS2.out.st.f 2
  have g0 := HS2.out.g 0
  have m0 := HS2.out.m0
  cases o with
  | false =>
    have H := HH.out
    clear HH
    rw [if_pos rfl] at H
    simp only [actBad, Option.some.injEq, Prod.mk.injEq] at H
    obtain ⟨rfl, rfl, rfl, rfl⟩ := H
    go_wp2
    refine bodyPost_ret (results_ct rfl _ _ N 31 _ (0, 0) _ rfl (HS2.out.st.put _ _ _) Tryd.underlying31 rfl (by kernel_rfl)) rfl ?_
    exact ⟨rfl, HS2.out.st.puts _ _ _⟩
  | true =>
    have H := HH.out
    clear HH
    rw [if_neg (by simp)] at H
    by_cases hO : x.toList = [111, 112, 101, 110]
    · rw [if_pos hO] at H
      have e1 : (x.toList == ([111, 112, 101, 110] : List UInt8)) = true := by simp [hO]
      have e2 : (x.toList == ([99, 108, 111, 115, 101] : List UInt8)) = false := by rw [hO]; decide
      have e3 : (x.toList == ([103, 101, 116] : List UInt8)) = false := by rw [hO]; decide
      have e4 : (x.toList == ([108, 97, 115, 116] : List UInt8)) = false := by rw [hO]; decide
      have e5 : (x.toList == ([115, 101, 110, 100] : List UInt8)) = false := by rw [hO]; decide
      clear hO
      by_cases hr : r.length = 0
      · rw [if_pos hr] at H
        have q2 : (((r.length : Int) + 1 + 1) == 2) = true := beq_iff_eq.mpr (by omega)
        simp only [Option.some.injEq, Prod.mk.injEq] at H
        obtain ⟨rfl, rfl, rfl, rfl⟩ := H
        clear hr
        go_upto_region 19 with (fail)
        have HS3 := Aside0.mk (HS2.out.set0 1)
        clear c0 c1 c2 f0 f1 f2 g0 m0 hx0
        generalize W2.setCell ⟨M, 0, none⟩ (.int .i64 1) = W3 at HS3 ⊢
        have c0 := HS3.out.st.c0
        have c1 := HS3.out.st.c1
        have c2 := HS3.out.st.c2
        have f0 := HS3.out.st.f 0
        have f1 := HS3.out.st.f 1
        have f2 := HS3.out.st.f 2
        have m0 := HS3.out.m0
        have m1 := HS3.out.m1
        have m2 := HS3.out.m2
        have g0 := HS3.out.g 0
        have g2 := HS3.out.g 2
        go_wp2
        refine bodyPost_ret (results_ct rfl _ _ N 31 _ (0, 0) _ rfl (HS3.out.st.put _ _ _) Tryd.underlying31 rfl (by kernel_rfl)) rfl ?_
        exact ⟨rfl, HS3.out.st.puts _ _ _⟩
      · rw [if_neg hr] at H
        have q2 : (((r.length : Int) + 1 + 1) == 2) = false := beq_eq_false_iff_ne.mpr (by omega)
        clear hr
        simp only [actBad, Option.some.injEq, Prod.mk.injEq] at H
        obtain ⟨rfl, rfl, rfl, rfl⟩ := H
        go_wp2
        refine bodyPost_ret (results_ct rfl _ _ N 31 _ (0, 0) _ rfl (HS2.out.st.put _ _ _) Tryd.underlying31 rfl (by kernel_rfl)) rfl ?_
        exact ⟨rfl, HS2.out.st.puts _ _ _⟩
    rw [if_neg hO] at H
    by_cases hC : x.toList = [99, 108, 111, 115, 101]
    · rw [if_pos hC] at H
      have e1 : (x.toList == ([111, 112, 101, 110] : List UInt8)) = false := by rw [hC]; decide
      have e2 : (x.toList == ([99, 108, 111, 115, 101] : List UInt8)) = true := by simp [hC]
      have e3 : (x.toList == ([103, 101, 116] : List UInt8)) = false := by rw [hC]; decide
      have e4 : (x.toList == ([108, 97, 115, 116] : List UInt8)) = false := by rw [hC]; decide
      have e5 : (x.toList == ([115, 101, 110, 100] : List UInt8)) = false := by rw [hC]; decide
      clear hC hO
      by_cases hr : r.length = 0
      · rw [if_pos hr] at H
        have q2 : (((r.length : Int) + 1 + 1) == 2) = true := beq_iff_eq.mpr (by omega)
        simp only [Option.some.injEq, Prod.mk.injEq] at H
        obtain ⟨rfl, rfl, rfl, rfl⟩ := H
        clear hr
        go_upto_region 19 with (fail)
        have HS3 := Aside0.mk (HS2.out.set0 3)
        clear c0 c1 c2 f0 f1 f2 g0 m0 hx0
        generalize W2.setCell ⟨M, 0, none⟩ (.int .i64 3) = W3 at HS3 ⊢
        have c0 := HS3.out.st.c0
        have c1 := HS3.out.st.c1
        have c2 := HS3.out.st.c2
        have f0 := HS3.out.st.f 0
        have f1 := HS3.out.st.f 1
        have f2 := HS3.out.st.f 2
        have m0 := HS3.out.m0
        have m1 := HS3.out.m1
        have m2 := HS3.out.m2
        have g0 := HS3.out.g 0
        have g2 := HS3.out.g 2
        go_wp2
        refine bodyPost_ret (results_ct rfl _ _ N 31 _ (0, 0) _ rfl (HS3.out.st.put _ _ _) Tryd.underlying31 rfl (by kernel_rfl)) rfl ?_
        exact ⟨rfl, HS3.out.st.puts _ _ _⟩
      · rw [if_neg hr] at H
        have q2 : (((r.length : Int) + 1 + 1) == 2) = false := beq_eq_false_iff_ne.mpr (by omega)
        clear hr
        simp only [actBad, Option.some.injEq, Prod.mk.injEq] at H
        obtain ⟨rfl, rfl, rfl, rfl⟩ := H
        go_wp2
        refine bodyPost_ret (results_ct rfl _ _ N 31 _ (0, 0) _ rfl (HS2.out.st.put _ _ _) Tryd.underlying31 rfl (by kernel_rfl)) rfl ?_
        exact ⟨rfl, HS2.out.st.puts _ _ _⟩
    rw [if_neg hC] at H
    have e1 : (x.toList == ([111, 112, 101, 110] : List UInt8)) = false := beq_eq_false_iff_ne.mpr hO
    have e2 : (x.toList == ([99, 108, 111, 115, 101] : List UInt8)) = false := beq_eq_false_iff_ne.mpr hC
    clear hO hC
    by_cases hG : x.toList = [103, 101, 116] ∨ x.toList = [108, 97, 115, 116]
    · rw [if_pos hG] at H
      have hk : ∃ c : Bool, c = decide (x.toList = [108, 97, 115, 116]) ∧ (x.toList == ([108, 97, 115, 116] : List UInt8)) = c ∧ (x.toList == ([103, 101, 116] : List UInt8)) = !c := by
        rcases hG with h | h
        · exact ⟨false, by rw [h]; decide, by rw [h]; decide, by rw [h]; decide⟩
        · exact ⟨true, by rw [h]; decide, by rw [h]; decide, by rw [h]; decide⟩
      obtain ⟨c, hc, e4, e3⟩ := hk
      have e5 : (x.toList == ([115, 101, 110, 100] : List UInt8)) = false := by
        rcases hG with h | h <;> (rw [h]; decide)
      clear hG
      rw [← hc] at H
      clear hc
      by_cases hr : r.length = 1
      · obtain ⟨z, rfl⟩ := List.length_eq_one_iff.1 hr
        clear hr
        have q3 : ((([z] : List ByteArray).length : Int) + 1 + 1 == 3) = true := rfl
        have hx2 := HW2.out.at2
        dsimp only at H
        cases hp : pathB k z with
        | none => rw [hp] at H; simp at H
        | some p =>
          rw [hp] at H
          have HP := Aside0.mk hp
          clear hp
          simp only [Option.bind_some] at H
          cases p with
          | false =>
            rw [if_neg (by decide)] at H
            simp only [actBad, Option.some.injEq, Prod.mk.injEq] at H
            obtain ⟨rfl, rfl, rfl, rfl⟩ := H
            cases c <;>
            (go_wp2_with (go_at_call 40; refine (path_below k z false _ HP.out).mono ?_; (first | rintro e w5 ⟨rfl, b5⟩ | rintro e w5 rfl b5); have HS3 := Aside0.mk (HS2.out.step b5); have HW3 := Aside0.mk (HW2.out.below b5); clear b5; have c0 := HS3.out.st.c0; have c1 := HS3.out.st.c1; have c2 := HS3.out.st.c2; have f0 := HS3.out.st.f 0; have f1 := HS3.out.st.f 1; have f2 := HS3.out.st.f 2; have m0 := HS3.out.m0; have g0 := HS3.out.g 0; have hx0 := HW3.out.at0)
             refine bodyPost_ret (results_ct rfl _ _ N 31 _ (0, 0) _ rfl (HS3.out.st.put _ _ _) Tryd.underlying31 rfl (by kernel_rfl)) rfl ?_
             exact ⟨rfl, HS3.out.st.puts _ _ _⟩)
          | true =>
            rw [if_pos rfl] at H
            simp only [Option.some.injEq, Prod.mk.injEq] at H
            obtain ⟨rfl, rfl, rfl, rfl⟩ := H
            have hz40 : z.size ≤ 40 := by
              have := HP.out
              unfold pathB at this
              split at this
              · simp at this
              split at this
              · simp at this
              · omega
            cases c with
            | false =>
              go_upto_region 16 with (go_at_call 40; refine (path_below k z true _ HP.out).mono ?_; (first | rintro e w5 ⟨rfl, b5⟩ | rintro e w5 rfl b5); have HS3 := Aside0.mk (HS2.out.step b5); have HW3 := Aside0.mk (HW2.out.below b5); clear b5; have c0 := HS3.out.st.c0; have c1 := HS3.out.st.c1; have c2 := HS3.out.st.c2; have f0 := HS3.out.st.f 0; have f1 := HS3.out.st.f 1; have f2 := HS3.out.st.f 2; have m0 := HS3.out.m0; have g0 := HS3.out.g 0)
              have HS4 := Aside0.mk (HS3.out.set0 2)
              have HW4 := Aside0.mk (HW3.out.far (i := 0) HBM.out (.int .i64 2))
              clear c0 c1 c2 f0 f1 f2 g0 m0 hx0 hx2
              generalize w5.setCell ⟨M, 0, none⟩ (.int .i64 2) = W4 at HS4 HW4 ⊢
              have hx0 := HW4.out.at0
              have hx2 := HW4.out.at2
              have HK := Aside0.mk (fun W => text_calls k z false W HP.out hz40)
              clear hz40
              go_region_with (go_at_call 41; refine (HK.out _).mono ?_; (first | rintro e w6 ⟨rfl, b6⟩ | rintro e w6 rfl b6); have HS5 := Aside0.mk (HS4.out.step (below_step (by repeat (first | exact Below.refl _ _ | apply pw_below_drewN | apply below_drew1)) b6)); clear b6; have m2 := HS5.out.m2; have g2 := HS5.out.g 2)
              all_goals
                have HS6 := Aside0.mk (HS5.out.set2 (textB z false))
                clear m2 g2
                generalize (w6.setCell ⟨M, 2, none⟩ (.string (textB z false))) = W6 at HS6 ⊢
                have c0 := HS6.out.st.c0; have c1 := HS6.out.st.c1; have c2 := HS6.out.st.c2; have f0 := HS6.out.st.f 0; have f1 := HS6.out.st.f 1; have f2 := HS6.out.st.f 2; have m0 := HS6.out.m0; have m1 := HS6.out.m1; have m2 := HS6.out.m2
                go_wp2
                refine bodyPost_ret (results_ct rfl _ _ N 31 _ (0, 0) _ rfl (HS6.out.st.put _ _ _) Tryd.underlying31 rfl (by kernel_rfl)) rfl ?_
                exact ⟨rfl, HS6.out.st.puts _ _ _⟩
            | true =>
              go_upto_region 16 with (go_at_call 40; refine (path_below k z true _ HP.out).mono ?_; (first | rintro e w5 ⟨rfl, b5⟩ | rintro e w5 rfl b5); have HS3 := Aside0.mk (HS2.out.step b5); have HW3 := Aside0.mk (HW2.out.below b5); clear b5; have c0 := HS3.out.st.c0; have c1 := HS3.out.st.c1; have c2 := HS3.out.st.c2; have f0 := HS3.out.st.f 0; have f1 := HS3.out.st.f 1; have f2 := HS3.out.st.f 2; have m0 := HS3.out.m0; have g0 := HS3.out.g 0)
              have HS4 := Aside0.mk (HS3.out.set0 2)
              have HW4 := Aside0.mk (HW3.out.far (i := 0) HBM.out (.int .i64 2))
              clear c0 c1 c2 f0 f1 f2 g0 m0 hx0 hx2
              generalize w5.setCell ⟨M, 0, none⟩ (.int .i64 2) = W4 at HS4 HW4 ⊢
              have hx0 := HW4.out.at0
              have hx2 := HW4.out.at2
              have HK := Aside0.mk (fun W => text_calls k z true W HP.out hz40)
              clear hz40
              go_region_with (go_at_call 41; refine (HK.out _).mono ?_; (first | rintro e w6 ⟨rfl, b6⟩ | rintro e w6 rfl b6); have HS5 := Aside0.mk (HS4.out.step (below_step (by repeat (first | exact Below.refl _ _ | apply pw_below_drewN | apply below_drew1)) b6)); clear b6; have m2 := HS5.out.m2; have g2 := HS5.out.g 2)
              all_goals
                have HS6 := Aside0.mk (HS5.out.set2 (textB z true))
                clear m2 g2
                generalize (w6.setCell ⟨M, 2, none⟩ (.string (textB z true))) = W6 at HS6 ⊢
                have c0 := HS6.out.st.c0; have c1 := HS6.out.st.c1; have c2 := HS6.out.st.c2; have f0 := HS6.out.st.f 0; have f1 := HS6.out.st.f 1; have f2 := HS6.out.st.f 2; have m0 := HS6.out.m0; have m1 := HS6.out.m1; have m2 := HS6.out.m2
                go_wp2
                refine bodyPost_ret (results_ct rfl _ _ N 31 _ (0, 0) _ rfl (HS6.out.st.put _ _ _) Tryd.underlying31 rfl (by kernel_rfl)) rfl ?_
                exact ⟨rfl, HS6.out.st.puts _ _ _⟩
      · have q3 : (((r.length : Int) + 1 + 1) == 3) = false := beq_eq_false_iff_ne.mpr (by omega)
        have H2 : some actBad = some (k1, k2, t, ok) := by
          rcases r with _ | ⟨z, _ | ⟨z2, rs⟩⟩
          · exact H
          · exact absurd rfl hr
          · exact H
        clear H
        have H := H2
        clear H2 hr
        simp only [actBad, Option.some.injEq, Prod.mk.injEq] at H
        obtain ⟨rfl, rfl, rfl, rfl⟩ := H
        cases c <;>
        (go_wp2
         refine bodyPost_ret (results_ct rfl _ _ N 31 _ (0, 0) _ rfl (HS2.out.st.put _ _ _) Tryd.underlying31 rfl (by kernel_rfl)) rfl ?_
         exact ⟨rfl, HS2.out.st.puts _ _ _⟩)
    rw [if_neg hG] at H
    have e3 : (x.toList == ([103, 101, 116] : List UInt8)) = false := beq_eq_false_iff_ne.mpr (fun e => hG (.inl e))
    have e4 : (x.toList == ([108, 97, 115, 116] : List UInt8)) = false := beq_eq_false_iff_ne.mpr (fun e => hG (.inr e))
    clear hG
    by_cases hS : x.toList = [115, 101, 110, 100]
    · rw [if_pos hS] at H
      have e5 : (x.toList == ([115, 101, 110, 100] : List UInt8)) = true := by simp [hS]
      clear hS
      have HJ := Aside0.mk (join_calls b x y r W2 HW2.out HN.out HZ.out)
      have HJL := Aside0.mk (joinB_le r HN.out HZ.out)
      simp only [Option.some.injEq, Prod.mk.injEq] at H
      obtain ⟨rfl, rfl, rfl, rfl⟩ := H
      go_upto_region 18 with (fail)
      clear c0 c1 c2 f0 f1 f2 g0 m0 hx0
      by_cases hr0 : r.length = 0
      · obtain rfl : r = [] := List.length_eq_zero_iff.1 hr0
        have hj0 : joinB [] = ⟨#[]⟩ := by simp [joinB, Lib.join]
        clear HJ HJL hr0
        have HJ := Aside0.mk (show ∀ W, Calls Tryd.prog 42 #[.slice (some ⟨b, 0, none⟩) 0 0, .string ⟨#[32]⟩] W fun e w' => e = .returned (.string (joinB [])) ∧ w' = W from fun W => by rw [hj0]; exact Tryd.strings_Join_none _ 0 _ W)
        have hjs : (9223372036854775807 < (joinB []).size + 2) = False := by rw [hj0]; exact eq_false (by decide)
        clear hj0
        have HS3 := HS2
        have m0 := HS3.out.m0
        have m1 := HS3.out.m1
        have m2 := HS3.out.m2
        have g0 := HS3.out.g 0
        have g2 := HS3.out.g 2
        go_upto_region 19 with (go_at_call 42; refine (HJ.out _).mono ?_; (first | rintro e w5 ⟨rfl, rfl⟩ | rintro e w5 rfl rfl))
        have HS4 := Aside0.mk ((HS3.out.set0 2).set2 (joinB [] ++ ⟨#[13, 10]⟩))
        clear m0 m1 m2 g0 g2
        generalize (w5.setCell ⟨M, 0, none⟩ (.int .i64 2)).setCell ⟨M, 2, none⟩ (.string (joinB [] ++ ⟨#[13, 10]⟩)) = W4 at HS4 ⊢
        have c0 := HS4.out.st.c0
        have c1 := HS4.out.st.c1
        have c2 := HS4.out.st.c2
        have f0 := HS4.out.st.f 0
        have f1 := HS4.out.st.f 1
        have f2 := HS4.out.st.f 2
        have m0 := HS4.out.m0
        have m1 := HS4.out.m1
        have m2 := HS4.out.m2
        have g0 := HS4.out.g 0
        have g2 := HS4.out.g 2
        go_wp2
        refine bodyPost_ret (results_ct rfl _ _ N 31 _ (0, 0) _ rfl (HS4.out.st.put _ _ _) Tryd.underlying31 rfl (by kernel_rfl)) rfl ?_
        exact ⟨rfl, HS4.out.st.puts _ _ _⟩
      · have hr1 : (r.length = 0) = False := eq_false hr0
        have hjs : (9223372036854775807 < (joinB r).size + 2) = False := eq_false (by have := HJL.out; omega)
        clear HJL hr0
        have hr2 : r.length + 1 + 1 - 2 = r.length := by omega
        have hr3 : (2 ≤ r.length + 1 + 1) = True := eq_true (by omega)
        have hr4 : ((2 : Int) ≤ (r.length : Int) + 1 + 1) = True := eq_true (by omega)
        go_upto_region 19 with (go_at_call 42; refine HJ.out.mono ?_; (first | rintro e w5 ⟨rfl, b5⟩ | rintro e w5 rfl b5); have HS3 := Aside0.mk (HS2.out.step b5); clear b5; have m0 := HS3.out.m0; have m1 := HS3.out.m1; have m2 := HS3.out.m2; have g0 := HS3.out.g 0; have g2 := HS3.out.g 2)
        have HS4 := Aside0.mk ((HS3.out.set0 2).set2 (joinB r ++ ⟨#[13, 10]⟩))
        clear m0 m1 m2 g0 g2
        generalize (w5.setCell ⟨M, 0, none⟩ (.int .i64 2)).setCell ⟨M, 2, none⟩ (.string (joinB r ++ ⟨#[13, 10]⟩)) = W4 at HS4 ⊢
        have c0 := HS4.out.st.c0
        have c1 := HS4.out.st.c1
        have c2 := HS4.out.st.c2
        have f0 := HS4.out.st.f 0
        have f1 := HS4.out.st.f 1
        have f2 := HS4.out.st.f 2
        have m0 := HS4.out.m0
        have m1 := HS4.out.m1
        have m2 := HS4.out.m2
        have g0 := HS4.out.g 0
        have g2 := HS4.out.g 2
        go_wp2
        refine bodyPost_ret (results_ct rfl _ _ N 31 _ (0, 0) _ rfl (HS4.out.st.put _ _ _) Tryd.underlying31 rfl (by kernel_rfl)) rfl ?_
        exact ⟨rfl, HS4.out.st.puts _ _ _⟩
    · rw [if_neg hS] at H
      have e5 : (x.toList == ([115, 101, 110, 100] : List UInt8)) = false := beq_eq_false_iff_ne.mpr hS
      clear hS
      simp only [actBad, Option.some.injEq, Prod.mk.injEq] at H
      obtain ⟨rfl, rfl, rfl, rfl⟩ := H
      go_wp2
      refine bodyPost_ret (results_ct rfl _ _ N 31 _ (0, 0) _ rfl (HS2.out.st.put _ _ _) Tryd.underlying31 rfl (by kernel_rfl)) rfl ?_
      exact ⟨rfl, HS2.out.st.puts _ _ _⟩

/-! ### impl.ReadLine -/
def readB (k : Nat) (s : ByteArray) : Option (Int × Int × ByteArray × Int) :=
  if 65536 < s.size then some (0, 0, ⟨#[]⟩, 2)
  else match words s with
  | [] => some (0, 0, ⟨#[]⟩, 3)
  | [x] => if x.toList = [116, 105, 99, 107] then some (4, 0, ⟨#[]⟩, 0) else some (0, 0, ⟨#[]⟩, 3)
  | x :: y :: r => if x.toList = [116, 105, 99, 107] then some (0, 0, ⟨#[]⟩, 3) else
    (actR k x y r).map fun a => if a.2.2.2 = true then (a.1, a.2.1, a.2.2.1, 0) else (0, 0, ⟨#[]⟩, 3)

set_option maxHeartbeats 1000000 in
set_option maxRecDepth 100000 in
theorem read_long (s : ByteArray) (w : World) (h : 65536 < s.size) :
    Calls Tryd.prog 11 #[.string s] w fun e w' => e = .returned (.tuple #[.agg #[.int .i64 0, .int .i64 0, .string ⟨#[]⟩], .int .i64 2]) ∧ Below w.heap.size w w' := by
  have p1 : decide (65536 < (s.size : Int)) = true := decide_eq_true (by omega)
  have p2 : decide (65536 < s.size) = true := decide_eq_true h
  have HS0 := Aside0.mk (St.init w)
  clear h
  go_enter Tryd.func11, Tryd.ntmps11
  go_upto_region 1 with (fail)
  generalize (w.alloc (.cells #[.int .i64 0, .int .i64 0, .string ⟨#[]⟩] 31 (0, 0))) = W at HS0 ⊢
  generalize hNn : w.heap.size = N at HS0 ⊢
  clear hNn
  have c0 := HS0.out.c0
  have c1 := HS0.out.c1
  have c2 := HS0.out.c2
  have f0 := HS0.out.f 0
  have f1 := HS0.out.f 1
  have f2 := HS0.out.f 2
  go_wp2
  refine bodyPost_ret (results_ct rfl _ _ N 31 _ (0, 0) _ rfl (HS0.out.put _ _ _) Tryd.underlying31 rfl (by kernel_rfl)) rfl ?_
  exact ⟨rfl, HS0.out.puts _ _ _⟩

set_option maxHeartbeats 1000000 in
set_option maxRecDepth 100000 in
theorem read_none (s : ByteArray) (w : World) (h : s.size ≤ 65536) (hw : words s = []) :
    Calls Tryd.prog 11 #[.string s] w fun e w' => e = .returned (.tuple #[.agg #[.int .i64 0, .int .i64 0, .string ⟨#[]⟩], .int .i64 3]) ∧ Below w.heap.size w w' := by
  have p1 : decide (65536 < (s.size : Int)) = false := decide_eq_false (by omega)
  have p2 : decide (65536 < s.size) = false := decide_eq_false (by omega)
  have hl : (words s).length = 0 := by rw [hw]; rfl
  have HL := Aside0.mk (fun W => lineWords_calls s h W)
  have HS0 := Aside0.mk (St.init w)
  clear h hw
  go_enter Tryd.func11, Tryd.ntmps11
  go_upto_region 1 with (fail)
  generalize (w.alloc (.cells #[.int .i64 0, .int .i64 0, .string ⟨#[]⟩] 31 (0, 0))) = W at HS0 ⊢
  generalize hNn : w.heap.size = N at HS0 ⊢
  clear hNn
  go_wp2_with (go_at_call 25; refine (HL.out _).mono ?_; rintro e w1 ⟨b, rfl, hW, hb, b1⟩; have HS1 := Aside0.mk (HS0.out.step b1); clear b1 hW hb; have c0 := HS1.out.c0; have c1 := HS1.out.c1; have c2 := HS1.out.c2; have f0 := HS1.out.f 0; have f1 := HS1.out.f 1; have f2 := HS1.out.f 2)
  refine bodyPost_ret (results_ct rfl _ _ N 31 _ (0, 0) _ rfl (HS1.out.put _ _ _) Tryd.underlying31 rfl (by kernel_rfl)) rfl ?_
  exact ⟨rfl, HS1.out.puts _ _ _⟩

set_option maxHeartbeats 1000000 in
set_option maxRecDepth 100000 in
theorem read_some (s : ByteArray) (k1 k2 : Int) (t : ByteArray) (ok : Bool) (w : World) (h : s.size ≤ 65536) (hE : Env w) (hne : (words s).length ≠ 0)
    (hA : ∀ (b : Nat) (W : World), Words W b (words s) → b < W.heap.size → Env W → Calls Tryd.prog 26 #[.slice (some ⟨b, 0, none⟩) (words s).length (words s).length] W fun e w' => e = .returned (.tuple #[.agg #[.int .i64 k1, .int .i64 k2, .string t], .bool ok]) ∧ Below W.heap.size W w') :
    Calls Tryd.prog 11 #[.string s] w fun e w' => e = .returned (.tuple #[.agg #[.int .i64 (if ok = true then k1 else 0), .int .i64 (if ok = true then k2 else 0), .string (if ok = true then t else ⟨#[]⟩)], .int .i64 (if ok = true then 0 else 3)]) ∧ Below w.heap.size w w' := by
  have p1 : decide (65536 < (s.size : Int)) = false := decide_eq_false (by omega)
  have p2 : decide (65536 < s.size) = false := decide_eq_false (by omega)
  have q1 : (((words s).length : Int) == 0) = false := beq_eq_false_iff_ne.mpr (by omega)
  have HL := Aside0.mk (fun W => lineWords_calls s h W)
  have HS0 := Aside0.mk (St.init w)
  have HE0 := Aside0.mk (hE.below HS0.out.below)
  have HA := Aside0.mk hA
  clear h hE hA hne
  cases ok <;>
  (go_enter Tryd.func11, Tryd.ntmps11
   go_upto_region 1 with (fail)
   generalize (w.alloc (.cells #[.int .i64 0, .int .i64 0, .string ⟨#[]⟩] 31 (0, 0))) = W at HS0 HE0 ⊢
   generalize hNn : w.heap.size = N at HS0 ⊢
   clear hNn
   go_upto_region 7 with (first | (go_at_call 25; refine (HL.out _).mono ?_; rintro e w1 ⟨b, rfl, hW, hb, b1⟩; have HS1 := Aside0.mk (HS0.out.step b1); have HE1 := Aside0.mk (HE0.out.below b1); have HW := Aside0.mk hW; have HBb := Aside0.mk hb; clear b1 hW hb) | (go_at_call 26; refine (HA.out b _ HW.out HBb.out HE1.out).mono ?_; (first | rintro e w2 ⟨rfl, b2⟩ | rintro e w2 rfl b2); have HS2 := Aside0.mk (HS1.out.step b2); clear b2))
   have HS3 := Aside0.mk (HS2.out.step (below_alloc (Below.refl _ _) (.cells #[.int .i64 k1, .int .i64 k2, .string t] 31 (0, 0))))
   have hm0 : (w2.alloc (.cells #[.int .i64 k1, .int .i64 k2, .string t] 31 (0, 0))).heap[w2.heap.size]? = some (.cells #[.int .i64 k1, .int .i64 k2, .string t] 31 (0, 0)) := blk_new _ _
   generalize (w2.alloc (.cells #[.int .i64 k1, .int .i64 k2, .string t] 31 (0, 0))) = W3 at HS3 hm0 ⊢
   generalize w2.heap.size = M at hm0 ⊢
   have c0 := HS3.out.c0
   have c1 := HS3.out.c1
   have c2 := HS3.out.c2
   have f0 := HS3.out.f 0
   have f1 := HS3.out.f 1
   have f2 := HS3.out.f 2
   have m0 : W3.cell? ⟨M, 0, none⟩ = some (.int .i64 k1) := (blk_cell hm0 0).trans rfl
   have m1 : W3.cell? ⟨M, 1, none⟩ = some (.int .i64 k2) := (blk_cell hm0 1).trans rfl
   have m2 : W3.cell? ⟨M, 2, none⟩ = some (.string t) := (blk_cell hm0 2).trans rfl
   go_wp2
   refine bodyPost_ret (results_ct rfl _ _ N 31 _ (0, 0) _ rfl (HS3.out.put _ _ _) Tryd.underlying31 rfl (by kernel_rfl)) rfl ?_
   exact ⟨rfl, HS3.out.puts _ _ _⟩)

end Go.Proofs.YtjlecokclcpciaaDoor.HRead
