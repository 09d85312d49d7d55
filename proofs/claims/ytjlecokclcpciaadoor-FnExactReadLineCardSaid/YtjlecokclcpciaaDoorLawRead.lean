/- For every line, laws.FnExactReadLine returns true and its argument reads as it read; the row's condition (strconv's tables and sentinels as the program's text lays them) is met by the card's tie. -/
import Derived.Test.YtjlecokclcpciaaDoorCards
import Derived.Test.YtjlecokclcpciaaDoorTie
import Derived.Test.YtjlecokclcpciaaDoorReadRest
import Derived.WalkKit
import Derived.ProofKit
import Derived.LaidMore
import Derived.OpenShut
import Derived.ChangeOld
import Derived.ChangeMaps5
import Derived.Below
import Derived.Carry
import Derived.Lib.SmallJoins
import Derived.Stop.Joined
import Derived.Stop.LaidErr
import Derived.SevenTiedAt
namespace Go.Proofs.YtjlecokclcpciaaDoor.LRead
open Go.ChangeShapes Go.WideShapes Go.ChangeAt Go.RowKit Go.Joins
open Go.Proofs.YtjlecokclcpciaaDoorW.PrintWords Go.Proofs.YtjlecokclcpciaaDoorW.PrintLast Go.Proofs.YtjlecokclcpciaaDoorW.PrintMore
open Go.Proofs.YtjlecokclcpciaaDoor.PFnExactReadLine Go.Proofs.YtjlecokclcpciaaDoor.HRead
set_option linter.unusedVariables false
theorem own : ownKnob Tryd.prog.godebug = none := by kernel_rfl

/-! ### impl.ReadLine, whatever the line -/
theorem read_calls (k : Nat) (s : ByteArray) (k1 k2 : Int) (t : ByteArray) (c : Int) (w : World) (hE : Env w) (h : readB k s = some (k1, k2, t, c)) :
    Calls Tryd.prog 11 #[.string s] w fun e w' => e = .returned (.tuple #[.agg #[.int .i64 k1, .int .i64 k2, .string t], .int .i64 c]) ∧ Below w.heap.size w w' := by
  unfold readB at h
  split at h
  · rename_i hs
    simp only [Option.some.injEq, Prod.mk.injEq] at h
    obtain ⟨rfl, rfl, rfl, rfl⟩ := h
    exact read_long s w hs
  · rename_i hs
    obtain ⟨hl, hz⟩ := words_small s (by omega)
    cases hw : words s with
    | nil =>
      rw [hw] at h
      simp only [Option.some.injEq, Prod.mk.injEq] at h
      obtain ⟨rfl, rfl, rfl, rfl⟩ := h
      exact read_none s w (by omega) hw
    | cons x r =>
      cases r with
      | nil =>
        rw [hw] at h
        simp only at h
        split at h
        · rename_i hx
          simp only [Option.some.injEq, Prod.mk.injEq] at h
          obtain ⟨rfl, rfl, rfl, rfl⟩ := h
          refine (read_some s 4 0 ⟨#[]⟩ true w (by omega) hE (by rw [hw]; simp) ?_).mono fun e w' h => h
          rw [hw]
          exact fun b W hW _ _ => act_tick b x [] W hW (beq_of hx)
        · rename_i hx
          simp only [Option.some.injEq, Prod.mk.injEq] at h
          obtain ⟨rfl, rfl, rfl, rfl⟩ := h
          refine (read_some s 0 0 ⟨#[]⟩ false w (by omega) hE (by rw [hw]; simp) ?_).mono fun e w' h => h
          rw [hw]
          exact fun b W hW _ _ => act_one b x W hW (beq_no hx)
      | cons y r =>
        rw [hw] at h hl hz
        simp only at h
        simp only [List.length_cons] at hl
        split at h
        · rename_i hx
          simp only [Option.some.injEq, Prod.mk.injEq] at h
          obtain ⟨rfl, rfl, rfl, rfl⟩ := h
          refine (read_some s 4 0 ⟨#[]⟩ false w (by omega) hE (by rw [hw]; simp) ?_).mono fun e w' h => h
          rw [hw]
          intro b W hW _ _
          have := act_tick b x (y :: r) W hW (beq_of hx)
          have e : ((((y :: r).length : Int) + 1) == 1) = false := beq_eq_false_iff_ne.2 (by simp only [List.length_cons]; omega)
          rw [e] at this
          exact this
        · rename_i hx
          obtain ⟨⟨a1, a2, a3, a4⟩, ha, hr⟩ := Option.map_eq_some_iff.1 h
          have hA : ∀ (b : Nat) (W : World), Words W b (words s) → b < W.heap.size → Env W → Calls Tryd.prog 26 #[.slice (some ⟨b, 0, none⟩) (words s).length (words s).length] W fun e w' => e = .returned (.tuple #[.agg #[.int .i64 a1, .int .i64 a2, .string a3], .bool a4]) ∧ Below W.heap.size W w' := by
            rw [hw]
            exact fun b W hW hb hE => act_two k b x y r a1 a2 a3 a4 W hE hW hb (hz y (by simp)) (by omega) (fun z h => hz z (by simp [h])) (beq_no hx) ha
          have := read_some s a1 a2 a3 a4 w (by omega) hE (by rw [hw]; simp) hA
          cases a4 with
          | true =>
            simp only [if_true, Prod.mk.injEq] at hr this
            obtain ⟨rfl, rfl, rfl, rfl⟩ := hr
            exact this
          | false =>
            simp only [Bool.false_eq_true, if_false, Prod.mk.injEq] at hr this
            obtain ⟨rfl, rfl, rfl, rfl⟩ := hr
            exact this

/-! ### the law's walk -/
theorem eq_refl (a b : Int) (t : ByteArray) : laws_eqAct.f a b t a b t = some true := by
  unfold laws_eqAct.f
  rw [if_pos rfl, if_pos rfl, if_pos rfl]

set_option maxHeartbeats 2000000 in
set_option maxRecDepth 100000 in
theorem law_calls (s : ByteArray) (w : World) (hE : Env w) :
    Calls Tryd.prog 4 #[.string s] w fun e w' => e = .returned (.bool true) ∧ Below w.heap.size w w' := by
  by_cases hs : 1048576 < s.size
  · have p1 : decide (1048576 < (s.size : Int)) = true := decide_eq_true (by omega)
    have p2 : decide (1048576 < s.size) = true := decide_eq_true hs
    clear hs hE
    go_enter Tryd.func4, Tryd.ntmps4
    go_wp2
    go_ret
    exact ⟨rfl, Below.refl _ _⟩
  · have p1 : decide (1048576 < (s.size : Int)) = false := decide_eq_false (by omega)
    have p2 : decide (1048576 < s.size) = false := decide_eq_false hs
    obtain ⟨k1, k2, t, c, k, hi, hsp⟩ := read_same s
    have HS := Aside0.mk (fun W => spec_ReadLine.calls k s k1 k2 t c W hsp)
    have HI := Aside0.mk (fun W (hE : Env W) => read_calls k s k1 k2 t c W hE hi)
    have HQ := Aside0.mk (fun W => laws_eqAct.calls k1 k2 t k1 k2 t true W (eq_refl k1 k2 t))
    have HE := Aside0.mk hE
    clear hs hi hsp hE
    go_enter Tryd.func4, Tryd.ntmps4
    go_upto_region 4 with (go_at_call 10; refine (HS.out _).mono ?_; (first | rintro e w1 ⟨rfl, b1⟩ | rintro e w1 rfl b1); have B1 := Aside0.mk b1; clear b1)
    have B2 := Aside0.mk (show Below w.heap.size w (w1.alloc (.cells #[.int .i64 k1, .int .i64 k2, .string t] 31 (0, 0))) from below_alloc B1.out _)
    have hk : (w1.alloc (.cells #[.int .i64 k1, .int .i64 k2, .string t] 31 (0, 0))).heap[w1.heap.size]? = some (.cells #[.int .i64 k1, .int .i64 k2, .string t] 31 (0, 0)) := blk_new _ _
    have HK := Aside0.mk hk
    clear hk
    generalize (w1.alloc (.cells #[.int .i64 k1, .int .i64 k2, .string t] 31 (0, 0))) = W1 at B2 HK ⊢
    generalize w1.heap.size = M at HK ⊢
    go_upto_region 5 with (go_at_call 11; refine (HI.out _ (HE.out.below B2.out)).mono ?_; (first | rintro e w2 ⟨rfl, b2⟩ | rintro e w2 rfl b2); have B3 := Aside0.mk (below_step B2.out b2); have HK2 := Aside0.mk (blk_below HK.out b2); clear b2)
    have B4 := Aside0.mk (show Below w.heap.size w (w2.alloc (.cells #[.int .i64 k1, .int .i64 k2, .string t] 31 (0, 0))) from below_alloc B3.out _)
    have hk2 := blk_alloc HK2.out (.cells #[.int .i64 k1, .int .i64 k2, .string t] 31 (0, 0))
    have hk3 : (w2.alloc (.cells #[.int .i64 k1, .int .i64 k2, .string t] 31 (0, 0))).heap[w2.heap.size]? = some (.cells #[.int .i64 k1, .int .i64 k2, .string t] 31 (0, 0)) := blk_new _ _
    generalize (w2.alloc (.cells #[.int .i64 k1, .int .i64 k2, .string t] 31 (0, 0))) = W2 at B4 hk2 hk3 ⊢
    generalize w2.heap.size = M2 at hk3 ⊢
    have m0 : W2.cell? ⟨M, 0, none⟩ = some (.int .i64 k1) := (blk_cell hk2 0).trans rfl
    have m1 : W2.cell? ⟨M, 1, none⟩ = some (.int .i64 k2) := (blk_cell hk2 1).trans rfl
    have m2 : W2.cell? ⟨M, 2, none⟩ = some (.string t) := (blk_cell hk2 2).trans rfl
    have n0 : W2.cell? ⟨M2, 0, none⟩ = some (.int .i64 k1) := (blk_cell hk3 0).trans rfl
    have n1 : W2.cell? ⟨M2, 1, none⟩ = some (.int .i64 k2) := (blk_cell hk3 1).trans rfl
    have n2 : W2.cell? ⟨M2, 2, none⟩ = some (.string t) := (blk_cell hk3 2).trans rfl
    clear hk2 hk3
    go_wp2_with (go_at_call 12; refine (HQ.out _).mono ?_; (first | rintro e w3 ⟨rfl, b3⟩ | rintro e w3 rfl b3); have B5 := Aside0.mk (below_step B4.out b3); clear b3)
    go_ret
    exact ⟨rfl, B5.out⟩

abbrev laid5 {H : Type} : List (String × DataW H) := [("math/bits.deBruijn32tab", Rows.laid_math_bits_deBruijn32tab), ("math/bits.deBruijn64tab", Rows.laid_math_bits_deBruijn64tab), ("internal/strconv.uint64pow10", Rows.laid_internal_strconv_uint64pow10), ("strconv.ErrRange", Rows.laid_strconv_ErrRange), ("strconv.ErrSyntax", Rows.laid_strconv_ErrSyntax)]
theorem door_met (os : Os) (args : Array Value) : laidMetH Tryd.prog laid5 ((World.doorLaid Tryd.prog 400 os).forCall (fun _ _ => 0) ⟨#[], args, []⟩).memory := by
  rw [MakeChecks.laidMetH_plain _ _ _ (by kernel_rfl)]
  exact laidMet_of_run' 8 (by kernel_rfl) (by kernel_rfl)
theorem p10Type : (Tryd.prog.globals[1]?).map (·.type) = some 106 := by kernel_rfl
theorem gES : Tryd.prog.globalNamed "strconv.ErrSyntax" = some 2 := by kernel_rfl
theorem gER : Tryd.prog.globalNamed "strconv.ErrRange" = some 3 := by kernel_rfl
theorem tES : (Tryd.prog.globals[2]?).map (·.type) = some 71 := by kernel_rfl
theorem tER : (Tryd.prog.globals[3]?).map (·.type) = some 71 := by kernel_rfl
theorem cells120 : Tryd.prog.cellsOf 120 = 1 := by kernel_rfl
theorem cells9 : Tryd.prog.cellsOf 9 = 1 := by kernel_rfl
theorem star : "*" ++ "errors.errorString" = "*errors.errorString" := by decide
theorem row118 (u : TypeId) (h : Tryd.prog.typeName? 3 u = some "*errors.errorString") : u = 118 :=
  typeName_ptr_named (nm := "errors.errorString") (by rw [star]; kernel_rfl) (by kernel_rfl) (by decide) u (by rw [star]; exact h)
theorem env_of {W : World} (h : laidMetH Tryd.prog laid5 W) : Env W := by
  rw [MakeChecks.laidMetH_plain _ _ _ (by kernel_rfl)] at h
  have h3 := laidMet.tail (laidMet.tail h)
  have h4 := laidMet.tail h3
  have h5 := laidMet.tail h4
  obtain ⟨a0, s0, hv0, -, -, -⟩ := laid_sentinel h4 gER tER Tryd.underlying71 row118 Tryd.underlying118 Tryd.underlying120 rfl rfl Tryd.underlying9 cells120 cells9
  obtain ⟨a1, s1, hv1, -, -, -⟩ := laid_sentinel h5 gES tES Tryd.underlying71 row118 Tryd.underlying118 Tryd.underlying120 rfl rfl Tryd.underlying9 cells120 cells9
  exact ⟨Lib.tabIs_of_head gP10 p10Type Tryd.underlying106 Tryd.underlying91 (by kernel_rfl) (by kernel_rfl) h3,
    ⟨_, by simpa using World.var?_cell gES hv1 0, .inr ⟨_, _, rfl⟩⟩, ⟨_, by simpa using World.var?_cell gER hv0 0, .inr ⟨_, _, rfl⟩⟩⟩

set_option maxRecDepth 100000 in
theorem lifted (os : Os) (started : os.Started) (H : Type) (enc : TypeId × Value → H) :
    ReturnsInHanded {} Tryd.checked os 4 .any (fun w args => (Rows.fnExactReadLineSpec.pre enc Tryd.prog Tryd.f4 [] false w args ∧ laidMetH Tryd.prog laid5 w) ∧ sizedMet enc Tryd.prog Tryd.f4 (OpenSpec.ofChange Rows.fnExactReadLineSpec) false w args) (Rows.fnExactReadLineSpec.post enc Tryd.prog Tryd.f4 false true false false) := by
  refine returnsInHanded_of_change_and (C := Tryd.checked) (X := fun w _ => laidMetH Tryd.prog laid5 w) (fun _ _ _ hh h => h.of_heap hh) own started (by kernel_rfl) Tryd.func4
    (ChangeSpec.witness_shaped (enc := enc) (C := Tryd.checked) (os := os) (X := fun w _ => laidMetH Tryd.prog laid5 w) false (World.doorLaid Tryd.prog 400 os) #[.string ⟨#[]⟩] 8 rfl (World.shaped_of_RefB (by kernel_rfl) (by kernel_rfl)) (by kernel_rfl) (by kernel_rfl) (by kernel_rfl) (door_met os _)) ?_
  intro W base args ds gs before hval0 hW _ _ hL _
  have hval : ∀ (j : Nat) t v, Tryd.f4.params[j]? = some t → args[j]? = some v → Value.okWide Tryd.prog W .any base t v := hval0
  have hW' := hW
  obtain ⟨p, q, hA0, hV, rfl, hfz, hnd⟩ := hW
  have hA : DataW.TrodAll enc Tryd.prog W 0 (fun _ => true) true Tryd.f4.params.toList args.toList ds p := hA0
  rw [Tryd.params4] at hA hval
  obtain ⟨v0, d0, rfl, rfl, h0⟩ := trodAll_one hA
  obtain ⟨rfl, rfl⟩ := trodVars_none hV
  obtain ⟨s, rfl, rfl, rfl, ws⟩ := Go.ChangeMaps.open_string Tryd.underlying9 (hval 0 9 v0 rfl rfl) h0
  clear hA0 hval0
  refine (law_calls s W (env_of hL)).mono fun e W' ⟨he, bel⟩ => ?_
  subst he
  exact ⟨_, rfl, _, _, _, [], _, [], hW', trodAll_mk1 (shut_bool Tryd.underlying4 _), trodAll_mk1 (Go.ChangeMaps.shut_string Tryd.underlying9 ws), rfl, bel.frame _, fun h => by cases h⟩
theorem row_holds : Rows.fnExactReadLineRow.holds Tryd.pinned (OpenSpec.ofChange Rows.fnExactReadLineSpec) :=
  OpenClaim.holds_of_wide 4 Tryd.f4 rfl rfl rfl rfl rfl rfl rfl ⟨rfl, rfl, rfl, rfl, rfl⟩ rfl rfl rfl rfl rfl (by kernel_rfl) Tryd.func4 (by kernel_rfl)
    (of_decide_eq_true (by kernel_rfl)) (by unfold Func.isWrapper; first | (rw [if_pos (by decide +kernel)]; kernel_rfl) | (rw [if_neg (by decide +kernel)]; exact ⟨rfl, rfl⟩))
    (fun os started H enc _ => lifted os started H enc)
theorem card_holds : Rows.FnExactReadLineCardSaid :=
  Claim7.holds_tied_plain_at .later [] [.data, .data, .data, .sentinel, .sentinel] true (true, "bd068d6055ff78b5cf51e8e288bc4c0eb7c3380ac8db0290a6a2b636119b27a6") true
    row_holds (fun _ h => by cases h) (by kernel_rfl) (fun _ h => by cases h) fnExactReadLine_row_tie rfl ⟨rfl, rfl⟩ (by kernel_rfl) rfl
    (fun f fn hf hfn => by
      obtain rfl : f = 4 := Option.some.inj ((show Tryd.prog.funcNamed "loop.example/g00370/laws.FnExactReadLine" = some 4 by kernel_rfl).symm.trans hf) |>.symm
      obtain rfl : fn = Tryd.f4 := (Option.some.inj (Tryd.func4.symm.trans hfn)).symm
      exact ⟨by kernel_rfl, fun j t ht => by
        rw [Tryd.params4] at ht
        have hm : t ∈ [9] := by simpa using Array.mem_of_getElem? ht
        have hall : ([9].all fun u => !Tryd.prog.wantsStandIn u) = true := by kernel_rfl
        exact (show Tryd.prog.wantsStandIn t = false by simpa using List.all_eq_true.1 hall t hm)⟩)
    (by kernel_rfl)
end Go.Proofs.YtjlecokclcpciaaDoor.LRead
namespace Go.Proofs.YtjlecokclcpciaaDoor
theorem fnExactReadLine_holds : Rows.FnExactReadLineCardSaid := LRead.card_holds
#print axioms fnExactReadLine_holds
end Go.Proofs.YtjlecokclcpciaaDoor
