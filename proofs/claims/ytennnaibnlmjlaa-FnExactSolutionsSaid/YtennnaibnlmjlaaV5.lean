/- The walks of the Go functions that these laws reach: each is proved to do what a plain Lean function says. -/
import Derived.Test.YtennnaibnlmjlaaV0
import Derived.Test.YtennnaibnlmjlaaV4
namespace Go.Proofs.Ytennnaibnlmjlaa.V
open Go.RowKit Go.Proofs.YtennnaibnlmjlaaW.PrintWords Go.Proofs.YtennnaibnlmjlaaW.PrintLast Go.Proofs.YtennnaibnlmjlaaW.PrintMore
attribute [local go_sem] max2_int min2_int max_two min_two max_three min_three max_four min_four   -- for this text's walks alone
set_option linter.unusedVariables false
set_option linter.unusedSimpArgs false

/-! ### spec_kiIs: function 93 -/
mutual
def spec_kiIs.l0 : Nat → Int → Int → Int → Option (Bool)
  | 0, _, _, _ => none
  | k + 1, x0, x5, x6 => if x6 > 0 then (if (Int.tmod x6 10) = x5 then (spec_kiIs.l0 k x0 x5 (wrap64 (Int.tdiv x6 10))) else (some false)) else (some (decide (x0 > 10)))
def spec_kiIs.l1 : Nat → Int → ByteArray → Int → Int → Option (Bool)
  | 0, _, _, _, _ => none
  | k + 1, x0, x1, x7, x8 => if x7 ≤ x0 then (if x1.toList = ([115] : List UInt8) then (if (wrap64 (x8 * x8)) = x0 then (some true) else (spec_kiIs.l1 k x0 x1 (wrap64 (x8 * x8)) (wrap64 (x8 + 1)))) else (if x1.toList = ([99] : List UInt8) then (if (wrap64 ((wrap64 (x8 * x8)) * x8)) = x0 then (some true) else (spec_kiIs.l1 k x0 x1 (wrap64 ((wrap64 (x8 * x8)) * x8)) (wrap64 (x8 + 1)))) else (if (wrap64 (x7 + x8)) = x0 then (some true) else (spec_kiIs.l1 k x0 x1 (wrap64 (x7 + x8)) (wrap64 (x8 + 1)))))) else (some false)
end
def spec_kiIs.f (k : Nat) (a0 : Int) (a1 : ByteArray) : Option (Bool) := if a1.toList = ([112] : List UInt8) then ((spec_kiPrime.f k a0).bind fun t136 => (some t136)) else (if a1.toList = ([100] : List UInt8) then (spec_kiIs.l0 k a0 (Int.tmod a0 10) a0) else (if a1.toList = ([114] : List UInt8) then (if a0 ≥ 10 then (some ((Int.tmod a0 10) == 0)) else (some false)) else (spec_kiIs.l1 k a0 a1 0 0)))
theorem spec_kiIs.mono_l : ∀ k, (∀ y0 y1 y2, LeO (spec_kiIs.l0 k y0 y1 y2) (spec_kiIs.l0 (k + 1) y0 y1 y2)) ∧ (∀ y0 y1 y2 y3, LeO (spec_kiIs.l1 k y0 y1 y2 y3) (spec_kiIs.l1 (k + 1) y0 y1 y2 y3))
  | 0 => ⟨fun _ _ _ r h => by simp [spec_kiIs.l0] at h, fun _ _ _ _ r h => by simp [spec_kiIs.l1] at h⟩
  | k + 1 => by
    obtain ⟨ih0, ih1⟩ := spec_kiIs.mono_l k
    refine ⟨?_, ?_⟩
    · intro y0 y1 y2
      unfold spec_kiIs.l0
      repeat' first
      | (with_reducible exact ih0 _ _ _)
      | (with_reducible exact ih1 _ _ _ _)
      | (with_reducible exact spec_kiPrime.mono _ _)
      | (with_reducible exact LeO.refl _)
      | (with_reducible exact LeO.none _)
      | (with_reducible refine LeO.ite ?_ ?_)
      | (with_reducible refine LeO.bind ?_ (fun _ => ?_))
      | exact ih0 _ _ _
      | exact ih1 _ _ _ _
      | exact spec_kiPrime.mono _ _
      | exact LeO.none _
      | refine LeO.ite ?_ ?_
      | refine LeO.bind ?_ (fun _ => ?_)
    · intro y0 y1 y2 y3
      unfold spec_kiIs.l1
      repeat' first
      | (with_reducible exact ih0 _ _ _)
      | (with_reducible exact ih1 _ _ _ _)
      | (with_reducible exact spec_kiPrime.mono _ _)
      | (with_reducible exact LeO.refl _)
      | (with_reducible exact LeO.none _)
      | (with_reducible refine LeO.ite ?_ ?_)
      | (with_reducible refine LeO.bind ?_ (fun _ => ?_))
      | exact ih0 _ _ _
      | exact ih1 _ _ _ _
      | exact spec_kiPrime.mono _ _
      | exact LeO.none _
      | refine LeO.ite ?_ ?_
      | refine LeO.bind ?_ (fun _ => ?_)
theorem spec_kiIs.mono : ∀ a0 a1 k, LeO (spec_kiIs.f k a0 a1) (spec_kiIs.f (k + 1) a0 a1) := by
  intro a0 a1 k
  obtain ⟨ih0, ih1⟩ := spec_kiIs.mono_l k
  unfold spec_kiIs.f
  repeat' first
      | (with_reducible exact ih0 _ _ _)
      | (with_reducible exact ih1 _ _ _ _)
      | (with_reducible exact spec_kiPrime.mono _ _)
      | (with_reducible exact LeO.refl _)
      | (with_reducible exact LeO.none _)
      | (with_reducible refine LeO.ite ?_ ?_)
      | (with_reducible refine LeO.bind ?_ (fun _ => ?_))
      | exact ih0 _ _ _
      | exact ih1 _ _ _ _
      | exact spec_kiPrime.mono _ _
      | exact LeO.none _
      | refine LeO.ite ?_ ?_
      | refine LeO.bind ?_ (fun _ => ?_)
set_option maxHeartbeats 8000000 in
set_option maxRecDepth 100000 in
theorem spec_kiIs.calls (k : Nat) (a0 : Int) (a1 : ByteArray) (r : Bool) (w : World) (h : spec_kiIs.f k a0 a1 = some r) :
    Calls Try.prog 93 #[.int .i64 a0, .string a1] w fun e w' => e = .returned (.bool r) ∧ Drawn0 w w' := by
  have H : (if a1.toList = ([112] : List UInt8) then ((spec_kiPrime.f k a0).bind fun t136 => (some t136)) else (if a1.toList = ([100] : List UInt8) then (spec_kiIs.l0 k a0 (Int.tmod a0 10) a0) else (if a1.toList = ([114] : List UInt8) then (if a0 ≥ 10 then (some ((Int.tmod a0 10) == 0)) else (some false)) else (spec_kiIs.l1 k a0 a1 0 0)))) = some r := h
  clear h
  by_cases c3 : a1.toList = ([112] : List UInt8)
  · rw [if_pos c3] at H
    have c3b0 : (a1.toList == ([112] : List UInt8)) = true := beq_iff_eq.mpr c3
    have c3b1 : (a1.toList != ([112] : List UInt8)) = false := bne_eq_false_iff_eq.mpr c3
    clear c3
    replace H := Option.bind_eq_some_iff.mp H
    obtain ⟨t136, A40, H⟩ := H
    replace H : (some t136) = some r := H
    have A4 := Aside0.mk A40
    clear A40
    obtain rfl := Option.some.inj H
    go_enter Try.func93, Try.ntmps93
    go_wp2_with (first | ((with_reducible refine gate_callee (f := 100) rfl ?_); refine goesL_ (some 13) rfl rfl Try.func100 (by kernel_rfl) rfl #[.int .i64 a0] rfl (by (try simp only [List.map_toArray, List.map_cons, List.map_nil]); first | done | rfl | (simp only [List.length_drop, List.length_take]; rfl)) ?_; (with_reducible refine (spec_kiPrime.calls k a0 t136 _ A4.out).mono ?_); rintro e w' ⟨rfl, ⟨nd, rfl⟩⟩; refine ⟨_, rfl, ?_⟩))
    go_ret
    exact ⟨by first | rfl | (simp; done) | (simp [*]; done), by repeat (first | exact Drawn0.refl _ | apply Drawn0.step)⟩
  · rw [if_neg c3] at H
    have c3b0 : (a1.toList == ([112] : List UInt8)) = false := beq_eq_false_iff_ne.mpr c3
    have c3b1 : (a1.toList != ([112] : List UInt8)) = true := bne_iff_ne.mpr c3
    by_cases c5 : a1.toList = ([100] : List UInt8)
    · rw [if_pos c5] at H
      have c5b0 : (a1.toList == ([100] : List UInt8)) = true := beq_iff_eq.mpr c5
      have c5b1 : (a1.toList != ([100] : List UInt8)) = false := bne_eq_false_iff_eq.mpr c5
      clear c5
      have H' := Aside0.mk H
      clear H
      go_enter Try.func93, Try.ntmps93
      go_wp2
      go_loopg [6] k (fun kq v6 w' => ∃ (x6_1 : Int), v6 = .int .i64 x6_1 ∧ Aside0 (spec_kiIs.l0 kq a0 (Int.tmod a0 10) x6_1 = some r) ∧ Aside0 (kq ≤ k) ∧ Drawn0 w w')
      case atStart => exact ⟨(a0), (by first | rfl | (simp; done) | (simp [*]; done)), H', ⟨Nat.le_refl _⟩, by repeat (first | exact Drawn0.refl _ | apply Drawn0.step)⟩
      case round =>
        clear H'
        try clear c1
        try clear p2
        try clear c3
        try clear c3b0
        try clear c3b1
        try clear c5
        try clear c5b0
        try clear c5b1
        obtain ⟨x6_1, rfl, HA, HK1, ⟨m1, rfl⟩⟩ := hrel
        cases gk with
        | zero => exact absurd HA.out (by simp [spec_kiIs.l0])
        | succ k1 =>
          have H := HA.out
          clear HA
          simp only [spec_kiIs.l0] at H
          by_cases c6 : x6_1 > 0
          · rw [if_pos c6] at H
            have c6b0 : decide (0 < x6_1) = true := decide_eq_true c6
            clear c6
            by_cases c7 : (Int.tmod x6_1 10) = (Int.tmod a0 10)
            · rw [if_pos c7] at H
              have c7b0 : ((Int.tmod x6_1 10) == (Int.tmod a0 10)) = true := beq_iff_eq.mpr c7
              have c7b1 : ((Int.tmod x6_1 10) != (Int.tmod a0 10)) = false := bne_eq_false_iff_eq.mpr c7
              clear c7
              have H' := Aside0.mk H
              clear H
              go_wp2
              go_roundg k1
              case measure => have := HK1.out; omega
              case rel => exact ⟨(wrap64 (Int.tdiv x6_1 10)), (by first | rfl | (simp; done) | (simp [*]; done)), H', ⟨by have := HK1.out; omega⟩, by repeat (first | exact Drawn0.refl _ | apply Drawn0.step)⟩
            · rw [if_neg c7] at H
              have c7b0 : ((Int.tmod x6_1 10) == (Int.tmod a0 10)) = false := beq_eq_false_iff_ne.mpr c7
              have c7b1 : ((Int.tmod x6_1 10) != (Int.tmod a0 10)) = true := bne_iff_ne.mpr c7
              obtain rfl := Option.some.inj H
              go_wp2
              go_ret
              exact ⟨by first | rfl | (simp; done) | (simp [*]; done), by repeat (first | exact Drawn0.refl _ | apply Drawn0.step)⟩
          · rw [if_neg c6] at H
            have c6b0 : decide (0 < x6_1) = false := decide_eq_false c6
            clear c6
            obtain rfl := Option.some.inj H
            go_wp2
            go_ret
            exact ⟨by first | rfl | (simp; done) | (simp [*]; done), by repeat (first | exact Drawn0.refl _ | apply Drawn0.step)⟩
    · rw [if_neg c5] at H
      have c5b0 : (a1.toList == ([100] : List UInt8)) = false := beq_eq_false_iff_ne.mpr c5
      have c5b1 : (a1.toList != ([100] : List UInt8)) = true := bne_iff_ne.mpr c5
      by_cases c8 : a1.toList = ([114] : List UInt8)
      · rw [if_pos c8] at H
        have c8b0 : (a1.toList == ([114] : List UInt8)) = true := beq_iff_eq.mpr c8
        have c8b1 : (a1.toList != ([114] : List UInt8)) = false := bne_eq_false_iff_eq.mpr c8
        clear c8
        by_cases c9 : a0 ≥ 10
        · rw [if_pos c9] at H
          have c9b0 : decide (10 ≤ a0) = true := decide_eq_true c9
          clear c9
          obtain rfl := Option.some.inj H
          go_enter Try.func93, Try.ntmps93
          go_wp2
          go_ret
          exact ⟨by first | rfl | (simp; done) | (simp [*]; done), by repeat (first | exact Drawn0.refl _ | apply Drawn0.step)⟩
        · rw [if_neg c9] at H
          have c9b0 : decide (10 ≤ a0) = false := decide_eq_false c9
          clear c9
          obtain rfl := Option.some.inj H
          go_enter Try.func93, Try.ntmps93
          go_wp2
          go_ret
          exact ⟨by first | rfl | (simp; done) | (simp [*]; done), by repeat (first | exact Drawn0.refl _ | apply Drawn0.step)⟩
      · rw [if_neg c8] at H
        have c8b0 : (a1.toList == ([114] : List UInt8)) = false := beq_eq_false_iff_ne.mpr c8
        have c8b1 : (a1.toList != ([114] : List UInt8)) = true := bne_iff_ne.mpr c8
        have H' := Aside0.mk H
        clear H
        go_enter Try.func93, Try.ntmps93
        go_wp2
        go_loopg [7, 8] k (fun kq v7 v8 w' => ∃ (x7_1 : Int) (x8_1 : Int), v7 = .int .i64 x7_1 ∧ v8 = .int .i64 x8_1 ∧ Aside0 (spec_kiIs.l1 kq a0 a1 x7_1 x8_1 = some r) ∧ Aside0 (kq ≤ k) ∧ Drawn0 w w')
        case atStart => exact ⟨(0), (0), (by first | rfl | (simp; done) | (simp [*]; done)), (by first | rfl | (simp; done) | (simp [*]; done)), H', ⟨Nat.le_refl _⟩, by repeat (first | exact Drawn0.refl _ | apply Drawn0.step)⟩
        case round =>
          clear H'
          try clear c1
          try clear p2
          try clear c3
          try clear c3b0
          try clear c3b1
          try clear c5
          try clear c5b0
          try clear c5b1
          try clear c6
          try clear c6b0
          try clear p6
          try clear c7
          try clear c7b0
          try clear c7b1
          try clear c8
          try clear c8b0
          try clear c8b1
          try clear c9
          try clear c9b0
          try clear p2
          obtain ⟨x7_1, x8_1, rfl, rfl, HA, HK1, ⟨m1, rfl⟩⟩ := hrel
          cases gk with
          | zero => exact absurd HA.out (by simp [spec_kiIs.l1])
          | succ k1 =>
            have H := HA.out
            clear HA
            simp only [spec_kiIs.l1] at H
            by_cases c10 : x7_1 ≤ a0
            · rw [if_pos c10] at H
              have c10b0 : decide (x7_1 ≤ a0) = true := decide_eq_true c10
              clear c10
              by_cases c11 : a1.toList = ([115] : List UInt8)
              · rw [if_pos c11] at H
                have c11b0 : (a1.toList == ([115] : List UInt8)) = true := beq_iff_eq.mpr c11
                have c11b1 : (a1.toList != ([115] : List UInt8)) = false := bne_eq_false_iff_eq.mpr c11
                clear c11
                by_cases c12 : (wrap64 (x8_1 * x8_1)) = a0
                · rw [if_pos c12] at H
                  have c12b0 : ((wrap64 (x8_1 * x8_1)) == a0) = true := beq_iff_eq.mpr c12
                  have c12b1 : ((wrap64 (x8_1 * x8_1)) != a0) = false := bne_eq_false_iff_eq.mpr c12
                  clear c12
                  obtain rfl := Option.some.inj H
                  go_wp2
                  go_ret
                  exact ⟨by first | rfl | (simp; done) | (simp [*]; done), by repeat (first | exact Drawn0.refl _ | apply Drawn0.step)⟩
                · rw [if_neg c12] at H
                  have c12b0 : ((wrap64 (x8_1 * x8_1)) == a0) = false := beq_eq_false_iff_ne.mpr c12
                  have c12b1 : ((wrap64 (x8_1 * x8_1)) != a0) = true := bne_iff_ne.mpr c12
                  have H' := Aside0.mk H
                  clear H
                  go_wp2
                  go_roundg k1
                  case measure => have := HK1.out; omega
                  case rel => exact ⟨(wrap64 (x8_1 * x8_1)), (wrap64 (x8_1 + 1)), (by first | rfl | (simp; done) | (simp [*]; done)), (by first | rfl | (simp; done) | (simp [*]; done)), H', ⟨by have := HK1.out; omega⟩, by repeat (first | exact Drawn0.refl _ | apply Drawn0.step)⟩
              · rw [if_neg c11] at H
                have c11b0 : (a1.toList == ([115] : List UInt8)) = false := beq_eq_false_iff_ne.mpr c11
                have c11b1 : (a1.toList != ([115] : List UInt8)) = true := bne_iff_ne.mpr c11
                by_cases c13 : a1.toList = ([99] : List UInt8)
                · rw [if_pos c13] at H
                  have c13b0 : (a1.toList == ([99] : List UInt8)) = true := beq_iff_eq.mpr c13
                  have c13b1 : (a1.toList != ([99] : List UInt8)) = false := bne_eq_false_iff_eq.mpr c13
                  clear c13
                  by_cases c14 : (wrap64 ((wrap64 (x8_1 * x8_1)) * x8_1)) = a0
                  · rw [if_pos c14] at H
                    have c14b0 : ((wrap64 ((wrap64 (x8_1 * x8_1)) * x8_1)) == a0) = true := beq_iff_eq.mpr c14
                    have c14b1 : ((wrap64 ((wrap64 (x8_1 * x8_1)) * x8_1)) != a0) = false := bne_eq_false_iff_eq.mpr c14
                    clear c14
                    obtain rfl := Option.some.inj H
                    go_wp2
                    go_ret
                    exact ⟨by first | rfl | (simp; done) | (simp [*]; done), by repeat (first | exact Drawn0.refl _ | apply Drawn0.step)⟩
                  · rw [if_neg c14] at H
                    have c14b0 : ((wrap64 ((wrap64 (x8_1 * x8_1)) * x8_1)) == a0) = false := beq_eq_false_iff_ne.mpr c14
                    have c14b1 : ((wrap64 ((wrap64 (x8_1 * x8_1)) * x8_1)) != a0) = true := bne_iff_ne.mpr c14
                    have H' := Aside0.mk H
                    clear H
                    go_wp2
                    go_roundg k1
                    case measure => have := HK1.out; omega
                    case rel => exact ⟨(wrap64 ((wrap64 (x8_1 * x8_1)) * x8_1)), (wrap64 (x8_1 + 1)), (by first | rfl | (simp; done) | (simp [*]; done)), (by first | rfl | (simp; done) | (simp [*]; done)), H', ⟨by have := HK1.out; omega⟩, by repeat (first | exact Drawn0.refl _ | apply Drawn0.step)⟩
                · rw [if_neg c13] at H
                  have c13b0 : (a1.toList == ([99] : List UInt8)) = false := beq_eq_false_iff_ne.mpr c13
                  have c13b1 : (a1.toList != ([99] : List UInt8)) = true := bne_iff_ne.mpr c13
                  by_cases c15 : (wrap64 (x7_1 + x8_1)) = a0
                  · rw [if_pos c15] at H
                    have c15b0 : ((wrap64 (x7_1 + x8_1)) == a0) = true := beq_iff_eq.mpr c15
                    have c15b1 : ((wrap64 (x7_1 + x8_1)) != a0) = false := bne_eq_false_iff_eq.mpr c15
                    clear c15
                    obtain rfl := Option.some.inj H
                    go_wp2
                    go_ret
                    exact ⟨by first | rfl | (simp; done) | (simp [*]; done), by repeat (first | exact Drawn0.refl _ | apply Drawn0.step)⟩
                  · rw [if_neg c15] at H
                    have c15b0 : ((wrap64 (x7_1 + x8_1)) == a0) = false := beq_eq_false_iff_ne.mpr c15
                    have c15b1 : ((wrap64 (x7_1 + x8_1)) != a0) = true := bne_iff_ne.mpr c15
                    have H' := Aside0.mk H
                    clear H
                    go_wp2
                    go_roundg k1
                    case measure => have := HK1.out; omega
                    case rel => exact ⟨(wrap64 (x7_1 + x8_1)), (wrap64 (x8_1 + 1)), (by first | rfl | (simp; done) | (simp [*]; done)), (by first | rfl | (simp; done) | (simp [*]; done)), H', ⟨by have := HK1.out; omega⟩, by repeat (first | exact Drawn0.refl _ | apply Drawn0.step)⟩
            · rw [if_neg c10] at H
              have c10b0 : decide (x7_1 ≤ a0) = false := decide_eq_false c10
              clear c10
              obtain rfl := Option.some.inj H
              go_wp2
              go_ret
              exact ⟨by first | rfl | (simp; done) | (simp [*]; done), by repeat (first | exact Drawn0.refl _ | apply Drawn0.step)⟩

/-! ### spec_kiCount: function 87 -/
def spec_kiCount.l0 : Nat → Int → ByteArray → Int → List Int → Int → Int → Option (Int)
  | 0, _, _, _, _, _, _ => none
  | k + 1, x1, x2, x7, x10, x11, x12 => if x12 < x11 then (if 0 ≤ x12 then (if x12 < (x10.length : Int) then ((spec_kiIs.f k (wrap64 ((rd x10 x12) + x1)) x2).bind fun t138 => (if t138 = true then (spec_kiCount.l0 k x1 x2 (wrap64 (x7 + 1)) x10 x11 (wrap64 (x12 + 1))) else (spec_kiCount.l0 k x1 x2 x7 x10 x11 (wrap64 (x12 + 1))))) else (none)) else (none)) else (some x7)
def spec_kiCount.f (k : Nat) (l0 : List Int) (a1 : Int) (a2 : ByteArray) : Option (Int) := spec_kiCount.l0 k a1 a2 0 l0 (l0.length : Int) 0
theorem spec_kiCount.mono_l : ∀ k, (∀ y0 y1 y2 y3 y4 y5, LeO (spec_kiCount.l0 k y0 y1 y2 y3 y4 y5) (spec_kiCount.l0 (k + 1) y0 y1 y2 y3 y4 y5))
  | 0 => fun _ _ _ _ _ _ r h => by simp [spec_kiCount.l0] at h
  | k + 1 => by
    have ih0 := spec_kiCount.mono_l k
    · intro y0 y1 y2 y3 y4 y5
      unfold spec_kiCount.l0
      repeat' first
      | (with_reducible exact ih0 _ _ _ _ _ _)
      | (with_reducible exact spec_kiIs.mono _ _ _)
      | (with_reducible exact LeO.refl _)
      | (with_reducible exact LeO.none _)
      | (with_reducible refine LeO.ite ?_ ?_)
      | (with_reducible refine LeO.bind ?_ (fun _ => ?_))
      | exact ih0 _ _ _ _ _ _
      | exact spec_kiIs.mono _ _ _
      | exact LeO.none _
      | refine LeO.ite ?_ ?_
      | refine LeO.bind ?_ (fun _ => ?_)
theorem spec_kiCount.mono : ∀ a0 a1 a2 k, LeO (spec_kiCount.f k a0 a1 a2) (spec_kiCount.f (k + 1) a0 a1 a2) := by
  intro a0 a1 a2 k
  have ih0 := spec_kiCount.mono_l k
  unfold spec_kiCount.f
  repeat' first
      | (with_reducible exact ih0 _ _ _ _ _ _)
      | (with_reducible exact spec_kiIs.mono _ _ _)
      | (with_reducible exact LeO.refl _)
      | (with_reducible exact LeO.none _)
      | (with_reducible refine LeO.ite ?_ ?_)
      | (with_reducible refine LeO.bind ?_ (fun _ => ?_))
      | exact ih0 _ _ _ _ _ _
      | exact spec_kiIs.mono _ _ _
      | exact LeO.none _
      | refine LeO.ite ?_ ?_
      | refine LeO.bind ?_ (fun _ => ?_)
set_option maxHeartbeats 8000000 in
set_option maxRecDepth 100000 in
theorem spec_kiCount.calls (k : Nat) (A0 : Option Addr) (c0 : Nat) (l0 : List Int) (a1 : Int) (a2 : ByteArray) (r : Int) (w : World) (hr0 : Kd.C (Kd.int .i64) w A0 l0.length l0) (hc0 : l0.length ≤ c0) (h : spec_kiCount.f k l0 a1 a2 = some r) :
    Calls Try.prog 87 #[.slice A0 l0.length c0, .int .i64 a1, .string a2] w fun e w' => e = .returned (.int .i64 r) ∧ Drawn0 w w' := by
  have HR0 := Aside0.mk hr0
  have HC0 := Aside0.mk hc0
  clear hr0 hc0
  have H : (spec_kiCount.l0 k a1 a2 0 l0 (l0.length : Int) 0) = some r := h
  clear h
  have H' := Aside0.mk H
  clear H
  go_enter Try.func87, Try.ntmps87
  go_wp2
  go_loopg [7, 12] k (fun kq v7 v12 w' => ∃ (x7_1 : Int) (x12_1 : Int), v7 = .int .i64 x7_1 ∧ v12 = .int .i64 x12_1 ∧ Aside0 (spec_kiCount.l0 kq a1 a2 x7_1 l0 (l0.length : Int) x12_1 = some r) ∧ Aside0 (kq ≤ k) ∧ Drawn0 w w')
  case atStart => exact ⟨(0), (0), (by first | rfl | (simp; done) | (simp [*]; done)), (by first | rfl | (simp; done) | (simp [*]; done)), H', ⟨Nat.le_refl _⟩, by repeat (first | exact Drawn0.refl _ | apply Drawn0.step)⟩
  case round =>
    clear H'
    try clear p2
    obtain ⟨x7_1, x12_1, rfl, rfl, HA, HK1, ⟨m1, rfl⟩⟩ := hrel
    cases gk with
    | zero => exact absurd HA.out (by simp [spec_kiCount.l0])
    | succ k1 =>
      have H := HA.out
      clear HA
      simp only [spec_kiCount.l0] at H
      by_cases c4 : x12_1 < (l0.length : Int)
      · rw [if_pos c4] at H
        have c4b0 : decide (x12_1 < (l0.length : Int)) = true := decide_eq_true c4
        clear c4
        by_cases c5 : 0 ≤ x12_1
        · rw [if_pos c5] at H
          have c5b0 : decide (0 ≤ x12_1) = true := decide_eq_true c5
          clear c5
          by_cases c6 : x12_1 < (l0.length : Int)
          · rw [if_pos c6] at H
            have c6b0 : decide (x12_1 < (l0.length : Int)) = true := decide_eq_true c6
            clear c6
            replace H := Option.bind_eq_some_iff.mp H
            obtain ⟨t138, A70, H⟩ := H
            replace H : (if t138 = true then (spec_kiCount.l0 k1 a1 a2 (wrap64 (x7_1 + 1)) l0 (l0.length : Int) (wrap64 (x12_1 + 1))) else (spec_kiCount.l0 k1 a1 a2 x7_1 l0 (l0.length : Int) (wrap64 (x12_1 + 1)))) = some r := H
            have A7 := Aside0.mk A70
            clear A70
            by_cases c8 : t138 = true
            · subst c8
              have H1 : (spec_kiCount.l0 k1 a1 a2 (wrap64 (x7_1 + 1)) l0 (l0.length : Int) (wrap64 (x12_1 + 1))) = some r := by rw [if_pos rfl] at H; exact H
              clear H
              have H := H1
              clear H1
              have H' := Aside0.mk H
              clear H
              have p137 : 0 ≤ (x12_1 : Int) := of_decide_eq_true (by first | (with_reducible assumption) | assumption)
              have q137 : x12_1 < (l0.length : Int) := of_decide_eq_true (by first | (with_reducible assumption) | assumption)
              obtain ⟨ad137, e137, hx137_0⟩ := Kd.at_int HR0.out x12_1 p137 q137
              cases e137
              replace p137 := eq_true p137
              replace q137 := eq_true q137
              go_wp2_with (first | ((with_reducible refine gate_callee (f := 93) rfl ?_); refine goesL_ (some 20) rfl rfl Try.func93 (by kernel_rfl) rfl #[.int .i64 (wrap64 ((rd l0 x12_1) + a1)), .string a2] rfl (by (try simp only [List.map_toArray, List.map_cons, List.map_nil]); first | done | rfl | (simp only [List.length_drop, List.length_take]; rfl)) ?_; (with_reducible refine (spec_kiIs.calls k1 (wrap64 ((rd l0 x12_1) + a1)) a2 true _ A7.out).mono ?_); rintro e w' ⟨rfl, ⟨nd, rfl⟩⟩; refine ⟨_, rfl, ?_⟩))
              go_roundg k1
              case measure => have := HK1.out; omega
              case rel => exact ⟨(wrap64 (x7_1 + 1)), (wrap64 (x12_1 + 1)), (by first | rfl | (simp; done) | (simp [*]; done)), (by first | rfl | (simp; done) | (simp [*]; done)), H', ⟨by have := HK1.out; omega⟩, by repeat (first | exact Drawn0.refl _ | apply Drawn0.step)⟩
            · replace c8 := Bool.eq_false_iff.mpr c8
              subst c8
              have H1 : (spec_kiCount.l0 k1 a1 a2 x7_1 l0 (l0.length : Int) (wrap64 (x12_1 + 1))) = some r := by rw [if_neg (show ¬ (false = true) by decide)] at H; exact H
              clear H
              have H := H1
              clear H1
              have H' := Aside0.mk H
              clear H
              have p137 : 0 ≤ (x12_1 : Int) := of_decide_eq_true (by first | (with_reducible assumption) | assumption)
              have q137 : x12_1 < (l0.length : Int) := of_decide_eq_true (by first | (with_reducible assumption) | assumption)
              obtain ⟨ad137, e137, hx137_0⟩ := Kd.at_int HR0.out x12_1 p137 q137
              cases e137
              replace p137 := eq_true p137
              replace q137 := eq_true q137
              go_wp2_with (first | ((with_reducible refine gate_callee (f := 93) rfl ?_); refine goesL_ (some 20) rfl rfl Try.func93 (by kernel_rfl) rfl #[.int .i64 (wrap64 ((rd l0 x12_1) + a1)), .string a2] rfl (by (try simp only [List.map_toArray, List.map_cons, List.map_nil]); first | done | rfl | (simp only [List.length_drop, List.length_take]; rfl)) ?_; (with_reducible refine (spec_kiIs.calls k1 (wrap64 ((rd l0 x12_1) + a1)) a2 false _ A7.out).mono ?_); rintro e w' ⟨rfl, ⟨nd, rfl⟩⟩; refine ⟨_, rfl, ?_⟩))
              go_roundg k1
              case measure => have := HK1.out; omega
              case rel => exact ⟨(x7_1), (wrap64 (x12_1 + 1)), (by first | rfl | (simp; done) | (simp [*]; done)), (by first | rfl | (simp; done) | (simp [*]; done)), H', ⟨by have := HK1.out; omega⟩, by repeat (first | exact Drawn0.refl _ | apply Drawn0.step)⟩
          · rw [if_neg c6] at H
            exact absurd H (by simp)
        · rw [if_neg c5] at H
          exact absurd H (by simp)
      · rw [if_neg c4] at H
        have c4b0 : decide (x12_1 < (l0.length : Int)) = false := decide_eq_false c4
        clear c4
        obtain rfl := Option.some.inj H
        go_wp2
        go_ret
        exact ⟨by first | rfl | (simp; done) | (simp [*]; done), by repeat (first | exact Drawn0.refl _ | apply Drawn0.step)⟩

end Go.Proofs.Ytennnaibnlmjlaa.V
