/- Chapter 9 (puzzles): sums, products and primes of hidden ages, as the program tells them, and the clues that go with them. Conditions: as typed. -/
import Derived.Test.YtbmbejbhlcadmaaGreatQ1
import Derived.Test.YtbmbejbhlcadmaaGreatQ2
import Derived.Lib.Bytealg
import Derived.Test.YtbmbejbhlcadmaaGreatR0
import Derived.Laws.BitsAllLaws
set_option linter.all false
namespace Go.Proofs.YtbmbejbhlcadmaaGreat.Q
open Go.RowKit Go Go.Proofs.YtbmbejbhlcadmaaGreat.Eng Go.Proofs.YtbmbejbhlcadmaaGreat Go.Proofs.YtbmbejbhlcadmaaGreat.Y
set_option linter.unusedSimpArgs false

theorem rde_mem {l : List Int} {i : Nat} (h : i < l.length) : rde l (i : Int) ∈ l := by
  rw [rde_nat l i h]
  exact List.getElem_mem h
theorem min_l (l : List Int) (hl : l.length ≤ 1048576) (hb : ∀ x ∈ l, 1 ≤ x ∧ x ≤ 12) (d : Nat) : ∀ (i : Nat) (m : Int), i + d = l.length → 1 ≤ m ∧ m ≤ 12 → ∃ v, (1 ≤ v ∧ v ≤ 12) ∧ Big (fun k => slices_Min.l0 k l m i) v := by
  induction d with
  | zero =>
    intro i m hi hm
    refine ⟨m, hm, Big.succ ?_⟩
    unfold slices_Min.l0
    exact Big.neg (by omega) (Big.some_ _)
  | succ d ih =>
    intro i m hi hm
    have hx := hb _ (rde_mem (l := l) (i := i) (by omega))
    obtain ⟨v, hv, hB⟩ := ih (i + 1) (mn2 m (rde l (i : Int))) (by omega) (by unfold mn2; split <;> omega)
    refine ⟨v, hv, Big.succ ?_⟩
    unfold slices_Min.l0
    rw [w64n (by omega)]
    exact Big.pos (by omega) (Big.pos (by omega) hB)
theorem max_l (l : List Int) (hl : l.length ≤ 1048576) (hb : ∀ x ∈ l, 1 ≤ x ∧ x ≤ 12) (d : Nat) : ∀ (i : Nat) (m : Int), i + d = l.length → 1 ≤ m ∧ m ≤ 12 → ∃ v, (1 ≤ v ∧ v ≤ 12) ∧ Big (fun k => slices_Max.l0 k l m i) v := by
  induction d with
  | zero =>
    intro i m hi hm
    refine ⟨m, hm, Big.succ ?_⟩
    unfold slices_Max.l0
    exact Big.neg (by omega) (Big.some_ _)
  | succ d ih =>
    intro i m hi hm
    have hx := hb _ (rde_mem (l := l) (i := i) (by omega))
    obtain ⟨v, hv, hB⟩ := ih (i + 1) (mx2 m (rde l (i : Int))) (by omega) (by unfold mx2; split <;> omega)
    refine ⟨v, hv, Big.succ ?_⟩
    unfold slices_Max.l0
    rw [w64n (by omega)]
    exact Big.pos (by omega) (Big.pos (by omega) hB)
theorem AgesIn0 (l : List Int) (h : hid l = true) : Big (fun k => impl_AgesIn.f k l 0) (l, true) := by
  obtain ⟨hl, hb⟩ := hid_iff.mp h
  have h0 := hb _ (rde_mem (l := l) (i := 0) (by omega))
  obtain ⟨a, ha, hA⟩ := min_l l (by omega) hb (l.length - 1) 1 (rde l ((0 : Nat) : Int)) (by omega) h0
  obtain ⟨b, hb2, hB⟩ := max_l l (by omega) hb (l.length - 1) 1 (rde l ((0 : Nat) : Int)) (by omega) h0
  have e1 : impl_AreAges.f l = some true := by
    unfold impl_AreAges.f impl_areBetween.f
    rw [v_between, inR_iff.mpr ⟨by omega, by omega⟩, Option.bind_some, if_pos rfl, if_pos (by omega), Option.bind_some]
    congr 1
    rw [List.all_eq_true]
    intro x hx
    have := hb x hx
    rw [Bool.and_eq_true, decide_eq_true_iff, decide_eq_true_iff]
    omega
  have e2 : Big (fun k => impl_isFit.f k l 0) true := by
    unfold impl_isFit.f impl_fitYears.f slices_Min.f slices_Max.f
    refine Big.bind (Big.bind (Big.neg (by omega) (Big.pos (by omega) hA)) (Big.bind (Big.neg (by omega) (Big.pos (by omega) hB)) (Big.some_ _))) ?_
    rw [v_between]
    dsimp only
    rw [w64 (i := 0 - a) (by omega) (by omega), w64 (i := 120 - b) (by omega) (by omega), inR_iff.mpr ⟨by omega, by omega⟩]
    exact Big.some_ _
  have e3 : (l.map fun x => IntKind.i64.wrap (x + 0)) = l := by
    conv => rhs; rw [← List.map_id l]
    apply List.map_congr_left
    intro x hx
    have := hb x hx
    rw [w64 (by omega) (by omega), Int.add_zero]
    rfl
  have e4 := inYears_at l 0 (by omega)
  rw [e3] at e4
  unfold impl_AgesIn.f
  exact Big.bind (Big.of e1) (Big.pos rfl (Big.bind e2 (Big.pos rfl (Big.bind e4 (Big.some_ _)))))
theorem SumIn0 (l : List Int) (h : hid l = true) : Big (fun k => impl_SumIn.f k l 0) (sumW 0 l, true) := by
  have hl := (hid_iff.mp h).1
  unfold impl_SumIn.f
  exact Big.bind (AgesIn0 l h) (Big.bind (total_at l (by omega)) (Big.some_ _))
theorem ProductIn0 (l : List Int) (h : hid l = true) : Big (fun k => impl_ProductIn.f k l 0) (prodW 1 l, true) := by
  have hl := (hid_iff.mp h).1
  unfold impl_ProductIn.f impl_product.f
  exact Big.bind (AgesIn0 l h) (Big.pos rfl (Big.bind (product_l l (by omega) l 0 1 rfl (Nat.zero_le _)) (Big.some_ _)))
theorem CountOfKind0 (l : List Int) (h : hid l = true) : Big (fun k => impl_CountOfKind.f k l 0 [112]) (cntW 0 l, true) := by
  obtain ⟨hl, hb⟩ := hid_iff.mp h
  have e : impl_isKind.f [112] = some true := by
    unfold impl_isKind.f S.strings_Contains.f
    rw [if_pos (by rfl), if_pos (by rfl)]
    simp [Go.Lib.indexByte]
  unfold impl_CountOfKind.f
  exact Big.bind (AgesIn0 l h) (Big.pos rfl (Big.bind (Big.of e) (Big.pos rfl (Big.bind (countOf_at l (by omega) hb) (Big.some_ _)))))
/-! ### how great these are -/
theorem mul_b {a b m n : Int} (ha : 0 ≤ a ∧ a ≤ m) (hb : 0 ≤ b ∧ b ≤ n) : 0 ≤ a * b ∧ a * b ≤ m * n := ⟨Int.mul_nonneg ha.1 hb.1, Int.mul_le_mul ha.2 hb.2 hb.1 (by omega)⟩
theorem hid_cases {l : List Int} (h : hid l = true) : (∃ x y, l = [x, y] ∧ (1 ≤ x ∧ x ≤ 12) ∧ (1 ≤ y ∧ y ≤ 12)) ∨ ∃ x y z, l = [x, y, z] ∧ (1 ≤ x ∧ x ≤ 12) ∧ (1 ≤ y ∧ y ≤ 12) ∧ (1 ≤ z ∧ z ≤ 12) := by
  obtain ⟨hl, hb⟩ := hid_iff.mp h
  match l, hl with
  | [x, y], _ => exact .inl ⟨x, y, rfl, hb x (by simp), hb y (by simp)⟩
  | [x, y, z], _ => exact .inr ⟨x, y, z, rfl, hb x (by simp), hb y (by simp), hb z (by simp)⟩
theorem sum_b {l : List Int} (h : hid l = true) : 0 ≤ sumW 0 l ∧ sumW 0 l ≤ 2000 := by
  rcases hid_cases h with ⟨x, y, rfl, hx, hy⟩ | ⟨x, y, z, rfl, hx, hy, hz⟩
  · simp only [sumW]
    rw [w64 (i := 0 + x) (by omega) (by omega), w64 (by omega) (by omega)]
    omega
  · simp only [sumW]
    rw [w64 (i := 0 + x) (by omega) (by omega), w64 (i := 0 + x + y) (by omega) (by omega), w64 (by omega) (by omega)]
    omega
theorem prod_b {l : List Int} (h : hid l = true) : 0 ≤ prodW 1 l ∧ prodW 1 l ≤ 2000 := by
  rcases hid_cases h with ⟨x, y, rfl, hx, hy⟩ | ⟨x, y, z, rfl, hx, hy, hz⟩
  · have h1 := mul_b (a := x) (b := y) (m := 12) (n := 12) (by omega) (by omega)
    simp only [prodW, Int.one_mul]
    rw [w64 (i := x) (by omega) (by omega), w64 (by omega) (by omega)]
    omega
  · have h1 := mul_b (a := x) (b := y) (m := 12) (n := 12) (by omega) (by omega)
    have h2 := mul_b (a := x * y) (b := z) (m := 144) (n := 12) (by omega) (by omega)
    simp only [prodW, Int.one_mul]
    rw [w64 (i := x) (by omega) (by omega), w64 (i := x * y) (by omega) (by omega), w64 (by omega) (by omega)]
    omega
theorem cnt_l : ∀ (l : List Int) (acc : Int), 0 ≤ acc → acc + l.length ≤ 1000000 → acc ≤ cntW acc l ∧ cntW acc l ≤ acc + l.length
  | [], acc, _, _ => by simp [cntW]
  | b :: t, acc, h0, h1 => by
    rw [List.length_cons] at h1 ⊢
    unfold cntW
    split
    · rw [w64 (by omega) (by omega)]
      have := cnt_l t (acc + 1) (by omega) (by omega)
      omega
    · have := cnt_l t acc h0 (by omega)
      omega
theorem cnt_b {l : List Int} (h : hid l = true) : 0 ≤ cntW 0 l ∧ cntW 0 l ≤ 2000 := by
  have hl := (hid_iff.mp h).1
  have := cnt_l l 0 (by omega) (by omega)
  omega
/-- What the value of a kind is, is fit for a clue. -/
theorem val_b {l : List Int} (h : hid l = true) {K A : Int} (hK : 0 ≤ K ∧ K ≤ 5) (hA : okA (l.length : Int) K A) : (0 ≤ valN K A l ∧ valN K A l ≤ 2000) ∧ (K = 3 ∨ K = 5 → valN K A l < 2) := by
  obtain ⟨hl, hb⟩ := hid_iff.mp h
  unfold valN
  by_cases h0 : K = 0
  · rw [if_pos h0]
    exact ⟨sum_b h, by omega⟩
  · rw [if_neg h0]
    by_cases h1 : K = 1
    · rw [if_pos h1]
      have := hb _ (rd_mem2 (l := l) hA.1 (hA.2.1 (.inl h1)))
      exact ⟨by omega, by omega⟩
    · rw [if_neg h1]
      by_cases h2 : K = 2
      · rw [if_pos h2]
        exact ⟨prod_b h, by omega⟩
      · rw [if_neg h2]
        by_cases h3 : K = 3
        · rw [if_pos h3]
          split <;> exact ⟨by omega, by omega⟩
        · rw [if_neg h3]
          by_cases h4 : K = 4
          · rw [if_pos h4]
            exact ⟨cnt_b h, by omega⟩
          · rw [if_neg h4]
            split <;> exact ⟨by omega, by omega⟩
theorem clue_made {l : List Int} (h : hid l = true) {K A : Int} (hK : 0 ≤ K ∧ K ≤ 5) (hA : okA (l.length : Int) K A) (he : K = 0 ∨ K = 2 ∨ K = 4 → A = 0) : clueB (l.length : Int) K A (valN K A l) = true ∧ fitN K A (valN K A l) l = true := by
  obtain ⟨v1, v2⟩ := val_b h hK hA
  refine ⟨?_, ?_⟩
  · unfold clueB
    rw [Bool.and_eq_true, inR_iff]
    refine ⟨v1, ?_⟩
    by_cases h0 : K = 0 ∨ K = 2 ∨ K = 4
    · rw [if_pos h0, beq_iff_eq]
      exact he h0
    · rw [if_neg h0]
      by_cases h1 : K = 1
      · rw [if_pos h1, inR_iff]
        have h2 := hA.2.1 (.inl h1)
        have := hA.1
        omega
      · rw [if_neg h1, if_pos (show K = 3 ∨ K = 5 by omega), Bool.and_eq_true, inR_iff, decide_eq_true_iff]
        have h2 := hA.2.1 (by omega)
        have h3 := v2 (by omega)
        have := hA.1
        omega
  · unfold fitN
    rw [if_neg (by omega)]
    simp
/-- DoesFit at a clue that is one. -/
theorem DoesFit_at (K A B : Int) (l : List Int) (h : hid l = true) (hc : clueB (l.length : Int) K A B = true) : Big (fun k => impl_DoesFit.f k (K, A, B) l) (fitN K A B l, true) := by
  have hl := (hid_iff.mp h).1
  have hI := IsClue_at (l.length : Int) K A B
  rw [inR_iff.mpr (show 2 ≤ (l.length : Int) ∧ (l.length : Int) ≤ 3 by omega), Bool.true_and, hc] at hI
  unfold impl_DoesFit.f
  rw [v_areHidden l (by omega), h]
  exact Big.bind (Big.some_ _) (Big.pos rfl (Big.bind hI (Big.pos rfl (Big.bind (fits_at K A B l h hc) (Big.some_ _)))))
end Go.Proofs.YtbmbejbhlcadmaaGreat.Q
set_option linter.all false
namespace Go.Proofs.YtbmbejbhlcadmaaGreat.Q
open Go.RowKit Go Go.Proofs.YtbmbejbhlcadmaaGreat.Eng Go.Proofs.YtbmbejbhlcadmaaGreat Go.Proofs.YtbmbejbhlcadmaaGreat.Y
set_option linter.unusedSimpArgs false

def mkN (z : Int) : Int := Int.tmod (IntKind.i64.wrap (IntKind.i64.wrap (z * 299) + 811)) 10007
def mkW (K y : Int) (l : List Int) : Int := if Int.tmod K 2 = 1 then Int.tmod y (l.length : Int) else 0
theorem mk_nx {z : Int} (h : 0 ≤ z ∧ z ≤ 10006) : 0 ≤ mkN z ∧ mkN z ≤ 10006 := by
  unfold mkN
  rw [show IntKind.i64.wrap (z * 299) = z * 299 from w64 (by omega) (by omega), show IntKind.i64.wrap (z * 299 + 811) = z * 299 + 811 from w64 (by omega) (by omega)]
  have h1 := Int.tmod_nonneg 10007 (show 0 ≤ z * 299 + 811 by omega)
  have h2 := Int.tmod_lt_of_pos (z * 299 + 811) (show (0 : Int) < 10007 by decide)
  omega
theorem v_pzNext (z : Int) : spec_pzNext.f z = some (mkN z) := by
  unfold spec_pzNext.f mkN
  rw [Int.mul_comm]
theorem v_next (z : Int) : impl_MakePuzzle_1.f z = some (mkN z, mkN z) := rfl
theorem pzOf_at (K y : Int) (l : List Int) (h : hid l = true) (hK : 0 ≤ K ∧ K ≤ 5) (hy : 0 ≤ y) : okA (l.length : Int) K (mkW K y l) ∧ mkW K y l ≤ 9 ∧ (K = 0 ∨ K = 2 ∨ K = 4 → mkW K y l = 0) ∧ Big (fun k => spec_pzOf.f k K y l) (K, mkW K y l, valN K (mkW K y l) l) := by
  have hl := (hid_iff.mp h).1
  have hn : ¬ (l.length : Int) = 0 := by omega
  have t1 := Int.tmod_nonneg (l.length : Int) hy
  have t2 := Int.tmod_lt_of_pos y (show (0 : Int) < (l.length : Int) by omega)
  have odd : ∀ q : Int, q = 1 ∨ q = 3 ∨ q = 5 → mkW q y l = Int.tmod y (l.length : Int) := by
    intro q hq
    unfold mkW
    rw [if_pos]
    rcases hq with rfl | rfl | rfl <;> rfl
  have even : ∀ q : Int, q = 0 ∨ q = 2 ∨ q = 4 → mkW q y l = 0 := by
    intro q hq
    unfold mkW
    rw [if_neg]
    rcases hq with rfl | rfl | rfl <;> decide
  unfold spec_pzOf.f
  by_cases h1 : K = 1
  · subst h1
    have ok : okA (l.length : Int) 1 (Int.tmod y (l.length : Int)) := ⟨t1, fun _ => t2, fun hh => absurd hh (by decide)⟩
    rw [odd 1 (by omega)]
    refine ⟨ok, by omega, by omega, ?_⟩
    simp only [if_true, if_neg hn]
    exact Big.bind (pzValue_at 1 _ l h (by omega) ok) (Big.some_ _)
  by_cases h3 : K = 3
  · subst h3
    have ok : okA (l.length : Int) 3 (Int.tmod y (l.length : Int)) := ⟨t1, fun _ => t2, fun hh => absurd hh (by decide)⟩
    rw [odd 3 (by omega)]
    refine ⟨ok, by omega, by omega, ?_⟩
    simp only [if_neg (show ¬ (3 : Int) = 1 by decide), if_true, if_neg hn]
    exact Big.bind (pzValue_at 3 _ l h (by omega) ok) (Big.some_ _)
  by_cases h5 : K = 5
  · subst h5
    have ok : okA (l.length : Int) 5 (Int.tmod y (l.length : Int)) := ⟨t1, fun _ => t2, fun hh => absurd hh (by decide)⟩
    rw [odd 5 (by omega)]
    refine ⟨ok, by omega, by omega, ?_⟩
    simp only [if_neg (show ¬ (5 : Int) = 1 by decide), if_neg (show ¬ (5 : Int) = 3 by decide), if_true, if_neg hn]
    exact Big.bind (pzValue_at 5 _ l h (by omega) ok) (Big.some_ _)
  · have ok : okA (l.length : Int) K 0 := ⟨by omega, fun _ => by omega, fun _ => by omega⟩
    rw [even K (by omega)]
    refine ⟨ok, by omega, fun _ => rfl, ?_⟩
    simp only [if_neg h1, if_neg h3, if_neg h5]
    exact Big.bind (pzValue_at K 0 l h (by omega) ok) (Big.some_ _)
/-- A clue that the ages fit. -/
def fitC (l : List Int) (c : Int × Int × Int) : Prop := clueB (l.length : Int) c.1 c.2.1 c.2.2 = true ∧ fitN c.1 c.2.1 c.2.2 l = true
theorem make_l (l : List Int) (h : hid l = true) (m : Nat) (hm : m ≤ 6) (n : Nat) : ∀ (z : Int) (acc : List (Int × Int × Int)) (a : Int) (b : List (Int × Int × Int)), 0 ≤ z ∧ z ≤ 10006 → acc.length + n = m → (∀ c ∈ acc, fitC l c) → ∃ C : List (Int × Int × Int), C.length = m ∧ (∀ c ∈ C, fitC l c) ∧ Big (fun k => spec_MakePuzzle.l0 k l (n : Int) z a b (l.length : Int) acc) (((l.length : Int), C), true) ∧ Big (fun k => impl_MakePuzzle.l0 k l (m : Int) (acc.length : Int) a b (l.length : Int) acc z) (((l.length : Int), C), true) := by
  have hl := (hid_iff.mp h).1
  induction n with
  | zero =>
    intro z acc a b hz ha hc
    refine ⟨acc, by omega, hc, Big.succ ?_, Big.succ ?_⟩
    · unfold spec_MakePuzzle.l0
      exact Big.neg (by omega) (Big.some_ _)
    · unfold impl_MakePuzzle.l0
      exact Big.neg (by omega) (Big.some_ _)
  | succ n ih =>
    intro z acc a b hz ha hc
    have z1 := mk_nx hz
    have z2 := mk_nx z1
    have k1 := Int.tmod_nonneg 6 z1.1
    have k2 := Int.tmod_lt_of_pos (mkN z) (show (0 : Int) < 6 by decide)
    obtain ⟨ok, hw9, hev, hof⟩ := pzOf_at (Int.tmod (mkN z) 6) (mkN (mkN z)) l h (by omega) z2.1
    have ht := tells_at _ _ l h (show 0 ≤ Int.tmod (mkN z) 6 ∧ Int.tmod (mkN z) 6 ≤ 6 by omega) ok hw9
    rw [if_neg (show ¬ Int.tmod (mkN z) 6 = 6 by omega)] at ht
    have hfit := clue_made h (show 0 ≤ Int.tmod (mkN z) 6 ∧ Int.tmod (mkN z) 6 ≤ 5 by omega) ok hev
    obtain ⟨C, c1, c2, h1, h2⟩ := ih (mkN (mkN z)) (acc ++ [(Int.tmod (mkN z) 6, mkW (Int.tmod (mkN z) 6) (mkN (mkN z)) l, valN (Int.tmod (mkN z) 6) (mkW (Int.tmod (mkN z) 6) (mkN (mkN z)) l) l)]) a b z2 (by rw [List.length_append, List.length_singleton]; omega) (fun c hcm => by
      rcases List.mem_append.1 hcm with hh | hh
      · exact hc c hh
      · rw [List.mem_singleton] at hh
        subst hh
        exact hfit)
    rw [List.length_append, List.length_singleton] at h2
    refine ⟨C, c1, c2, Big.succ ?_, Big.succ ?_⟩
    · unfold spec_MakePuzzle.l0
      refine Big.pos (by omega) ?_
      rw [v_pzNext]
      refine Big.bind (Big.some_ _) ?_
      rw [v_pzNext]
      refine Big.bind (Big.some_ _) (Big.bind hof (Big.pos (by omega) ?_))
      rw [show IntKind.i64.wrap (((n + 1 : Nat) : Int) - 1) = (n : Int) by rw [w64 (by omega) (by omega)]; omega]
      exact h1
    · unfold impl_MakePuzzle.l0
      refine Big.pos (by omega) ?_
      rw [v_next]
      refine Big.bind (Big.some_ _) ?_
      dsimp only
      rw [v_next]
      refine Big.bind (Big.some_ _) ?_
      dsimp only
      rw [w64n (by omega)]
      by_cases ho : Int.tmod (Int.tmod (mkN z) 6) 2 = 1
      · have e : mkW (Int.tmod (mkN z) 6) (mkN (mkN z)) l = Int.tmod (mkN (mkN z)) (l.length : Int) := by unfold mkW; rw [if_pos ho]
        rw [e] at ht h2
        exact Big.pos ho (Big.neg (by omega) (Big.bind ht (Big.pos (by omega) h2)))
      · have e : mkW (Int.tmod (mkN z) 6) (mkN (mkN z)) l = 0 := by unfold mkW; rw [if_neg ho]
        rw [e] at ht h2
        exact Big.neg ho (Big.bind ht (Big.pos (by omega) h2))
/-- What MakePuzzle answers. -/
theorem MakePuzzle_at (l : List Int) (a b : Int) (hl : l.length ≤ 1048576) : ∃ (P : Int) (C : List (Int × Int × Int)) (ok : Bool), C.length ≤ 6 ∧ Big (fun k => spec_MakePuzzle.f k l a b) ((P, C), ok) ∧ Big (fun k => impl_MakePuzzle.f k l a b) ((P, C), ok) ∧ (ok = true → hid l = true ∧ P = (l.length : Int) ∧ (C.length : Int) = a ∧ ∀ c ∈ C, fitC l c) := by
  unfold spec_MakePuzzle.f impl_MakePuzzle.f
  have no : Big (fun k => spec_MakePuzzle.j0 k l a b true 0 []) ((0, []), false) := Big.succ (by unfold spec_MakePuzzle.j0; exact Big.pos rfl (Big.some_ _))
  have no2 : Big (fun k => impl_MakePuzzle.j0 k l a b true 0 []) ((0, []), false) := Big.succ (by unfold impl_MakePuzzle.j0; exact Big.pos rfl (Big.some_ _))
  have H := pzHidden_at l hl
  rw [v_areHidden l hl, v_l1In a, v_l1In b, v_between a, v_between b]
  cases h : hid l
  · rw [h] at H
    exact ⟨0, [], false, by simp, Big.bind H (Big.neg (by decide) no), Big.bind (Big.some_ _) (Big.neg (by decide) no2), fun hh => by cases hh⟩
  · rw [h] at H
    by_cases q1 : 0 ≤ a ∧ a ≤ 6
    · by_cases q2 : 0 ≤ b ∧ b ≤ 9999
      · obtain ⟨n, rfl⟩ : ∃ n : Nat, a = (n : Int) := ⟨a.toNat, by omega⟩
        obtain ⟨C, c1, c2, h1, h2⟩ := make_l l h n (by omega) n b [] 0 [] (by omega) (by simp) (fun c hc => by cases hc)
        rw [inR_iff.mpr q1, inR_iff.mpr q2]
        refine ⟨(l.length : Int), C, true, by omega, Big.bind H (Big.pos rfl (Big.bind (Big.some_ _) (Big.pos rfl (Big.bind (Big.some_ _) (Big.succ ?_))))), Big.bind (Big.some_ _) (Big.pos rfl (Big.bind (Big.some_ _) (Big.pos rfl (Big.bind (Big.some_ _) (Big.succ ?_))))), fun _ => ⟨rfl, rfl, by omega, c2⟩⟩
        · unfold spec_MakePuzzle.j0
          exact Big.neg (by decide) h1
        · unfold impl_MakePuzzle.j0
          exact Big.neg (by decide) h2
      · rw [inR_iff.mpr q1, inR_not.mpr q2]
        exact ⟨0, [], false, by simp, Big.bind H (Big.pos rfl (Big.bind (Big.some_ _) (Big.pos rfl (Big.bind (Big.some_ _) no)))), Big.bind (Big.some_ _) (Big.pos rfl (Big.bind (Big.some_ _) (Big.pos rfl (Big.bind (Big.some_ _) no2)))), fun hh => by cases hh⟩
    · rw [inR_not.mpr q1]
      exact ⟨0, [], false, by simp, Big.bind H (Big.pos rfl (Big.bind (Big.some_ _) (Big.neg (by decide) no))), Big.bind (Big.some_ _) (Big.pos rfl (Big.bind (Big.some_ _) (Big.neg (by decide) no2))), fun hh => by cases hh⟩
end Go.Proofs.YtbmbejbhlcadmaaGreat.Q
set_option linter.all false
namespace Go.Proofs.YtbmbejbhlcadmaaGreat.Q
open Go.RowKit Go Go.Proofs.YtbmbejbhlcadmaaGreat.Eng Go.Proofs.YtbmbejbhlcadmaaGreat Go.Proofs.YtbmbejbhlcadmaaGreat.Y
set_option linter.unusedSimpArgs false
set_option linter.unusedVariables false

theorem u64w (z : Int) : 0 ≤ IntKind.u64.wrap z ∧ IntKind.u64.wrap z < 18446744073709551616 := by
  have : IntKind.u64.wrap z = z % 18446744073709551616 := rfl
  rw [this]
  omega
theorem and255 (x : Int) (h0 : 0 ≤ x) (h1 : x < 18446744073709551616) : 0 ≤ Go.bits .and .u64 x 255 ∧ Go.bits .and .u64 x 255 ≤ 255 := by
  rw [u64_and x 255 h0 h1 (by omega) (by omega)]
  have : x.toNat &&& (255 : Int).toNat ≤ 255 := Nat.and_le_right
  omega
theorem bit255 (x : Int) : 0 ≤ bitI .and .u64 x 255 ∧ bitI .and .u64 x 255 ≤ 255 := by
  have h : bitI .and .u64 x 255 = IntKind.u64.wrap ((BitVec.ofInt 64 x &&& BitVec.ofInt 64 255).toNat : Int) := rfl
  have e : (BitVec.ofInt 64 x &&& BitVec.ofInt 64 255).toNat ≤ 255 := by
    rw [BitVec.toNat_and]
    exact Nat.le_trans Nat.and_le_right (by decide)
  rw [h]
  have := u64w (((BitVec.ofInt 64 x &&& BitVec.ofInt 64 255).toNat : Int))
  have h2 : IntKind.u64.wrap ((BitVec.ofInt 64 x &&& BitVec.ofInt 64 255).toNat : Int) = ((BitVec.ofInt 64 x &&& BitVec.ofInt 64 255).toNat : Int) % 18446744073709551616 := rfl
  rw [h2]
  omega
/-- Bytes. -/
def Byt (code : List Int) : Prop := (∀ x ∈ code, 0 ≤ x ∧ x ≤ 255) ∧ code.length ≤ 1048576
theorem next_at {code : List Int} (hc : Byt code) (a s : Int) (ha : 0 ≤ a ∧ a ≤ 2000000) : ∃ v s', spec_l1Cur_next.f code a s = some (v, code, a + 1, s') ∧ 0 ≤ v ∧ v ≤ 255 := by
  have hw : IntKind.i64.wrap (a + 1) = a + 1 := w64 (by omega) (by omega)
  unfold spec_l1Cur_next.f
  rw [hw]
  have hl := hc.2
  by_cases h : a < (code.length : Int)
  · have hm : 0 ≤ rde code a ∧ rde code a ≤ 255 := by
      obtain ⟨n, rfl⟩ : ∃ n : Nat, a = (n : Int) := ⟨a.toNat, by omega⟩
      rw [rd_nat, List.getD_eq_getElem?_getD, List.getElem?_eq_getElem (show n < code.length by omega), Option.getD_some]
      exact hc.1 _ (List.getElem_mem _)
    rw [if_pos h, if_pos ha.1, if_pos (by omega)]
    refine ⟨_, _, rfl, ?_⟩
    rw [w64 (i := rde code a) (by omega) (by omega)]
    exact hm
  · rw [if_neg h, if_neg (by omega)]
    refine ⟨_, _, rfl, ?_⟩
    have h2 := bit255 (shrI .u64 (IntKind.u64.wrap (IntKind.u64.wrap (IntKind.u64.wrap (s * 6364136223846793005) + IntKind.u64.wrap 0) + 1442695040888963407)) 40)
    rw [w64 (by omega) (by omega)]
    exact h2
theorem tmod_in (x n : Int) (h0 : 0 ≤ x) (hn : 0 < n) : 0 ≤ Int.tmod x n ∧ Int.tmod x n < n := by
  rw [Int.tmod_eq_emod_of_nonneg h0]
  exact ⟨Int.emod_nonneg _ (by omega), Int.emod_lt_of_pos _ hn⟩
theorem pick_at {code : List Int} (hc : Byt code) (a s n : Int) (ha : 0 ≤ a ∧ a ≤ 1900000) (hn : 1 ≤ n) : ∃ v a' s', spec_l1Cur_pick.f code a s n = some (v, code, a', s') ∧ (0 ≤ v ∧ v < n) ∧ a ≤ a' ∧ a' ≤ a + 2 := by
  unfold spec_l1Cur_pick.f
  by_cases h1 : n ≤ 1
  · rw [if_pos h1]
    exact ⟨0, a, s, rfl, by omega, by omega, by omega⟩
  · rw [if_neg h1]
    obtain ⟨v, s1, e1, hv⟩ := next_at hc a s (by omega)
    rw [e1, Option.bind_some]
    by_cases h2 : n > 200
    · rw [if_pos h2]
      obtain ⟨v2, s2, e2, hv2⟩ := next_at hc (a + 1) s1 (by omega)
      rw [e2, Option.bind_some, if_neg (by omega)]
      refine ⟨_, _, _, rfl, ?_, by show a ≤ a + 1 + 1; omega, by show a + 1 + 1 ≤ a + 2; omega⟩
      show 0 ≤ Int.tmod (IntKind.i64.wrap (IntKind.i64.wrap (v * 256) + v2)) n ∧ _
      rw [w64 (i := v * 256) (by omega) (by omega), w64 (by omega) (by omega)]
      exact tmod_in _ _ (by omega) (by omega)
    · rw [if_neg h2, if_neg (by omega)]
      exact ⟨_, _, _, rfl, tmod_in _ _ hv.1 (by omega), by show a ≤ a + 1; omega, by show a + 1 ≤ a + 2; omega⟩
theorem one_at {code : List Int} (hc : Byt code) (a s n : Int) (ha : 0 ≤ a ∧ a ≤ 1900000) (hn : 1 ≤ n) : ∃ v a' s', spec_l1Cur_one.f code a s n = some (v, code, a', s') ∧ a ≤ a' ∧ a' ≤ a + 2 := by
  obtain ⟨v, a', s', e, _, h1, h2⟩ := pick_at hc a s n ha hn
  unfold spec_l1Cur_one.f
  rw [e]
  exact ⟨_, _, _, rfl, h1, h2⟩
theorem among_at {code : List Int} (hc : Byt code) (a s : Int) (l : List Int) (ha : 0 ≤ a ∧ a ≤ 1900000) (hn : 1 ≤ l.length) : ∃ v a' s', spec_l1Cur_among.f code a s l = some (v, code, a', s') ∧ v ∈ l ∧ a ≤ a' ∧ a' ≤ a + 2 := by
  obtain ⟨v, a', s', e, hv, h1, h2⟩ := pick_at hc a s (l.length : Int) ha (by omega)
  unfold spec_l1Cur_among.f
  rw [e, Option.bind_some, if_pos hv.1, if_pos hv.2]
  refine ⟨_, _, _, rfl, ?_, h1, h2⟩
  obtain ⟨n, rfl⟩ : ∃ n : Nat, v = (n : Int) := ⟨v.toNat, by omega⟩
  show rde l (n : Int) ∈ l
  rw [rd_nat, List.getD_eq_getElem?_getD, List.getElem?_eq_getElem (show n < l.length by omega), Option.getD_some]
  exact List.getElem_mem _
theorem hidden_at {code : List Int} (hc : Byt code) (a s : Int) (ha : 0 ≤ a ∧ a ≤ 1800000) : ∃ L a' s', hid L = true ∧ spec_l1Cur_hidden.f code a s = some (L, code, a', s') ∧ a ≤ a' ∧ a' ≤ a + 8 := by
  obtain ⟨x, a1, s1, e1, hx, h1, h2⟩ := pick_at hc a s 12 (by omega) (by omega)
  obtain ⟨y, a2, s2, e2, hy, h3, h4⟩ := pick_at hc a1 s1 12 (by omega) (by omega)
  obtain ⟨b, a3, s3, e3, h5, h6⟩ := one_at hc a2 s2 3 (by omega) (by omega)
  unfold spec_l1Cur_hidden.f
  simp only [e1, e2, e3, Option.bind_some]
  rw [w64 (i := 1 + x) (by omega) (by omega), w64 (i := 1 + y) (by omega) (by omega)]
  cases b
  · refine ⟨[1 + x, 1 + y], a3, s3, hid_iff.mpr ⟨by simp, fun z hz => ?_⟩, by rw [if_neg (by decide)], by omega, by omega⟩
    simp only [List.mem_cons, List.mem_nil_iff, or_false] at hz
    omega
  · obtain ⟨z, a4, s4, e4, hz, h7, h8⟩ := pick_at hc a3 s3 12 (by omega) (by omega)
    refine ⟨[1 + x, 1 + y, 1 + z], a4, s4, hid_iff.mpr ⟨by simp, fun u hu => ?_⟩, ?_, by omega, by omega⟩
    · simp only [List.mem_cons, List.mem_nil_iff, or_false] at hu
      omega
    · rw [if_pos rfl, e4, Option.bind_some, if_pos (by show 2 < _; decide)]
      dsimp only
      rw [w64 (i := 1 + z) (by omega) (by omega)]
      rfl
theorem hid_len {L : List Int} (h : hid L = true) : L.length ≤ 3 := (hid_iff.mp h).1.2
theorem surePuzzle_at {code : List Int} (hc : Byt code) (a s m : Int) (hm : 0 ≤ m ∧ m ≤ 100) (ha : 0 ≤ a ∧ a ≤ 1700000) : ∃ P C a' s', C.length ≤ 6 ∧ Big (fun k => spec_l1Cur_surePuzzle.f k code a s m) ((P, C), code, a', s') ∧ a ≤ a' ∧ a' ≤ a + 12 := by
  obtain ⟨L, a1, s1, hL, e1, h1, h2⟩ := hidden_at hc a s (by omega)
  obtain ⟨x, a2, s2, e2, hx, h3, h4⟩ := pick_at hc a1 s1 (m + 1) (by omega) (by omega)
  obtain ⟨y, a3, s3, e3, hy, h5, h6⟩ := pick_at hc a2 s2 10000 (by omega) (by omega)
  obtain ⟨P, C, ok, h7, hB, _, _⟩ := MakePuzzle_at L x y (by have := hid_len hL; omega)
  refine ⟨P, C, a3, s3, h7, ?_, by omega, by omega⟩
  unfold spec_l1Cur_surePuzzle.f
  rw [w64 (i := m + 1) (by omega) (by omega)]
  exact Big.bind (Big.of e1) (Big.bind (Big.of e2) (Big.bind (Big.of e3) (Big.bind hB (Big.some_ _))))
theorem clue_j0 {code : List Int} (hc : Byt code) (b0 b1 b2 c0 c1 c2 a s : Int) (ha : 0 ≤ a ∧ a ≤ 1800000) : ∃ c a' s', Big (fun k => spec_l1Cur_clue.j0 k b0 b1 b2 c0 c1 c2 code a s) (c, code, a', s') ∧ a ≤ a' ∧ a' ≤ a + 4 := by
  obtain ⟨b, a1, s1, e1, h1, h2⟩ := one_at hc a s 14 (by omega) (by omega)
  cases b
  · refine ⟨(c0, c1, c2), a1, s1, Big.succ ?_, by omega, by omega⟩
    unfold spec_l1Cur_clue.j0
    exact Big.bind (Big.of e1) (Big.neg Bool.false_ne_true (Big.some_ _))
  · obtain ⟨x, a2, s2, e2, hx, h3, h4⟩ := pick_at hc a1 s1 3 (by omega) (by omega)
    refine ⟨(c0, IntKind.i64.wrap (x - 1), c2), a2, s2, Big.succ ?_, by omega, by omega⟩
    unfold spec_l1Cur_clue.j0
    exact Big.bind (Big.of e1) (Big.pos rfl (Big.bind (Big.of e2) (Big.some_ _)))
theorem clue_j1 {code : List Int} (hc : Byt code) (x : Int) (t : Bool) (b0 b1 b2 c0 c1 c2 a s : Int) (ha : 0 ≤ a ∧ a ≤ 1700000) : ∃ c a' s', Big (fun k => spec_l1Cur_clue.j1 k x t b0 b1 b2 c0 c1 c2 code a s) (c, code, a', s') ∧ a ≤ a' ∧ a' ≤ a + 8 := by
  cases t
  · by_cases h4 : x = 4
    · obtain ⟨y, a1, s1, e1, hy, h1, h2⟩ := pick_at hc a s 4 (by omega) (by omega)
      obtain ⟨c, a2, s2, hB, h3, h5⟩ := clue_j0 hc b0 b1 b2 c0 c1 y a1 s1 (by omega)
      refine ⟨c, a2, s2, Big.succ ?_, by omega, by omega⟩
      unfold spec_l1Cur_clue.j1
      exact Big.neg Bool.false_ne_true (Big.pos h4 (Big.bind (Big.of e1) hB))
    · by_cases h6 : x = 6
      · obtain ⟨y, a1, s1, e1, hy, h1, h2⟩ := pick_at hc a s 11 (by omega) (by omega)
        obtain ⟨z, a2, s2, e2, hz, h3, h5⟩ := pick_at hc a1 s1 10 (by omega) (by omega)
        obtain ⟨c, a3, s3, hB, h7, h8⟩ := clue_j0 hc b0 b1 b2 c0 y (IntKind.i64.wrap (1 + z)) a2 s2 (by omega)
        refine ⟨c, a3, s3, Big.succ ?_, by omega, by omega⟩
        unfold spec_l1Cur_clue.j1
        exact Big.neg Bool.false_ne_true (Big.neg h4 (Big.pos h6 (Big.bind (Big.of e1) (Big.bind (Big.of e2) hB))))
      · obtain ⟨c, a3, s3, hB, h7, h8⟩ := clue_j0 hc b0 b1 b2 c0 c1 c2 a s (by omega)
        refine ⟨c, a3, s3, Big.succ ?_, by omega, by omega⟩
        unfold spec_l1Cur_clue.j1
        exact Big.neg Bool.false_ne_true (Big.neg h4 (Big.neg h6 hB))
  · obtain ⟨y, a1, s1, e1, hy, h1, h2⟩ := pick_at hc a s 4 (by omega) (by omega)
    obtain ⟨z, a2, s2, e2, hz, h3, h5⟩ := pick_at hc a1 s1 3 (by omega) (by omega)
    obtain ⟨c, a3, s3, hB, h7, h8⟩ := clue_j0 hc b0 b1 b2 c0 y z a2 s2 (by omega)
    refine ⟨c, a3, s3, Big.succ ?_, by omega, by omega⟩
    unfold spec_l1Cur_clue.j1
    exact Big.pos rfl (Big.bind (Big.of e1) (Big.bind (Big.of e2) hB))
theorem clue_at {code : List Int} (hc : Byt code) (a s : Int) (ha : 0 ≤ a ∧ a ≤ 1600000) : ∃ c a' s', Big (fun k => spec_l1Cur_clue.f k code a s) (c, code, a', s') ∧ a ≤ a' ∧ a' ≤ a + 20 := by
  obtain ⟨x1, a1, s1, e1, _, h1, h2⟩ := pick_at hc a s 7 (by omega) (by omega)
  obtain ⟨x2, a2, s2, e2, _, h3, h4⟩ := pick_at hc a1 s1 9 (by omega) (by omega)
  obtain ⟨x3, a3, s3, e3, _, h5, h6⟩ := pick_at hc a2 s2 24 (by omega) (by omega)
  obtain ⟨x4, a4, s4, e4, _, h7, h8⟩ := pick_at hc a3 s3 9 (by omega) (by omega)
  by_cases hk : IntKind.i64.wrap (x1 + IntKind.i64.wrap (Int.tdiv x2 8)) = 1
  · obtain ⟨x5, a5, s5, e5, _, h9, h10⟩ := pick_at hc a4 s4 4 (by omega) (by omega)
    obtain ⟨c, a6, s6, hB, h11, h12⟩ := clue_j0 hc 0 0 0 (IntKind.i64.wrap (x1 + IntKind.i64.wrap (Int.tdiv x2 8))) x5 (IntKind.i64.wrap (x3 - IntKind.i64.wrap (Int.tdiv x4 8))) a5 s5 (by omega)
    refine ⟨c, a6, s6, ?_, by omega, by omega⟩
    unfold spec_l1Cur_clue.f
    exact Big.bind (Big.of e1) (Big.bind (Big.of e2) (Big.bind (Big.of e3) (Big.bind (Big.of e4) (Big.pos hk (Big.bind (Big.of e5) hB)))))
  · by_cases h3' : IntKind.i64.wrap (x1 + IntKind.i64.wrap (Int.tdiv x2 8)) = 3
    · obtain ⟨c, a6, s6, hB, h11, h12⟩ := clue_j1 hc (IntKind.i64.wrap (x1 + IntKind.i64.wrap (Int.tdiv x2 8))) (IntKind.i64.wrap (x1 + IntKind.i64.wrap (Int.tdiv x2 8)) == 3) 0 0 0 (IntKind.i64.wrap (x1 + IntKind.i64.wrap (Int.tdiv x2 8))) 0 (IntKind.i64.wrap (x3 - IntKind.i64.wrap (Int.tdiv x4 8))) a4 s4 (by omega)
      refine ⟨c, a6, s6, ?_, by omega, by omega⟩
      unfold spec_l1Cur_clue.f
      exact Big.bind (Big.of e1) (Big.bind (Big.of e2) (Big.bind (Big.of e3) (Big.bind (Big.of e4) (Big.neg hk (Big.pos h3' hB)))))
    · obtain ⟨c, a6, s6, hB, h11, h12⟩ := clue_j1 hc (IntKind.i64.wrap (x1 + IntKind.i64.wrap (Int.tdiv x2 8))) (IntKind.i64.wrap (x1 + IntKind.i64.wrap (Int.tdiv x2 8)) == 5) 0 0 0 (IntKind.i64.wrap (x1 + IntKind.i64.wrap (Int.tdiv x2 8))) 0 (IntKind.i64.wrap (x3 - IntKind.i64.wrap (Int.tdiv x4 8))) a4 s4 (by omega)
      refine ⟨c, a6, s6, ?_, by omega, by omega⟩
      unfold spec_l1Cur_clue.f
      exact Big.bind (Big.of e1) (Big.bind (Big.of e2) (Big.bind (Big.of e3) (Big.bind (Big.of e4) (Big.neg hk (Big.neg h3' hB)))))
theorem puzzle_l {code : List Int} (hc : Byt code) (u : Int) (v : List (Int × Int × Int)) (P : Int) (n : Nat) : ∀ (C : List (Int × Int × Int)) (a s : Int), C.length + n = 7 → 0 ≤ a → a + 2 * (n : Int) + 2 ≤ 1800000 → ∃ C' a' s', C'.length ≤ 7 ∧ a ≤ a' ∧ a' ≤ a + 2 * (n : Int) + 2 ∧ Big (fun k => spec_l1Cur_puzzle.l0 k u v P C code a s) ((P, C'), code, a', s') := by
  induction n with
  | zero =>
    intro C a s hl h0 ha
    obtain ⟨x, a1, s1, e1, hx, h1, h2⟩ := pick_at hc a s 2 (by omega) (by omega)
    refine ⟨C, a1, s1, by omega, by omega, by omega, Big.succ ?_⟩
    unfold spec_l1Cur_puzzle.l0
    refine Big.bind (Big.of e1) (Big.neg ?_ (Big.some_ _))
    rw [w64 (i := 6 + x) (by omega) (by omega)]
    omega
  | succ n ih =>
    intro C a s hl h0 ha
    obtain ⟨x, a1, s1, e1, hx, h1, h2⟩ := pick_at hc a s 2 (by omega) (by omega)
    by_cases hlt : (C.length : Int) < 6 + x
    · obtain ⟨C', a', s', k1, k2, k3, hB⟩ := ih (C ++ [(0, 0, 12)]) a1 s1 (by rw [List.length_append, List.length_singleton]; omega) (by omega) (by omega)
      refine ⟨C', a', s', k1, by omega, by omega, Big.succ ?_⟩
      unfold spec_l1Cur_puzzle.l0
      refine Big.bind (Big.of e1) (Big.pos ?_ (Big.pos (by omega) hB))
      rw [w64 (i := 6 + x) (by omega) (by omega)]
      exact hlt
    · refine ⟨C, a1, s1, by omega, by omega, by omega, Big.succ ?_⟩
      unfold spec_l1Cur_puzzle.l0
      refine Big.bind (Big.of e1) (Big.neg ?_ (Big.some_ _))
      rw [w64 (i := 6 + x) (by omega) (by omega)]
      exact hlt
theorem puzzle_j {code : List Int} (hc : Byt code) (x : Int) (t : Bool) (u : Int) (v : List (Int × Int × Int)) (P : Int) (C : List (Int × Int × Int)) (hC : C.length ≤ 6) (a s : Int) (ha : 0 ≤ a ∧ a ≤ 1500000) : ∃ C' a' s', C'.length ≤ 7 ∧ a ≤ a' ∧ a' ≤ a + 40 ∧ Big (fun k => spec_l1Cur_puzzle.j0 k x t u v P C code a s) ((P, C'), code, a', s') := by
  cases t
  · by_cases h3 : x = 3
    · obtain ⟨C', a', s', k1, k2, k3, hB⟩ := puzzle_l hc u v P (7 - C.length) C a s (by omega) (by omega) (by omega)
      refine ⟨C', a', s', k1, k2, by omega, Big.succ ?_⟩
      unfold spec_l1Cur_puzzle.j0
      exact Big.neg Bool.false_ne_true (Big.pos h3 hB)
    · refine ⟨C, a, s, by omega, by omega, by omega, Big.succ ?_⟩
      unfold spec_l1Cur_puzzle.j0
      exact Big.neg Bool.false_ne_true (Big.neg h3 (Big.some_ _))
  · obtain ⟨c, a', s', hB, k1, k2⟩ := clue_at hc a s (by omega)
    refine ⟨C ++ [c], a', s', by rw [List.length_append, List.length_singleton]; omega, k1, by omega, Big.succ ?_⟩
    unfold spec_l1Cur_puzzle.j0
    exact Big.pos rfl (Big.bind hB (Big.pos (by omega) (Big.some_ _)))
theorem puzzle_at {code : List Int} (hc : Byt code) (a s : Int) (ha : 0 ≤ a ∧ a ≤ 1400000) : ∃ P C a' s', C.length ≤ 7 ∧ a ≤ a' ∧ a' ≤ a + 60 ∧ Big (fun k => spec_l1Cur_puzzle.f k code a s) ((P, C), code, a', s') := by
  obtain ⟨P, C, a1, s1, hC, hB, h1, h2⟩ := surePuzzle_at hc a s 4 (by omega) (by omega)
  obtain ⟨x, a2, s2, e2, hx, h3, h4⟩ := pick_at hc a1 s1 10 (by omega) (by omega)
  by_cases x0 : x = 0
  · obtain ⟨q, a3, s3, e3, _, h5, h6⟩ := among_at hc a2 s2 [(-1), 0, 1, 2, 3, 4, 4611686018427387904] (by omega) (by simp)
    refine ⟨q, C, a3, s3, by omega, by omega, by omega, ?_⟩
    unfold spec_l1Cur_puzzle.f
    exact Big.bind hB (Big.bind (Big.of e2) (Big.pos x0 (Big.bind (Big.of e3) (Big.some_ _))))
  · by_cases x1 : x = 1
    · obtain ⟨C', a', s', k1, k2, k3, hJ⟩ := puzzle_j hc x (x == 1) 0 [] P C hC a2 s2 (by omega)
      refine ⟨P, C', a', s', k1, by omega, by omega, ?_⟩
      unfold spec_l1Cur_puzzle.f
      exact Big.bind hB (Big.bind (Big.of e2) (Big.neg x0 (Big.pos x1 hJ)))
    · obtain ⟨C', a', s', k1, k2, k3, hJ⟩ := puzzle_j hc x (x == 2) 0 [] P C hC a2 s2 (by omega)
      refine ⟨P, C', a', s', k1, by omega, by omega, ?_⟩
      unfold spec_l1Cur_puzzle.f
      exact Big.bind hB (Big.bind (Big.of e2) (Big.neg x0 (Big.neg x1 hJ)))
theorem drawIsClue {code : List Int} (hc : Byt code) : ∃ n c, Big (fun k => spec_DrawIsClue.f k code) (n, c) := by
  obtain ⟨b, a1, s1, e1, h1, h2⟩ := one_at hc 0 0 3 (by omega) (by omega)
  cases b
  · obtain ⟨x, a2, s2, e2, hx, h3, h4⟩ := pick_at hc a1 s1 2 (by omega) (by omega)
    obtain ⟨c, a3, s3, hB, h5, h6⟩ := clue_at hc a2 s2 (by omega)
    refine ⟨IntKind.i64.wrap (2 + x), c, ?_⟩
    unfold spec_DrawIsClue.f
    exact Big.bind (Big.of e1) (Big.neg Bool.false_ne_true (Big.bind (Big.of e2) (Big.bind hB (Big.some_ _))))
  · obtain ⟨x, a2, s2, e2, hx, h3, h4⟩ := among_at hc a1 s1 [(-1), 0, 1, 2, 3, 4, (-9223372036854775808)] (by omega) (by simp)
    obtain ⟨y, a3, s3, e3, hy, h5, h6⟩ := pick_at hc a2 s2 8 (by omega) (by omega)
    obtain ⟨z, a4, s4, e4, hz, h7, h8⟩ := pick_at hc a3 s3 9 (by omega) (by omega)
    obtain ⟨u, a5, s5, e5, hu, h9, h10⟩ := among_at hc a4 s4 [(-1), 0, 0, 1, 2, 3, 9, 10, 4611686018427387904] (by omega) (by simp)
    obtain ⟨v, a6, s6, e6, hv, h11, h12⟩ := among_at hc a5 s5 [(-1), 0, 1, 2, 9, 10, 2000, 2001] (by omega) (by simp)
    refine ⟨x, (IntKind.i64.wrap (y - IntKind.i64.wrap (Int.tdiv z 8)), u, v), ?_⟩
    unfold spec_DrawIsClue.f
    exact Big.bind (Big.of e1) (Big.pos rfl (Big.bind (Big.of e2) (Big.bind (Big.of e3) (Big.bind (Big.of e4) (Big.bind (Big.of e5) (Big.bind (Big.of e6) (Big.some_ _)))))))
theorem drawDoesFit_j {code : List Int} (hc : Byt code) (L : List Int) (hL : L.length ≤ 3) (t : Bool) (b0 b1 b2 P : Int) (C : List (Int × Int × Int)) (hC : t = true → 0 < C.length) (a s : Int) (ha : 0 ≤ a ∧ a ≤ 1400000) : ∃ c L', L'.length ≤ 4 ∧ Big (fun k => spec_DrawDoesFit.j0 k L t b0 b1 b2 P C code a s) (c, L') := by
  cases t
  · obtain ⟨b, a1, s1, e1, h1, h2⟩ := one_at hc a s 10 (by omega) (by omega)
    cases b
    · obtain ⟨c, a2, s2, hB, h3, h4⟩ := clue_at hc a1 s1 (by omega)
      refine ⟨c, L, by omega, Big.succ ?_⟩
      unfold spec_DrawDoesFit.j0
      exact Big.neg Bool.false_ne_true (Big.bind (Big.of e1) (Big.neg Bool.false_ne_true (Big.bind hB (Big.some_ _))))
    · obtain ⟨x, a2, s2, e2, hx, h3, h4⟩ := among_at hc a1 s1 [(-1), 0, 12, 13] (by omega) (by simp)
      obtain ⟨c, a3, s3, hB, h5, h6⟩ := clue_at hc a2 s2 (by omega)
      refine ⟨c, L ++ [x], by rw [List.length_append, List.length_singleton]; omega, Big.succ ?_⟩
      unfold spec_DrawDoesFit.j0
      exact Big.neg Bool.false_ne_true (Big.bind (Big.of e1) (Big.pos rfl (Big.bind (Big.of e2) (Big.pos (by omega) (Big.bind hB (Big.some_ _))))))
  · refine ⟨rde C 0, L, by omega, Big.succ ?_⟩
    unfold spec_DrawDoesFit.j0
    exact Big.pos rfl (Big.pos (by have := hC rfl; omega) (Big.some_ _))
theorem drawDoesFit {code : List Int} (hc : Byt code) : ∃ c L, L.length ≤ 4 ∧ Big (fun k => spec_DrawDoesFit.f k code) (c, L) := by
  obtain ⟨L, a1, s1, hL, e1, h1, h2⟩ := hidden_at hc 0 0 (by omega)
  obtain ⟨x, a2, s2, e2, hx, h3, h4⟩ := pick_at hc a1 s1 10000 (by omega) (by omega)
  have hl3 := hid_len hL
  obtain ⟨P, C, ok, h7, hB, _, hok⟩ := MakePuzzle_at L 1 x (by omega)
  unfold spec_DrawDoesFit.f
  cases ok
  · obtain ⟨c, L', hl, hJ⟩ := drawDoesFit_j hc L hl3 false 0 0 0 P C (fun h => by cases h) a2 s2 (by omega)
    exact ⟨c, L', hl, Big.bind (Big.of e1) (Big.bind (Big.of e2) (Big.bind hB (Big.neg Bool.false_ne_true hJ)))⟩
  · obtain ⟨b, a3, s3, e3, h5, h6⟩ := one_at hc a2 s2 3 (by omega) (by omega)
    obtain ⟨c, L', hl, hJ⟩ := drawDoesFit_j hc L hl3 b 0 0 0 P C (fun _ => by have := (hok rfl).2.2.1; omega) a3 s3 (by omega)
    exact ⟨c, L', hl, Big.bind (Big.of e1) (Big.bind (Big.of e2) (Big.bind hB (Big.pos rfl (Big.bind (Big.of e3) hJ))))⟩
theorem drawDropClue {code : List Int} (hc : Byt code) : ∃ P C n, C.length ≤ 7 ∧ Big (fun k => spec_DrawDropClue.f k code) ((P, C), n) := by
  obtain ⟨P, C, a1, s1, hl, h1, h2, hB⟩ := puzzle_at hc 0 0 (by omega)
  obtain ⟨x, a2, s2, e2, hx, h3, h4⟩ := pick_at hc a1 s1 6 (by omega) (by omega)
  obtain ⟨y, a3, s3, e3, hy, h5, h6⟩ := pick_at hc a2 s2 9 (by omega) (by omega)
  refine ⟨P, C, IntKind.i64.wrap (x - IntKind.i64.wrap (Int.tdiv y 8)), hl, ?_⟩
  unfold spec_DrawDropClue.f
  exact Big.bind hB (Big.bind (Big.of e2) (Big.bind (Big.of e3) (Big.some_ _)))
theorem drawAddClue {code : List Int} (hc : Byt code) : ∃ P C c, C.length ≤ 7 ∧ Big (fun k => spec_DrawAddClue.f k code) ((P, C), c) := by
  obtain ⟨P, C, a1, s1, hl, h1, h2, hB⟩ := puzzle_at hc 0 0 (by omega)
  obtain ⟨c, a2, s2, hB2, h3, h4⟩ := clue_at hc a1 s1 (by omega)
  refine ⟨P, C, c, hl, ?_⟩
  unfold spec_DrawAddClue.f
  exact Big.bind hB (Big.bind hB2 (Big.some_ _))
theorem drawHard_l (L : List Int) (hL : hid L = true) (u : Int) (v : List (Int × Int × Int)) (P : Int) (d : Nat) : ∀ (i : Nat) (C : List (Int × Int × Int)), i + d = L.length → C.length + d ≤ 9 → ∃ C', C'.length ≤ 9 ∧ Big (fun k => spec_DrawHarderPuzzle.l0 k L (L.length : Int) i u v P C) (P, C') := by
  have hl3 := hid_len hL
  induction d with
  | zero =>
    intro i C hi hC
    refine ⟨C, by omega, Big.succ ?_⟩
    unfold spec_DrawHarderPuzzle.l0
    exact Big.neg (by omega) (Big.some_ _)
  | succ d ih =>
    intro i C hi hC
    obtain ⟨_, _, _, hof⟩ := pzOf_at 1 (i : Int) L hL (by omega) (by omega)
    obtain ⟨C', h1, hB⟩ := ih (i + 1) (C ++ [(1, mkW 1 (i : Int) L, valN 1 (mkW 1 (i : Int) L) L)]) (by omega) (by rw [List.length_append, List.length_singleton]; omega)
    refine ⟨C', h1, Big.succ ?_⟩
    unfold spec_DrawHarderPuzzle.l0
    rw [w64n (by omega)]
    exact Big.pos (by omega) (Big.bind hof (Big.pos (by omega) hB))
theorem drawHarder {code : List Int} (hc : Byt code) : ∃ P C, C.length ≤ 9 ∧ Big (fun k => spec_DrawHarderPuzzle.f k code) (P, C) := by
  obtain ⟨b, a1, s1, e1, h1, h2⟩ := one_at hc 0 0 4 (by omega) (by omega)
  unfold spec_DrawHarderPuzzle.f
  cases b
  · obtain ⟨L, a2, s2, hL, e2, h3, h4⟩ := hidden_at hc a1 s1 (by omega)
    obtain ⟨x, a3, s3, e3, hx, h5, h6⟩ := pick_at hc a2 s2 3 (by omega) (by omega)
    obtain ⟨y, a4, s4, e4, hy, h7, h8⟩ := pick_at hc a3 s3 10000 (by omega) (by omega)
    have hl3 := hid_len hL
    obtain ⟨P, C, ok, hC, hB, _, _⟩ := MakePuzzle_at L x y (by omega)
    obtain ⟨C', k1, hJ⟩ := drawHard_l L hL 0 [] P L.length 0 C (by omega) (by omega)
    exact ⟨P, C', k1, Big.bind (Big.of e1) (Big.neg Bool.false_ne_true (Big.bind (Big.of e2) (Big.bind (Big.of e3) (Big.bind (Big.of e4) (Big.bind hB hJ)))))⟩
  · obtain ⟨P, C, a2, s2, hl, h3, h4, hB⟩ := puzzle_at hc a1 s1 (by omega)
    exact ⟨P, C, by omega, Big.bind (Big.of e1) (Big.pos rfl (Big.bind hB (Big.some_ _)))⟩
theorem drawMake {code : List Int} (hc : Byt code) : ∃ L n s, L.length ≤ 4 ∧ spec_DrawMakePuzzle.f code = some (L, n, s) := by
  obtain ⟨b, a1, s1, e1, h1, h2⟩ := one_at hc 0 0 12 (by omega) (by omega)
  obtain ⟨L, a2, s2, hL, e2, h3, h4⟩ := hidden_at hc a1 s1 (by omega)
  have hl3 := hid_len hL
  unfold spec_DrawMakePuzzle.f
  cases b
  · obtain ⟨x, a3, s3, e3, hx, h5, h6⟩ := pick_at hc a2 s2 7 (by omega) (by omega)
    obtain ⟨y, a4, s4, e4, hy, h7, h8⟩ := pick_at hc a3 s3 10000 (by omega) (by omega)
    refine ⟨L, x, y, by omega, ?_⟩
    simp only [e1, Option.bind_some, Bool.false_eq_true, if_false, e2, e3, e4]
  · obtain ⟨x, a3, s3, e3, hx, h5, h6⟩ := among_at hc a2 s2 [(-1), 0, 12, 13] (by omega) (by simp)
    obtain ⟨y, a4, s4, e4, hy, h7, h8⟩ := among_at hc a3 s3 [(-1), 6, 7] (by omega) (by simp)
    obtain ⟨z, a5, s5, e5, hz, h9, h10⟩ := among_at hc a4 s4 [(-1), 9999, 10000] (by omega) (by simp)
    refine ⟨L ++ [x], y, z, by rw [List.length_append, List.length_singleton]; omega, ?_⟩
    simp only [e1, Option.bind_some, if_true, e2, e3, e4, e5, if_pos (show L.length < 17592186044416 by omega)]
end Go.Proofs.YtbmbejbhlcadmaaGreat.Q
