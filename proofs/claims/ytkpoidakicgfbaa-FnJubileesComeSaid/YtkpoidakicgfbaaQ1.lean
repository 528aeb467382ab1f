/- Plain lemmas on functions that take a number of rounds: what such a function answers at all large numbers of rounds. No condition. -/
import Derived.Test.YtkpoidakicgfbaaP0
set_option linter.all false
namespace Go.Proofs.Ytkpoidakicgfbaa.Q
open Go.RowKit Go Go.Proofs.Ytkpoidakicgfbaa.Eng Go.Proofs.Ytkpoidakicgfbaa.C

/-- From some number of rounds on, the answer is r. -/
def Big {α : Type} (g : Nat → Option α) (r : α) : Prop := ∃ K, ∀ k, K ≤ k → g k = some r
theorem Big.bind {α β : Type} {g : Nat → Option α} {a : α} {h : Nat → α → Option β} {r : β} (h1 : Big g a) (h2 : Big (fun k => h k a) r) : Big (fun k => (g k).bind (h k)) r := by
  obtain ⟨K1, h1⟩ := h1
  obtain ⟨K2, h2⟩ := h2
  exact ⟨K1 + K2, fun k hk => by show (g k).bind (h k) = some r; rw [h1 k (by omega), Option.bind_some]; exact h2 k (by omega)⟩
theorem Big.of {α : Type} {a : Option α} {r : α} (h : a = some r) : Big (fun _ => a) r := ⟨0, fun _ _ => h⟩
theorem Big.some_ {α : Type} (r : α) : Big (fun _ => some r) r := ⟨0, fun _ _ => rfl⟩
theorem Big.succ {α : Type} {g : Nat → Option α} {r : α} (h : Big (fun k => g (k + 1)) r) : Big g r := by
  obtain ⟨K, h⟩ := h
  exact ⟨K + 1, fun k hk => by obtain ⟨m, rfl⟩ : ∃ m, k = m + 1 := ⟨k - 1, by omega⟩; exact h m (by omega)⟩
theorem Big.exists_ {α : Type} {g : Nat → Option α} {r : α} (h : Big g r) : ∃ k, g k = some r := by
  obtain ⟨K, h⟩ := h
  exact ⟨K, h K (Nat.le_refl _)⟩
theorem Big.uniq {α : Type} {g : Nat → Option α} {r s : α} (h : Big g r) (h' : Big g s) : r = s := by
  obtain ⟨K, h⟩ := h
  obtain ⟨K', h'⟩ := h'
  have := (h (K + K') (by omega)).symm.trans (h' (K + K') (by omega))
  exact Option.some.inj this
theorem Big.cast {α : Type} {g : Nat → Option α} {r s : α} (h : Big g r) (e : r = s) : Big g s := e ▸ h

theorem w64 {i : Int} (h0 : -9223372036854775808 ≤ i) (h1 : i ≤ 9223372036854775807) : IntKind.i64.wrap i = i := by
  rw [Go.IntWalk.i64_left]; unfold wrap64
  omega
theorem w64n {i : Nat} (h1 : i < 9223372036854775807) : IntKind.i64.wrap ((i : Int) + 1) = ((i + 1 : Nat) : Int) := by
  rw [Go.IntWalk.i64_left]; unfold wrap64
  omega
theorem rd_nat (l : List Int) (i : Nat) : rde l (i : Int) = l.getD i 0 := by
  unfold rde
  rw [Int.toNat_natCast]
  rfl
theorem rd_cons_drop {l t : List Int} {a : Int} {i : Nat} (h : l.drop i = a :: t) : rde l (i : Int) = a ∧ i < l.length ∧ l.drop (i + 1) = t := by
  have hi : i < l.length := by
    rcases Nat.lt_or_ge i l.length with h1 | h1
    · exact h1
    · rw [List.drop_eq_nil_of_le h1] at h
      cases h
  rw [List.drop_eq_getElem_cons hi] at h
  injection h with h1 h2
  exact ⟨by rw [rd_nat, List.getD_eq_getElem?_getD, List.getElem?_eq_getElem hi]; exact h1, hi, h2⟩
theorem drop_nil_le {l : List Int} {i : Nat} (h : l.drop i = []) : l.length ≤ i := by
  rw [List.drop_eq_nil_iff] at h
  exact h
theorem wf64 {x : Int} (h : (Lit.int .i64 x).wf = true) : -9223372036854775808 ≤ x ∧ x ≤ 9223372036854775807 := by
  have h1 : (decide ((-9223372036854775808 : Int) ≤ x) && decide (x ≤ (9223372036854775807 : Int))) = true := h
  simpa using h1
end Go.Proofs.Ytkpoidakicgfbaa.Q
set_option linter.all false
namespace Go.Proofs.Ytkpoidakicgfbaa.Q
open Go.RowKit Go Go.Proofs.Ytkpoidakicgfbaa.Eng Go.Proofs.Ytkpoidakicgfbaa.C

def inR (x a b : Int) : Bool := decide (a ≤ x) && decide (x ≤ b)
theorem inR_iff {x a b : Int} : inR x a b = true ↔ a ≤ x ∧ x ≤ b := by simp [inR]
theorem inR_not {x a b : Int} : inR x a b = false ↔ ¬ (a ≤ x ∧ x ≤ b) := by rw [← Bool.not_eq_true, inR_iff]
theorem v_l1In (x a b : Int) : spec_l1In.f x a b = some (inR x a b) := by
  unfold spec_l1In.f inR
  by_cases h : x ≥ a
  · rw [if_pos h, decide_eq_true (show a ≤ x from h), Bool.true_and]
  · rw [if_neg h, decide_eq_false (show ¬ a ≤ x from h), Bool.false_and]
theorem v_between (x a b : Int) : impl_between.f x a b = some (inR x a b) := by
  unfold impl_between.f inR
  by_cases h : x ≥ a
  · rw [if_pos h, decide_eq_true (show a ≤ x from h), Bool.true_and]
  · rw [if_neg h, decide_eq_false (show ¬ a ≤ x from h), Bool.false_and]
end Go.Proofs.Ytkpoidakicgfbaa.Q
set_option linter.all false
namespace Go.Proofs.Ytkpoidakicgfbaa.Q
open Go.RowKit Go Go.Proofs.Ytkpoidakicgfbaa.Eng Go.Proofs.Ytkpoidakicgfbaa.C

/-- Births: 1..10 numbers in 0..2900. -/
def born (l : List Int) : Bool := inR (l.length : Int) 1 10 && l.all fun x => inR x 0 2900
theorem born_iff {l : List Int} : born l = true ↔ (1 ≤ l.length ∧ l.length ≤ 10) ∧ ∀ x ∈ l, 0 ≤ x ∧ x ≤ 2900 := by
  unfold born
  rw [Bool.and_eq_true, inR_iff, List.all_eq_true]
  constructor
  · rintro ⟨h1, h2⟩
    exact ⟨by omega, fun x hx => inR_iff.mp (h2 x hx)⟩
  · rintro ⟨h1, h2⟩
    exact ⟨by omega, fun x hx => inR_iff.mpr (h2 x hx)⟩
theorem l1All_l (l : List Int) (a b : Int) (hl : l.length ≤ 1048576) (d : Nat) : ∀ i : Nat, i + d = l.length → Big (fun k => spec_l1All.l0 k a b l (l.length : Int) i) ((l.drop i).all fun x => inR x a b) := by
  induction d with
  | zero =>
    intro i hi
    refine Big.succ ?_
    simp only [spec_l1All.l0, if_neg (show ¬ (i : Int) < (l.length : Int) by omega)]
    rw [List.drop_of_length_le (by omega)]
    exact Big.some_ _
  | succ d ih =>
    intro i hi
    refine Big.succ ?_
    simp only [spec_l1All.l0]
    have hlt : i < l.length := by omega
    simp only [if_pos (show (i : Int) < (l.length : Int) by omega), if_pos (show 0 ≤ (i : Int) by omega), v_l1In, Option.bind_some]
    rw [List.drop_eq_getElem_cons hlt, List.all_cons, rd_nat, List.getD_eq_getElem?_getD, List.getElem?_eq_getElem hlt, Option.getD_some]
    cases h : inR l[i] a b with
    | true =>
      simp only [if_true, Bool.true_and]
      rw [w64n (by omega)]
      exact ih (i + 1) (by omega)
    | false =>
      simp only [Bool.false_eq_true, if_false, Bool.false_and]
      exact Big.some_ _
theorem l1All_at (l : List Int) (a b : Int) (hl : l.length ≤ 1048576) : Big (fun k => spec_l1All.f k l a b) (l.all fun x => inR x a b) := by
  unfold spec_l1All.f
  exact l1All_l l a b hl l.length 0 (by omega)
theorem roBorn_at (l : List Int) (hl : l.length ≤ 1048576) : Big (fun k => spec_roBorn.f k l) (born l) := by
  unfold spec_roBorn.f born
  simp only [v_l1In, Option.bind_some]
  cases inR (l.length : Int) 1 10 with
  | true =>
    simp only [if_true, Bool.true_and]
    exact Big.bind (l1All_at l 0 2900 hl) (Big.some_ _)
  | false =>
    simp only [Bool.false_eq_true, if_false, Bool.false_and]
    exact Big.some_ _
theorem v_AreBirths (l : List Int) : impl_AreBirths.f l = some (born l) := by
  unfold impl_AreBirths.f born
  simp only [v_between, Option.bind_some]
  cases h : inR (l.length : Int) 1 10 with
  | true =>
    rw [inR_iff] at h
    simp only [if_true, Bool.true_and, impl_areBetween.f, if_pos (show l.length < 4611686018427387904 by omega), Option.bind_some]; rfl
  | false => simp only [Bool.false_eq_true, if_false, Bool.false_and]
end Go.Proofs.Ytkpoidakicgfbaa.Q
set_option linter.all false
namespace Go.Proofs.Ytkpoidakicgfbaa.Q
open Go.RowKit Go Go.Proofs.Ytkpoidakicgfbaa.Eng Go.Proofs.Ytkpoidakicgfbaa.C

theorem v_roEvery (e : Int) : spec_roEvery.f e = some (inR e 1 100) := by simp [spec_roEvery.f, v_l1In]
theorem v_isEvery (e : Int) : impl_isEvery.f e = some (inR e 1 100) := by simp [impl_isEvery.f, v_between]

theorem v_isYear (y : Int) : impl_isYear.f y = some (inR y 0 3000) := by simp [impl_isYear.f, v_between]
def span (f t : Int) : Bool := decide (0 ≤ f ∧ f ≤ t ∧ t ≤ 3000 ∧ t - f < 200)
theorem span_iff {f t : Int} : span f t = true ↔ 0 ≤ f ∧ f ≤ t ∧ t ≤ 3000 ∧ t - f < 200 := by simp [span]
theorem v_roSpan (f t : Int) : spec_roSpan.f f t = some (span f t) := by
  unfold spec_roSpan.f
  simp only [v_l1In, Option.bind_some]
  by_cases h1 : inR t 0 3000 = true
  · rw [if_pos h1]
    rw [inR_iff] at h1
    by_cases h2 : inR f 0 t = true
    · rw [if_pos h2]
      rw [inR_iff] at h2
      rw [w64 (by omega) (by omega)]
      unfold span
      congr 1
      rw [decide_eq_decide]
      omega
    · rw [if_neg h2]
      rw [inR_iff] at h2
      unfold span
      congr 1
      rw [eq_comm, decide_eq_false_iff_not]
      omega
  · rw [if_neg h1]
    rw [inR_iff] at h1
    unfold span
    congr 1
    rw [eq_comm, decide_eq_false_iff_not]
    omega
theorem v_isSpan (f t : Int) : impl_isSpan.f f t = some (span f t) := by
  unfold impl_isSpan.f
  simp only [v_isYear, v_between, Option.bind_some]
  by_cases h1 : inR f 0 3000 = true
  · rw [if_pos h1]
    rw [inR_iff] at h1
    by_cases h2 : inR t f 3000 = true
    · rw [if_pos h2]
      rw [inR_iff] at h2
      rw [w64 (by omega) (by omega)]
      unfold span
      congr 1
      rw [decide_eq_decide]
      omega
    · rw [if_neg h2]
      rw [inR_iff] at h2
      unfold span
      congr 1
      rw [eq_comm, decide_eq_false_iff_not]
      omega
  · rw [if_neg h1]
    rw [inR_iff] at h1
    unfold span
    congr 1
    rw [eq_comm, decide_eq_false_iff_not]
    omega

/-- Round: greater than 0, and a multiple. -/
def rnd (a e : Int) : Bool := decide (0 < a) && (Int.tmod a e == 0)
theorem v_roRound (a e : Int) (he : 1 ≤ e) : spec_roRound.f a e = some (rnd a e) := by
  unfold spec_roRound.f rnd
  by_cases h : a > 0
  · rw [if_pos h, if_neg (by omega), decide_eq_true (show 0 < a from h), Bool.true_and]
  · rw [if_neg h, decide_eq_false (show ¬ 0 < a from h), Bool.false_and]
theorem v_isRound (a e : Int) (he : 1 ≤ e) : impl_isRound.f a e = some (rnd a e) := by
  unfold impl_isRound.f rnd
  by_cases h : a > 0
  · rw [if_pos h, if_neg (by omega), decide_eq_true (show 0 < a from h), Bool.true_and]
  · rw [if_neg h, decide_eq_false (show ¬ 0 < a from h), Bool.false_and]

end Go.Proofs.Ytkpoidakicgfbaa.Q
set_option linter.all false
namespace Go.Proofs.Ytkpoidakicgfbaa.Q
open Go.RowKit Go Go.Proofs.Ytkpoidakicgfbaa.Eng Go.Proofs.Ytkpoidakicgfbaa.C

/-- Births that fit. -/
def Fit (l : List Int) : Prop := l.length ≤ 10 ∧ ∀ x ∈ l, 0 ≤ x ∧ x ≤ 2900
theorem fit_of_born {l : List Int} (h : born l = true) : Fit l := by
  rw [born_iff] at h
  exact ⟨h.1.2, h.2⟩
theorem rd_mem' {l : List Int} {i : Int} (h0 : 0 ≤ i) (h1 : i < (l.length : Int)) : rde l i ∈ l := by
  have h : i.toNat < l.length := by omega
  unfold rde
  rw [List.getD_eq_getElem?_getD, List.getElem?_eq_getElem h]
  exact List.getElem_mem h
/-- The people from number i on who have a jubilee. -/
def jubF (y e : Int) : Nat → List Int → List Int
  | _, [] => []
  | i, b :: t => (if inR (y - b) 0 120 && rnd (y - b) e then [(i : Int)] else []) ++ jubF y e (i + 1) t
def jub (l : List Int) (y e : Int) : List Int := jubF y e 0 l
theorem jubF_length (y e : Int) (l : List Int) : ∀ i, (jubF y e i l).length ≤ l.length := by
  induction l with
  | nil => intro i; simp [jubF]
  | cons b t ih =>
    intro i
    have := ih (i + 1)
    unfold jubF
    rw [List.length_append, List.length_cons]
    split <;> simp <;> omega
theorem jub_length (l : List Int) (y e : Int) : (jub l y e).length ≤ l.length := jubF_length y e l 0
theorem v_roAge (b y : Int) (hb : 0 ≤ b ∧ b ≤ 2900) (hy : 0 ≤ y ∧ y ≤ 3000) : spec_roAge.f b y = some (if inR (y - b) 0 120 then y - b else -1) := by
  unfold spec_roAge.f
  rw [w64 (by omega) (by omega)]
  simp only [v_l1In, Option.bind_some]
  cases inR (y - b) 0 120 <;> simp
theorem v_ageIn (b y : Int) (hb : 0 ≤ b ∧ b ≤ 2900) (hy : 0 ≤ y ∧ y ≤ 3000) : impl_ageIn.f b y = some (y - b, inR (y - b) 0 120) := by
  unfold impl_ageIn.f impl_isAge.f
  rw [w64 (by omega) (by omega)]
  simp only [v_between, Option.bind_some]
theorem rnd_neg (e : Int) : rnd (-1) e = false := by simp [rnd]
theorem roIn_l (l : List Int) (y e : Int) (hf : Fit l) (hy : 0 ≤ y ∧ y ≤ 3000) (he : 1 ≤ e) (t : List Int) : ∀ (i : Nat) (acc : List Int), l.drop i = t → acc.length ≤ i → i ≤ l.length → Big (fun k => spec_roIn.l0 k y e acc l (l.length : Int) i) (acc ++ jubF y e i t) := by
  induction t with
  | nil =>
    intro i acc hd ha hi
    have hle := drop_nil_le hd
    refine Big.succ ?_
    simp only [spec_roIn.l0, if_neg (show ¬ (i : Int) < (l.length : Int) by omega)]
    simp only [jubF, List.append_nil]
    exact Big.some_ _
  | cons b t ih =>
    intro i acc hd ha hi
    obtain ⟨h1, h2, h3⟩ := rd_cons_drop hd
    have hbm : 0 ≤ b ∧ b ≤ 2900 := hf.2 b (List.mem_of_mem_drop (i := i) (by rw [hd]; exact List.mem_cons_self))
    have hl := hf.1
    refine Big.succ ?_
    simp only [spec_roIn.l0]
    simp only [h1, if_pos (show (i : Int) < (l.length : Int) by omega), if_pos (show 0 ≤ (i : Int) by omega), v_roAge b y hbm hy, v_roRound _ e he, Option.bind_some, if_pos (show acc.length < 17592186044416 by omega)]
    rw [w64n (by omega)]
    unfold jubF
    cases h4 : inR (y - b) 0 120 with
    | true =>
      simp only [if_true, Bool.true_and]
      cases h5 : rnd (y - b) e with
      | true =>
        simp only [if_true]
        rw [← List.append_assoc]
        exact ih (i + 1) (acc ++ [(i : Int)]) h3 (by simp; omega) (by omega)
      | false =>
        simp only [Bool.false_eq_true, if_false, List.nil_append]
        exact ih (i + 1) acc h3 (by omega) (by omega)
    | false =>
      simp only [Bool.false_eq_true, if_false, Bool.false_and, List.nil_append, rnd_neg]
      exact ih (i + 1) acc h3 (by omega) (by omega)
theorem roIn_at (l : List Int) (y e : Int) (hf : Fit l) (hy : 0 ≤ y ∧ y ≤ 3000) (he : 1 ≤ e) : Big (fun k => spec_roIn.f k l y e) (jub l y e) := by
  unfold spec_roIn.f
  exact roIn_l l y e hf hy he l 0 [] rfl (Nat.le_refl _) (Nat.zero_le _)
theorem jubilees_l (l : List Int) (y e : Int) (hf : Fit l) (hy : 0 ≤ y ∧ y ≤ 3000) (he : 1 ≤ e) (t : List Int) : ∀ (i : Nat) (acc : List Int), l.drop i = t → acc.length ≤ i → i ≤ l.length → Big (fun k => impl_jubilees.l0 k y e acc l (l.length : Int) i) (acc ++ jubF y e i t) := by
  induction t with
  | nil =>
    intro i acc hd ha hi
    have hle := drop_nil_le hd
    refine Big.succ ?_
    simp only [impl_jubilees.l0, if_neg (show ¬ (i : Int) < (l.length : Int) by omega)]
    simp only [jubF, List.append_nil]
    exact Big.some_ _
  | cons b t ih =>
    intro i acc hd ha hi
    obtain ⟨h1, h2, h3⟩ := rd_cons_drop hd
    have hbm : 0 ≤ b ∧ b ≤ 2900 := hf.2 b (List.mem_of_mem_drop (i := i) (by rw [hd]; exact List.mem_cons_self))
    have hl := hf.1
    refine Big.succ ?_
    simp only [impl_jubilees.l0]
    simp only [h1, if_pos (show (i : Int) < (l.length : Int) by omega), if_pos (show 0 ≤ (i : Int) by omega), v_ageIn b y hbm hy, v_isRound _ e he, Option.bind_some, if_pos (show acc.length < 17592186044416 by omega)]
    rw [w64n (by omega)]
    unfold jubF
    cases h4 : inR (y - b) 0 120 with
    | true =>
      simp only [if_true, Bool.true_and]
      cases h5 : rnd (y - b) e with
      | true =>
        simp only [if_true]
        rw [← List.append_assoc]
        exact ih (i + 1) (acc ++ [(i : Int)]) h3 (by simp; omega) (by omega)
      | false =>
        simp only [Bool.false_eq_true, if_false, List.nil_append]
        exact ih (i + 1) acc h3 (by omega) (by omega)
    | false =>
      simp only [Bool.false_eq_true, if_false, Bool.false_and, List.nil_append]
      exact ih (i + 1) acc h3 (by omega) (by omega)
theorem jubilees_at (l : List Int) (y e : Int) (hf : Fit l) (hy : 0 ≤ y ∧ y ≤ 3000) (he : 1 ≤ e) : Big (fun k => impl_jubilees.f k l y e) (jub l y e) := by
  unfold impl_jubilees.f
  exact jubilees_l l y e hf hy he l 0 [] rfl (Nat.le_refl _) (Nat.zero_le _)

end Go.Proofs.Ytkpoidakicgfbaa.Q
set_option linter.all false
namespace Go.Proofs.Ytkpoidakicgfbaa.Q
open Go.RowKit Go Go.Proofs.Ytkpoidakicgfbaa.Eng Go.Proofs.Ytkpoidakicgfbaa.C

theorem roAll_at (l : List Int) (f t e : Int) (hl : l.length ≤ 1048576) : Big (fun k => spec_roAll.f k l f t e) (born l && span f t && inR e 1 100) := by
  unfold spec_roAll.f
  refine Big.bind (roBorn_at l hl) ?_
  simp only [v_roSpan, v_roEvery, Option.bind_some]
  refine Big.of ?_
  cases born l <;> cases span f t <;> simp
end Go.Proofs.Ytkpoidakicgfbaa.Q
set_option linter.all false
namespace Go.Proofs.Ytkpoidakicgfbaa.Q
open Go.RowKit Go Go.Proofs.Ytkpoidakicgfbaa.Eng Go.Proofs.Ytkpoidakicgfbaa.C

theorem roYear_at (l : List Int) (y : Int) (hl : l.length ≤ 1048576) : Big (fun k => spec_roYear.f k l y) (born l && inR y 0 3000) := by
  unfold spec_roYear.f
  refine Big.bind (roBorn_at l hl) ?_
  simp only [v_l1In, Option.bind_some]
  cases born l with
  | true => simp only [if_true, Bool.true_and]; exact Big.some_ _
  | false => simp only [Bool.false_eq_true, if_false, Bool.false_and]; exact Big.some_ _
end Go.Proofs.Ytkpoidakicgfbaa.Q
set_option linter.all false
namespace Go.Proofs.Ytkpoidakicgfbaa.Q
open Go.RowKit Go Go.Proofs.Ytkpoidakicgfbaa.Eng Go.Proofs.Ytkpoidakicgfbaa.C

/-- n years from y on that have jubilees, each with its people. -/
def calF (l : List Int) (e : Int) : Nat → Int → List (List Int)
  | 0, _ => []
  | n + 1, y => (if ((jub l y e).length : Int) > 0 then [y :: jub l y e] else []) ++ calF l e n (y + 1)
theorem calF_length (l : List Int) (e : Int) (n : Nat) : ∀ y, (calF l e n y).length ≤ n := by
  induction n with
  | zero => intro y; simp [calF]
  | succ n ih =>
    intro y
    have := ih (y + 1)
    unfold calF
    rw [List.length_append]
    split <;> simp <;> omega
theorem rd1_cons_drop {l t : List (List Int)} {a : List Int} {i : Nat} (h : l.drop i = a :: t) : rde l (i : Int) = a ∧ i < l.length ∧ l.drop (i + 1) = t := by
  have hi : i < l.length := by
    rcases Nat.lt_or_ge i l.length with h1 | h1
    · exact h1
    · rw [List.drop_eq_nil_of_le h1] at h
      cases h
  rw [List.drop_eq_getElem_cons hi] at h
  injection h with h1 h2
  exact ⟨by unfold rde; rw [Int.toNat_natCast, List.getD_eq_getElem?_getD, List.getElem?_eq_getElem hi]; exact h1, hi, h2⟩
theorem cal_l (l : List Int) (z e : Int) (hf : Fit l) (hz : z ≤ 3000) (he : 1 ≤ e) (n : Nat) : ∀ (y : Int) (acc : List (List Int)), 0 ≤ y → z + 1 - y = (n : Int) → acc.length + n ≤ 4000 → Big (fun k => impl_calendar.l0 k l z e acc y) (acc ++ calF l e n y, true) := by
  induction n with
  | zero =>
    intro y acc h0 hn hl
    refine Big.succ ?_
    simp only [impl_calendar.l0, if_neg (show ¬ y ≤ z by omega), calF, List.append_nil]
    exact Big.some_ _
  | succ n ih =>
    intro y acc h0 hn hl
    refine Big.succ ?_
    simp only [impl_calendar.l0, if_pos (show y ≤ z by omega)]
    rw [w64 (i := y + 1) (by omega) (by omega)]
    refine Big.bind (jubilees_at l y e hf (by omega) he) ?_
    have hj := jub_length l y e
    have hl10 := hf.1
    unfold calF
    by_cases h : ((jub l y e).length : Int) > 0
    · simp only [if_pos h, Option.bind_some, if_pos (show ([y] : List Int).length + (jub l y e).length < 17592186044416 by simp; omega), if_pos (show acc.length < 5864062014805 by omega)]
      rw [← List.append_assoc]
      exact ih (y + 1) (acc ++ [y :: jub l y e]) (by omega) (by omega) (by simp; omega)
    · simp only [if_neg h, List.nil_append]
      exact ih (y + 1) acc (by omega) (by omega) (by omega)
theorem calendar_at (l : List Int) (f t e : Int) : Big (fun k => impl_calendar.f k l f t e) (if (born l && span f t && inR e 1 100) = true then (calF l e (t + 1 - f).toNat f, true) else ([], false)) := by
  have n2 : Big (fun k => impl_calendar.j0 k l f t e true) ([], false) := Big.succ (by simp only [impl_calendar.j0, if_true]; exact Big.some_ _)
  unfold impl_calendar.f
  simp only [v_AreBirths, v_isSpan, v_isEvery, Option.bind_some]
  cases h1 : born l with
  | false => simpa only [Bool.false_and, Bool.false_eq_true, if_false] using n2
  | true =>
    cases h2 : span f t with
    | false => simpa only [Bool.and_false, Bool.false_and, Bool.false_eq_true, if_false, if_true] using n2
    | true =>
      cases h3 : inR e 1 100 with
      | false => simpa only [Bool.and_false, Bool.false_eq_true, if_false, if_true, Bool.not_false] using n2
      | true =>
        have hf := fit_of_born h1
        have hs := span_iff.mp h2
        have he := (inR_iff.mp h3).1
        simp only [Bool.and_true, if_true, Bool.not_true]
        refine Big.succ ?_
        simp only [impl_calendar.j0, Bool.false_eq_true, if_false]
        exact cal_l l t e hf (by omega) he _ f [] (by omega) (by omega) (by simp; omega)
end Go.Proofs.Ytkpoidakicgfbaa.Q
set_option linter.all false
namespace Go.Proofs.Ytkpoidakicgfbaa.Q
open Go.RowKit Go Go.Proofs.Ytkpoidakicgfbaa.Eng Go.Proofs.Ytkpoidakicgfbaa.C

theorem sCal_l (l : List Int) (z e : Int) (hf : Fit l) (hz : z ≤ 3000) (he : 1 ≤ e) (n : Nat) : ∀ (y : Int) (acc : List (List Int)), 0 ≤ y → z + 1 - y = (n : Int) → acc.length + n ≤ 4000 → Big (fun k => spec_CalendarOf.l0 k l z e acc y) (acc ++ calF l e n y, true) := by
  induction n with
  | zero =>
    intro y acc h0 hn hl
    refine Big.succ ?_
    simp only [spec_CalendarOf.l0, if_neg (show ¬ y ≤ z by omega), calF, List.append_nil]
    exact Big.some_ _
  | succ n ih =>
    intro y acc h0 hn hl
    refine Big.succ ?_
    simp only [spec_CalendarOf.l0, if_pos (show y ≤ z by omega)]
    rw [w64 (i := y + 1) (by omega) (by omega)]
    refine Big.bind (roIn_at l y e hf (by omega) he) ?_
    have hj := jub_length l y e
    have hl10 := hf.1
    unfold calF
    by_cases h : ((jub l y e).length : Int) > 0
    · simp only [if_pos h, Option.bind_some, if_pos (show ([y] : List Int).length + (jub l y e).length < 17592186044416 by simp; omega), if_pos (show acc.length < 5864062014805 by omega)]
      rw [← List.append_assoc]
      exact ih (y + 1) (acc ++ [y :: jub l y e]) (by omega) (by omega) (by simp; omega)
    · simp only [if_neg h, List.nil_append]
      exact ih (y + 1) acc (by omega) (by omega) (by omega)
theorem calF_rows (l : List Int) (e : Int) (hl : l.length ≤ 10) (n : Nat) : ∀ y, ∀ x ∈ calF l e n y, x.length ≤ 1000 := by
  induction n with
  | zero => intro y x hx; simp [calF] at hx
  | succ n ih =>
    intro y x hx
    unfold calF at hx
    rcases List.mem_append.mp hx with h | h
    · split at h
      · have h1 : x = y :: jub l y e := by simpa using h
        have := jub_length l y e
        rw [h1, List.length_cons]
        omega
      · cases h
    · exact ih (y + 1) x h
theorem CalendarOf_both (l : List Int) (f t e : Int) (hl : l.length ≤ 1048576) : ∃ R : List (List Int) × Bool, R.1.length ≤ 1000000 ∧ (∀ x ∈ R.1, x.length ≤ 1000) ∧ Big (fun k => spec_CalendarOf.f k l f t e) R ∧ Big (fun k => impl_CalendarOf.f k l f t e) R := by
  have hA := roAll_at l f t e hl
  have hc := calendar_at l f t e
  unfold spec_CalendarOf.f impl_CalendarOf.f
  cases h : (born l && span f t && inR e 1 100)
  · rw [h] at hA hc
    simp only [Bool.false_eq_true, if_false] at hc
    exact ⟨([], false), by simp, by simp, Big.bind hA (by simp only [Bool.false_eq_true, if_false]; exact Big.some_ _), Big.bind hc (Big.some_ _)⟩
  · rw [h] at hA hc
    simp only [if_true] at hc
    rw [Bool.and_eq_true, Bool.and_eq_true] at h
    have hf := fit_of_born h.1.1
    have hs := span_iff.mp h.1.2
    have he := (inR_iff.mp h.2).1
    have h1 := calF_length l e (t + 1 - f).toNat f
    refine ⟨(calF l e (t + 1 - f).toNat f, true), by simp only; omega, calF_rows l e hf.1 _ f, Big.bind hA ?_, Big.bind hc (Big.some_ _)⟩
    simp only [if_true]
    exact sCal_l l t e hf (by omega) he _ f [] (by omega) (by omega) (by simp; omega)
end Go.Proofs.Ytkpoidakicgfbaa.Q
set_option linter.all false
namespace Go.Proofs.Ytkpoidakicgfbaa.Q
open Go.RowKit Go Go.Proofs.Ytkpoidakicgfbaa.Eng Go.Proofs.Ytkpoidakicgfbaa.C
set_option linter.unusedSimpArgs false
set_option linter.unusedVariables false

/-- n years from y on that are so. -/
def yrsA (p : Int → Bool) : Nat → Int → List Int
  | 0, _ => []
  | n + 1, y => (if p y then [y] else []) ++ yrsA p n (y + 1)
theorem sAnn_l (s z e : Int) (hs : 0 ≤ s ∧ s ≤ 3000) (ht : z ≤ 3000) (he : 1 ≤ e) (n : Nat) : ∀ (y : Int) (acc : List Int), 0 ≤ y → z + 1 - y = (n : Int) → acc.length + n ≤ 4000 → Big (fun k => spec_Anniversaries.l0 k s z e acc y) (acc ++ yrsA (fun y => rnd (y - s) e) n y, true) := by
  induction n with
  | zero =>
    intro y acc h0 hn hl
    refine Big.succ ?_
    simp only [spec_Anniversaries.l0, if_neg (show ¬ y ≤ z by omega)]
    simp only [yrsA, List.append_nil]
    exact Big.some_ _
  | succ n ih =>
    intro y acc h0 hn hl
    refine Big.succ ?_
    simp only [spec_Anniversaries.l0]
    rw [w64 (i := y - s) (by omega) (by omega), w64 (i := y + 1) (by omega) (by omega)]
    simp only [if_pos (show y ≤ z by omega), v_roRound _ e he, Option.bind_some, if_pos (show acc.length < 17592186044416 by omega)]
    unfold yrsA
    cases h5 : rnd (y - s) e with
    | true =>
      simp only [if_true]
      rw [← List.append_assoc]
      exact ih (y + 1) (acc ++ [y]) (by omega) (by omega) (by simp; omega)
    | false =>
      simp only [Bool.false_eq_true, if_false, List.nil_append]
      exact ih (y + 1) acc (by omega) (by omega) (by omega)
theorem iAnn_l (s z e : Int) (hs : 0 ≤ s ∧ s ≤ 3000) (ht : z ≤ 3000) (he : 1 ≤ e) (n : Nat) : ∀ (y : Int) (acc : List Int), 0 ≤ y → z + 1 - y = (n : Int) → acc.length + n ≤ 4000 → Big (fun k => impl_Anniversaries.l0 k s z e acc y) (acc ++ yrsA (fun y => rnd (y - s) e) n y, true) := by
  induction n with
  | zero =>
    intro y acc h0 hn hl
    refine Big.succ ?_
    simp only [impl_Anniversaries.l0, if_neg (show ¬ y ≤ z by omega)]
    simp only [yrsA, List.append_nil]
    exact Big.some_ _
  | succ n ih =>
    intro y acc h0 hn hl
    refine Big.succ ?_
    simp only [impl_Anniversaries.l0]
    rw [w64 (i := y - s) (by omega) (by omega), w64 (i := y + 1) (by omega) (by omega)]
    simp only [if_pos (show y ≤ z by omega), v_isRound _ e he, Option.bind_some, if_pos (show acc.length < 17592186044416 by omega)]
    unfold yrsA
    cases h5 : rnd (y - s) e with
    | true =>
      simp only [if_true]
      rw [← List.append_assoc]
      exact ih (y + 1) (acc ++ [y]) (by omega) (by omega) (by simp; omega)
    | false =>
      simp only [Bool.false_eq_true, if_false, List.nil_append]
      exact ih (y + 1) acc (by omega) (by omega) (by omega)
theorem yrsA_length (p : Int → Bool) (n : Nat) : ∀ y, (yrsA p n y).length ≤ n := by
  induction n with
  | zero => intro y; simp [yrsA]
  | succ n ih =>
    intro y
    have := ih (y + 1)
    unfold yrsA
    rw [List.length_append]
    split <;> simp <;> omega
theorem AreBirths_at (l : List Int) (hl : l.length ≤ 1048576) : Big (fun k => spec_AreBirths.f k l) (born l) := by
  unfold spec_AreBirths.f
  exact Big.bind (roBorn_at l hl) (Big.some_ _)
/-- The first of n years from y on with a jubilee. -/
def nextF (l : List Int) (e : Int) : Nat → Int → Int × Bool
  | 0, _ => (0, false)
  | n + 1, y => if ((jub l y e).length : Int) > 0 then (y, true) else nextF l e n (y + 1)
theorem sNext_l (l : List Int) (e : Int) (hf : Fit l) (he : 1 ≤ e) (n : Nat) : ∀ y : Int, 0 ≤ y → 3001 - y = (n : Int) → Big (fun k => spec_NextJubilee.l0 k l e y) (nextF l e n y) := by
  induction n with
  | zero =>
    intro y h0 hn
    refine Big.succ ?_
    simp only [spec_NextJubilee.l0, if_neg (show ¬ y ≤ 3000 by omega)]
    exact Big.some_ _
  | succ n ih =>
    intro y h0 hn
    refine Big.succ ?_
    simp only [spec_NextJubilee.l0, if_pos (show y ≤ 3000 by omega)]
    rw [w64 (by omega) (by omega)]
    refine Big.bind (roIn_at l y e hf (by omega) he) ?_
    unfold nextF
    by_cases h : ((jub l y e).length : Int) > 0
    · simp only [if_pos h]
      exact Big.some_ _
    · simp only [if_neg h]
      exact ih (y + 1) (by omega) (by omega)
theorem iNext_l (l : List Int) (e : Int) (hf : Fit l) (he : 1 ≤ e) (n : Nat) : ∀ y : Int, 0 ≤ y → 3001 - y = (n : Int) → Big (fun k => impl_NextJubilee.l0 k l e y) (nextF l e n y) := by
  induction n with
  | zero =>
    intro y h0 hn
    refine Big.succ ?_
    simp only [impl_NextJubilee.l0, if_neg (show ¬ y ≤ 3000 by omega)]
    exact Big.some_ _
  | succ n ih =>
    intro y h0 hn
    refine Big.succ ?_
    simp only [impl_NextJubilee.l0, if_pos (show y ≤ 3000 by omega)]
    rw [w64 (by omega) (by omega)]
    refine Big.bind (jubilees_at l y e hf (by omega) he) ?_
    unfold nextF
    by_cases h : ((jub l y e).length : Int) > 0
    · simp only [if_pos h]
      exact Big.some_ _
    · simp only [if_neg h]
      exact ih (y + 1) (by omega) (by omega)
/-- n years from y on that are so. -/
def yrs (p : Int → Bool) : Nat → Int → List Int
  | 0, _ => []
  | n + 1, y => (if p y then [y] else []) ++ yrs p n (y + 1)
theorem yrs_length (p : Int → Bool) (n : Nat) : ∀ y, (yrs p n y).length ≤ n := by
  induction n with
  | zero => intro y; simp [yrs]
  | succ n ih =>
    intro y
    have := ih (y + 1)
    unfold yrs
    rw [List.length_append]
    split <;> simp <;> omega
theorem yrs_add (p : Int → Bool) (m n : Nat) : ∀ y, yrs p (m + n) y = yrs p m y ++ yrs p n (y + (m : Int)) := by
  induction m with
  | zero => intro y; simp [yrs]
  | succ m ih =>
    intro y
    rw [Nat.succ_add]
    simp only [yrs]
    rw [ih, List.append_assoc, show y + 1 + (m : Int) = y + ((m + 1 : Nat) : Int) by omega]
theorem yrs_none (p : Int → Bool) (n : Nat) : ∀ y, (∀ z, y ≤ z → z < y + (n : Int) → p z = false) → yrs p n y = [] := by
  induction n with
  | zero => intro y _; simp [yrs]
  | succ n ih =>
    intro y h
    unfold yrs
    rw [h y (by omega) (by omega), ih (y + 1) (fun z h1 h2 => h z (by omega) (by omega))]
    rfl
/-- Everybody has a jubilee. -/
def allJ (l : List Int) (e y : Int) : Bool := ((jub l y e).length : Int) == (l.length : Int)
theorem allJ_head (b : Int) (t : List Int) (e y : Int) (h : allJ (b :: t) e y = true) : b < y ∧ y ≤ b + 120 := by
  unfold allJ jub jubF at h
  have h1 := jubF_length y e t (0 + 1)
  cases hc : (inR (y - b) 0 120 && rnd (y - b) e) with
  | false =>
    rw [hc] at h
    simp only [Bool.false_eq_true, if_false, List.nil_append, List.length_cons, beq_iff_eq] at h
    omega
  | true =>
    rw [Bool.and_eq_true, inR_iff] at hc
    unfold rnd at hc
    simp at hc
    omega
theorem sTog_l (l : List Int) (b0 e : Int) (hb : rde l 0 = b0) (hn0 : 0 < l.length) (hf : Fit l) (he : 1 ≤ e) (hb0 : 0 ≤ b0 ∧ b0 ≤ 2900) (n : Nat) : ∀ (y : Int) (acc : List Int), 0 ≤ y → (min (b0 + 120) 3000) + 1 - y = (n : Int) → acc.length + n ≤ 4000 → Big (fun k => spec_TogetherJubilees.l0 k l e acc y) (acc ++ yrs (allJ l e) n y, true) := by
  have hp : (0 : Int) < (l.length : Int) := by omega
  have hw : IntKind.i64.wrap (b0 + 120) = b0 + 120 := w64 (by omega) (by omega)
  induction n with
  | zero =>
    intro y acc h0 hn hl
    refine Big.succ ?_
    simp only [spec_TogetherJubilees.l0, if_pos hp, hb, hw]
    have hfin : Big (fun k => spec_TogetherJubilees.j1 k l e acc y false) (acc ++ yrs (allJ l e) 0 y, true) := Big.succ (by simp only [spec_TogetherJubilees.j1, Bool.false_eq_true, if_false, yrs, List.append_nil]; exact Big.some_ _)
    by_cases h : y ≤ b0 + 120
    · simp only [if_pos h, decide_eq_false (show ¬ y ≤ 3000 by omega)]
      exact hfin
    · simp only [if_neg h]
      exact hfin
  | succ n ih =>
    intro y acc h0 hn hl
    refine Big.succ ?_
    simp only [spec_TogetherJubilees.l0, if_pos hp, hb, hw, if_pos (show y ≤ b0 + 120 by omega), decide_eq_true (show y ≤ 3000 by omega)]
    refine Big.succ ?_
    simp only [spec_TogetherJubilees.j1, if_true]
    rw [w64 (i := y + 1) (by omega) (by omega)]
    refine Big.bind (roIn_at l y e hf (by omega) he) ?_
    unfold yrs
    by_cases h : ((jub l y e).length : Int) = (l.length : Int)
    · have h2 : allJ l e y = true := by unfold allJ; rw [h]; simp
      simp only [if_pos h, if_pos (show acc.length < 17592186044416 by omega), h2, if_true]
      rw [← List.append_assoc]
      exact ih (y + 1) (acc ++ [y]) (by omega) (by omega) (by simp; omega)
    · have h2 : allJ l e y = false := by unfold allJ; simpa using h
      simp only [if_neg h, h2, Bool.false_eq_true, if_false, List.nil_append]
      exact ih (y + 1) acc (by omega) (by omega) (by omega)
theorem iTog_l (l : List Int) (e : Int) (hf : Fit l) (he : 1 ≤ e) (n : Nat) : ∀ (y : Int) (acc : List Int), 0 ≤ y → 3001 - y = (n : Int) → acc.length + n ≤ 4000 → Big (fun k => impl_TogetherJubilees.l0 k l e acc y) (acc ++ yrs (allJ l e) n y, true) := by
  induction n with
  | zero =>
    intro y acc h0 hn hl
    refine Big.succ ?_
    simp only [impl_TogetherJubilees.l0, if_neg (show ¬ y < 3001 by omega), yrs, List.append_nil]
    exact Big.some_ _
  | succ n ih =>
    intro y acc h0 hn hl
    refine Big.succ ?_
    simp only [impl_TogetherJubilees.l0, if_pos (show y < 3001 by omega)]
    rw [w64 (i := y + 1) (by omega) (by omega)]
    refine Big.bind (jubilees_at l y e hf (by omega) he) ?_
    unfold yrs
    by_cases h : ((jub l y e).length : Int) = (l.length : Int)
    · have h2 : allJ l e y = true := by unfold allJ; rw [h]; simp
      simp only [if_pos h, if_pos (show acc.length < 17592186044416 by omega), h2, if_true]
      rw [← List.append_assoc]
      exact ih (y + 1) (acc ++ [y]) (by omega) (by omega) (by simp; omega)
    · have h2 : allJ l e y = false := by unfold allJ; simpa using h
      simp only [if_neg h, h2, Bool.false_eq_true, if_false, List.nil_append]
      exact ih (y + 1) acc (by omega) (by omega) (by omega)
/-- How many jubilees n years from y on have. -/
def cntF (l : List Int) (e : Int) : Nat → Int → Int
  | 0, _ => 0
  | n + 1, y => ((jub l y e).length : Int) + cntF l e n (y + 1)
def cntR : List (List Int) → Int
  | [] => 0
  | r :: t => ((r.length : Int) - 1) + cntR t
theorem cntR_append (a b : List (List Int)) : cntR (a ++ b) = cntR a + cntR b := by
  induction a with
  | nil => simp [cntR]
  | cons r t ih => simp only [List.cons_append, cntR, ih]; omega
theorem cntF_le (l : List Int) (e : Int) (hf : Fit l) (n : Nat) : ∀ y, 0 ≤ cntF l e n y ∧ cntF l e n y ≤ 10 * (n : Int) := by
  induction n with
  | zero => intro y; simp [cntF]
  | succ n ih =>
    intro y
    have := ih (y + 1)
    have h1 := jub_length l y e
    have h2 := hf.1
    unfold cntF
    omega
theorem cnt_eq (l : List Int) (e : Int) (n : Nat) : ∀ y, cntR (calF l e n y) = cntF l e n y := by
  induction n with
  | zero => intro y; rfl
  | succ n ih =>
    intro y
    unfold calF cntF
    rw [cntR_append, ih]
    split
    · simp only [cntR, List.length_cons]; omega
    · simp only [cntR]; omega
theorem sCnt_l (l : List Int) (z e : Int) (hf : Fit l) (hz : z ≤ 3000) (he : 1 ≤ e) (n : Nat) : ∀ (y acc : Int), 0 ≤ y → z + 1 - y = (n : Int) → 0 ≤ acc → acc + 10 * (n : Int) ≤ 100000 → Big (fun k => spec_CountJubilees.l0 k l z e acc y) (acc + cntF l e n y, true) := by
  induction n with
  | zero =>
    intro y acc h0 hn ha hl
    refine Big.succ ?_
    simp only [spec_CountJubilees.l0, if_neg (show ¬ y ≤ z by omega), cntF, Int.add_zero]
    exact Big.some_ _
  | succ n ih =>
    intro y acc h0 hn ha hl
    refine Big.succ ?_
    simp only [spec_CountJubilees.l0, if_pos (show y ≤ z by omega)]
    rw [w64 (i := y + 1) (by omega) (by omega)]
    refine Big.bind (roIn_at l y e hf (by omega) he) ?_
    have hj := jub_length l y e
    have hl10 := hf.1
    rw [w64 (by omega) (by omega)]
    unfold cntF
    rw [← Int.add_assoc]
    exact ih (y + 1) _ (by omega) (by omega) (by omega) (by omega)
theorem iCnt_l (rs : List (List Int)) (ok : Bool) (hr : ∀ r ∈ rs, 1 ≤ r.length ∧ r.length ≤ 20) (hn : rs.length ≤ 4000) (t : List (List Int)) : ∀ (i : Nat) (acc : Int), rs.drop i = t → 0 ≤ acc → acc ≤ 20 * (i : Int) → i ≤ rs.length → Big (fun k => impl_CountJubilees.l0 k ok acc rs (rs.length : Int) i) (acc + cntR t, ok) := by
  induction t with
  | nil =>
    intro i acc hd h0 ha hi
    rw [List.drop_eq_nil_iff] at hd
    refine Big.succ ?_
    simp only [impl_CountJubilees.l0, if_neg (show ¬ (i : Int) < (rs.length : Int) by omega), cntR, Int.add_zero]
    exact Big.some_ _
  | cons r t ih =>
    intro i acc hd h0 ha hi
    obtain ⟨h1, h2, h3⟩ := rd1_cons_drop hd
    have hrm := hr r (List.mem_of_mem_drop (i := i) (by rw [hd]; exact List.mem_cons_self))
    refine Big.succ ?_
    simp only [impl_CountJubilees.l0, h1, if_pos (show (i : Int) < (rs.length : Int) by omega), if_pos (show 0 ≤ (i : Int) by omega)]
    rw [w64n (by omega), w64 (i := (r.length : Int) - 1) (by omega) (by omega), w64 (by omega) (by omega)]
    unfold cntR
    rw [← Int.add_assoc]
    exact ih (i + 1) _ h3 (by omega) (by omega) (by omega)
theorem calF_rows2 (l : List Int) (e : Int) (hf : Fit l) (n : Nat) : ∀ y, ∀ r ∈ calF l e n y, 1 ≤ r.length ∧ r.length ≤ 20 := by
  induction n with
  | zero => intro y r hr; cases hr
  | succ n ih =>
    intro y r hr
    unfold calF at hr
    rw [List.mem_append] at hr
    rcases hr with hr | hr
    · split at hr
      · simp only [List.mem_singleton] at hr
        subst hr
        have hj := jub_length l y e
        have hl10 := hf.1
        simp only [List.length_cons]
        omega
      · cases hr
    · exact ih (y + 1) r hr
/-- The year with the most jubilees, of lines. -/
def mostR : List (List Int) → Int → Int → Int × Int
  | [], a, m => (a, m)
  | r :: t, a, m => if (r.length : Int) - 1 > m then mostR t (r.headD 0) ((r.length : Int) - 1) else mostR t a m
theorem mostR_append (a : List (List Int)) (b : List (List Int)) : ∀ x m, mostR (a ++ b) x m = mostR b (mostR a x m).1 (mostR a x m).2 := by
  induction a with
  | nil => intro x m; rfl
  | cons r t ih =>
    intro x m
    simp only [List.cons_append, mostR]
    split <;> exact ih _ _
theorem sMost_l (l : List Int) (z e : Int) (hf : Fit l) (hz : z ≤ 3000) (he : 1 ≤ e) (n : Nat) : ∀ (y a m : Int), 0 ≤ y → z + 1 - y = (n : Int) → 0 ≤ m → Big (fun k => spec_MostJubilees.l0 k l z e a m y) ((mostR (calF l e n y) a m).1, (mostR (calF l e n y) a m).2, true) := by
  induction n with
  | zero =>
    intro y a m h0 hn hm
    refine Big.succ ?_
    simp only [spec_MostJubilees.l0, if_neg (show ¬ y ≤ z by omega), calF, mostR]
    exact Big.some_ _
  | succ n ih =>
    intro y a m h0 hn hm
    refine Big.succ ?_
    simp only [spec_MostJubilees.l0, if_pos (show y ≤ z by omega)]
    rw [w64 (i := y + 1) (by omega) (by omega)]
    refine Big.bind (roIn_at l y e hf (by omega) he) ?_
    unfold calF
    rw [mostR_append]
    by_cases h : ((jub l y e).length : Int) > m
    · simp only [if_pos h, if_pos (show ((jub l y e).length : Int) > 0 by omega), mostR, List.length_cons, if_pos (show (((jub l y e).length + 1 : Nat) : Int) - 1 > m by omega), List.headD_cons]
      rw [show (((jub l y e).length + 1 : Nat) : Int) - 1 = ((jub l y e).length : Int) by omega]
      exact ih (y + 1) _ _ (by omega) (by omega) (by omega)
    · simp only [if_neg h]
      by_cases h2 : ((jub l y e).length : Int) > 0
      · simp only [if_pos h2, mostR, List.length_cons, if_neg (show ¬ (((jub l y e).length + 1 : Nat) : Int) - 1 > m by omega)]
        exact ih (y + 1) _ _ (by omega) (by omega) hm
      · simp only [if_neg h2, mostR]
        exact ih (y + 1) _ _ (by omega) (by omega) hm
theorem iMost_l (rs : List (List Int)) (hr : ∀ r ∈ rs, 1 ≤ r.length ∧ r.length ≤ 20) (hn : rs.length ≤ 4000) (t : List (List Int)) : ∀ (i : Nat) (a m : Int), rs.drop i = t → i ≤ rs.length → Big (fun k => impl_MostJubilees.l0 k a m rs (rs.length : Int) i) ((mostR t a m).1, (mostR t a m).2, true) := by
  induction t with
  | nil =>
    intro i a m hd hi
    rw [List.drop_eq_nil_iff] at hd
    refine Big.succ ?_
    simp only [impl_MostJubilees.l0, if_neg (show ¬ (i : Int) < (rs.length : Int) by omega), mostR]
    exact Big.some_ _
  | cons r t ih =>
    intro i a m hd hi
    obtain ⟨h1, h2, h3⟩ := rd1_cons_drop hd
    have hrm := hr r (List.mem_of_mem_drop (i := i) (by rw [hd]; exact List.mem_cons_self))
    refine Big.succ ?_
    simp only [impl_MostJubilees.l0, h1, if_pos (show (i : Int) < (rs.length : Int) by omega), if_pos (show 0 ≤ (i : Int) by omega)]
    rw [w64n (by omega), w64 (i := (r.length : Int) - 1) (by omega) (by omega)]
    unfold mostR
    by_cases h : (r.length : Int) - 1 > m
    · simp only [if_pos h, if_pos (show (0 : Int) < (r.length : Int) by omega)]
      have hd0 : rde r 0 = r.headD 0 := by cases r <;> rfl
      rw [hd0]
      exact ih (i + 1) _ _ h3 (by omega)
    · simp only [if_neg h]
      exact ih (i + 1) _ _ h3 (by omega)
/-- The longest part without a jubilee, of lines that begin with their years. -/
def quiR : List (List Int) → Int → Int → Int → Int × Int
  | [], b, m, _ => (b, m)
  | r :: t, b, m, x => if r.headD 0 - x > m then quiR t x (r.headD 0 - x) (r.headD 0 + 1) else quiR t b m (r.headD 0 + 1)
theorem iQui_l (rs : List (List Int)) (hr : ∀ r ∈ rs, 1 ≤ r.length ∧ 0 ≤ r.headD 0 ∧ r.headD 0 ≤ 4000) (hn : rs.length ≤ 4000) (t : List (List Int)) : ∀ (i : Nat) (b m x : Int), rs.drop i = t → i ≤ rs.length → 0 ≤ x ∧ x ≤ 4001 → Big (fun k => impl_LongestQuiet.l0 k b m x rs (rs.length : Int) i) ((quiR t b m x).1, (quiR t b m x).2, decide ((quiR t b m x).2 > 0)) := by
  induction t with
  | nil =>
    intro i b m x hd hi hx
    rw [List.drop_eq_nil_iff] at hd
    refine Big.succ ?_
    simp only [impl_LongestQuiet.l0, if_neg (show ¬ (i : Int) < (rs.length : Int) by omega), quiR]
    exact Big.some_ _
  | cons r t ih =>
    intro i b m x hd hi hx
    obtain ⟨h1, h2, h3⟩ := rd1_cons_drop hd
    have hrm := hr r (List.mem_of_mem_drop (i := i) (by rw [hd]; exact List.mem_cons_self))
    have hd0 : rde r 0 = r.headD 0 := by cases r <;> rfl
    refine Big.succ ?_
    simp only [impl_LongestQuiet.l0, h1, hd0, if_pos (show (i : Int) < (rs.length : Int) by omega), if_pos (show 0 ≤ (i : Int) by omega), if_pos (show (0 : Int) < (r.length : Int) by omega)]
    rw [w64n (by omega), w64 (i := r.headD 0 - x) (by omega) (by omega), w64 (i := r.headD 0 + 1) (by omega) (by omega)]
    unfold quiR
    by_cases h : r.headD 0 - x > m
    · simp only [if_pos h]
      exact ih (i + 1) _ _ _ h3 (by omega) (by omega)
    · simp only [if_neg h]
      exact ih (i + 1) _ _ _ h3 (by omega) (by omega)
/-- What the reference holds: with a part that isn't over yet. -/
def quiS (b m x y : Int) : Int × Int := if y - x > m then (x, y - x) else (b, m)
def quiE (p : Int × Int) : Int × Int × Bool := if p.2 = 0 then (0, 0, false) else (p.1, p.2, true)
theorem sQui_l (l : List Int) (z e : Int) (hf : Fit l) (hz : z ≤ 3000) (he : 1 ≤ e) (n : Nat) : ∀ (y b m x : Int), 0 ≤ x → x ≤ y → 0 ≤ m → m ≤ 4000 → z + 1 - y = (n : Int) →
    Big (fun k => spec_LongestQuiet.l0 k l z e (quiS b m x y).1 (quiS b m x y).2 (y - x) y) (quiE (quiR (calF l e n y ++ [[z + 1]]) b m x)) := by
  induction n with
  | zero =>
    intro y b m x hx hxy hm hm2 hn
    refine Big.succ ?_
    simp only [spec_LongestQuiet.l0, if_neg (show ¬ y ≤ z by omega)]
    have hy : y = z + 1 := by omega
    subst hy
    have q2 : quiR (calF l e 0 (z + 1) ++ [[z + 1]]) b m x = quiS b m x (z + 1) := by
      unfold calF
      rw [List.nil_append]
      unfold quiR quiS
      rw [List.headD_cons]
      split <;> rfl
    rw [q2]
    unfold quiE
    exact Big.of (by split <;> rfl)
  | succ n ih =>
    intro y b m x hx hxy hm hm2 hn
    refine Big.succ ?_
    simp only [spec_LongestQuiet.l0, if_pos (show y ≤ z by omega)]
    rw [w64 (i := y + 1) (by omega) (by omega), w64 (i := y - x + 1) (by omega) (by omega), w64 (i := y - (y - x + 1)) (by omega) (by omega), w64 (i := y - (y - x + 1) + 1) (by omega) (by omega)]
    refine Big.bind (roIn_at l y e hf (by omega) he) ?_
    have hS : 0 ≤ (quiS b m x y).2 := by unfold quiS; split <;> simp only <;> omega
    by_cases h : ((jub l y e).length : Int) > 0
    · simp only [if_pos h, if_neg (show ¬ (0 : Int) > (quiS b m x y).2 by omega)]
      have hq : quiR (calF l e (n + 1) y ++ [[z + 1]]) b m x = if y - x > m then quiR (calF l e n (y + 1) ++ [[z + 1]]) x (y - x) (y + 1) else quiR (calF l e n (y + 1) ++ [[z + 1]]) b m (y + 1) := by
        conv => lhs; unfold calF
        rw [if_pos h]
        rfl
      rw [hq]
      have e1 : ∀ b' m' : Int, 0 ≤ m' → quiS b' m' (y + 1) (y + 1) = (b', m') := fun b' m' h' => by unfold quiS; rw [if_neg (by omega)]
      by_cases h2 : y - x > m
      · have e2 : quiS b m x y = (x, y - x) := by unfold quiS; rw [if_pos h2]
        simp only [if_pos h2]
        have := ih (y + 1) x (y - x) (y + 1) (by omega) (by omega) (by omega) (by omega) (by omega)
        rw [e1 _ _ (by omega), show y + 1 - (y + 1) = 0 by omega] at this
        rw [e2]
        exact this
      · have e2 : quiS b m x y = (b, m) := by unfold quiS; rw [if_neg h2]
        simp only [if_neg h2]
        have := ih (y + 1) b m (y + 1) (by omega) (by omega) (by omega) (by omega) (by omega)
        rw [e1 _ _ (by omega), show y + 1 - (y + 1) = 0 by omega] at this
        rw [e2]
        exact this
    · simp only [if_neg h]
      unfold calF
      simp only [if_neg h, List.nil_append]
      have := ih (y + 1) b m x hx (by omega) hm hm2 (by omega)
      have e1 : y - (y - x + 1) + 1 = x := by omega
      have e3 : y + 1 - x = y - x + 1 := by omega
      by_cases h2 : y - x + 1 > (quiS b m x y).2
      · simp only [if_pos h2, e1]
        have e2 : quiS b m x (y + 1) = (x, y - x + 1) := by
          unfold quiS at h2 ⊢
          by_cases h3 : y - x > m
          · rw [if_pos (by omega), e3]
          · rw [if_neg h3] at h2
            simp only at h2
            rw [if_pos (by omega), e3]
        rw [e2, e3] at this
        exact this
      · simp only [if_neg h2]
        have e2 : quiS b m x (y + 1) = quiS b m x y := by
          unfold quiS at h2 ⊢
          by_cases h3 : y - x > m
          · rw [if_pos h3] at h2
            simp only at h2
            omega
          · rw [if_neg h3] at h2 ⊢
            simp only at h2
            rw [if_neg (by omega)]
        rw [e2, e3] at this
        exact this
theorem calF_heads (l : List Int) (e : Int) (n : Nat) : ∀ y, 0 ≤ y → y + (n : Int) ≤ 4000 → ∀ r ∈ calF l e n y, 1 ≤ r.length ∧ 0 ≤ r.headD 0 ∧ r.headD 0 ≤ 4000 := by
  induction n with
  | zero => intro y _ _ r hr; cases hr
  | succ n ih =>
    intro y h0 h1 r hr
    unfold calF at hr
    rw [List.mem_append] at hr
    rcases hr with hr | hr
    · split at hr
      · simp only [List.mem_singleton] at hr
        subst hr
        simp only [List.length_cons, List.headD_cons]
        omega
      · cases hr
    · exact ih (y + 1) (by omega) (by omega) r hr
theorem quiR_nonneg (t : List (List Int)) : ∀ b m x, 0 ≤ m → 0 ≤ (quiR t b m x).2 ∧ (m = 0 ∧ b = 0 → (quiR t b m x).2 = 0 → (quiR t b m x).1 = 0) := by
  induction t with
  | nil => intro b m x h; exact ⟨h, fun h1 _ => h1.2⟩
  | cons r t ih =>
    intro b m x h
    unfold quiR
    split
    · rename_i h2
      have key : ∀ (t : List (List Int)) b m x, 0 < m → 0 < (quiR t b m x).2 := by
        intro t
        induction t with
        | nil => intro b m x h; exact h
        | cons r t ih2 =>
          intro b m x h
          unfold quiR
          split
          · exact ih2 _ _ _ (by omega)
          · exact ih2 _ _ _ h
      have := key t x (r.headD 0 - x) (r.headD 0 + 1) (by omega)
      exact ⟨by omega, fun _ h3 => by omega⟩
    · exact ih b m _ h
/-- The oldest one of some people, from one on. -/
def oldR (l : List Int) : List Int → Int → Int
  | [], b => b
  | i :: t, b => if rde l i < rde l b then oldR l t i else oldR l t b
theorem jubF_mem (y e : Int) (l : List Int) : ∀ (i : Nat) (q : Int), q ∈ jubF y e i l → (i : Int) ≤ q ∧ q < (i : Int) + (l.length : Int) ∧ 0 < y - l.getD (q - (i : Int)).toNat 0 := by
  induction l with
  | nil => intro i q h; cases h
  | cons b t ih =>
    intro i q h
    unfold jubF at h
    rw [List.mem_append] at h
    rcases h with h | h
    · cases hc : (inR (y - b) 0 120 && rnd (y - b) e) with
      | false => rw [hc] at h; cases h
      | true =>
        rw [hc] at h
        simp only [if_true, List.mem_singleton] at h
        subst h
        rw [Bool.and_eq_true] at hc
        have h2 := hc.2
        unfold rnd at h2
        simp at h2
        refine ⟨Int.le_refl _, by simp only [List.length_cons]; omega, ?_⟩
        rw [Int.sub_self]
        simp only [Int.toNat_zero, List.getD_cons_zero]
        omega
    · obtain ⟨h1, h2, h3⟩ := ih (i + 1) q h
      refine ⟨by omega, by simp only [List.length_cons]; omega, ?_⟩
      rw [show (q - (i : Int)).toNat = (q - ((i + 1 : Nat) : Int)).toNat + 1 by omega, List.getD_cons_succ]
      exact h3
theorem jub_mem (l : List Int) (y e q : Int) (h : q ∈ jub l y e) : 0 ≤ q ∧ q < (l.length : Int) ∧ 0 < y - rde l q := by
  obtain ⟨h1, h2, h3⟩ := jubF_mem y e l 0 q h
  refine ⟨by omega, by omega, ?_⟩
  rw [show q - ((0 : Nat) : Int) = q by omega] at h3
  exact h3
theorem sOld_l (l : List Int) (y : Int) (hf : Fit l) (hy : 0 ≤ y ∧ y ≤ 3000) (js : List Int) (hj : ∀ q ∈ js, 0 ≤ q ∧ q < (l.length : Int) ∧ 0 < y - rde l q) (hn : js.length ≤ 100) (t : List Int) : ∀ (i : Nat) (b : Int), js.drop i = t → i ≤ js.length → 0 ≤ b ∧ b < (l.length : Int) ∧ 0 < y - rde l b →
    Big (fun k => spec_OldestRound.l0 k l y b (y - rde l b) js (js.length : Int) i) (oldR l t b, y - rde l (oldR l t b), true) := by
  induction t with
  | nil =>
    intro i b hd hi hb
    have hle := drop_nil_le hd
    refine Big.succ ?_
    simp only [spec_OldestRound.l0, if_neg (show ¬ (i : Int) < (js.length : Int) by omega), if_neg (show ¬ y - rde l b = 0 by omega), oldR]
    exact Big.some_ _
  | cons q t ih =>
    intro i b hd hi hb
    obtain ⟨h1, h2, h3⟩ := rd_cons_drop hd
    have hq := hj q (List.mem_of_mem_drop (i := i) (by rw [hd]; exact List.mem_cons_self))
    have hqm := hf.2 _ (rd_mem' hq.1 hq.2.1)
    refine Big.succ ?_
    simp only [spec_OldestRound.l0, h1, if_pos (show (i : Int) < (js.length : Int) by omega), if_pos (show 0 ≤ (i : Int) by omega), if_pos hq.1, if_pos hq.2.1]
    rw [w64n (by omega), w64 (i := y - rde l q) (by omega) (by omega)]
    unfold oldR
    by_cases h : rde l q < rde l b
    · simp only [if_pos h, if_pos (show y - rde l q > y - rde l b by omega)]
      exact ih (i + 1) q h3 (by omega) hq
    · simp only [if_neg h, if_neg (show ¬ y - rde l q > y - rde l b by omega)]
      exact ih (i + 1) b h3 (by omega) hb
theorem iOld_l (l : List Int) (y : Int) (hf : Fit l) (hy : 0 ≤ y ∧ y ≤ 3000) (js : List Int) (hj : ∀ q ∈ js, 0 ≤ q ∧ q < (l.length : Int) ∧ 0 < y - rde l q) (hn : js.length ≤ 100) (t : List Int) : ∀ (i : Nat) (b : Int), js.drop i = t → i ≤ js.length → 0 ≤ b ∧ b < (l.length : Int) ∧ 0 < y - rde l b →
    Big (fun k => impl_OldestRound.l0 k l y b js (js.length : Int) i) (oldR l t b, y - rde l (oldR l t b), true) := by
  induction t with
  | nil =>
    intro i b hd hi hb
    have hle := drop_nil_le hd
    have hbm := hf.2 _ (rd_mem' hb.1 hb.2.1)
    refine Big.succ ?_
    simp only [impl_OldestRound.l0, if_neg (show ¬ (i : Int) < (js.length : Int) by omega), if_pos hb.1, if_pos hb.2.1, oldR]
    rw [w64 (by omega) (by omega)]
    exact Big.some_ _
  | cons q t ih =>
    intro i b hd hi hb
    obtain ⟨h1, h2, h3⟩ := rd_cons_drop hd
    have hq := hj q (List.mem_of_mem_drop (i := i) (by rw [hd]; exact List.mem_cons_self))
    refine Big.succ ?_
    simp only [impl_OldestRound.l0, h1, if_pos (show (i : Int) < (js.length : Int) by omega), if_pos (show 0 ≤ (i : Int) by omega), if_pos hq.1, if_pos hq.2.1, if_pos hb.1, if_pos hb.2.1]
    rw [w64n (by omega)]
    unfold oldR
    by_cases h : rde l q < rde l b
    · simp only [if_pos h]
      exact ih (i + 1) q h3 (by omega) hq
    · simp only [if_neg h]
      exact ih (i + 1) b h3 (by omega) hb
end Go.Proofs.Ytkpoidakicgfbaa.Q
set_option linter.all false
namespace Go.Proofs.Ytkpoidakicgfbaa.Q
open Go.RowKit Go Go.Proofs.Ytkpoidakicgfbaa.Eng Go.Proofs.Ytkpoidakicgfbaa.C
set_option linter.unusedSimpArgs false
set_option linter.unusedVariables false

theorem Anniversaries_is (s f t e : Int) : Big (fun k => spec_Anniversaries.f k s f t e) (if (inR s 0 3000 && span f t && inR e 1 100) = true then (yrsA (fun y => rnd (y - s) e) (t + 1 - f).toNat f, true) else ([], false)) ∧ Big (fun k => impl_Anniversaries.f k s f t e) (if (inR s 0 3000 && span f t && inR e 1 100) = true then (yrsA (fun y => rnd (y - s) e) (t + 1 - f).toNat f, true) else ([], false)) := by
  unfold spec_Anniversaries.f impl_Anniversaries.f
  simp only [v_l1In, v_isYear, v_roSpan, v_isSpan, v_roEvery, v_isEvery, Option.bind_some]
  have no : Big (fun k => spec_Anniversaries.j0 k s f t e true) (([] : List Int), false) ∧ Big (fun k => impl_Anniversaries.j0 k s f t e true) (([] : List Int), false) :=
    ⟨Big.succ (by simp only [spec_Anniversaries.j0, if_true]; exact Big.some_ _), Big.succ (by simp only [impl_Anniversaries.j0, if_true]; exact Big.some_ _)⟩
  cases h1 : inR s 0 3000 with
  | false => simpa only [Bool.false_and, Bool.and_false, Bool.true_and, Bool.false_eq_true, if_false] using no
  | true =>
    simp only [if_true]
    cases h2 : span f t with
    | false => simpa only [Bool.false_and, Bool.and_false, Bool.true_and, Bool.false_eq_true, if_false] using no
    | true =>
      simp only [if_true]
      cases h3 : inR e 1 100 with
      | false => simpa only [Bool.not_false, Bool.and_false, Bool.false_eq_true, if_false] using no
      | true =>
        simp only [Bool.not_true]
        rw [inR_iff] at h1 h3
        rw [span_iff] at h2
        simp only [Bool.and_true, if_true]
        refine ⟨Big.succ ?_, Big.succ ?_⟩
        · simp only [spec_Anniversaries.j0, Bool.false_eq_true, if_false]
          exact sAnn_l s t e h1 (by omega) h3.1 _ f [] (by omega) (by omega) (by simp; omega)
        · simp only [impl_Anniversaries.j0, Bool.false_eq_true, if_false]
          exact iAnn_l s t e h1 (by omega) h3.1 _ f [] (by omega) (by omega) (by simp; omega)

theorem JubileesIn_is (l : List Int) (y e : Int) (hl : l.length ≤ 1048576) : Big (fun k => spec_JubileesIn.f k l y e) (if (born l && inR y 0 3000 && inR e 1 100) = true then (jub l y e, true) else ([], false)) ∧ Big (fun k => impl_JubileesIn.f k l y e) (if (born l && inR y 0 3000 && inR e 1 100) = true then (jub l y e, true) else ([], false)) := by
  unfold spec_JubileesIn.f impl_JubileesIn.f
  simp only [v_AreBirths, v_isYear, v_roEvery, v_isEvery, Option.bind_some]
  cases h1 : born l with
  | false => rw [if_neg (by simp)]; exact ⟨Big.bind (roYear_at l y hl) (by simp only [h1, Bool.false_and, Bool.false_eq_true, if_false]; exact Big.some_ _), by simp only [Bool.false_eq_true, if_false]; exact Big.some_ _⟩
  | true =>
    cases h2 : inR y 0 3000 with
    | false => rw [if_neg (by simp)]; exact ⟨Big.bind (roYear_at l y hl) (by simp only [h2, Bool.and_false, Bool.false_eq_true, if_false]; exact Big.some_ _), by simp only [Bool.false_eq_true, if_false, if_true]; exact Big.some_ _⟩
    | true =>
      cases h3 : inR e 1 100 with
      | false => rw [if_neg (by simp)]; exact ⟨Big.bind (roYear_at l y hl) (by simp only [h1, h2, Bool.and_true, if_true, Bool.false_eq_true, if_false]; exact Big.some_ _), by simp only [Bool.false_eq_true, if_false, if_true]; exact Big.some_ _⟩
      | true =>
        have hy := inR_iff.mp h2
        have he := (inR_iff.mp h3).1
        have hf := fit_of_born h1
        rw [if_pos (show (true && true && true) = true from rfl)]
        refine ⟨Big.bind (roYear_at l y hl) ?_, ?_⟩
        · simp only [h1, h2, Bool.and_true, if_true]
          exact Big.bind (roIn_at l y e hf hy he) (Big.some_ _)
        · simp only [if_true]
          exact Big.bind (jubilees_at l y e hf hy he) (Big.some_ _)

theorem NextJubilee_is (l : List Int) (y e : Int) (hl : l.length ≤ 1048576) : Big (fun k => spec_NextJubilee.f k l y e) (if (born l && inR y 0 3000 && inR e 1 100) = true then nextF l e (3000 - y).toNat (y + 1) else (0, false)) ∧ Big (fun k => impl_NextJubilee.f k l y e) (if (born l && inR y 0 3000 && inR e 1 100) = true then nextF l e (3000 - y).toNat (y + 1) else (0, false)) := by
  have n1 : Big (fun k => spec_NextJubilee.j0 k l y e true) (0, false) := Big.succ (by simp only [spec_NextJubilee.j0, if_true]; exact Big.some_ _)
  have n2 : Big (fun k => impl_NextJubilee.j0 k l y e true) (0, false) := Big.succ (by simp only [impl_NextJubilee.j0, if_true]; exact Big.some_ _)
  unfold spec_NextJubilee.f impl_NextJubilee.f
  simp only [v_AreBirths, v_isYear, v_isEvery, v_roEvery, Option.bind_some]
  cases h1 : born l with
  | false => rw [if_neg (by simp)]; exact ⟨Big.bind (roYear_at l y hl) (by simpa only [h1, Bool.false_and, Bool.false_eq_true, if_false] using n1), by simpa only [Bool.false_eq_true, if_false] using n2⟩
  | true =>
    cases h2 : inR y 0 3000 with
    | false => rw [if_neg (by simp)]; exact ⟨Big.bind (roYear_at l y hl) (by simpa only [h2, Bool.and_false, Bool.false_eq_true, if_false] using n1), by simpa only [Bool.false_eq_true, if_false, if_true] using n2⟩
    | true =>
      cases h3 : inR e 1 100 with
      | false => rw [if_neg (by simp)]; exact ⟨Big.bind (roYear_at l y hl) (by simpa only [h1, h2, Bool.and_true, if_true, Bool.not_false] using n1), by simpa only [if_true, Bool.not_false] using n2⟩
      | true =>
        have hy := inR_iff.mp h2
        have he := (inR_iff.mp h3).1
        have hf := fit_of_born h1
        have hw : IntKind.i64.wrap (y + 1) = y + 1 := w64 (by omega) (by omega)
        rw [if_pos (show (true && true && true) = true from rfl)]
        refine ⟨Big.bind (roYear_at l y hl) ?_, ?_⟩
        · simp only [h1, h2, Bool.and_true, if_true, Bool.not_true]
          refine Big.succ ?_
          simp only [spec_NextJubilee.j0, Bool.false_eq_true, if_false, hw]
          exact sNext_l l e hf he _ (y + 1) (by omega) (by omega)
        · simp only [if_true, Bool.not_true]
          refine Big.succ ?_
          simp only [impl_NextJubilee.j0, Bool.false_eq_true, if_false, hw]
          exact iNext_l l e hf he _ (y + 1) (by omega) (by omega)

theorem TogetherJubilees_is (l : List Int) (e : Int) (hl : l.length ≤ 1048576) : Big (fun k => spec_TogetherJubilees.f k l e) (if (born l && inR e 1 100) = true then (yrs (allJ l e) 3001 0, true) else ([], false)) ∧ Big (fun k => impl_TogetherJubilees.f k l e) (if (born l && inR e 1 100) = true then (yrs (allJ l e) 3001 0, true) else ([], false)) := by
  have n1 : Big (fun k => spec_TogetherJubilees.j0 k l e true) ([], false) := Big.succ (by simp only [spec_TogetherJubilees.j0, if_true]; exact Big.some_ _)
  have n2 : Big (fun k => impl_TogetherJubilees.j0 k l e true) ([], false) := Big.succ (by simp only [impl_TogetherJubilees.j0, if_true]; exact Big.some_ _)
  unfold spec_TogetherJubilees.f impl_TogetherJubilees.f
  simp only [v_AreBirths, v_isEvery, v_roEvery, Option.bind_some]
  cases h1 : born l with
  | false => rw [if_neg (by simp)]; exact ⟨Big.bind (roBorn_at l hl) (by simpa only [h1, Bool.false_eq_true, if_false] using n1), by simpa only [Bool.false_eq_true, if_false] using n2⟩
  | true =>
    cases h3 : inR e 1 100 with
    | false => rw [if_neg (by simp)]; exact ⟨Big.bind (roBorn_at l hl) (by simpa only [h1, if_true, Bool.not_false] using n1), by simpa only [Bool.not_false, if_true] using n2⟩
    | true =>
      have hf := fit_of_born h1
      have he := (inR_iff.mp h3).1
      have hn0 : 0 < l.length := by have := born_iff.mp h1; omega
      obtain ⟨b0, t, hbt⟩ : ∃ b t, l = b :: t := by cases l with
        | nil => simp at hn0
        | cons b t => exact ⟨b, t, rfl⟩
      have hb : rde l 0 = b0 := by rw [hbt]; rfl
      have hb0 : 0 ≤ b0 ∧ b0 ≤ 2900 := hf.2 b0 (by rw [hbt]; exact List.mem_cons_self)
      have hw : IntKind.i64.wrap (b0 + 1) = b0 + 1 := w64 (by omega) (by omega)
      obtain ⟨nn, hnn⟩ : ∃ n : Nat, n = 3001 := ⟨_, rfl⟩
      have key : yrs (allJ l e) nn 0 = yrs (allJ l e) (min (b0 + 120) 3000 - b0).toNat (b0 + 1) := by
        obtain ⟨m, hm⟩ : ∃ m : Nat, (m : Int) = b0 + 1 := ⟨(b0 + 1).toNat, by omega⟩
        obtain ⟨n, hn⟩ : ∃ n : Nat, (n : Int) = min (b0 + 120) 3000 - b0 := ⟨(min (b0 + 120) 3000 - b0).toNat, by omega⟩
        obtain ⟨q, hq⟩ : ∃ q : Nat, (q : Int) = 3000 - min (b0 + 120) 3000 := ⟨(3000 - min (b0 + 120) 3000).toNat, by omega⟩
        have h4 : nn = m + (n + q) := by omega
        have out : ∀ z : Int, (z ≤ b0 ∨ b0 + 120 < z) → allJ l e z = false := by
          intro z hz
          cases hc : allJ l e z with
          | false => rfl
          | true =>
            rw [hbt] at hc
            have := allJ_head b0 t e z hc
            omega
        rw [h4, yrs_add, yrs_add, yrs_none _ m 0 (fun z _ h2 => out z (by omega)), yrs_none _ q _ (fun z h2 h3 => out z (by omega)), List.nil_append, List.append_nil, show (0 : Int) + (m : Int) = b0 + 1 by omega, show (min (b0 + 120) 3000 - b0).toNat = n by omega]
      rw [if_pos (show (true && true) = true from rfl), ← hnn]
      refine ⟨Big.bind (roBorn_at l hl) ?_, ?_⟩
      · simp only [h1, if_true, Bool.not_true]
        refine Big.succ ?_
        simp only [spec_TogetherJubilees.j0, Bool.false_eq_true, if_false, if_pos (show (0 : Int) < (l.length : Int) by omega), hb, hw]
        rw [key]
        exact sTog_l l b0 e hb hn0 hf he hb0 _ (b0 + 1) [] (by omega) (by omega) (by simp; omega)
      · simp only [if_true, Bool.not_true]
        refine Big.succ ?_
        simp only [impl_TogetherJubilees.j0, Bool.false_eq_true, if_false]
        exact iTog_l l e hf he nn 0 [] (by omega) (by omega) (by simp; omega)
theorem CountJubilees_is (l : List Int) (f t e : Int) (hl : l.length ≤ 1048576) : Big (fun k => spec_CountJubilees.f k l f t e) (if (born l && span f t && inR e 1 100) = true then (cntF l e (t + 1 - f).toNat f, true) else (0, false)) ∧ Big (fun k => impl_CountJubilees.f k l f t e) (if (born l && span f t && inR e 1 100) = true then (cntF l e (t + 1 - f).toNat f, true) else (0, false)) := by
  unfold spec_CountJubilees.f impl_CountJubilees.f
  have hA := roAll_at l f t e hl
  have hC := calendar_at l f t e
  cases h : (born l && span f t && inR e 1 100) with
  | false =>
    rw [h] at hA hC
    simp only [Bool.false_eq_true, if_false] at hC
    rw [if_neg (by simp)]
    refine ⟨Big.bind hA (by simp only [Bool.false_eq_true, if_false]; exact Big.some_ _), Big.bind hC ?_⟩
    exact iCnt_l [] false (fun r hr => by cases hr) (by simp) [] 0 0 rfl (by omega) (by omega) (by simp)
  | true =>
    rw [h] at hA hC
    simp only [if_true] at hC
    simp only [Bool.and_eq_true] at h
    have hf := fit_of_born h.1.1
    have hs := span_iff.mp h.1.2
    have he := (inR_iff.mp h.2).1
    have hlen := calF_length l e (t + 1 - f).toNat f
    rw [if_pos rfl, show cntF l e (t + 1 - f).toNat f = 0 + cntF l e (t + 1 - f).toNat f by omega]
    refine ⟨Big.bind hA ?_, Big.bind hC ?_⟩
    · simp only [if_true]
      exact sCnt_l l t e hf (by omega) he _ f 0 (by omega) (by omega) (by omega) (by omega)
    · rw [← cnt_eq]
      exact iCnt_l _ true (calF_rows2 l e hf _ f) (by omega) _ 0 0 rfl (by omega) (by omega) (by simp)

theorem MostJubilees_is (l : List Int) (f t e : Int) (hl : l.length ≤ 1048576) : Big (fun k => spec_MostJubilees.f k l f t e) (if (born l && span f t && inR e 1 100) = true then ((mostR (calF l e (t + 1 - f).toNat f) f 0).1, (mostR (calF l e (t + 1 - f).toNat f) f 0).2, true) else (0, 0, false)) ∧ Big (fun k => impl_MostJubilees.f k l f t e) (if (born l && span f t && inR e 1 100) = true then ((mostR (calF l e (t + 1 - f).toNat f) f 0).1, (mostR (calF l e (t + 1 - f).toNat f) f 0).2, true) else (0, 0, false)) := by
  unfold spec_MostJubilees.f impl_MostJubilees.f
  have hA := roAll_at l f t e hl
  have hC := calendar_at l f t e
  cases h : (born l && span f t && inR e 1 100) with
  | false =>
    rw [h] at hA hC
    simp only [Bool.false_eq_true, if_false] at hC
    rw [if_neg (by simp)]
    exact ⟨Big.bind hA (by simp only [Bool.false_eq_true, if_false]; exact Big.some_ _), Big.bind hC (by simp only [Bool.false_eq_true, if_false]; exact Big.some_ _)⟩
  | true =>
    rw [h] at hA hC
    simp only [if_true] at hC
    simp only [Bool.and_eq_true] at h
    have hf := fit_of_born h.1.1
    have hs := span_iff.mp h.1.2
    have he := (inR_iff.mp h.2).1
    have hlen := calF_length l e (t + 1 - f).toNat f
    rw [if_pos rfl]
    refine ⟨Big.bind hA ?_, Big.bind hC ?_⟩
    · simp only [if_true]
      refine Big.succ ?_
      simp only [spec_MostJubilees.l0, if_pos (show f ≤ t by omega)]
      rw [w64 (i := f + 1) (by omega) (by omega)]
      refine Big.bind (roIn_at l f e hf (by omega) he) ?_
      simp only [if_pos (show ((jub l f e).length : Int) > -1 by omega)]
      obtain ⟨n, hn⟩ : ∃ n : Nat, (t + 1 - f).toNat = n + 1 := ⟨(t - f).toNat, by omega⟩
      rw [hn]
      unfold calF
      rw [mostR_append]
      have hm : mostR (if ((jub l f e).length : Int) > 0 then [f :: jub l f e] else []) f 0 = (f, ((jub l f e).length : Int)) := by
        split
        · rename_i h0
          simp only [mostR, List.length_cons, if_pos (show (((jub l f e).length + 1 : Nat) : Int) - 1 > 0 by omega), List.headD_cons]
          rw [show (((jub l f e).length + 1 : Nat) : Int) - 1 = ((jub l f e).length : Int) by omega]
        · rename_i h0
          simp only [mostR]
          rw [show ((jub l f e).length : Int) = 0 by omega]
      rw [hm]
      exact sMost_l l t e hf (by omega) he n (f + 1) f _ (by omega) (by omega) (by omega)
    · simp only [if_true]
      exact iMost_l _ (calF_rows2 l e hf _ f) (by omega) _ 0 f 0 rfl (by simp)

theorem LongestQuiet_is (l : List Int) (f t e : Int) (hl : l.length ≤ 1048576) : Big (fun k => spec_LongestQuiet.f k l f t e) (if (born l && span f t && inR e 1 100) = true then quiE (quiR (calF l e (t + 1 - f).toNat f ++ [[t + 1]]) 0 0 f) else (0, 0, false)) ∧ Big (fun k => impl_LongestQuiet.f k l f t e) (if (born l && span f t && inR e 1 100) = true then quiE (quiR (calF l e (t + 1 - f).toNat f ++ [[t + 1]]) 0 0 f) else (0, 0, false)) := by
  unfold spec_LongestQuiet.f impl_LongestQuiet.f
  have hA := roAll_at l f t e hl
  have hC := calendar_at l f t e
  cases h : (born l && span f t && inR e 1 100) with
  | false =>
    rw [h] at hA hC
    simp only [Bool.false_eq_true, if_false] at hC
    rw [if_neg (by simp)]
    exact ⟨Big.bind hA (by simp only [Bool.false_eq_true, if_false]; exact Big.some_ _), Big.bind hC (by simp only [Bool.false_eq_true, if_false]; exact Big.some_ _)⟩
  | true =>
    rw [h] at hA hC
    simp only [if_true] at hC
    simp only [Bool.and_eq_true] at h
    have hf := fit_of_born h.1.1
    have hs := span_iff.mp h.1.2
    have he := (inR_iff.mp h.2).1
    have hlen := calF_length l e (t + 1 - f).toNat f
    have hw : IntKind.i64.wrap (t + 1) = t + 1 := w64 (by omega) (by omega)
    obtain ⟨hq1, hq2⟩ := quiR_nonneg (calF l e (t + 1 - f).toNat f ++ [[t + 1]]) 0 0 f (by omega)
    rw [if_pos rfl]
    refine ⟨Big.bind hA ?_, Big.bind hC ?_⟩
    · simp only [if_true]
      have := sQui_l l t e hf (by omega) he (t + 1 - f).toNat f 0 0 f (by omega) (by omega) (by omega) (by omega) (by omega)
      have e1 : quiS 0 0 f f = (0, 0) := by unfold quiS; rw [if_neg (by omega)]
      rw [e1, show f - f = 0 by omega] at this
      exact this
    · simp only [if_true, if_pos (show (calF l e (t + 1 - f).toNat f).length < 5864062014805 by omega), Option.bind_some, hw]
      refine Big.cast (iQui_l _ (fun r hr => ?_) (by simp; omega) _ 0 0 0 f rfl (by simp) (by omega)) ?_
      · rw [List.mem_append] at hr
        rcases hr with hr | hr
        · exact calF_heads l e _ f (by omega) (by omega) r hr
        · simp only [List.mem_singleton] at hr
          subst hr
          simp only [List.length_singleton, List.headD_cons]
          omega
      · rw [List.drop_zero]
        unfold quiE
        by_cases h0 : (quiR (calF l e (t + 1 - f).toNat f ++ [[t + 1]]) 0 0 f).2 = 0
        · rw [if_pos h0, h0, hq2 ⟨rfl, rfl⟩ h0]
          rfl
        · rw [if_neg h0, decide_eq_true (by omega)]

theorem OldestRound_is (l : List Int) (y e : Int) (hl : l.length ≤ 1048576) : Big (fun k => spec_OldestRound.f k l y e) (if (born l && inR y 0 3000 && inR e 1 100 && !(jub l y e).isEmpty) = true then (oldR l (jub l y e).tail ((jub l y e).headD 0), y - rde l (oldR l (jub l y e).tail ((jub l y e).headD 0)), true) else (0, 0, false)) ∧ Big (fun k => impl_OldestRound.f k l y e) (if (born l && inR y 0 3000 && inR e 1 100 && !(jub l y e).isEmpty) = true then (oldR l (jub l y e).tail ((jub l y e).headD 0), y - rde l (oldR l (jub l y e).tail ((jub l y e).headD 0)), true) else (0, 0, false)) := by
  have n1 : Big (fun k => spec_OldestRound.j0 k l y e true) (0, 0, false) := Big.succ (by simp only [spec_OldestRound.j0, if_true]; exact Big.some_ _)
  have n2 : ∀ js, Big (fun k => impl_OldestRound.j0 k l y js true) (0, 0, false) := fun js => Big.succ (by simp only [impl_OldestRound.j0, if_true]; exact Big.some_ _)
  have hJ : Big (fun k => impl_JubileesIn.f k l y e) (if (born l && inR y 0 3000 && inR e 1 100) = true then (jub l y e, true) else ([], false)) := by
    unfold impl_JubileesIn.f
    simp only [v_AreBirths, v_isYear, v_isEvery, Option.bind_some]
    cases h1 : born l with
    | false => simp only [Bool.false_and, Bool.false_eq_true, if_false]; exact Big.some_ _
    | true =>
      cases h2 : inR y 0 3000 with
      | false => simp only [Bool.and_false, Bool.false_and, Bool.false_eq_true, if_false, if_true]; exact Big.some_ _
      | true =>
        cases h3 : inR e 1 100 with
        | false => simp only [Bool.and_false, Bool.false_eq_true, if_false, if_true]; exact Big.some_ _
        | true =>
          simp only [Bool.and_true, if_true]
          exact Big.bind (jubilees_at l y e (fit_of_born h1) (inR_iff.mp h2) (inR_iff.mp h3).1) (Big.some_ _)
  unfold spec_OldestRound.f impl_OldestRound.f
  simp only [v_roEvery, Option.bind_some]
  cases h : (born l && inR y 0 3000 && inR e 1 100) with
  | false =>
    rw [h] at hJ
    simp only [Bool.false_eq_true, if_false] at hJ
    rw [if_neg (by simp)]
    refine ⟨Big.bind (roYear_at l y hl) ?_, Big.bind hJ (by simp only [Bool.false_eq_true, if_false]; exact n2 _)⟩
    cases h12 : (born l && inR y 0 3000) with
    | false => simpa only [Bool.false_eq_true, if_false] using n1
    | true =>
      rw [h12, Bool.true_and] at h
      simpa only [if_true, h, Bool.not_false] using n1
  | true =>
    rw [h] at hJ
    simp only [if_true] at hJ
    simp only [Bool.and_eq_true] at h
    have hf := fit_of_born h.1.1
    have hy := inR_iff.mp h.1.2
    have he := (inR_iff.mp h.2).1
    have hjl := jub_length l y e
    have hl10 := hf.1
    have h12 : (born l && inR y 0 3000) = true := by rw [h.1.1, h.1.2]; rfl
    cases hq : jub l y e with
    | nil =>
      rw [hq] at hJ
      rw [if_neg (by simp)]
      refine ⟨Big.bind (roYear_at l y hl) ?_, Big.bind hJ (by simp only [if_true]; exact n2 _)⟩
      simp only [h12, if_true, h.2, Bool.not_true]
      refine Big.succ ?_
      simp only [spec_OldestRound.j0, Bool.false_eq_true, if_false]
      refine Big.bind (roIn_at l y e hf hy he) ?_
      rw [hq]
      refine Big.succ ?_
      simp only [spec_OldestRound.l0, List.length_nil]
      exact Big.some_ _
    | cons q t =>
      rw [hq] at hJ
      have hj : ∀ x ∈ q :: t, 0 ≤ x ∧ x < (l.length : Int) ∧ 0 < y - rde l x := fun x hx => jub_mem l y e x (by rw [hq]; exact hx)
      have hq0 := hj q List.mem_cons_self
      have hqm := hf.2 _ (rd_mem' hq0.1 hq0.2.1)
      have hlen : (q :: t).length ≤ 100 := by rw [← hq]; omega
      rw [if_pos (by simp), List.tail_cons, List.headD_cons]
      refine ⟨Big.bind (roYear_at l y hl) ?_, Big.bind hJ ?_⟩
      · simp only [h12, if_true, h.2, Bool.not_true]
        refine Big.succ ?_
        simp only [spec_OldestRound.j0, Bool.false_eq_true, if_false]
        refine Big.bind (roIn_at l y e hf hy he) ?_
        rw [hq]
        refine Big.succ ?_
        have e0 : rde (q :: t) 0 = q := rfl
        simp only [spec_OldestRound.l0, e0, if_pos (show (0 : Int) < ((q :: t).length : Int) by simp only [List.length_cons]; omega), if_pos (show (0 : Int) ≤ 0 by omega), if_pos hq0.1, if_pos hq0.2.1]
        rw [w64 (i := y - rde l q) (by omega) (by omega)]
        have e2 : IntKind.i64.wrap ((0 : Int) + 1) = ((1 : Nat) : Int) := by rw [Go.IntWalk.i64_left]; unfold wrap64; omega
        rw [e2]
        simp only [if_pos (show y - rde l q > 0 by omega)]
        exact sOld_l l y hf hy (q :: t) hj hlen t 1 q rfl (by simp only [List.length_cons]; omega) hq0
      · simp only [if_true]
        have h0 : (((q :: t).length : Int) == 0) = false := by simp only [List.length_cons, beq_eq_false_iff_ne]; omega
        rw [h0]
        refine Big.succ ?_
        have e0 : rde (q :: t) 0 = q := rfl
        simp only [impl_OldestRound.j0, Bool.false_eq_true, if_false, if_pos (show (0 : Int) < ((q :: t).length : Int) by simp only [List.length_cons]; omega), e0]
        refine Big.cast (iOld_l l y hf hy (q :: t) hj hlen (q :: t) 0 q rfl (Nat.zero_le _) hq0) ?_
        have e1 : oldR l (q :: t) q = oldR l t q := by
          conv => lhs; unfold oldR
          rw [if_neg (Int.lt_irrefl _)]
        rw [e1]
theorem CalendarOf_is (l : List Int) (f t e : Int) (hl : l.length ≤ 1048576) : Big (fun k => spec_CalendarOf.f k l f t e) (if (born l && span f t && inR e 1 100) = true then (calF l e (t + 1 - f).toNat f, true) else ([], false)) ∧ Big (fun k => impl_CalendarOf.f k l f t e) (if (born l && span f t && inR e 1 100) = true then (calF l e (t + 1 - f).toNat f, true) else ([], false)) := by
  have hA := roAll_at l f t e hl
  have hc := calendar_at l f t e
  unfold spec_CalendarOf.f impl_CalendarOf.f
  cases h : (born l && span f t && inR e 1 100)
  · rw [h] at hA hc
    simp only [Bool.false_eq_true, if_false] at hc
    rw [if_neg (by simp)]
    exact ⟨Big.bind hA (by simp only [Bool.false_eq_true, if_false]; exact Big.some_ _), Big.bind hc (Big.some_ _)⟩
  · rw [h] at hA hc
    simp only [if_true] at hc
    rw [Bool.and_eq_true, Bool.and_eq_true] at h
    have hf := fit_of_born h.1.1
    have hs := span_iff.mp h.1.2
    have he := (inR_iff.mp h.2).1
    have h1 := calF_length l e (t + 1 - f).toNat f
    rw [if_pos rfl]
    refine ⟨Big.bind hA ?_, Big.bind hc (Big.some_ _)⟩
    simp only [if_true]
    exact sCal_l l t e hf (by omega) he _ f [] (by omega) (by omega) (by simp; omega)
end Go.Proofs.Ytkpoidakicgfbaa.Q
