/- Plain lemmas on functions that take a number of rounds: what such a function answers at all large numbers of rounds. No condition. -/
import Derived.Test.YtpnkeknmgfdpdaaGreatDoorRRR0
import Derived.Lib.ItoaLen
import Derived.Lib.SplitLaws
import Derived.Lib.CutLaws
import Derived.Lib.AtoiAllCases
import Derived.Lib.ItoaWalk
set_option linter.all false
namespace Go.Proofs.YtpnkeknmgfdpdaaGreatDoorRR.Q
open Go.RowKit Go Go.Proofs.YtpnkeknmgfdpdaaGreatDoorRR.Eng Go.Proofs.YtpnkeknmgfdpdaaGreatDoorRR Go.Proofs.YtpnkeknmgfdpdaaGreatDoorRR.X

/-- From some number of rounds on, the answer is r. -/
def Big {α : Type} (g : Nat → Option α) (r : α) : Prop := ∃ K, ∀ k, K ≤ k → g k = some r
theorem Big.bind {α β : Type} {g : Nat → Option α} {a : α} {h : Nat → α → Option β} {r : β} (h1 : Big g a) (h2 : Big (fun k => h k a) r) : Big (fun k => (g k).bind (h k)) r := by
  obtain ⟨K1, h1⟩ := h1
  obtain ⟨K2, h2⟩ := h2
  exact ⟨K1 + K2, fun k hk => by show (g k).bind (h k) = some r; rw [h1 k (by omega), Option.bind_some]; exact h2 k (by omega)⟩
theorem Big.of {α : Type} {a : Option α} {r : α} (h : a = some r) : Big (fun _ => a) r := ⟨0, fun _ _ => h⟩
theorem Big.some_ {α : Type} (r : α) : Big (fun _ => some r) r := ⟨0, fun _ _ => rfl⟩
theorem Big.succ {α : Type} {g : Nat → Option α} {r : α} (h : Big (fun k => g (k + 1)) r) : Big g r := by
  obtain ⟨K, h⟩ := h
  exact ⟨K + 1, fun k hk => by obtain ⟨m, rfl⟩ : ∃ m, k = m + 1 := ⟨k - 1, by omega⟩; exact h m (by omega)⟩
theorem Big.exists_ {α : Type} {g : Nat → Option α} {r : α} (h : Big g r) : ∃ k, g k = some r := by
  obtain ⟨K, h⟩ := h
  exact ⟨K, h K (Nat.le_refl _)⟩
theorem Big.uniq {α : Type} {g : Nat → Option α} {r s : α} (h : Big g r) (h' : Big g s) : r = s := by
  obtain ⟨K, h⟩ := h
  obtain ⟨K', h'⟩ := h'
  have := (h (K + K') (by omega)).symm.trans (h' (K + K') (by omega))
  exact Option.some.inj this
theorem Big.cast {α : Type} {g : Nat → Option α} {r s : α} (h : Big g r) (e : r = s) : Big g s := e ▸ h

theorem w64 {i : Int} (h0 : -9223372036854775808 ≤ i) (h1 : i ≤ 9223372036854775807) : IntKind.i64.wrap i = i := by
  rw [Go.IntWalk.i64_left]; unfold wrap64
  omega
theorem w64n {i : Nat} (h1 : i < 9223372036854775807) : IntKind.i64.wrap ((i : Int) + 1) = ((i + 1 : Nat) : Int) := by
  rw [Go.IntWalk.i64_left]; unfold wrap64
  omega
theorem rd_nat (l : List Int) (i : Nat) : rde l (i : Int) = l.getD i 0 := by
  unfold rde
  rw [Int.toNat_natCast]
  rfl
theorem rd_cons_drop {l t : List Int} {a : Int} {i : Nat} (h : l.drop i = a :: t) : rde l (i : Int) = a ∧ i < l.length ∧ l.drop (i + 1) = t := by
  have hi : i < l.length := by
    rcases Nat.lt_or_ge i l.length with h1 | h1
    · exact h1
    · rw [List.drop_eq_nil_of_le h1] at h
      cases h
  rw [List.drop_eq_getElem_cons hi] at h
  injection h with h1 h2
  exact ⟨by rw [rd_nat, List.getD_eq_getElem?_getD, List.getElem?_eq_getElem hi]; exact h1, hi, h2⟩
theorem drop_nil_le {l : List Int} {i : Nat} (h : l.drop i = []) : l.length ≤ i := by
  rw [List.drop_eq_nil_iff] at h
  exact h
theorem wf64 {x : Int} (h : (Lit.int .i64 x).wf = true) : -9223372036854775808 ≤ x ∧ x ≤ 9223372036854775807 := by
  have h1 : (decide ((-9223372036854775808 : Int) ≤ x) && decide (x ≤ (9223372036854775807 : Int))) = true := h
  simpa using h1
end Go.Proofs.YtpnkeknmgfdpdaaGreatDoorRR.Q
set_option linter.all false
namespace Go.Proofs.YtpnkeknmgfdpdaaGreatDoorRR.Q
open Go.RowKit Go Go.Proofs.YtpnkeknmgfdpdaaGreatDoorRR.Eng Go.Proofs.YtpnkeknmgfdpdaaGreatDoorRR Go.Proofs.YtpnkeknmgfdpdaaGreatDoorRR.X

def inR (x a b : Int) : Bool := decide (a ≤ x) && decide (x ≤ b)
theorem inR_iff {x a b : Int} : inR x a b = true ↔ a ≤ x ∧ x ≤ b := by simp [inR]
theorem inR_not {x a b : Int} : inR x a b = false ↔ ¬ (a ≤ x ∧ x ≤ b) := by rw [← Bool.not_eq_true, inR_iff]
theorem v_l1In (x a b : Int) : spec_l1In.f x a b = some (inR x a b) := by
  unfold spec_l1In.f inR
  by_cases h : x ≥ a
  · rw [if_pos h, decide_eq_true (show a ≤ x from h), Bool.true_and]
  · rw [if_neg h, decide_eq_false (show ¬ a ≤ x from h), Bool.false_and]
theorem v_between (x a b : Int) : impl_between.f x a b = some (inR x a b) := by
  unfold impl_between.f inR
  by_cases h : x ≥ a
  · rw [if_pos h, decide_eq_true (show a ≤ x from h), Bool.true_and]
  · rw [if_neg h, decide_eq_false (show ¬ a ≤ x from h), Bool.false_and]
end Go.Proofs.YtpnkeknmgfdpdaaGreatDoorRR.Q
set_option linter.all false
namespace Go.Proofs.YtpnkeknmgfdpdaaGreatDoorRR.Q
open Go.RowKit Go Go.Proofs.YtpnkeknmgfdpdaaGreatDoorRR.Eng Go.Proofs.YtpnkeknmgfdpdaaGreatDoorRR Go.Proofs.YtpnkeknmgfdpdaaGreatDoorRR.X

/-- Births: 1..10 numbers in 0..2900. -/
def born (l : List Int) : Bool := inR (l.length : Int) 1 10 && l.all fun x => inR x 0 2900
theorem born_iff {l : List Int} : born l = true ↔ (1 ≤ l.length ∧ l.length ≤ 10) ∧ ∀ x ∈ l, 0 ≤ x ∧ x ≤ 2900 := by
  unfold born
  rw [Bool.and_eq_true, inR_iff, List.all_eq_true]
  constructor
  · rintro ⟨h1, h2⟩
    exact ⟨by omega, fun x hx => inR_iff.mp (h2 x hx)⟩
  · rintro ⟨h1, h2⟩
    exact ⟨by omega, fun x hx => inR_iff.mpr (h2 x hx)⟩
theorem l1All_l (l : List Int) (a b : Int) (hl : l.length ≤ 1048576) (d : Nat) : ∀ i : Nat, i + d = l.length → Big (fun k => spec_l1All.l0 k a b l (l.length : Int) i) ((l.drop i).all fun x => inR x a b) := by
  induction d with
  | zero =>
    intro i hi
    refine Big.succ ?_
    simp only [spec_l1All.l0, if_neg (show ¬ (i : Int) < (l.length : Int) by omega)]
    rw [List.drop_of_length_le (by omega)]
    exact Big.some_ _
  | succ d ih =>
    intro i hi
    refine Big.succ ?_
    simp only [spec_l1All.l0]
    have hlt : i < l.length := by omega
    simp only [if_pos (show (i : Int) < (l.length : Int) by omega), if_pos (show 0 ≤ (i : Int) by omega), v_l1In, Option.bind_some]
    rw [List.drop_eq_getElem_cons hlt, List.all_cons, rd_nat, List.getD_eq_getElem?_getD, List.getElem?_eq_getElem hlt, Option.getD_some]
    cases h : inR l[i] a b with
    | true =>
      simp only [if_true, Bool.true_and]
      rw [w64n (by omega)]
      exact ih (i + 1) (by omega)
    | false =>
      simp only [Bool.false_eq_true, if_false, Bool.false_and]
      exact Big.some_ _
theorem l1All_at (l : List Int) (a b : Int) (hl : l.length ≤ 1048576) : Big (fun k => spec_l1All.f k l a b) (l.all fun x => inR x a b) := by
  unfold spec_l1All.f
  exact l1All_l l a b hl l.length 0 (by omega)
theorem roBorn_at (l : List Int) (hl : l.length ≤ 1048576) : Big (fun k => spec_roBorn.f k l) (born l) := by
  unfold spec_roBorn.f born
  simp only [v_l1In, Option.bind_some]
  cases inR (l.length : Int) 1 10 with
  | true =>
    simp only [if_true, Bool.true_and]
    exact Big.bind (l1All_at l 0 2900 hl) (Big.some_ _)
  | false =>
    simp only [Bool.false_eq_true, if_false, Bool.false_and]
    exact Big.some_ _
theorem v_AreBirths (l : List Int) : impl_AreBirths.f l = some (born l) := by
  unfold impl_AreBirths.f born
  simp only [v_between, Option.bind_some]
  cases h : inR (l.length : Int) 1 10 with
  | true =>
    rw [inR_iff] at h
    simp only [if_true, Bool.true_and, impl_areBetween.f, if_pos (show l.length < 4611686018427387904 by omega), Option.bind_some]; rfl
  | false => simp only [Bool.false_eq_true, if_false, Bool.false_and]
end Go.Proofs.YtpnkeknmgfdpdaaGreatDoorRR.Q
set_option linter.all false
namespace Go.Proofs.YtpnkeknmgfdpdaaGreatDoorRR.Q
open Go.RowKit Go Go.Proofs.YtpnkeknmgfdpdaaGreatDoorRR.Eng Go.Proofs.YtpnkeknmgfdpdaaGreatDoorRR Go.Proofs.YtpnkeknmgfdpdaaGreatDoorRR.X

theorem v_roEvery (e : Int) : spec_roEvery.f e = some (inR e 1 100) := by simp [spec_roEvery.f, v_l1In]
theorem v_isEvery (e : Int) : impl_isEvery.f e = some (inR e 1 100) := by simp [impl_isEvery.f, v_between]

theorem v_isYear (y : Int) : impl_isYear.f y = some (inR y 0 3000) := by simp [impl_isYear.f, v_between]
def span (f t : Int) : Bool := decide (0 ≤ f ∧ f ≤ t ∧ t ≤ 3000 ∧ t - f < 200)
theorem span_iff {f t : Int} : span f t = true ↔ 0 ≤ f ∧ f ≤ t ∧ t ≤ 3000 ∧ t - f < 200 := by simp [span]
theorem v_roSpan (f t : Int) : spec_roSpan.f f t = some (span f t) := by
  unfold spec_roSpan.f
  simp only [v_l1In, Option.bind_some]
  by_cases h1 : inR t 0 3000 = true
  · rw [if_pos h1]
    rw [inR_iff] at h1
    by_cases h2 : inR f 0 t = true
    · rw [if_pos h2]
      rw [inR_iff] at h2
      rw [w64 (by omega) (by omega)]
      unfold span
      congr 1
      rw [decide_eq_decide]
      omega
    · rw [if_neg h2]
      rw [inR_iff] at h2
      unfold span
      congr 1
      rw [eq_comm, decide_eq_false_iff_not]
      omega
  · rw [if_neg h1]
    rw [inR_iff] at h1
    unfold span
    congr 1
    rw [eq_comm, decide_eq_false_iff_not]
    omega
theorem v_isSpan (f t : Int) : impl_isSpan.f f t = some (span f t) := by
  unfold impl_isSpan.f
  simp only [v_isYear, v_between, Option.bind_some]
  by_cases h1 : inR f 0 3000 = true
  · rw [if_pos h1]
    rw [inR_iff] at h1
    by_cases h2 : inR t f 3000 = true
    · rw [if_pos h2]
      rw [inR_iff] at h2
      rw [w64 (by omega) (by omega)]
      unfold span
      congr 1
      rw [decide_eq_decide]
      omega
    · rw [if_neg h2]
      rw [inR_iff] at h2
      unfold span
      congr 1
      rw [eq_comm, decide_eq_false_iff_not]
      omega
  · rw [if_neg h1]
    rw [inR_iff] at h1
    unfold span
    congr 1
    rw [eq_comm, decide_eq_false_iff_not]
    omega

/-- Round: greater than 0, and a multiple. -/
def rnd (a e : Int) : Bool := decide (0 < a) && (Int.tmod a e == 0)
theorem v_roRound (a e : Int) (he : 1 ≤ e) : spec_roRound.f a e = some (rnd a e) := by
  unfold spec_roRound.f rnd
  by_cases h : a > 0
  · rw [if_pos h, if_neg (by omega), decide_eq_true (show 0 < a from h), Bool.true_and]
  · rw [if_neg h, decide_eq_false (show ¬ 0 < a from h), Bool.false_and]
theorem v_isRound (a e : Int) (he : 1 ≤ e) : impl_isRound.f a e = some (rnd a e) := by
  unfold impl_isRound.f rnd
  by_cases h : a > 0
  · rw [if_pos h, if_neg (by omega), decide_eq_true (show 0 < a from h), Bool.true_and]
  · rw [if_neg h, decide_eq_false (show ¬ 0 < a from h), Bool.false_and]

end Go.Proofs.YtpnkeknmgfdpdaaGreatDoorRR.Q
set_option linter.all false
namespace Go.Proofs.YtpnkeknmgfdpdaaGreatDoorRR.Q
open Go.RowKit Go Go.Proofs.YtpnkeknmgfdpdaaGreatDoorRR.Eng Go.Proofs.YtpnkeknmgfdpdaaGreatDoorRR Go.Proofs.YtpnkeknmgfdpdaaGreatDoorRR.X

theorem roAll_at (l : List Int) (f t e : Int) (hl : l.length ≤ 1048576) : Big (fun k => spec_roAll.f k l f t e) (born l && span f t && inR e 1 100) := by
  unfold spec_roAll.f
  refine Big.bind (roBorn_at l hl) ?_
  simp only [v_roSpan, v_roEvery, Option.bind_some]
  refine Big.of ?_
  cases born l <;> cases span f t <;> simp
end Go.Proofs.YtpnkeknmgfdpdaaGreatDoorRR.Q
set_option linter.all false
namespace Go.Proofs.YtpnkeknmgfdpdaaGreatDoorRR.Q
open Go.RowKit Go Go.Proofs.YtpnkeknmgfdpdaaGreatDoorRR.Eng Go.Proofs.YtpnkeknmgfdpdaaGreatDoorRR Go.Proofs.YtpnkeknmgfdpdaaGreatDoorRR.X

theorem roYear_at (l : List Int) (y : Int) (hl : l.length ≤ 1048576) : Big (fun k => spec_roYear.f k l y) (born l && inR y 0 3000) := by
  unfold spec_roYear.f
  refine Big.bind (roBorn_at l hl) ?_
  simp only [v_l1In, Option.bind_some]
  cases born l with
  | true => simp only [if_true, Bool.true_and]; exact Big.some_ _
  | false => simp only [Bool.false_eq_true, if_false, Bool.false_and]; exact Big.some_ _
end Go.Proofs.YtpnkeknmgfdpdaaGreatDoorRR.Q
set_option linter.all false
namespace Go.Proofs.YtpnkeknmgfdpdaaGreatDoorRR.Q
open Go.RowKit Go Go.Proofs.YtpnkeknmgfdpdaaGreatDoorRR.Eng Go.Proofs.YtpnkeknmgfdpdaaGreatDoorRR Go.Proofs.YtpnkeknmgfdpdaaGreatDoorRR.X

/-- Births that fit. -/
def Fit (l : List Int) : Prop := l.length ≤ 10 ∧ ∀ x ∈ l, 0 ≤ x ∧ x ≤ 2900
theorem fit_of_born {l : List Int} (h : born l = true) : Fit l := by
  rw [born_iff] at h
  exact ⟨h.1.2, h.2⟩
theorem rd_mem' {l : List Int} {i : Int} (h0 : 0 ≤ i) (h1 : i < (l.length : Int)) : rde l i ∈ l := by
  have h : i.toNat < l.length := by omega
  unfold rde
  rw [List.getD_eq_getElem?_getD, List.getElem?_eq_getElem h]
  exact List.getElem_mem h
/-- The people from number i on who have a jubilee. -/
def jubF (y e : Int) : Nat → List Int → List Int
  | _, [] => []
  | i, b :: t => (if inR (y - b) 0 120 && rnd (y - b) e then [(i : Int)] else []) ++ jubF y e (i + 1) t
def jub (l : List Int) (y e : Int) : List Int := jubF y e 0 l
theorem jubF_length (y e : Int) (l : List Int) : ∀ i, (jubF y e i l).length ≤ l.length := by
  induction l with
  | nil => intro i; simp [jubF]
  | cons b t ih =>
    intro i
    have := ih (i + 1)
    unfold jubF
    rw [List.length_append, List.length_cons]
    split <;> simp <;> omega
theorem jub_length (l : List Int) (y e : Int) : (jub l y e).length ≤ l.length := jubF_length y e l 0
theorem v_roAge (b y : Int) (hb : 0 ≤ b ∧ b ≤ 2900) (hy : 0 ≤ y ∧ y ≤ 3000) : spec_roAge.f b y = some (if inR (y - b) 0 120 then y - b else -1) := by
  unfold spec_roAge.f
  rw [w64 (by omega) (by omega)]
  simp only [v_l1In, Option.bind_some]
  cases inR (y - b) 0 120 <;> simp
theorem v_ageIn (b y : Int) (hb : 0 ≤ b ∧ b ≤ 2900) (hy : 0 ≤ y ∧ y ≤ 3000) : impl_ageIn.f b y = some (y - b, inR (y - b) 0 120) := by
  unfold impl_ageIn.f impl_isAge.f
  rw [w64 (by omega) (by omega)]
  simp only [v_between, Option.bind_some]
theorem rnd_neg (e : Int) : rnd (-1) e = false := by simp [rnd]
theorem roIn_l (l : List Int) (y e : Int) (hf : Fit l) (hy : 0 ≤ y ∧ y ≤ 3000) (he : 1 ≤ e) (t : List Int) : ∀ (i : Nat) (acc : List Int), l.drop i = t → acc.length ≤ i → i ≤ l.length → Big (fun k => spec_roIn.l0 k y e acc l (l.length : Int) i) (acc ++ jubF y e i t) := by
  induction t with
  | nil =>
    intro i acc hd ha hi
    have hle := drop_nil_le hd
    refine Big.succ ?_
    simp only [spec_roIn.l0, if_neg (show ¬ (i : Int) < (l.length : Int) by omega)]
    simp only [jubF, List.append_nil]
    exact Big.some_ _
  | cons b t ih =>
    intro i acc hd ha hi
    obtain ⟨h1, h2, h3⟩ := rd_cons_drop hd
    have hbm : 0 ≤ b ∧ b ≤ 2900 := hf.2 b (List.mem_of_mem_drop (i := i) (by rw [hd]; exact List.mem_cons_self))
    have hl := hf.1
    refine Big.succ ?_
    simp only [spec_roIn.l0]
    simp only [h1, if_pos (show (i : Int) < (l.length : Int) by omega), if_pos (show 0 ≤ (i : Int) by omega), v_roAge b y hbm hy, v_roRound _ e he, Option.bind_some, if_pos (show acc.length < 17592186044416 by omega)]
    rw [w64n (by omega)]
    unfold jubF
    cases h4 : inR (y - b) 0 120 with
    | true =>
      simp only [if_true, Bool.true_and]
      cases h5 : rnd (y - b) e with
      | true =>
        simp only [if_true]
        rw [← List.append_assoc]
        exact ih (i + 1) (acc ++ [(i : Int)]) h3 (by simp; omega) (by omega)
      | false =>
        simp only [Bool.false_eq_true, if_false, List.nil_append]
        exact ih (i + 1) acc h3 (by omega) (by omega)
    | false =>
      simp only [Bool.false_eq_true, if_false, Bool.false_and, List.nil_append, rnd_neg]
      exact ih (i + 1) acc h3 (by omega) (by omega)
theorem roIn_at (l : List Int) (y e : Int) (hf : Fit l) (hy : 0 ≤ y ∧ y ≤ 3000) (he : 1 ≤ e) : Big (fun k => spec_roIn.f k l y e) (jub l y e) := by
  unfold spec_roIn.f
  exact roIn_l l y e hf hy he l 0 [] rfl (Nat.le_refl _) (Nat.zero_le _)
theorem jubilees_l (l : List Int) (y e : Int) (hf : Fit l) (hy : 0 ≤ y ∧ y ≤ 3000) (he : 1 ≤ e) (t : List Int) : ∀ (i : Nat) (acc : List Int), l.drop i = t → acc.length ≤ i → i ≤ l.length → Big (fun k => impl_jubilees.l0 k y e acc l (l.length : Int) i) (acc ++ jubF y e i t) := by
  induction t with
  | nil =>
    intro i acc hd ha hi
    have hle := drop_nil_le hd
    refine Big.succ ?_
    simp only [impl_jubilees.l0, if_neg (show ¬ (i : Int) < (l.length : Int) by omega)]
    simp only [jubF, List.append_nil]
    exact Big.some_ _
  | cons b t ih =>
    intro i acc hd ha hi
    obtain ⟨h1, h2, h3⟩ := rd_cons_drop hd
    have hbm : 0 ≤ b ∧ b ≤ 2900 := hf.2 b (List.mem_of_mem_drop (i := i) (by rw [hd]; exact List.mem_cons_self))
    have hl := hf.1
    refine Big.succ ?_
    simp only [impl_jubilees.l0]
    simp only [h1, if_pos (show (i : Int) < (l.length : Int) by omega), if_pos (show 0 ≤ (i : Int) by omega), v_ageIn b y hbm hy, v_isRound _ e he, Option.bind_some, if_pos (show acc.length < 17592186044416 by omega)]
    rw [w64n (by omega)]
    unfold jubF
    cases h4 : inR (y - b) 0 120 with
    | true =>
      simp only [if_true, Bool.true_and]
      cases h5 : rnd (y - b) e with
      | true =>
        simp only [if_true]
        rw [← List.append_assoc]
        exact ih (i + 1) (acc ++ [(i : Int)]) h3 (by simp; omega) (by omega)
      | false =>
        simp only [Bool.false_eq_true, if_false, List.nil_append]
        exact ih (i + 1) acc h3 (by omega) (by omega)
    | false =>
      simp only [Bool.false_eq_true, if_false, Bool.false_and, List.nil_append]
      exact ih (i + 1) acc h3 (by omega) (by omega)
theorem jubilees_at (l : List Int) (y e : Int) (hf : Fit l) (hy : 0 ≤ y ∧ y ≤ 3000) (he : 1 ≤ e) : Big (fun k => impl_jubilees.f k l y e) (jub l y e) := by
  unfold impl_jubilees.f
  exact jubilees_l l y e hf hy he l 0 [] rfl (Nat.le_refl _) (Nat.zero_le _)

end Go.Proofs.YtpnkeknmgfdpdaaGreatDoorRR.Q
set_option linter.all false
namespace Go.Proofs.YtpnkeknmgfdpdaaGreatDoorRR.Q
open Go.RowKit Go Go.Proofs.YtpnkeknmgfdpdaaGreatDoorRR.Eng Go.Proofs.YtpnkeknmgfdpdaaGreatDoorRR Go.Proofs.YtpnkeknmgfdpdaaGreatDoorRR.X

/-- The sum of the ages of all who count. -/
def sumA (y : Int) : List Int → Int
  | [] => 0
  | b :: t => (if inR (y - b) 0 120 then y - b else 0) + sumA y t
theorem sumA_le (y : Int) (l : List Int) : 0 ≤ sumA y l ∧ sumA y l ≤ 120 * (l.length : Int) := by
  induction l with
  | nil => simp [sumA]
  | cons b t ih =>
    unfold sumA
    rw [List.length_cons]
    cases h : inR (y - b) 0 120 with
    | true =>
      rw [inR_iff] at h
      simp only [if_true]
      omega
    | false =>
      simp only [Bool.false_eq_true, if_false]
      omega
theorem roSum_l (l : List Int) (y : Int) (hf : Fit l) (hy : 0 ≤ y ∧ y ≤ 3000) (t : List Int) : ∀ (i : Nat) (acc : Int), l.drop i = t → 0 ≤ acc → acc ≤ 120 * (i : Int) → i ≤ l.length → Big (fun k => spec_roSum.l0 k y acc l (l.length : Int) i) (acc + sumA y t) := by
  induction t with
  | nil =>
    intro i acc hd h0 ha hi
    have hle := drop_nil_le hd
    refine Big.succ ?_
    simp only [spec_roSum.l0, if_neg (show ¬ (i : Int) < (l.length : Int) by omega)]
    simp only [sumA, Int.add_zero]
    exact Big.some_ _
  | cons b t ih =>
    intro i acc hd h0 ha hi
    obtain ⟨h1, h2, h3⟩ := rd_cons_drop hd
    have hbm : 0 ≤ b ∧ b ≤ 2900 := hf.2 b (List.mem_of_mem_drop (i := i) (by rw [hd]; exact List.mem_cons_self))
    have hl := hf.1
    refine Big.succ ?_
    simp only [spec_roSum.l0]
    simp only [h1, if_pos (show (i : Int) < (l.length : Int) by omega), if_pos (show 0 ≤ (i : Int) by omega), v_roAge b y hbm hy, Option.bind_some]
    rw [w64n (by omega)]
    unfold sumA
    cases h4 : inR (y - b) 0 120 with
    | true =>
      have h5 := h4
      rw [inR_iff] at h5
      have hm : spec_l1Most.f 0 (y - b) = some (y - b) := by
        unfold spec_l1Most.f
        by_cases h : (0 : Int) > y - b
        · omega
        · rw [if_neg h]
      simp only [if_true, hm, Option.bind_some]
      rw [w64 (by omega) (by omega), ← Int.add_assoc]
      exact ih (i + 1) (acc + (y - b)) h3 (by omega) (by omega) (by omega)
    | false =>
      have hm : spec_l1Most.f 0 (-1) = some 0 := rfl
      simp only [Bool.false_eq_true, if_false, hm, Option.bind_some, Int.zero_add, Int.add_zero]
      rw [w64 (by omega) (by omega)]
      exact ih (i + 1) acc h3 (by omega) (by omega) (by omega)
theorem roSum_at (l : List Int) (y : Int) (hf : Fit l) (hy : 0 ≤ y ∧ y ≤ 3000) : Big (fun k => spec_roSum.f k l y) (sumA y l) := by
  unfold spec_roSum.f
  have := roSum_l l y hf hy l 0 0 rfl (by omega) (by omega) (Nat.zero_le _)
  rw [Int.zero_add] at this
  exact this
theorem sumOfAges_l (l : List Int) (y : Int) (hf : Fit l) (hy : 0 ≤ y ∧ y ≤ 3000) (t : List Int) : ∀ (i : Nat) (acc : Int), l.drop i = t → 0 ≤ acc → acc ≤ 120 * (i : Int) → i ≤ l.length → Big (fun k => impl_sumOfAges.l0 k y acc l (l.length : Int) i) (acc + sumA y t) := by
  induction t with
  | nil =>
    intro i acc hd h0 ha hi
    have hle := drop_nil_le hd
    refine Big.succ ?_
    simp only [impl_sumOfAges.l0, if_neg (show ¬ (i : Int) < (l.length : Int) by omega)]
    simp only [sumA, Int.add_zero]
    exact Big.some_ _
  | cons b t ih =>
    intro i acc hd h0 ha hi
    obtain ⟨h1, h2, h3⟩ := rd_cons_drop hd
    have hbm : 0 ≤ b ∧ b ≤ 2900 := hf.2 b (List.mem_of_mem_drop (i := i) (by rw [hd]; exact List.mem_cons_self))
    have hl := hf.1
    refine Big.succ ?_
    simp only [impl_sumOfAges.l0]
    simp only [h1, if_pos (show (i : Int) < (l.length : Int) by omega), if_pos (show 0 ≤ (i : Int) by omega), v_ageIn b y hbm hy, Option.bind_some]
    rw [w64n (by omega)]
    unfold sumA
    cases h4 : inR (y - b) 0 120 with
    | true =>
      have h5 := h4
      rw [inR_iff] at h5
      simp only [if_true]
      rw [w64 (by omega) (by omega), ← Int.add_assoc]
      exact ih (i + 1) (acc + (y - b)) h3 (by omega) (by omega) (by omega)
    | false =>
      simp only [Bool.false_eq_true, if_false, Int.zero_add]
      exact ih (i + 1) acc h3 (by omega) (by omega) (by omega)
theorem sumOfAges_at (l : List Int) (y : Int) (hf : Fit l) (hy : 0 ≤ y ∧ y ≤ 3000) : Big (fun k => impl_sumOfAges.f k l y) (sumA y l) := by
  unfold impl_sumOfAges.f
  have := sumOfAges_l l y hf hy l 0 0 rfl (by omega) (by omega) (Nat.zero_le _)
  rw [Int.zero_add] at this
  exact this
end Go.Proofs.YtpnkeknmgfdpdaaGreatDoorRR.Q
set_option linter.all false
namespace Go.Proofs.YtpnkeknmgfdpdaaGreatDoorRR.Q
open Go.RowKit Go Go.Proofs.YtpnkeknmgfdpdaaGreatDoorRR.Eng Go.Proofs.YtpnkeknmgfdpdaaGreatDoorRR Go.Proofs.YtpnkeknmgfdpdaaGreatDoorRR.X
set_option linter.unusedSimpArgs false

theorem num_at (x : Int) (h : 0 ≤ x ∧ x ≤ 9999) : Big (fun _ => spec_l1Num.f x) (Go.Lib.itoa x) ∧ (Go.Lib.itoa x).length ≤ 4 := by
  refine ⟨Big.of (by unfold spec_l1Num.f; rw [if_pos h]), ?_⟩
  obtain ⟨n, rfl⟩ : ∃ n : Nat, x = (n : Int) := ⟨x.toNat, by omega⟩
  have := (l1Num_r 4 n (by omega) (by omega) (by omega)).2
  unfold Go.Lib.itoa
  rw [if_neg (by omega)]
  exact this
theorem join_snoc (xs : List (List UInt8)) (y sep : List UInt8) (h : xs ≠ []) : Go.Lib.join (xs ++ [y]) sep = Go.Lib.join xs sep ++ sep ++ y := by
  cases xs with
  | nil => exact absurd rfl h
  | cons x r =>
    rw [List.cons_append, Go.Lib.join_cons, Go.Lib.join_cons]
    simp [Go.Lib.joinTail, List.append_assoc]
theorem Big.pos {α : Type} {c : Prop} [Decidable c] {f g : Nat → Option α} {r : α} (h : c) (hb : Big f r) : Big (fun k => if c then f k else g k) r := by
  simpa only [if_pos h] using hb
theorem Big.neg {α : Type} {c : Prop} [Decidable c] {f g : Nat → Option α} {r : α} (h : ¬ c) (hb : Big g r) : Big (fun k => if c then f k else g k) r := by
  simpa only [if_neg h] using hb
theorem joinTail_len (sep : List UInt8) (B : Nat) (r : List (List UInt8)) (h : ∀ x ∈ r, x.length ≤ B) : (Go.Lib.joinTail sep r).length ≤ r.length * (B + sep.length) := by
  induction r with
  | nil => simp [Go.Lib.joinTail]
  | cons y r ih =>
    have e : Go.Lib.joinTail sep (y :: r) = sep ++ y ++ Go.Lib.joinTail sep r := by simp [Go.Lib.joinTail]
    have h1 := ih fun x hx => h x (List.mem_cons_of_mem _ hx)
    have h2 := h y List.mem_cons_self
    rw [e, List.length_append, List.length_append, List.length_cons, Nat.succ_mul]
    omega
theorem join_len (sep : List UInt8) (B : Nat) (r : List (List UInt8)) (h : ∀ x ∈ r, x.length ≤ B) : (Go.Lib.join r sep).length ≤ r.length * (B + sep.length) := by
  cases r with
  | nil => simp [Go.Lib.join_nil]
  | cons x r =>
    have h1 := joinTail_len sep B r fun x hx => h x (List.mem_cons_of_mem _ hx)
    have h2 := h x List.mem_cons_self
    rw [Go.Lib.join_cons, List.length_append, List.length_cons, Nat.succ_mul]
    omega
end Go.Proofs.YtpnkeknmgfdpdaaGreatDoorRR.Q
set_option linter.all false
namespace Go.Proofs.YtpnkeknmgfdpdaaGreatDoorRR.Q
open Go.RowKit Go Go.Proofs.YtpnkeknmgfdpdaaGreatDoorRR.Eng Go.Proofs.YtpnkeknmgfdpdaaGreatDoorRR Go.Proofs.YtpnkeknmgfdpdaaGreatDoorRR.X
set_option linter.unusedSimpArgs false

theorem Join_at (xs : List (List UInt8)) (sep : List UInt8) (hn : xs.length ≤ 140737488355328) (hj : (Go.Lib.join xs sep).length ≤ 140737488355328) : S.strings_Join.f xs sep = some (Go.Lib.join xs sep) := by
  unfold S.strings_Join.f
  rw [if_pos ⟨hn, hj⟩]
theorem Itoa_at (x : Int) (h : -9223372036854775808 ≤ x ∧ x ≤ 9223372036854775807) : S.strconv_Itoa.f x = some (Go.Lib.itoa x) := by
  unfold S.strconv_Itoa.f
  rw [if_pos h]
theorem joined_l (l : List Int) (hw : ∀ x ∈ l, -9223372036854775808 ≤ x ∧ x ≤ 9223372036854775807) (hl : l.length ≤ 1000000) (sep : List UInt8) (hs : sep.length ≤ 1000) (d : Nat) : ∀ i : Nat, i + d = l.length → Big (fun k => impl_joined.l0 k (sep) (((l.take i).map Go.Lib.itoa)) l (l.length : Int) i) ((Go.Lib.join (l.map Go.Lib.itoa) sep)) := by
  induction d with
  | zero =>
    intro i hi
    refine Big.succ ?_
    unfold impl_joined.l0
    refine Big.neg (by omega) ?_
    rw [List.take_of_length_le (show l.length ≤ i by omega)]
    have hj := join_len sep 21 (l.map Go.Lib.itoa) (fun x hx => by
      obtain ⟨y, hy, rfl⟩ := List.mem_map.1 hx
      exact Go.Lib.itoa_length_le y (hw y hy).1 (hw y hy).2)
    rw [List.length_map] at hj
    have hj2 : l.length * (21 + sep.length) ≤ 1000000 * 1021 := Nat.mul_le_mul hl (by omega)
    rw [Join_at _ sep (by rw [List.length_map]; omega) (by omega)]
    exact Big.some_ _
  | succ d ih =>
    intro i hi
    have hlt : i < l.length := by omega
    have hx : rde l (i : Int) = l[i] := by rw [rd_nat, List.getD_eq_getElem?_getD, List.getElem?_eq_getElem hlt]; rfl
    refine Big.succ ?_
    unfold impl_joined.l0
    refine Big.pos (by omega) ?_
    refine Big.pos (by omega) ?_
    refine Big.pos (by omega) ?_
    rw [hx, Itoa_at _ (hw _ (List.getElem_mem hlt)), w64n (by omega)]
    refine Big.pos (by rw [List.length_map, List.length_take]; omega) ?_
    have e : ((l.take i).map Go.Lib.itoa) ++ [(Go.Lib.itoa l[i])] = ((l.take (i + 1)).map Go.Lib.itoa) := by
      rw [List.take_succ_eq_append_getElem hlt, List.map_append]
      rfl
    rw [e]
    exact ih (i + 1) (by omega)
theorem joined_at (l : List Int) (hw : ∀ x ∈ l, -9223372036854775808 ≤ x ∧ x ≤ 9223372036854775807) (hl : l.length ≤ 1000000) (sep : List UInt8) (hs : sep.length ≤ 1000) : Big (fun k => impl_joined.f k l (sep)) ((Go.Lib.join (l.map Go.Lib.itoa) sep)) :=
  joined_l l hw hl sep hs l.length 0 (by omega)
end Go.Proofs.YtpnkeknmgfdpdaaGreatDoorRR.Q
set_option linter.all false
namespace Go.Proofs.YtpnkeknmgfdpdaaGreatDoorRR.Q
open Go.RowKit Go Go.Proofs.YtpnkeknmgfdpdaaGreatDoorRR.Eng Go.Proofs.YtpnkeknmgfdpdaaGreatDoorRR Go.Proofs.YtpnkeknmgfdpdaaGreatDoorRR.X
set_option linter.unusedSimpArgs false

theorem roText_l (l : List Int) (hl : l.length ≤ 10) (hb : ∀ x ∈ l, 0 ≤ x ∧ x ≤ 2900) (d : Nat) : ∀ (i : Nat) (acc : List UInt8), i + d = l.length → acc = Go.Lib.join ((l.take i).map Go.Lib.itoa) [44] → acc.length ≤ 5 * i → Big (fun k => spec_roText.l0 k (acc) l (l.length : Int) i) ((Go.Lib.join (l.map Go.Lib.itoa) [44])) := by
  induction d with
  | zero =>
    intro i acc hi ha _
    refine Big.succ ?_
    simp only [spec_roText.l0, if_neg (show ¬ (i : Int) < (l.length : Int) by omega)]
    rw [ha, List.take_of_length_le (show l.length ≤ i by omega)]
    exact Big.some_ _
  | succ d ih =>
    intro i acc hi ha hs
    have hlt : i < l.length := by omega
    have er : rde l (i : Int) = l[i] := by
      unfold rde
      rw [Int.toNat_natCast, List.getD_eq_getElem?_getD, List.getElem?_eq_getElem hlt, Option.getD_some]
    obtain ⟨hn, hlen⟩ := num_at l[i] (by have := hb _ (List.getElem_mem hlt); omega)
    have hsnoc : (l.take (i + 1)).map Go.Lib.itoa = (l.take i).map Go.Lib.itoa ++ [Go.Lib.itoa l[i]] := by
      rw [List.take_succ_eq_append_getElem hlt, List.map_append]
      rfl
    refine Big.succ ?_
    simp only [spec_roText.l0, if_pos (show (i : Int) < (l.length : Int) by omega), if_pos (show 0 ≤ (i : Int) by omega), er, w64n (show i < 9223372036854775807 by omega)]
    by_cases h0 : i = 0
    · subst h0
      simp only [if_neg (show ¬ ((0 : Nat) : Int) > 0 by omega)]
      refine Big.bind hn ?_
      simp only [if_pos (show acc.length + (Go.Lib.itoa l[0]).length ≤ 9223372036854775807 by omega)]
      have e0 : acc ++ Go.Lib.itoa l[0] = Go.Lib.join ((l.take (0 + 1)).map Go.Lib.itoa) [44] := by
        rw [hsnoc, ha]
        simp [Go.Lib.join_nil, Go.Lib.join_one]
      exact ih (0 + 1) _ (by omega) e0 (by rw [List.length_append]; omega)
    · simp only [if_pos (show (i : Int) > 0 by omega), if_pos (show acc.length + 1 ≤ 9223372036854775807 by omega)]
      refine Big.bind hn ?_
      rw [show ([44] : List UInt8) = [44] from rfl]
      simp only [if_pos (show (acc ++ [44]).length + (Go.Lib.itoa l[i]).length ≤ 9223372036854775807 by rw [List.length_append, List.length_singleton]; omega)]
      have hne : (l.take i).map Go.Lib.itoa ≠ [] := by
        intro hh
        have := congrArg List.length hh
        rw [List.length_map, List.length_take, List.length_nil] at this
        omega
      have e0 : acc ++ [44] ++ Go.Lib.itoa l[i] = Go.Lib.join ((l.take (i + 1)).map Go.Lib.itoa) [44] := by
        rw [hsnoc, join_snoc _ _ _ hne, ha]
      exact ih (i + 1) _ (by omega) e0 (by simp only [List.length_append, List.length_singleton]; omega)
theorem roText_at (l : List Int) (h : born l = true) : Big (fun k => spec_roText.f k l) ((Go.Lib.join (l.map Go.Lib.itoa) [44])) := by
  obtain ⟨h1, h2⟩ := born_iff.mp h
  unfold spec_roText.f
  rw [show ([] : List UInt8) = [] from rfl]
  exact roText_l l h1.2 h2 l.length 0 [] (by omega) rfl (by simp)
end Go.Proofs.YtpnkeknmgfdpdaaGreatDoorRR.Q
set_option linter.all false
namespace Go.Proofs.YtpnkeknmgfdpdaaGreatDoorRR.Q
open Go.RowKit

/-- A text, split at each byte c. -/
def sp (c : UInt8) : List UInt8 → List (List UInt8)
  | [] => [[]]
  | b :: l => if b = c then [] :: sp c l else ((b :: (sp c l).headD []) :: (sp c l).tail)
theorem sp_miss {c : UInt8} : ∀ {l : List UInt8}, c ∉ l → sp c l = [l]
  | [], _ => rfl
  | b :: l, h => by
    have h1 : ¬ b = c := fun e => h (e ▸ List.mem_cons_self)
    have h2 := sp_miss (c := c) (l := l) (fun e => h (List.mem_cons_of_mem _ e))
    rw [sp, if_neg h1, h2]
    rfl
theorem sp_hit {c : UInt8} (v : List UInt8) : ∀ {u : List UInt8}, c ∉ u → sp c (u ++ c :: v) = u :: sp c v
  | [], _ => by rw [List.nil_append, sp, if_pos rfl]
  | b :: u, h => by
    have h1 : ¬ b = c := fun e => h (e ▸ List.mem_cons_self)
    have h2 := sp_hit (c := c) v (u := u) (fun e => h (List.mem_cons_of_mem _ e))
    rw [List.cons_append, sp, if_neg h1, h2]
    rfl
theorem sp_ne (c : UInt8) : ∀ l : List UInt8, sp c l ≠ []
  | [] => by simp [sp]
  | b :: l => by
    rw [sp]
    split <;> simp
theorem sp_len (c : UInt8) : ∀ l : List UInt8, (sp c l).length ≤ l.length + 1
  | [] => by simp [sp]
  | b :: l => by
    have ih := sp_len c l
    have hn := sp_ne c l
    rw [sp]
    split
    · simp only [List.length_cons]
      omega
    · cases h : sp c l with
      | nil => exact absurd h hn
      | cons x r =>
        rw [h] at ih
        simp only [List.length_cons, List.tail_cons] at ih ⊢
        omega
theorem sp_word (c : UInt8) : ∀ (l w : List UInt8), w ∈ sp c l → w.length ≤ l.length
  | [], w, h => by
    simp [sp] at h
    simp [h]
  | b :: l, w, h => by
    have ih := sp_word c l
    rw [sp] at h
    split at h
    · rcases List.mem_cons.1 h with rfl | h
      · simp
      · have := ih w h
        simp only [List.length_cons]
        omega
    · cases hs : sp c l with
      | nil => exact absurd hs (sp_ne c l)
      | cons x r =>
        rw [hs] at h ih
        rcases List.mem_cons.1 h with rfl | h
        · have := ih x List.mem_cons_self
          simp only [List.headD_cons, List.length_cons]
          omega
        · have := ih w (List.mem_cons_of_mem _ h)
          simp only [List.length_cons]
          omega
theorem at_or (c : UInt8) : ∀ l : List UInt8, c ∉ l ∨ ∃ u v, l = u ++ c :: v ∧ c ∉ u
  | [] => .inl (by simp)
  | b :: l => by
    by_cases e : b = c
    · exact .inr ⟨[], l, by rw [e]; rfl, by simp⟩
    · rcases at_or c l with h | ⟨u, v, h1, h2⟩
      · exact .inl (by
          intro hm
          rcases List.mem_cons.1 hm with h3 | h3
          · exact e h3.symm
          · exact h h3)
      · exact .inr ⟨b :: u, v, by rw [h1]; rfl, by
          intro hm
          rcases List.mem_cons.1 hm with h3 | h3
          · exact e h3.symm
          · exact h2 h3⟩
theorem join_two (x y : List UInt8) (r : List (List UInt8)) (sep : List UInt8) : Go.Lib.join (x :: y :: r) sep = x ++ sep ++ Go.Lib.join (y :: r) sep := by
  simp [Go.Lib.join_cons, Go.Lib.joinTail, List.append_assoc]
theorem sp_join (c : UInt8) : ∀ ws : List (List UInt8), ws ≠ [] → (∀ w ∈ ws, c ∉ w) → sp c (Go.Lib.join ws [c]) = ws
  | [], h, _ => absurd rfl h
  | [x], _, hw => by rw [Go.Lib.join_one, sp_miss (hw x List.mem_cons_self)]
  | x :: y :: r, _, hw => by
    rw [join_two, List.append_assoc, List.singleton_append, sp_hit _ (hw x List.mem_cons_self), sp_join c (y :: r) (by simp) (fun w h => hw w (List.mem_cons_of_mem _ h))]
theorem join_sp (c : UInt8) (n : Nat) : ∀ l : List UInt8, l.length ≤ n → Go.Lib.join (sp c l) [c] = l := by
  induction n with
  | zero =>
    intro l hl
    have : l = [] := List.length_eq_zero_iff.mp (by omega)
    subst this
    rfl
  | succ n ih =>
    intro l hl
    rcases at_or c l with h | ⟨u, v, rfl, hu⟩
    · rw [sp_miss h, Go.Lib.join_one]
    · rw [sp_hit v hu]
      have h2 := ih v (by simp only [List.length_append, List.length_cons] at hl; omega)
      cases hs : sp c v with
      | nil => exact absurd hs (sp_ne c v)
      | cons x r => rw [join_two, ← hs, h2, List.append_assoc, List.singleton_append]
theorem index_one (c : UInt8) : ∀ s : List UInt8, (c ∉ s ∧ Go.Lib.index s [c] = -1) ∨ ∃ u v, s = u ++ c :: v ∧ c ∉ u ∧ Go.Lib.index s [c] = (u.length : Int)
  | [] => .inl ⟨by simp, rfl⟩
  | b :: l => by
    by_cases e : b = c
    · subst e
      exact .inr ⟨[], l, rfl, by simp, by simp [Go.Lib.index, List.isPrefixOf]⟩
    · have hp : ([c] : List UInt8).isPrefixOf (b :: l) = false := by simp [List.isPrefixOf, Ne.symm e]
      have hix : Go.Lib.index (b :: l) [c] = if Go.Lib.index l [c] == -1 then -1 else Go.Lib.index l [c] + 1 := by rw [Go.Lib.index, hp]; simp
      rcases index_one c l with ⟨h1, h2⟩ | ⟨u, v, h1, h2, h3⟩
      · refine .inl ⟨fun hm => ?_, by rw [hix, h2]; rfl⟩
        rcases List.mem_cons.1 hm with h4 | h4
        · exact e h4.symm
        · exact h1 h4
      · refine .inr ⟨b :: u, v, by rw [h1]; rfl, fun hm => ?_, ?_⟩
        · rcases List.mem_cons.1 hm with h4 | h4
          · exact e h4.symm
          · exact h2 h4
        · rw [hix, h3, if_neg (by rw [beq_iff_eq]; omega), List.length_cons]
          omega
theorem splitK_sp (c : UInt8) : ∀ (k : Nat) (s : List UInt8), Go.Lib.count s [c] = k → Go.Lib.splitK [c] 0 k s = sp c s
  | 0, s, h => by
    rw [Go.Lib.count_one, List.count_eq_zero] at h
    rw [sp_miss h]
    rfl
  | k + 1, s, h => by
    rw [Go.Lib.count_one] at h
    rcases index_one c s with ⟨h1, _⟩ | ⟨u, v, rfl, hu, hx⟩
    · rw [List.count_eq_zero.2 h1] at h
      omega
    · have hv : Go.Lib.count v [c] = k := by
        rw [Go.Lib.count_one]
        rw [List.count_append, List.count_eq_zero.2 hu, List.count_cons_self] at h
        omega
      have e1 : ((Go.Lib.index (u ++ c :: v) [c]).toNat) = u.length := by rw [hx]; omega
      rw [Go.Lib.splitK, if_neg (by rw [beq_iff_eq, hx]; omega), e1, sp_hit v hu, Nat.add_zero, List.take_left' rfl, List.length_singleton]
      have e2 : (u ++ c :: v).drop (u.length + 1) = v := by
        rw [List.drop_append, List.drop_eq_nil_of_le (by omega)]
        simp
      rw [e2, splitK_sp c k v hv]
theorem splitB_sp (s : List UInt8) (c : UInt8) : (Go.Lib.splitB ⟨[c].toArray⟩ 0 (Go.Lib.countB ⟨s.toArray⟩ ⟨[c].toArray⟩) ⟨s.toArray⟩).map (·.data.toList) = sp c s := by
  rw [Go.Lib.splitB_data]
  exact splitK_sp c _ _ rfl
end Go.Proofs.YtpnkeknmgfdpdaaGreatDoorRR.Q
set_option linter.all false
namespace Go.Proofs.YtpnkeknmgfdpdaaGreatDoorRR.Q
open Go.RowKit Go.Proofs.YtpnkeknmgfdpdaaGreatDoorRR.Eng

/-- The value of digits behind a value. -/
def dv (acc : Nat) (l : List UInt8) : Nat := l.foldl (fun a b => a * 10 + (b.toNat - 48)) acc
theorem dig_nat (n : Nat) (h : n < 10) : (UInt8.ofNat (48 + n)).toNat = 48 + n := by
  rw [UInt8.toNat_ofNat']
  omega
theorem dd_all (n : Nat) : ∀ b ∈ Go.Lib.decDigits n, 48 ≤ b.toNat ∧ b.toNat ≤ 57 := by
  induction n using Nat.strongRecOn with
  | ind n ih =>
    intro b hb
    rw [Go.Lib.decDigits] at hb
    split at hb
    · rename_i h
      rw [List.mem_singleton] at hb
      rw [hb, dig_nat n h]
      omega
    · rw [List.mem_append, List.mem_singleton] at hb
      rcases hb with hb | hb
      · exact ih (n / 10) (by omega) b hb
      · rw [hb, dig_nat (n % 10) (by omega)]
        omega
theorem dd_val (n : Nat) : dv 0 (Go.Lib.decDigits n) = n := by
  induction n using Nat.strongRecOn with
  | ind n ih =>
    rw [Go.Lib.decDigits]
    split
    · rename_i h
      simp only [dv, List.foldl_cons, List.foldl_nil, dig_nat n h]
      omega
    · have h1 := ih (n / 10) (by omega)
      unfold dv at h1 ⊢
      rw [List.foldl_append, h1]
      simp only [List.foldl_cons, List.foldl_nil, dig_nat (n % 10) (by omega)]
      omega
theorem dd_head (n : Nat) : ∃ b l, Go.Lib.decDigits n = b :: l ∧ (b = 48 → n = 0) := by
  induction n using Nat.strongRecOn with
  | ind n ih =>
    rw [Go.Lib.decDigits]
    split
    · rename_i h
      refine ⟨_, [], rfl, fun e => ?_⟩
      have h1 := congrArg UInt8.toNat e
      rw [dig_nat n h] at h1
      have : (48 : UInt8).toNat = 48 := rfl
      omega
    · rename_i h
      obtain ⟨b, l, h1, h2⟩ := ih (n / 10) (by omega)
      rw [h1]
      refine ⟨b, l ++ [UInt8.ofNat (48 + n % 10)], rfl, fun e => ?_⟩
      have := h2 e
      omega
theorem dd_zero : Go.Lib.decDigits 0 = [48] := by
  rw [Go.Lib.decDigits]
  rfl
theorem no_comma (x : Int) (h : 0 ≤ x) (c : UInt8) (hc : c.toNat < 48 ∨ 57 < c.toNat) : c ∉ Go.Lib.itoa x := by
  intro hm
  unfold Go.Lib.itoa at hm
  rw [if_neg (by omega)] at hm
  have := dd_all _ c hm
  omega
theorem parse_at : ∀ (l : List UInt8) (acc m : Nat), acc < 10 ^ m → m + l.length ≤ 18 → (∀ b ∈ l, 48 ≤ b.toNat ∧ b.toNat ≤ 57) → Go.Lib.parseUint10 acc l = .ok (dv acc l)
  | [], _, _, _, _, _ => rfl
  | b :: l, acc, m, ha, hm, hb => by
    have h1 := hb b List.mem_cons_self
    rw [List.length_cons] at hm
    have hp : 10 ^ m ≤ 10 ^ 17 := Nat.pow_le_pow_right (by omega) (by omega)
    have ha2 : acc * 10 + (b.toNat - 48) < 10 ^ (m + 1) := by
      rw [Nat.pow_succ]
      omega
    rw [Go.Lib.parseUint10, if_pos h1, if_neg (by omega), if_neg (by omega), parse_at l _ (m + 1) ha2 (by omega) (fun b h => hb b (List.mem_cons_of_mem _ h))]
    rfl
theorem atoi_itoa (x : Int) (h : 0 ≤ x ∧ x ≤ 999999) : Go.Lib.atoiAll (Go.Lib.itoa x) = .ok x := by
  obtain ⟨n, rfl⟩ : ∃ n : Nat, x = (n : Int) := ⟨x.toNat, by omega⟩
  have hl := Go.Lib.itoa_length_le (n : Int) (by omega) (by omega)
  have hd : Go.Lib.itoa (n : Int) = Go.Lib.decDigits n := by
    unfold Go.Lib.itoa
    rw [if_neg (by omega), Int.toNat_natCast]
  rw [hd]
  have hlen : (Go.Lib.decDigits n).length ≤ 6 := by
    have : ∀ d n : Nat, n < 10 ^ d → 1 ≤ d → (Go.Lib.decDigits n).length ≤ d := by
      intro d
      induction d with
      | zero =>
        intro n _ h
        omega
      | succ d ih =>
        intro n hn _
        rw [Go.Lib.decDigits]
        split
        · simp
        · have h10 : n / 10 < 10 ^ d := by
            rw [Nat.pow_succ] at hn
            omega
          have hd : 1 ≤ d := by
            rcases Nat.eq_zero_or_pos d with h0 | h0
            · subst h0
              omega
            · exact h0
          have := ih (n / 10) h10 hd
          rw [List.length_append, List.length_singleton]
          omega
    exact this 6 n (by omega) (by omega)
  obtain ⟨b, l, e, _⟩ := dd_head n
  have hb := dd_all n b (by rw [e]; exact List.mem_cons_self)
  have hp := parse_at (Go.Lib.decDigits n) 0 0 (by omega) (by omega) (dd_all n)
  rw [dd_val] at hp
  rw [e] at hp ⊢
  rw [Go.Lib.atoiAll_plain b l (by omega) (by omega), Go.Lib.parseMag, if_neg (by simp), hp, Go.Lib.signless, if_neg (by omega)]
theorem bt_list (a : List UInt8) (i : Nat) (h : i < a.length) : ((rde a (i : Int)).toNat : Int) = ((a[i]).toNat : Int) := by
  unfold rde
  rw [Int.toNat_natCast, List.getD_eq_getElem?_getD, List.getElem?_eq_getElem h, Option.getD_some]
end Go.Proofs.YtpnkeknmgfdpdaaGreatDoorRR.Q
set_option linter.all false
namespace Go.Proofs.YtpnkeknmgfdpdaaGreatDoorRR.Q
open Go.RowKit Go Go.Proofs.YtpnkeknmgfdpdaaGreatDoorRR.Eng Go.Proofs.YtpnkeknmgfdpdaaGreatDoorRR Go.Proofs.YtpnkeknmgfdpdaaGreatDoorRR.X
set_option linter.unusedSimpArgs false

theorem u8_64 (x : Int) : IntKind.i64.wrap (IntKind.u8.wrap x) = x % 256 := by
  have : IntKind.u8.wrap x = x % 256 := rfl
  rw [this]
  exact w64 (by omega) (by omega)
theorem l1Split_l (a : (List UInt8)) (hs : a.length ≤ 1048576) (c : UInt8) (d : Nat) : ∀ (i f : Nat) (out : List (List UInt8)), i + d = a.length → f ≤ i → c ∉ (a.drop f).take (i - f) → out.length ≤ i → Big (fun k => spec_l1Split.l0 k a (c.toNat : Int) out f i) (out ++ (sp c (a.drop f))) := by
  have hlen : a.length = a.length := rfl
  induction d with
  | zero =>
    intro i f out hi hf hc ho
    refine Big.succ ?_
    unfold spec_l1Split.l0
    refine Big.neg (by omega) ?_
    refine Big.pos (by omega) ?_
    refine Big.pos (by omega) ?_
    refine Big.pos (by omega) ?_
    rw [List.take_of_length_le (by rw [List.length_drop]; omega)] at hc
    have e : a.drop ((f : Int).toNat) = (a.drop f) := by
      rw [Int.toNat_natCast]
    rw [sp_miss hc, e]
    exact Big.some_ _
  | succ d ih =>
    intro i f out hi hf hc ho
    have hlt : i < a.length := by omega
    have hdrop : a.drop f = (a.drop f).take (i - f) ++ a[i] :: a.drop (i + 1) := by
      have h1 := (List.take_append_drop (i - f) (a.drop f)).symm
      rw [List.drop_drop, show f + (i - f) = i by omega, List.drop_eq_getElem_cons hlt] at h1
      exact h1
    refine Big.succ ?_
    unfold spec_l1Split.l0
    rw [bt_list a i hlt, w64n (by omega)]
    refine Big.pos (by omega) ?_
    refine Big.pos (by omega) ?_
    by_cases hb : a[i] = c
    · refine Big.pos (by rw [hb]) ?_
      refine Big.pos (by omega) ?_
      refine Big.pos (by omega) ?_
      refine Big.pos (by omega) ?_
      refine Big.pos (by omega) ?_
      have e : (a.take ((i : Int).toNat)).drop ((f : Int).toNat) = ((a.drop f).take (i - f)) := by
        rw [Int.toNat_natCast, Int.toNat_natCast, List.drop_take]
      have e2 : out ++ (sp c (a.drop f)) = (out ++ [((a.drop f).take (i - f))]) ++ (sp c (a.drop (i + 1))) := by
        conv => lhs; rw [hdrop, hb, sp_hit _ hc]
        simp
      rw [e, e2]
      exact ih (i + 1) (i + 1) _ (by omega) (Nat.le_refl _) (by simp) (by rw [List.length_append, List.length_singleton]; omega)
    · refine Big.neg (fun h => hb (UInt8.toNat_inj.mp (by omega))) ?_
      refine ih (i + 1) f out (by omega) (by omega) ?_ (by omega)
      rw [show i + 1 - f = (i - f) + 1 by omega, List.take_succ_eq_append_getElem (by rw [List.length_drop]; omega), List.mem_append, List.mem_singleton]
      rintro (h | h)
      · exact hc h
      · apply hb
        rw [h, List.getElem_drop]
        congr 1
        omega
theorem l1Split_at (a : (List UInt8)) (hs : a.length ≤ 1048576) (c : UInt8) : Big (fun k => spec_l1Split.f k a (c.toNat : Int)) ((sp c a)) :=
  l1Split_l a hs c a.length 0 0 [] (by omega) (Nat.le_refl _) (by simp) (by simp)
theorem l1Read_l (a : (List UInt8)) (hs : a.length ≤ 6) (t : List UInt8) : ∀ i acc : Nat, a.drop i = t → i ≤ a.length → acc < 10 ^ i → (∀ b ∈ t, 48 ≤ b.toNat ∧ b.toNat ≤ 57) → Big (fun k => spec_l1Read.l0 k a (acc : Int) (i : Int)) (dv acc t : Int) := by
  have hlen : a.length = a.length := rfl
  induction t with
  | nil =>
    intro i acc hd hi ha _
    rw [List.drop_eq_nil_iff] at hd
    refine Big.succ ?_
    unfold spec_l1Read.l0
    refine Big.neg (by omega) ?_
    exact Big.some_ _
  | cons b t ih =>
    intro i acc hd hi ha hb
    have hlt : i < a.length := by
      rcases Nat.lt_or_ge i a.length with h | h
      · exact h
      · rw [List.drop_eq_nil_of_le h] at hd
        cases hd
    rw [List.drop_eq_getElem_cons hlt] at hd
    injection hd with h1 h2
    have hbb := hb b List.mem_cons_self
    have hp : 10 ^ i ≤ 10 ^ 6 := Nat.pow_le_pow_right (by omega) (by omega)
    refine Big.succ ?_
    unfold spec_l1Read.l0
    rw [bt_list a i hlt, h1, w64n (by omega)]
    refine Big.pos (by omega) ?_
    refine Big.pos (by omega) ?_
    refine Big.neg (by omega) ?_
    refine Big.neg (by omega) ?_
    have e : IntKind.i64.wrap (IntKind.i64.wrap (10 * (acc : Int)) + ((b.toNat : Int) - 48) % 256) = ((acc * 10 + (b.toNat - 48) : Nat) : Int) := by
      rw [w64 (i := 10 * (acc : Int)) (by omega) (by omega), w64 (by omega) (by omega)]
      omega
    rw [u8_64, e]
    exact ih (i + 1) _ h2 (by omega) (by rw [Nat.pow_succ]; omega) (fun b h => hb b (List.mem_cons_of_mem _ h))
theorem l1Read_end (a : (List UInt8)) (hs : a.length ≤ 6) (d : Nat) : ∀ (i : Nat) (acc : Int), i + d = a.length → ∃ v, Big (fun k => spec_l1Read.l0 k a acc (i : Int)) v := by
  induction d with
  | zero =>
    intro i acc hi
    refine ⟨acc, Big.succ ?_⟩
    unfold spec_l1Read.l0
    exact Big.neg (by omega) (Big.some_ _)
  | succ d ih =>
    intro i acc hi
    by_cases h1 : ((rde a (i : Int)).toNat : Int) < 48
    · refine ⟨-1, Big.succ ?_⟩
      unfold spec_l1Read.l0
      exact Big.pos (by omega) (Big.pos (by omega) (Big.pos h1 (Big.some_ _)))
    · by_cases h2 : ((rde a (i : Int)).toNat : Int) > 57
      · refine ⟨-1, Big.succ ?_⟩
        unfold spec_l1Read.l0
        exact Big.pos (by omega) (Big.pos (by omega) (Big.neg h1 (Big.pos h2 (Big.some_ _))))
      · obtain ⟨v, hv⟩ := ih (i + 1) (IntKind.i64.wrap (IntKind.i64.wrap (10 * acc) + (((rde a (i : Int)).toNat : Int) - 48) % 256)) (by omega)
        refine ⟨v, Big.succ ?_⟩
        unfold spec_l1Read.l0
        rw [w64n (by omega), u8_64]
        exact Big.pos (by omega) (Big.pos (by omega) (Big.neg h1 (Big.neg h2 hv)))
theorem l1Read_j (a : (List UInt8)) (hs : a.length ≤ 6) (b : Bool) : ∃ v, Big (fun k => spec_l1Read.j0 k a b) v := by
  cases b
  · obtain ⟨v, hv⟩ := l1Read_end a hs a.length 0 0 (by omega)
    refine ⟨v, Big.succ ?_⟩
    unfold spec_l1Read.j0
    exact Big.neg (by decide) hv
  · refine ⟨-1, Big.succ ?_⟩
    unfold spec_l1Read.j0
    exact Big.pos rfl (Big.some_ _)
theorem l1Read_tot (a : (List UInt8)) : ∃ v, Big (fun k => spec_l1Read.f k a) v := by
  unfold spec_l1Read.f
  simp only [v_l1In, Option.bind_some]
  cases h : inR (a.length : Int) 1 6
  · refine ⟨-1, Big.neg (by decide) (Big.succ ?_)⟩
    unfold spec_l1Read.j0
    exact Big.pos rfl (Big.some_ _)
  · rw [inR_iff] at h
    by_cases h0 : ((rde a 0).toNat : Int) = 48
    · obtain ⟨v, hv⟩ := l1Read_j a (by omega) (decide ((a.length : Int) > 1))
      exact ⟨v, Big.pos rfl (Big.pos (by omega) (Big.pos h0 hv))⟩
    · obtain ⟨v, hv⟩ := l1Read_j a (by omega) false
      exact ⟨v, Big.pos rfl (Big.pos (by omega) (Big.neg h0 hv))⟩
theorem l1Read_at (x : Int) (h : 0 ≤ x ∧ x ≤ 9999) : Big (fun k => spec_l1Read.f k ((Go.Lib.itoa x))) x := by
  have hl4 := (num_at x h).2
  obtain ⟨n, rfl⟩ : ∃ n : Nat, x = (n : Int) := ⟨x.toNat, by omega⟩
  have hd : Go.Lib.itoa (n : Int) = Go.Lib.decDigits n := by
    unfold Go.Lib.itoa
    rw [if_neg (by omega), Int.toNat_natCast]
  rw [hd] at hl4 ⊢
  obtain ⟨b, l, e, hz⟩ := dd_head n
  have hpos : 1 ≤ (Go.Lib.decDigits n).length := by
    rw [e, List.length_cons]
    omega
  have hsz : ((Go.Lib.decDigits n)).length = (Go.Lib.decDigits n).length := rfl
  have hL := l1Read_l ((Go.Lib.decDigits n)) (by omega) (Go.Lib.decDigits n) 0 0 rfl (by omega) (by omega) (dd_all n)
  rw [dd_val] at hL
  have hj : Big (fun k => spec_l1Read.j0 k ((Go.Lib.decDigits n)) false) (n : Int) := by
    refine Big.succ ?_
    unfold spec_l1Read.j0
    exact Big.neg (by decide) hL
  unfold spec_l1Read.f
  simp only [v_l1In, Option.bind_some, inR_iff.mpr (show (1 : Int) ≤ (((Go.Lib.decDigits n)).length : Int) ∧ (((Go.Lib.decDigits n)).length : Int) ≤ 6 by omega)]
  refine Big.pos trivial (Big.pos (by omega) ?_)
  have hb0 : ((rde (Go.Lib.decDigits n) 0).toNat : Int) = (b.toNat : Int) := by
    have := bt_list ((Go.Lib.decDigits n)) 0 (by omega)
    simp only [e, List.getElem_cons_zero] at this
    rw [e]
    exact this
  by_cases hb : b = 48
  · have h0 := hz hb
    subst h0
    refine Big.pos (by rw [hb0, hb]; rfl) ?_
    have e1 : decide ((((Go.Lib.decDigits 0)).length : Int) > 1) = false := decide_eq_false (by rw [dd_zero, List.length_singleton]; omega)
    rw [e1]
    exact hj
  · refine Big.neg (fun h => hb (UInt8.toNat_inj.mp ?_)) hj
    have : (48 : UInt8).toNat = 48 := rfl
    omega
end Go.Proofs.YtpnkeknmgfdpdaaGreatDoorRR.Q
set_option linter.all false
namespace Go.Proofs.YtpnkeknmgfdpdaaGreatDoorRR.Q
open Go.RowKit Go Go.Proofs.YtpnkeknmgfdpdaaGreatDoorRR.Eng Go.Proofs.YtpnkeknmgfdpdaaGreatDoorRR Go.Proofs.YtpnkeknmgfdpdaaGreatDoorRR.X
set_option linter.unusedSimpArgs false

theorem Split_at (s : (List UInt8)) (c : UInt8) (hs : s.length < 4294967281) : S.strings_Split.f s ([c]) = some ((sp c s)) := by
  unfold S.strings_Split.f
  rw [if_pos ⟨hs, by simp⟩, splitB_sp]
theorem word_at (x : Int) (h : 0 ≤ x ∧ x ≤ 999999) : S.readWord ((Go.Lib.itoa x)) = (x, true) := by
  unfold S.readWord
  rw [atoi_itoa x h]
  show (x, Go.Lib.itoa x == Go.Lib.itoa x) = _
  rw [beq_self_eq_true]
theorem word_of (w : (List UInt8)) (h : (S.readWord w).2 = true) : w = Go.Lib.itoa (S.readWord w).1 := by
  unfold S.readWord at h ⊢
  cases hA : Go.Lib.atoiAll w with
  | ok v =>
    rw [hA] at h
    have h1 : (Go.Lib.itoa v == w) = true := h
    rw [beq_iff_eq] at h1
    show w = Go.Lib.itoa v
    rw [← h1]
  | range => rw [hA] at h; cases h
  | _ => rw [hA] at h; cases h
/-- What readNumbers answers. -/
def numsOut (W : List (List UInt8)) : List Int × Bool := if W.all (fun w => (S.readWord w).2) = true then (W.map (fun w => (S.readWord w).1), true) else ([], false)
theorem readNumbers_l (W : List (List UInt8)) (hw : ∀ w ∈ W, w.length ≤ 281474976710656) (hl : W.length ≤ 2000000) (d : Nat) : ∀ i : Nat, i + d = W.length → (W.take i).all (fun w => (S.readWord w).2) = true → Big (fun k => impl_readNumbers.l0 k ((W.take i).map fun w => (S.readWord w).1) W (W.length : Int) i) (numsOut W) := by
  induction d with
  | zero =>
    intro i hi hb
    rw [List.take_of_length_le (show W.length ≤ i by omega)] at hb ⊢
    refine Big.succ ?_
    unfold impl_readNumbers.l0 numsOut
    rw [if_pos hb]
    exact Big.neg (by omega) (Big.some_ _)
  | succ d ih =>
    intro i hi hb
    have hlt : i < W.length := by omega
    have er : rde W (i : Int) = W[i] := by
      unfold rde
      rw [Int.toNat_natCast, List.getD_eq_getElem?_getD, List.getElem?_eq_getElem hlt, Option.getD_some]
    have hall : (W.take (i + 1)).all (fun w => (S.readWord w).2) = (S.readWord W[i]).2 := by
      rw [List.take_succ_eq_append_getElem hlt, List.all_append, hb, Bool.true_and, List.all_cons, List.all_nil, Bool.and_true]
    refine Big.succ ?_
    unfold impl_readNumbers.l0 S.impl_readNumber.f
    rw [er, w64n (by omega), if_pos (hw _ (List.getElem_mem hlt))]
    refine Big.pos (by omega) ?_
    refine Big.pos (by omega) ?_
    refine Big.pos (by omega) ?_
    refine Big.bind (Big.some_ _) ?_
    cases hr : (S.readWord W[i]).2
    · refine Big.neg (by decide) ?_
      have : ¬ W.all (fun w => (S.readWord w).2) = true := by
        intro h
        rw [List.all_eq_true] at h
        have := h _ (List.getElem_mem hlt)
        rw [hr] at this
        cases this
      unfold numsOut
      rw [if_neg this]
      exact Big.some_ _
    · refine Big.pos rfl ?_
      refine Big.pos (by rw [List.length_map, List.length_take]; omega) ?_
      have e : (W.take i).map (fun w => (S.readWord w).1) ++ [(S.readWord W[i]).1] = (W.take (i + 1)).map fun w => (S.readWord w).1 := by
        rw [List.take_succ_eq_append_getElem hlt, List.map_append]
        rfl
      rw [e]
      exact ih (i + 1) (by omega) (by rw [hall, hr])
theorem readNumbers_at (s : (List UInt8)) (hs : s.length ≤ 1048576) (c : UInt8) : Big (fun k => impl_readNumbers.f k s ([c])) (numsOut ((sp c s))) := by
  have hlen : s.length = s.length := rfl
  have hl := sp_len c s
  unfold impl_readNumbers.f
  rw [Split_at s c (by omega)]
  refine Big.bind (Big.some_ _) ?_
  refine readNumbers_l ((sp c s)) (fun w hw => ?_) (by omega) _ 0 (Nat.zero_add _) rfl
  have := sp_word c _ w hw
  omega
/-- All words are numerals: then they are those of their numbers. -/
theorem nums_of (ws : List (List UInt8)) (h : (ws).all (fun w => (S.readWord w).2) = true) : ws = ((ws).map fun w => (S.readWord w).1).map Go.Lib.itoa := by
  induction ws with
  | nil => rfl
  | cons w ws ih =>
    rw [List.all_cons, Bool.and_eq_true] at h
    have h1 := word_of (w) h.1
    rw [List.map_cons, List.map_cons, ← ih h.2, ← h1]
theorem nums_itoa (vs : List Int) (h : ∀ x ∈ vs, 0 ≤ x ∧ x ≤ 999999) : numsOut ((vs.map Go.Lib.itoa)) = (vs, true) := by
  have e : ∀ vs : List Int, (∀ x ∈ vs, 0 ≤ x ∧ x ≤ 999999) → ((vs.map Go.Lib.itoa)).all (fun w => (S.readWord w).2) = true ∧ ((vs.map Go.Lib.itoa)).map (fun w => (S.readWord w).1) = vs := by
    intro vs
    induction vs with
    | nil => intro _; exact ⟨rfl, rfl⟩
    | cons v vs ih =>
      intro hv
      obtain ⟨h1, h2⟩ := ih fun x hx => hv x (List.mem_cons_of_mem _ hx)
      have h3 := word_at v (hv v List.mem_cons_self)
      exact ⟨by rw [List.map_cons, List.all_cons, h3, h1]; rfl, by rw [List.map_cons, List.map_cons, h3, h2]⟩
  unfold numsOut
  rw [if_pos (e vs h).1, (e vs h).2]
end Go.Proofs.YtpnkeknmgfdpdaaGreatDoorRR.Q
set_option linter.all false
namespace Go.Proofs.YtpnkeknmgfdpdaaGreatDoorRR.Q
open Go.RowKit Go Go.Proofs.YtpnkeknmgfdpdaaGreatDoorRR.Eng Go.Proofs.YtpnkeknmgfdpdaaGreatDoorRR Go.Proofs.YtpnkeknmgfdpdaaGreatDoorRR.X
set_option linter.unusedSimpArgs false

/-- What stands behind the reference's loop. -/
def bornEnd (a : (List UInt8)) (V : List Int) (k : Nat) : Option (List Int × Bool) := (spec_roBorn.f k V).bind fun t132 => (if t132 = true then ((spec_roText.f k V).bind fun t133 => (if (t133 != a) = true then (some (([] : List Int), false)) else (some (V, true)))) else (some (([] : List Int), false)))
theorem parse_l (a : (List UInt8)) (g : (List UInt8) → Int) (hg : ∀ w, Big (fun k => spec_l1Read.f k w) (g w)) (W : List (List UInt8)) (hl : W.length ≤ 2000000) (R : List Int × Bool) (hE : Big (bornEnd a (W.map g)) R) (d : Nat) : ∀ i : Nat, i + d = W.length → Big (fun k => spec_ParseBorn.l0 k a ((W.take i).map g) W (W.length : Int) i) R := by
  induction d with
  | zero =>
    intro i hi
    rw [List.take_of_length_le (show W.length ≤ i by omega)]
    refine Big.succ ?_
    unfold spec_ParseBorn.l0
    exact Big.neg (by omega) hE
  | succ d ih =>
    intro i hi
    have hlt : i < W.length := by omega
    have er : rde W (i : Int) = W[i] := by
      unfold rde
      rw [Int.toNat_natCast, List.getD_eq_getElem?_getD, List.getElem?_eq_getElem hlt, Option.getD_some]
    refine Big.succ ?_
    unfold spec_ParseBorn.l0
    rw [er, w64n (by omega)]
    refine Big.pos (by omega) ?_
    refine Big.pos (by omega) ?_
    refine Big.pos (by omega) ?_
    refine Big.bind (hg _) ?_
    refine Big.pos (by rw [List.length_map, List.length_take]; omega) ?_
    have e : (W.take i).map g ++ [g W[i]] = (W.take (i + 1)).map g := by
      rw [List.take_succ_eq_append_getElem hlt, List.map_append]
      rfl
    rw [e]
    exact ih (i + 1) (by omega)
theorem bornEnd_no (a : (List UInt8)) (V : List Int) (hl : V.length ≤ 1048576) (h : ¬ (born V = true ∧ a = Go.Lib.join (V.map Go.Lib.itoa) [44])) : Big (bornEnd a V) ([], false) := by
  unfold bornEnd
  refine Big.bind (roBorn_at V hl) ?_
  cases hb : born V
  · exact Big.neg (by decide) (Big.some_ _)
  · refine Big.pos rfl ?_
    refine Big.bind (roText_at V hb) ?_
    exact Big.pos (bne_iff_ne.2 fun e => h ⟨hb, e.symm⟩) (Big.some_ _)
theorem bornEnd_yes (a : (List UInt8)) (V : List Int) (hb : born V = true) (h : a = Go.Lib.join (V.map Go.Lib.itoa) [44]) : Big (bornEnd a V) (V, true) := by
  have hl := (born_iff.mp hb).1
  unfold bornEnd
  refine Big.bind (roBorn_at V (by omega)) ?_
  rw [hb]
  refine Big.pos rfl ?_
  refine Big.bind (roText_at V hb) ?_
  refine Big.neg ?_ (Big.some_ _)
  rw [h]
  simp
theorem ParseBorn_both (a : (List UInt8)) (hs : a.length ≤ 1048576) : ∃ R : List Int × Bool, R.1.length ≤ 1048576 ∧ (R.2 = true → born R.1 = true ∧ a = Go.Lib.join (R.1.map Go.Lib.itoa) [44]) ∧ Big (fun k => spec_ParseBorn.f k a) R ∧ Big (fun k => impl_ParseBorn.f k a) R := by
  have hlen : a.length = a.length := rfl
  have hsl := sp_len 44 a
  obtain ⟨g, hg⟩ := Classical.axiomOfChoice l1Read_tot
  have hN := readNumbers_at a hs 44
  by_cases h : ∃ V : List Int, born V = true ∧ a = Go.Lib.join (V.map Go.Lib.itoa) [44]
  · obtain ⟨V, hb, hj⟩ := h
    obtain ⟨⟨hV1, hV10⟩, hV⟩ := born_iff.mp hb
    have hws : sp 44 a = V.map Go.Lib.itoa := by
      rw [hj]
      refine sp_join 44 _ (fun e => ?_) (fun w hw => ?_)
      · have := congrArg List.length e
        rw [List.length_map, List.length_nil] at this
        omega
      · obtain ⟨x, hx, rfl⟩ := List.mem_map.1 hw
        exact no_comma x (hV x hx).1 44 (.inl (by decide))
    have hsz : a.length ≤ 50 := by
      have h1 := join_len [44] 4 (V.map Go.Lib.itoa) (fun w hw => by
        obtain ⟨x, hx, rfl⟩ := List.mem_map.1 hw
        exact (num_at x (by have := hV x hx; omega)).2)
      rw [← hj, List.length_map, List.length_singleton, hlen] at h1
      omega
    have hgV : ((V.map Go.Lib.itoa)).map g = V := by
      have : ∀ V : List Int, (∀ x ∈ V, 0 ≤ x ∧ x ≤ 2900) → ((V.map Go.Lib.itoa)).map g = V := by
        intro V
        induction V with
        | nil => intro _; rfl
        | cons x V ih =>
          intro hx
          have h1 := hx x List.mem_cons_self
          have h2 := (hg ((Go.Lib.itoa x))).uniq (l1Read_at x (by omega))
          rw [List.map_cons, List.map_cons, h2, ih fun y hy => hx y (List.mem_cons_of_mem _ hy)]
      exact this V hV
    refine ⟨(V, true), by show V.length ≤ 1048576; omega, (fun _ => ⟨hb, hj⟩), ?_, ?_⟩
    · unfold spec_ParseBorn.f
      refine Big.neg (by omega) ?_
      refine Big.bind (l1Split_at a hs 44) ?_
      rw [hws]
      exact parse_l a g hg _ (by simp only [List.length_map]; omega) _ (by rw [hgV]; exact bornEnd_yes a V hb hj) _ 0 (Nat.zero_add _)
    · unfold impl_ParseBorn.f
      rw [hws, nums_itoa V (fun x hx => by have := hV x hx; omega)] at hN
      refine Big.bind hN ?_
      refine Big.pos rfl ?_
      unfold impl_bornOr.f
      rw [v_AreBirths, hb, Option.bind_some, if_pos rfl, Option.bind_some]
      exact Big.some_ _
  · refine ⟨([], false), by simp, (fun h => by cases h), ?_, ?_⟩
    · unfold spec_ParseBorn.f
      by_cases h5 : (a.length : Int) > 50
      · exact Big.pos h5 (Big.some_ _)
      · refine Big.neg h5 ?_
        refine Big.bind (l1Split_at a hs 44) ?_
        exact parse_l a g hg _ (by omega) _ (bornEnd_no a _ (by rw [List.length_map]; omega) (fun h1 => h ⟨_, h1⟩)) _ 0 (Nat.zero_add _)
    · unfold impl_ParseBorn.f
      refine Big.bind hN ?_
      unfold numsOut
      by_cases hA : ((sp 44 a)).all (fun w => (S.readWord w).2) = true
      · rw [if_pos hA]
        refine Big.pos rfl ?_
        have hn := nums_of _ hA
        have hj := join_sp 44 _ a (Nat.le_refl _)
        rw [hn] at hj
        have hb : born (((sp 44 a)).map fun w => (S.readWord w).1) = false := by
          rw [← Bool.not_eq_true]
          exact fun hb => h ⟨_, hb, hj.symm⟩
        unfold impl_bornOr.f
        rw [v_AreBirths, hb, Option.bind_some, if_neg (by decide), Option.bind_some]
        exact Big.some_ _
      · rw [if_neg hA]
        exact Big.neg (by decide) (Big.some_ _)
theorem itoa_inj {x y : Int} (hx : 0 ≤ x ∧ x ≤ 2900) (hy : 0 ≤ y ∧ y ≤ 2900) (h : Go.Lib.itoa x = Go.Lib.itoa y) : x = y := by
  have h1 := atoi_itoa x (by omega)
  rw [h, atoi_itoa y (by omega)] at h1
  injection h1 with h1
  exact h1.symm
theorem itoa_map_inj : ∀ {V W : List Int}, (∀ x ∈ V, 0 ≤ x ∧ x ≤ 2900) → (∀ x ∈ W, 0 ≤ x ∧ x ≤ 2900) → V.map Go.Lib.itoa = W.map Go.Lib.itoa → V = W
  | [], [], _, _, _ => rfl
  | [], _ :: _, _, _, h => by cases h
  | _ :: _, [], _, _, h => by cases h
  | x :: V, y :: W, hV, hW, h => by
    rw [List.map_cons, List.map_cons] at h
    injection h with h1 h2
    rw [itoa_inj (hV x List.mem_cons_self) (hW y List.mem_cons_self) h1, itoa_map_inj (fun z hz => hV z (List.mem_cons_of_mem _ hz)) (fun z hz => hW z (List.mem_cons_of_mem _ hz)) h2]
theorem split_text {V : List Int} (hb : born V = true) : sp 44 (Go.Lib.join (V.map Go.Lib.itoa) [44]) = V.map Go.Lib.itoa := by
  obtain ⟨⟨hV1, hV10⟩, hV⟩ := born_iff.mp hb
  refine sp_join 44 _ (fun e => ?_) (fun w hw => ?_)
  · have := congrArg List.length e
    rw [List.length_map, List.length_nil] at this
    omega
  · obtain ⟨x, hx, rfl⟩ := List.mem_map.1 hw
    exact no_comma x (hV x hx).1 44 (.inl (by decide))
/-- A text of births is read back. -/
theorem parse_yes {V : List Int} (hb : born V = true) : Big (fun k => impl_ParseBorn.f k (Go.Lib.join (V.map Go.Lib.itoa) [44])) (V, true) := by
  obtain ⟨⟨hV1, hV10⟩, hV⟩ := born_iff.mp hb
  have hlen := join_len [44] 4 (V.map Go.Lib.itoa) (fun w hw => by
    obtain ⟨x, hx, rfl⟩ := List.mem_map.1 hw
    exact (num_at x (by have := hV x hx; omega)).2)
  rw [List.length_map, List.length_singleton] at hlen
  have hN := readNumbers_at (Go.Lib.join (V.map Go.Lib.itoa) [44]) (by omega) 44
  rw [split_text hb, nums_itoa V (fun x hx => by have := hV x hx; omega)] at hN
  unfold impl_ParseBorn.f
  refine Big.bind hN ?_
  refine Big.pos rfl ?_
  unfold impl_bornOr.f
  rw [v_AreBirths, hb, Option.bind_some, if_pos rfl, Option.bind_some]
  exact Big.some_ _
/-- The text of births, as both tell it. -/
theorem BornText_is (l : List Int) (hl : l.length ≤ 1048576) : Big (fun k => spec_BornText.f k l) (if born l = true then (Go.Lib.join (l.map Go.Lib.itoa) [44], true) else ([], false)) ∧ Big (fun k => impl_BornText.f k l) (if born l = true then (Go.Lib.join (l.map Go.Lib.itoa) [44], true) else ([], false)) := by
  unfold spec_BornText.f impl_BornText.f
  rw [v_AreBirths]
  cases hb : born l
  · have h1 := roBorn_at l hl
    rw [hb] at h1
    exact ⟨Big.bind h1 (Big.neg (by decide) (Big.some_ _)), Big.bind (Big.some_ _) (Big.neg (by decide) (Big.some_ _))⟩
  · have h1 := roBorn_at l hl
    rw [hb] at h1
    obtain ⟨⟨hV1, hV10⟩, hV⟩ := born_iff.mp hb
    exact ⟨Big.bind h1 (Big.pos rfl (Big.bind (roText_at l hb) (Big.some_ _))), Big.bind (Big.some_ _) (Big.pos rfl (Big.bind (joined_at l (fun x hx => by have := hV x hx; omega) (by omega) [44] (by simp)) (Big.some_ _)))⟩
end Go.Proofs.YtpnkeknmgfdpdaaGreatDoorRR.Q
