/- Chapter 9 (puzzles): the list of all solutions, as the program and the reference tell it. Conditions: as typed. -/
import Derived.Test.YtennnaibnlmjlaaQvPuzH
import Derived.Test.YtennnaibnlmjlaaQvHid
import Derived.Test.YtennnaibnlmjlaaV0
import Derived.Test.YtennnaibnlmjlaaV12
import Derived.Test.YtennnaibnlmjlaaV13
import Derived.Test.YtennnaibnlmjlaaV15
import Derived.Test.YtennnaibnlmjlaaV6
import Derived.Test.YtennnaibnlmjlaaV7
import Derived.Test.YtennnaibnlmjlaaV8
namespace Go.Proofs.Ytennnaibnlmjlaa.Q
open Go.RowKit Go.Proofs.Ytennnaibnlmjlaa.V Go.Proofs.YtennnaibnlmjlaaW.PrintWords Go.Proofs.YtennnaibnlmjlaaW.PrintLast
set_option linter.unusedSimpArgs false

def fitAll (cl : List S55) (b : List Int) : Bool := cl.all fun c => fitN c.f0 c.f1 c.f2 b
def agesN (rec : List Int → List (List Int)) (b : List Int) : Nat → List (List Int)
  | 0 => []
  | n + 1 => rec (b ++ [12 - (n : Int)]) ++ agesN rec b n
/-- All ages of n people more behind b that fit. -/
def lookN (cl : List S55) : Nat → List Int → List (List Int)
  | 0, b => if fitAll cl b = true then [b] else []
  | n + 1, b => agesN (lookN cl n) b 12
def good (p : Int) (cl : List S55) : Prop := ∀ c ∈ cl, clueB p c.f0 c.f1 c.f2 = true
def yrs12 (b : List Int) : Prop := ∀ x ∈ b, 1 ≤ x ∧ x ≤ 12
theorem yrs12_snoc {b : List Int} (h : yrs12 b) {x : Int} (hx : 1 ≤ x ∧ x ≤ 12) : yrs12 (b ++ [x]) := by
  intro y hy
  rcases List.mem_append.mp hy with h1 | h1
  · exact h y h1
  · rw [List.mem_singleton] at h1; subst h1; exact hx
theorem hid_of {b : List Int} {p : Int} (hp : 2 ≤ p ∧ p ≤ 3) (hl : (b.length : Int) = p) (hb : yrs12 b) : hid b = true := hid_iff.mpr ⟨by omega, hb⟩
theorem allO_at (p : Int) (hp : 2 ≤ p ∧ p ≤ 3) (b : List Int) (hl : (b.length : Int) = p) (hb : yrs12 b) : ∀ cl, good p cl → Big (fun k => allO_Clue (fun c => spec_pzFits.f k c.f0 c.f1 c.f2 b) cl) (fitAll cl b) := by
  intro cl
  induction cl with
  | nil => intro _; exact Big.some_ _
  | cons c t ih =>
    intro hg
    unfold allO_Clue
    refine Big.bind (pzFits_at c.f0 c.f1 c.f2 b (hid_of hp hl hb) (by rw [hl]; exact hg c (List.mem_cons_self ..))) ?_
    have hr := ih (fun c' hc' => hg c' (List.mem_cons_of_mem _ hc'))
    unfold fitAll at hr ⊢
    rw [List.all_cons]
    cases fitN c.f0 c.f1 c.f2 b
    · simp only [Bool.false_eq_true, if_false, Bool.false_and]
      exact Big.some_ _
    · simp only [if_true, Bool.true_and]
      exact hr
theorem anyO_at (p : Int) (hp : 2 ≤ p ∧ p ≤ 3) (b : List Int) (hl : (b.length : Int) = p) (hb : yrs12 b) : ∀ cl, good p cl → Big (fun k => anyO_Clue (impl_solutions.no k b) cl) (!fitAll cl b) := by
  intro cl
  induction cl with
  | nil => intro _; exact Big.some_ _
  | cons c t ih =>
    intro hg
    unfold anyO_Clue impl_solutions.no
    have h1 : Big (fun k => (impl_Clue_fits.f k c.f0 c.f1 c.f2 b).bind fun x => some (!x)) (!fitN c.f0 c.f1 c.f2 b) := Big.bind (fits_at c.f0 c.f1 c.f2 b (hid_of hp hl hb) (by rw [hl]; exact hg c (List.mem_cons_self ..))) (Big.some_ _)
    refine Big.bind h1 ?_
    have hr := ih (fun c' hc' => hg c' (List.mem_cons_of_mem _ hc'))
    unfold fitAll at hr ⊢
    rw [List.all_cons]
    cases fitN c.f0 c.f1 c.f2 b
    · simp only [Bool.not_false, if_true, Bool.false_and]
      exact Big.some_ _
    · simp only [Bool.not_true, Bool.false_eq_true, if_false, Bool.true_and]
      exact hr
theorem sAges_at {g : Nat → List Int → Option (List (List Int))} {f : List Int → List (List Int)} (b : List Int) : ∀ n : Nat, (∀ i : Nat, i < n → Big (fun k => g k (b ++ [12 - (i : Int)])) (f (b ++ [12 - (i : Int)]))) → Big (fun k => spec_pzLook.ages (g k) b n) (agesN f b n) := by
  intro n
  induction n with
  | zero => intro _; exact Big.some_ _
  | succ n ih =>
    intro h
    unfold spec_pzLook.ages agesN
    exact Big.bind (h n (by omega)) (Big.bind (ih (fun i hi => h i (by omega))) (Big.some_ _))
theorem iAges_at {g : Nat → List Int → Option (List (List Int))} {f : List Int → List (List Int)} (b : List Int) : ∀ n : Nat, (∀ i : Nat, i < n → Big (fun k => g k (b ++ [12 - (i : Int)])) (f (b ++ [12 - (i : Int)]))) → Big (fun k => impl_solutions.ages (g k) b n) (agesN f b n) := by
  intro n
  induction n with
  | zero => intro _; exact Big.some_ _
  | succ n ih =>
    intro h
    unfold impl_solutions.ages agesN
    exact Big.bind (h n (by omega)) (Big.bind (ih (fun i hi => h i (by omega))) (Big.some_ _))
theorem look_at (p : Int) (hp : 2 ≤ p ∧ p ≤ 3) (cl : List S55) (hg : good p cl) : ∀ (n : Nat) (b : List Int), (b.length : Int) + n = p → yrs12 b → Big (fun k => spec_pzLook.f k cl n b) (lookN cl n b) := by
  intro n
  induction n with
  | zero =>
    intro b hl hb
    unfold spec_pzLook.f spec_pzLook.leaf lookN
    exact Big.bind (allO_at p hp b (by omega) hb cl hg) (Big.some_ _)
  | succ n ih =>
    intro b hl hb
    unfold spec_pzLook.f lookN
    exact sAges_at b 12 (fun i hi => ih _ (by rw [List.length_append]; simp only [List.length_cons, List.length_nil]; omega) (yrs12_snoc hb (by omega)))
theorem put_at (p : Int) (hp : 2 ≤ p ∧ p ≤ 3) (cl : List S55) (hg : good p cl) : ∀ (n : Nat) (b : List Int), (b.length : Int) + n = p → yrs12 b → Big (fun k => impl_solutions.put k cl n b) (lookN cl n b) := by
  intro n
  induction n with
  | zero =>
    intro b hl hb
    unfold impl_solutions.put impl_solutions.leaf lookN
    refine Big.bind (anyO_at p hp b (by omega) hb cl hg) ?_
    refine (Big.some_ _).cast ?_
    cases fitAll cl b <;> rfl
  | succ n ih =>
    intro b hl hb
    unfold impl_solutions.put lookN
    exact iAges_at b 12 (fun i hi => ih _ (by rw [List.length_append]; simp only [List.length_cons, List.length_nil]; omega) (yrs12_snoc hb (by omega)))
theorem agesN_all {f : List Int → List (List Int)} {b : List Int} {q : List Int → Prop} : ∀ n : Nat, (∀ i : Nat, i < n → ∀ x ∈ f (b ++ [12 - (i : Int)]), q x) → ∀ x ∈ agesN f b n, q x := by
  intro n
  induction n with
  | zero => intro _ x hx; simp [agesN] at hx
  | succ n ih =>
    intro h x hx
    unfold agesN at hx
    rcases List.mem_append.mp hx with h1 | h1
    · exact h n (by omega) x h1
    · exact ih (fun i hi => h i (by omega)) x h1
theorem agesN_length {f : List Int → List (List Int)} {b : List Int} (m : Nat) : ∀ n : Nat, (∀ i : Nat, i < n → (f (b ++ [12 - (i : Int)])).length ≤ m) → (agesN f b n).length ≤ n * m := by
  intro n
  induction n with
  | zero => intro _; simp [agesN]
  | succ n ih =>
    intro h
    have h1 := h n (by omega)
    have h2 := ih (fun i hi => h i (by omega))
    unfold agesN
    rw [List.length_append, Nat.succ_mul]
    omega
theorem lookN_len (cl : List S55) : ∀ (n : Nat) (b : List Int), ∀ x ∈ lookN cl n b, x.length = b.length + n := by
  intro n
  induction n with
  | zero =>
    intro b x hx
    unfold lookN at hx
    cases h : fitAll cl b <;> simp [h] at hx
    rw [hx]; rfl
  | succ n ih =>
    intro b
    unfold lookN
    refine agesN_all 12 (fun i _ x hx => ?_)
    have := ih _ x hx
    rw [List.length_append] at this
    simp only [List.length_cons, List.length_nil] at this
    omega
theorem lookN_yrs (cl : List S55) : ∀ (n : Nat) (b : List Int), yrs12 b → ∀ x ∈ lookN cl n b, yrs12 x := by
  intro n
  induction n with
  | zero =>
    intro b hb x hx
    unfold lookN at hx
    cases h : fitAll cl b <;> simp [h] at hx
    rw [hx]; exact hb
  | succ n ih =>
    intro b hb
    unfold lookN
    exact agesN_all 12 (fun i hi x hx => ih _ (yrs12_snoc hb (by omega)) x hx)
theorem lookN_length (cl : List S55) : ∀ (n : Nat) (b : List Int), (lookN cl n b).length ≤ 12 ^ n := by
  intro n
  induction n with
  | zero =>
    intro b
    unfold lookN
    cases h : fitAll cl b <;> simp
  | succ n ih =>
    intro b
    unfold lookN
    have := agesN_length (f := lookN cl n) (b := b) (12 ^ n) 12 (fun i _ => ih _)
    rw [Nat.pow_succ]
    omega
/-- All solutions. -/
def sols (p : Int) (cl : List S55) : List (List Int) := lookN cl p.toNat []
theorem sols_length (p : Int) (hp : 2 ≤ p ∧ p ≤ 3) (cl : List S55) : (sols p cl).length ≤ 1728 := by
  have h := lookN_length cl p.toNat []
  have h3 : p.toNat ≤ 3 := by omega
  have : 12 ^ p.toNat ≤ 12 ^ 3 := Nat.pow_le_pow_right (by decide) h3
  unfold sols
  omega
theorem sols_row (p : Int) (hp : 2 ≤ p ∧ p ≤ 3) (cl : List S55) : ∀ x ∈ sols p cl, (x.length : Int) = p ∧ yrs12 x := by
  intro x hx
  have h := lookN_len cl p.toNat [] x hx
  exact ⟨by rw [List.length_nil] at h; omega, lookN_yrs cl _ _ (fun _ h => by cases h) x hx⟩
theorem pzAll_at (p : Int) (hp : 2 ≤ p ∧ p ≤ 3) (cl : List S55) (hg : good p cl) : Big (fun k => spec_pzAll.f k p cl) (sols p cl) := by
  unfold spec_pzAll.f
  simp only [if_pos (show 0 ≤ p ∧ p ≤ 3 by omega)]
  refine Big.bind (look_at p hp cl hg p.toNat [] (by simp only [List.length_nil]; omega) (fun _ h => by cases h)) ?_
  have := sols_length p hp cl
  unfold sols at this ⊢
  simp only [if_pos (show (lookN cl p.toNat []).length ≤ 1000000 by omega)]
  exact Big.some_ _
theorem solutions_at (p : Int) (hp : 2 ≤ p ∧ p ≤ 3) (cl : List S55) (hg : good p cl) : Big (fun k => impl_solutions.f k p cl) (sols p cl) := by
  unfold impl_solutions.f
  simp only [if_pos (show 0 ≤ p ∧ p ≤ 3 by omega)]
  refine Big.bind (put_at p hp cl hg p.toNat [] (by simp only [List.length_nil]; omega) (fun _ h => by cases h)) ?_
  have := sols_length p hp cl
  unfold sols at this ⊢
  simp only [if_pos (show (lookN cl p.toNat []).length ≤ 1000000 by omega)]
  exact Big.some_ _
theorem puz_good {p : Int} {cl : List S55} (h : puz p cl = true) : (2 ≤ p ∧ p ≤ 3) ∧ cl.length ≤ 6 ∧ good p cl := by
  unfold puz at h
  simp only [Bool.and_eq_true, decide_eq_true_eq, List.all_eq_true] at h
  exact ⟨inR_iff.mp h.1, h.2.1, fun c hc => h.2.2 c hc⟩
end Go.Proofs.Ytennnaibnlmjlaa.Q
