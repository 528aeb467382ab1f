/- The laws' own comparison of puzzles and of rows: alike is told alike. Conditions: lengths that fit. -/
import Derived.Test.YtecdijlfnnminaaGreatDoorQ1
import Derived.Test.YtecdijlfnnminaaGreatDoorR0
set_option linter.all false
namespace Go.Proofs.YtecdijlfnnminaaGreatDoor.Q
open Go.RowKit Go Go.Proofs.YtecdijlfnnminaaGreatDoor.Eng Go.Proofs.YtecdijlfnnminaaGreatDoor Go.Proofs.YtecdijlfnnminaaGreatDoor.Y
set_option linter.unusedSimpArgs false

theorem rde_nat {α : Type} [Inhabited α] (l : List α) (i : Nat) (h : i < l.length) : rde l (i : Int) = l[i] := by
 unfold rde
 rw [Int.toNat_natCast, List.getD_eq_getElem?_getD, List.getElem?_eq_getElem h, Option.getD_some]
theorem rdT_nat (l : List (Int × Int × Int)) (i : Nat) (h : i < l.length) : rde l (i : Int) = l[i] := rde_nat l i h
theorem qPuzzle_l (l : List (Int × Int × Int)) (p q : Int) (hl : l.length ≤ 2000000) (d : Nat) : ∀ i : Nat, i + d = l.length → Big (fun k => laws_qPuzzle.l0 k (l.length : Int) i p l q l) true := by
 induction d with
 | zero =>
  intro i hi
  refine Big.succ ?_
  unfold laws_qPuzzle.l0
  exact Big.neg (by omega) (Big.some_ _)
 | succ d ih =>
  intro i hi
  refine Big.succ ?_
  unfold laws_qPuzzle.l0
  rw [w64n (by omega)]
  exact Big.pos (by omega) (Big.pos (by omega) (Big.pos (by omega) (Big.pos (by omega) (Big.pos (by simp) (ih (i + 1) (by omega))))))
theorem qPuzzle_self (p : Int) (l : List (Int × Int × Int)) (hl : l.length ≤ 2000000) : Big (fun k => laws_qPuzzle.f k (p, l) (p, l)) true := by
 unfold laws_qPuzzle.f
 refine Big.pos rfl (Big.succ ?_)
 unfold laws_qPuzzle.j0
 exact Big.neg (by simp) (qPuzzle_l l p p hl l.length 0 (by omega))
theorem qSame_l (l : List Int) (hl : l.length ≤ 2000000) (d : Nat) : ∀ i : Nat, i + d = l.length → Big (fun k => laws_qSame.l0 k l l (l.length : Int) i) true := by
 induction d with
 | zero =>
  intro i hi
  refine Big.succ ?_
  unfold laws_qSame.l0
  exact Big.neg (by omega) (Big.some_ _)
 | succ d ih =>
  intro i hi
  refine Big.succ ?_
  unfold laws_qSame.l0
  rw [w64n (by omega)]
  exact Big.pos (by omega) (Big.pos (by omega) (Big.pos (by omega) (Big.pos (by omega) (Big.pos rfl (ih (i + 1) (by omega))))))
theorem qSame_at (l : List Int) (hl : l.length ≤ 2000000) : Big (fun k => laws_qSame.f k l l) true := by
 unfold laws_qSame.f
 exact Big.pos rfl (qSame_l l hl l.length 0 (by omega))
theorem qRows_l (l : List (List Int)) (hl : l.length ≤ 2000000) (hr : ∀ r ∈ l, r.length ≤ 2000000) (d : Nat) : ∀ i : Nat, i + d = l.length → Big (fun k => laws_qRows.l0 k l l (l.length : Int) i) true := by
 induction d with
 | zero =>
  intro i hi
  refine Big.succ ?_
  unfold laws_qRows.l0
  exact Big.neg (by omega) (Big.some_ _)
 | succ d ih =>
  intro i hi
  have hlt : i < l.length := by omega
  refine Big.succ ?_
  unfold laws_qRows.l0
  rw [w64n (by omega), rde_nat l i hlt]
  exact Big.pos (by omega) (Big.pos (by omega) (Big.pos (by omega) (Big.pos (by omega) (Big.bind (qSame_at _ (hr _ (List.getElem_mem hlt))) (Big.pos rfl (ih (i + 1) (by omega)))))))
theorem qRows_at (l : List (List Int)) (hl : l.length ≤ 2000000) (hr : ∀ r ∈ l, r.length ≤ 2000000) : Big (fun k => laws_qRows.f k l l) true := by
 unfold laws_qRows.f
 exact Big.pos rfl (qRows_l l hl hr l.length 0 (by omega))
end Go.Proofs.YtecdijlfnnminaaGreatDoor.Q
set_option linter.all false
namespace Go.Proofs.YtecdijlfnnminaaGreatDoor.Q
open Go.RowKit Go Go.Proofs.YtecdijlfnnminaaGreatDoor.Eng Go.Proofs.YtecdijlfnnminaaGreatDoor Go.Proofs.YtecdijlfnnminaaGreatDoor.Y

theorem rdT_cons_drop {l t : List (Int × Int × Int)} {a : (Int × Int × Int)} {i : Nat} (h : l.drop i = a :: t) : rde l (i : Int) = a ∧ i < l.length ∧ l.drop (i + 1) = t := by
 have hi : i < l.length := by
  rcases Nat.lt_or_ge i l.length with h1 | h1
  ·exact h1
  ·rw [List.drop_eq_nil_of_le h1] at h
   cases h
 rw [List.drop_eq_getElem_cons hi] at h
 injection h with h1 h2
 exact ⟨by rw [rdT_nat l i hi]; exact h1, hi, h2⟩
/-- A puzzle. -/
def puz (p : Int) (l : List (Int × Int × Int)) : Bool := inR p 2 3 && (decide (l.length ≤ 6) && l.all fun c => clueB p c.1 c.2.1 c.2.2)
theorem pzGood_l (p : Int) (hp : 2 ≤ p ∧ p ≤ 3) (l : List (Int × Int × Int)) (hl : l.length ≤ 6) (t : List (Int × Int × Int)) : ∀ i : Nat, l.drop i = t → i ≤ l.length → Big (fun k => spec_pzGood.l0 k l (l.length : Int) i p l) (t.all fun c => clueB p c.1 c.2.1 c.2.2) := by
 induction t with
 | nil =>
  intro i hd hi
  rw [List.drop_eq_nil_iff] at hd
  refine Big.succ ?_
  simp only [spec_pzGood.l0, if_neg (show ¬ (i : Int) < (l.length : Int) by omega)]
  exact Big.some_ _
 | cons c t ih =>
  intro i hd hi
  obtain ⟨h1, h2, h3⟩ := rdT_cons_drop hd
  refine Big.succ ?_
  simp only [spec_pzGood.l0, h1, if_pos (show (i : Int) < (l.length : Int) by omega), if_pos (show 0 ≤ (i : Int) by omega)]
  refine Big.bind (pzClue_at p c.1 c.2.1 c.2.2 hp) ?_
  rw [w64n (by omega), List.all_cons]
  cases clueB p c.1 c.2.1 c.2.2
  ·simp only [Bool.false_eq_true, if_false, Bool.false_and]
   exact Big.some_ _
  ·simp only [if_true, Bool.true_and]
   exact ih (i + 1) h3 (by omega)
theorem pzGood_at (p : Int) (l : List (Int × Int × Int)) : Big (fun k => spec_pzGood.f k (p, l)) (puz p l) := by
 have no : Big (fun k => spec_pzGood.j0 k true p l) false := Big.succ (by simp only [spec_pzGood.j0, if_true]; exact Big.some_ _)
 unfold spec_pzGood.f puz
 simp only [v_pzPeople, Option.bind_some]
 cases hp : inR p 2 3
 ·simpa only [Bool.false_eq_true, if_false, Bool.false_and] using no
 ·simp only [if_true, Bool.true_and]
  by_cases h : l.length ≤ 6
  ·rw [decide_eq_false (show ¬ (l.length : Int) > 6 by omega), decide_eq_true h, Bool.true_and]
   refine Big.succ ?_
   simp only [spec_pzGood.j0, Bool.false_eq_true, if_false]
   exact pzGood_l p (inR_iff.mp hp) l h l 0 rfl (Nat.zero_le _)
  ·rw [decide_eq_true (show (l.length : Int) > 6 by omega), decide_eq_false h, Bool.false_and]
   exact no
theorem idx_l (p : Int) (hp : inR p 2 3 = true) (q : List (Int × Int × Int)) (l : List (Int × Int × Int)) (hl : l.length ≤ 6) (t : List (Int × Int × Int)) : ∀ i : Nat, l.drop i = t → i ≤ l.length → ∃ r : Int, Big (fun k => slices_IndexFunc.l0 k l (p, q) (l.length : Int) i) r ∧ decide (r ≥ 0) = (t.any fun c => !clueB p c.1 c.2.1 c.2.2) := by
 induction t with
 | nil =>
  intro i hd hi
  rw [List.drop_eq_nil_iff] at hd
  refine ⟨-1, Big.succ ?_, rfl⟩
  unfold slices_IndexFunc.l0
  exact Big.neg (by omega) (Big.some_ _)
 | cons c t ih =>
  intro i hd hi
  obtain ⟨h1, h2, h3⟩ := rdT_cons_drop hd
  have hc : Big (fun k => (impl_IsPuzzle_1.f k (rde l (i : Int)) (p, q)).bind some) (!(inR p 2 3 && clueB p c.1 c.2.1 c.2.2)) := by
   rw [h1]
   unfold impl_IsPuzzle_1.f
   exact Big.bind (Big.bind (IsClue_at p c.1 c.2.1 c.2.2) (Big.some_ _)) (Big.some_ _)
  rw [hp, Bool.true_and] at hc
  rw [List.any_cons]
  cases hb : clueB p c.1 c.2.1 c.2.2
  ·rw [hb] at hc
   refine ⟨(i : Int), Big.succ ?_, by rw [Bool.not_false, Bool.true_or, decide_eq_true_iff]; omega⟩
   unfold slices_IndexFunc.l0
   exact Big.pos (by omega) (Big.pos (by omega) (Big.pos (by omega) (Big.bind hc (Big.pos (by rfl) (Big.some_ _)))))
  ·rw [hb] at hc
   obtain ⟨r, k1, k2⟩ := ih (i + 1) h3 (by omega)
   refine ⟨r, Big.succ ?_, by rw [k2, Bool.not_true, Bool.false_or]⟩
   unfold slices_IndexFunc.l0
   rw [w64n (by omega)]
   exact Big.pos (by omega) (Big.pos (by omega) (Big.pos (by omega) (Big.bind hc (Big.neg (by decide) k1))))
theorem bad_at (p : Int) (hp : inR p 2 3 = true) (q l : List (Int × Int × Int)) (hl : l.length ≤ 6) : Big (fun k => slices_ContainsFunc.f k l (p, q)) (l.any fun c => !clueB p c.1 c.2.1 c.2.2) := by
 obtain ⟨r, h1, h2⟩ := idx_l p hp q l hl l 0 rfl (Nat.zero_le _)
 unfold slices_ContainsFunc.f slices_IndexFunc.f
 refine Big.bind h1 ?_
 rw [h2]
 exact Big.some_ _
theorem IsPuzzle_at (p : Int) (l : List (Int × Int × Int)) : Big (fun k => impl_IsPuzzle.f k (p, l)) (puz p l) := by
 unfold impl_IsPuzzle.f puz
 simp only [v_between, Option.bind_some]
 cases hp : inR p 2 3
 ·simp only [Bool.false_eq_true, if_false, Bool.false_and]
  exact Big.some_ _
 ·simp only [if_true, Bool.true_and]
  by_cases h : l.length ≤ 6
  ·simp only [if_pos (show (l.length : Int) ≤ 6 by omega), decide_eq_true h, Bool.true_and]
   refine Big.bind (bad_at p hp l l h) ?_
   refine Big.of ?_
   rw [List.not_any_eq_all_not]
   simp
  ·simp only [if_neg (show ¬ (l.length : Int) ≤ 6 by omega), decide_eq_false h, Bool.false_and]
   exact Big.some_ _
end Go.Proofs.YtecdijlfnnminaaGreatDoor.Q
set_option linter.all false
namespace Go.Proofs.YtecdijlfnnminaaGreatDoor.Q
open Go.RowKit Go Go.Proofs.YtecdijlfnnminaaGreatDoor.Eng Go.Proofs.YtecdijlfnnminaaGreatDoor Go.Proofs.YtecdijlfnnminaaGreatDoor.Y
set_option linter.unusedSimpArgs false

def fitAll (cl : List (Int × Int × Int)) (b : List Int) : Bool := cl.all fun c => fitN c.1 c.2.1 c.2.2 b
def agesN (rec : List Int → List (List Int)) (b : List Int) : Nat → List (List Int)
 | 0 => []
 | n + 1 => rec (b ++ [12 - (n : Int)]) ++ agesN rec b n
/-- All ages of n people more behind b that fit. -/
def lookN (cl : List (Int × Int × Int)) : Nat → List Int → List (List Int)
 | 0, b => if fitAll cl b = true then [b] else []
 | n + 1, b => agesN (lookN cl n) b 12
def good (p : Int) (cl : List (Int × Int × Int)) : Prop := ∀ c ∈ cl, clueB p c.1 c.2.1 c.2.2 = true
def yrs12 (b : List Int) : Prop := ∀ x ∈ b, 1 ≤ x ∧ x ≤ 12
theorem yrs12_snoc {b : List Int} (h : yrs12 b) {x : Int} (hx : 1 ≤ x ∧ x ≤ 12) : yrs12 (b ++ [x]) := by
 intro y hy
 rcases List.mem_append.mp hy with h1 | h1
 ·exact h y h1
 ·rw [List.mem_singleton] at h1; subst h1; exact hx
theorem hid_of {b : List Int} {p : Int} (hp : 2 ≤ p ∧ p ≤ 3) (hl : (b.length : Int) = p) (hb : yrs12 b) : hid b = true := hid_iff.mpr ⟨by omega, hb⟩
theorem sLeaf_at (p : Int) (hp : 2 ≤ p ∧ p ≤ 3) (b : List Int) (hl : (b.length : Int) = p) (hb : yrs12 b) (out : List (List Int)) (ho : out.length ≤ 1000000) : ∀ cl, good p cl → Big (fun k => spec_pzAll.leaf k b out cl) (out ++ if fitAll cl b = true then [b] else []) := by
 intro cl
 induction cl with
 | nil =>
  intro _
  unfold spec_pzAll.leaf
  exact Big.pos (by omega) (Big.some_ _)
 | cons c t ih =>
  intro hg
  unfold spec_pzAll.leaf
  refine Big.bind (pzFits_at c.1 c.2.1 c.2.2 b (hid_of hp hl hb) (by rw [hl]; exact hg c (List.mem_cons_self ..))) ?_
  have hr := ih (fun c' hc' => hg c' (List.mem_cons_of_mem _ hc'))
  unfold fitAll at hr ⊢
  rw [List.all_cons]
  cases fitN c.1 c.2.1 c.2.2 b
  ·refine Big.neg (by decide) ?_
   simp only [Bool.false_and, Bool.false_eq_true, if_false, List.append_nil]
   exact Big.some_ _
  ·refine Big.pos rfl ?_
   simp only [Bool.true_and]
   exact hr
theorem iIdx_l (p : Int) (hp : 2 ≤ p ∧ p ≤ 3) (b : List Int) (hl : (b.length : Int) = p) (hb : yrs12 b) (l : List (Int × Int × Int)) (h6 : l.length ≤ 1000000) (hg : good p l) (t : List (Int × Int × Int)) : ∀ i : Nat, l.drop i = t → i ≤ l.length → ∃ r : Int, Big (fun k => slices_IndexFunc_v1.l0 k l b (l.length : Int) i) r ∧ decide (r ≥ 0) = !fitAll t b := by
 induction t with
 | nil =>
  intro i hd hi
  rw [List.drop_eq_nil_iff] at hd
  refine ⟨-1, Big.succ ?_, rfl⟩
  unfold slices_IndexFunc_v1.l0
  exact Big.neg (by omega) (Big.some_ _)
 | cons c t ih =>
  intro i hd hi
  obtain ⟨h1, h2, h3⟩ := rdT_cons_drop hd
  have hm : c ∈ l := List.mem_of_mem_drop (i := i) (by rw [hd]; exact List.mem_cons_self)
  have hc : Big (fun k => (impl_solutions_1_1.f k (rde l (i : Int)) b).bind some) (!fitN c.1 c.2.1 c.2.2 b) := by
   rw [h1]
   unfold impl_solutions_1_1.f
   exact Big.bind (Big.bind (fits_at c.1 c.2.1 c.2.2 b (hid_of hp hl hb) (by rw [hl]; exact hg c hm)) (Big.some_ _)) (Big.some_ _)
  unfold fitAll
  rw [List.all_cons]
  cases hf : fitN c.1 c.2.1 c.2.2 b
  ·rw [hf] at hc
   refine ⟨(i : Int), Big.succ ?_, by rw [Bool.false_and, Bool.not_false, decide_eq_true_iff]; omega⟩
   unfold slices_IndexFunc_v1.l0
   exact Big.pos (by omega) (Big.pos (by omega) (Big.pos (by omega) (Big.bind hc (Big.pos (by rfl) (Big.some_ _)))))
  ·rw [hf] at hc
   obtain ⟨r, k1, k2⟩ := ih (i + 1) h3 (by omega)
   unfold fitAll at k2
   refine ⟨r, Big.succ ?_, by rw [k2, Bool.true_and]⟩
   unfold slices_IndexFunc_v1.l0
   rw [w64n (by omega)]
   exact Big.pos (by omega) (Big.pos (by omega) (Big.pos (by omega) (Big.bind hc (Big.neg (by decide) k1))))
theorem anyO_at (p : Int) (hp : 2 ≤ p ∧ p ≤ 3) (b : List Int) (hl : (b.length : Int) = p) (hb : yrs12 b) (cl : List (Int × Int × Int)) (h6 : cl.length ≤ 1000000) (hg : good p cl) : Big (fun k => slices_ContainsFunc_v1.f k cl b) (!fitAll cl b) := by
 obtain ⟨r, h1, h2⟩ := iIdx_l p hp b hl hb cl h6 hg cl 0 rfl (Nat.zero_le _)
 unfold slices_ContainsFunc_v1.f slices_IndexFunc_v1.f
 refine Big.bind h1 ?_
 rw [h2]
 exact Big.some_ _
theorem iLeaf_at (p : Int) (hp : 2 ≤ p ∧ p ≤ 3) (b : List Int) (hl : (b.length : Int) = p) (hb : yrs12 b) (out : List (List Int)) (ho : out.length ≤ 1000000) (cl : List (Int × Int × Int)) (h6 : cl.length ≤ 1000000) (hg : good p cl) : Big (fun k => impl_solutions.leaf k cl b out) (out ++ if fitAll cl b = true then [b] else []) := by
 unfold impl_solutions.leaf
 refine Big.bind (anyO_at p hp b hl hb cl h6 hg) ?_
 cases fitAll cl b
 ·refine Big.pos rfl ?_
  simp only [Bool.false_eq_true, if_false, List.append_nil]
  exact Big.some_ _
 ·refine Big.neg (by decide) (Big.pos (by omega) ?_)
  exact Big.some_ _
theorem sAges_at {g : Nat → List Int → List (List Int) → Option (List (List Int))} {f : List Int → List (List Int)} (b : List Int) : ∀ (n : Nat) (out : List (List Int)), out.length + (agesN f b n).length ≤ 1000000 → (∀ i : Nat, i < n → ∀ o : List (List Int), o.length + (f (b ++ [12 - (i : Int)])).length ≤ 1000000 → Big (fun k => g k (b ++ [12 - (i : Int)]) o) (o ++ f (b ++ [12 - (i : Int)]))) → Big (fun k => spec_pzAll.ages (g k) b n out) (out ++ agesN f b n) := by
 intro n
 induction n with
 | zero =>
  intro out _ _
  unfold agesN
  rw [List.append_nil]
  exact Big.some_ _
 | succ n ih =>
  intro out hl h
  unfold agesN at hl ⊢
  rw [List.length_append] at hl
  unfold spec_pzAll.ages
  refine Big.bind (h n (by omega) out (by omega)) ?_
  rw [← List.append_assoc]
  exact ih _ (by rw [List.length_append]; omega) (fun i hi => h i (by omega))
theorem iAges_at {g : Nat → List Int → List (List Int) → Option (List (List Int))} {f : List Int → List (List Int)} (b : List Int) : ∀ (n : Nat) (out : List (List Int)), out.length + (agesN f b n).length ≤ 1000000 → (∀ i : Nat, i < n → ∀ o : List (List Int), o.length + (f (b ++ [12 - (i : Int)])).length ≤ 1000000 → Big (fun k => g k (b ++ [12 - (i : Int)]) o) (o ++ f (b ++ [12 - (i : Int)]))) → Big (fun k => impl_solutions.ages (g k) b n out) (out ++ agesN f b n) := by
 intro n
 induction n with
 | zero =>
  intro out _ _
  unfold agesN
  rw [List.append_nil]
  exact Big.some_ _
 | succ n ih =>
  intro out hl h
  unfold agesN at hl ⊢
  rw [List.length_append] at hl
  unfold impl_solutions.ages
  refine Big.bind (h n (by omega) out (by omega)) ?_
  rw [← List.append_assoc]
  exact ih _ (by rw [List.length_append]; omega) (fun i hi => h i (by omega))
theorem look_at (p : Int) (hp : 2 ≤ p ∧ p ≤ 3) (cl : List (Int × Int × Int)) (hg : good p cl) : ∀ (n : Nat) (b : List Int) (out : List (List Int)), (b.length : Int) + n = p → yrs12 b → out.length + (lookN cl n b).length ≤ 1000000 → Big (fun k => spec_pzAll.look k cl n b out) (out ++ lookN cl n b) := by
 intro n
 induction n with
 | zero =>
  intro b out hl hb ho
  unfold spec_pzAll.look lookN
  exact sLeaf_at p hp b (by omega) hb out (by omega) cl hg
 | succ n ih =>
  intro b out hl hb ho
  unfold spec_pzAll.look
  unfold lookN at ho ⊢
  exact sAges_at b 12 out ho (fun i hi o hoo => ih _ o (by rw [List.length_append]; simp only [List.length_cons, List.length_nil]; omega) (yrs12_snoc hb (by omega)) hoo)
theorem put_at (p : Int) (hp : 2 ≤ p ∧ p ≤ 3) (cl : List (Int × Int × Int)) (h6 : cl.length ≤ 1000000) (hg : good p cl) : ∀ (n : Nat) (b : List Int) (out : List (List Int)), (b.length : Int) + n = p → yrs12 b → out.length + (lookN cl n b).length ≤ 1000000 → Big (fun k => impl_solutions.put k cl n b out) (out ++ lookN cl n b) := by
 intro n
 induction n with
 | zero =>
  intro b out hl hb ho
  unfold impl_solutions.put lookN
  exact iLeaf_at p hp b (by omega) hb out (by omega) cl h6 hg
 | succ n ih =>
  intro b out hl hb ho
  unfold impl_solutions.put
  unfold lookN at ho ⊢
  exact iAges_at b 12 out ho (fun i hi o hoo => ih _ o (by rw [List.length_append]; simp only [List.length_cons, List.length_nil]; omega) (yrs12_snoc hb (by omega)) hoo)
theorem agesN_all {f : List Int → List (List Int)} {b : List Int} {q : List Int → Prop} : ∀ n : Nat, (∀ i : Nat, i < n → ∀ x ∈ f (b ++ [12 - (i : Int)]), q x) → ∀ x ∈ agesN f b n, q x := by
 intro n
 induction n with
 | zero => intro _ x hx; simp [agesN] at hx
 | succ n ih =>
  intro h x hx
  unfold agesN at hx
  rcases List.mem_append.mp hx with h1 | h1
  ·exact h n (by omega) x h1
  ·exact ih (fun i hi => h i (by omega)) x h1
theorem agesN_length {f : List Int → List (List Int)} {b : List Int} (m : Nat) : ∀ n : Nat, (∀ i : Nat, i < n → (f (b ++ [12 - (i : Int)])).length ≤ m) → (agesN f b n).length ≤ n * m := by
 intro n
 induction n with
 | zero => intro _; simp [agesN]
 | succ n ih =>
  intro h
  have h1 := h n (by omega)
  have h2 := ih (fun i hi => h i (by omega))
  unfold agesN
  rw [List.length_append, Nat.succ_mul]
  omega
theorem lookN_len (cl : List (Int × Int × Int)) : ∀ (n : Nat) (b : List Int), ∀ x ∈ lookN cl n b, x.length = b.length + n := by
 intro n
 induction n with
 | zero =>
  intro b x hx
  unfold lookN at hx
  cases h : fitAll cl b <;> simp [h] at hx
  rw [hx]; rfl
 | succ n ih =>
  intro b
  unfold lookN
  refine agesN_all 12 (fun i _ x hx => ?_)
  have := ih _ x hx
  rw [List.length_append] at this
  simp only [List.length_cons, List.length_nil] at this
  omega
theorem lookN_yrs (cl : List (Int × Int × Int)) : ∀ (n : Nat) (b : List Int), yrs12 b → ∀ x ∈ lookN cl n b, yrs12 x := by
 intro n
 induction n with
 | zero =>
  intro b hb x hx
  unfold lookN at hx
  cases h : fitAll cl b <;> simp [h] at hx
  rw [hx]; exact hb
 | succ n ih =>
  intro b hb
  unfold lookN
  exact agesN_all 12 (fun i hi x hx => ih _ (yrs12_snoc hb (by omega)) x hx)
theorem lookN_length (cl : List (Int × Int × Int)) : ∀ (n : Nat) (b : List Int), (lookN cl n b).length ≤ 12 ^ n := by
 intro n
 induction n with
 | zero =>
  intro b
  unfold lookN
  cases h : fitAll cl b <;> simp
 | succ n ih =>
  intro b
  unfold lookN
  have := agesN_length (f := lookN cl n) (b := b) (12 ^ n) 12 (fun i _ => ih _)
  rw [Nat.pow_succ]
  omega
/-- All solutions. -/
def sols (p : Int) (cl : List (Int × Int × Int)) : List (List Int) := lookN cl p.toNat []
theorem sols_length (p : Int) (hp : 2 ≤ p ∧ p ≤ 3) (cl : List (Int × Int × Int)) : (sols p cl).length ≤ 1728 := by
 have h := lookN_length cl p.toNat []
 have h3 : p.toNat ≤ 3 := by omega
 have : 12 ^ p.toNat ≤ 12 ^ 3 := Nat.pow_le_pow_right (by decide) h3
 unfold sols
 omega
theorem sols_row (p : Int) (hp : 2 ≤ p ∧ p ≤ 3) (cl : List (Int × Int × Int)) : ∀ x ∈ sols p cl, (x.length : Int) = p ∧ yrs12 x := by
 intro x hx
 have h := lookN_len cl p.toNat [] x hx
 exact ⟨by rw [List.length_nil] at h; omega, lookN_yrs cl _ _ (fun _ h => by cases h) x hx⟩
theorem pzAll_at (p : Int) (hp : 2 ≤ p ∧ p ≤ 3) (cl : List (Int × Int × Int)) (h6 : cl.length ≤ 1000000) (hg : good p cl) : Big (fun k => spec_pzAll.f k p cl) (sols p cl) := by
 unfold spec_pzAll.f
 have := sols_length p hp cl
 unfold sols at this ⊢
 exact Big.pos ⟨by omega, by omega, h6⟩ (look_at p hp cl hg p.toNat [] [] (by simp only [List.length_nil]; omega) (fun _ h => by cases h) (by simp only [List.length_nil]; omega))
theorem solutions_at (p : Int) (hp : 2 ≤ p ∧ p ≤ 3) (cl : List (Int × Int × Int)) (h6 : cl.length ≤ 1000000) (hg : good p cl) : Big (fun k => impl_solutions.f k p cl) (sols p cl) := by
 unfold impl_solutions.f
 have := sols_length p hp cl
 unfold sols at this ⊢
 exact Big.pos ⟨by omega, by omega⟩ (put_at p hp cl h6 hg p.toNat [] [] (by simp only [List.length_nil]; omega) (fun _ h => by cases h) (by simp only [List.length_nil]; omega))
theorem puz_good {p : Int} {cl : List (Int × Int × Int)} (h : puz p cl = true) : (2 ≤ p ∧ p ≤ 3) ∧ cl.length ≤ 6 ∧ good p cl := by
 unfold puz at h
 simp only [Bool.and_eq_true, decide_eq_true_eq, List.all_eq_true] at h
 exact ⟨inR_iff.mp h.1, h.2.1, fun c hc => h.2.2 c hc⟩
end Go.Proofs.YtecdijlfnnminaaGreatDoor.Q
set_option linter.all false
namespace Go.Proofs.YtecdijlfnnminaaGreatDoor.Q
open Go.RowKit Go Go.Proofs.YtecdijlfnnminaaGreatDoor.Eng Go.Proofs.YtecdijlfnnminaaGreatDoor Go.Proofs.YtecdijlfnnminaaGreatDoor.Y
set_option linter.unusedSimpArgs false

theorem Solutions_at (p : Int) (cl : List (Int × Int × Int)) : Big (fun k => impl_Solutions.f k (p, cl)) (if puz p cl = true then (sols p cl, true) else ([], false)) := by
 unfold impl_Solutions.f
 refine Big.bind (IsPuzzle_at p cl) ?_
 cases h : puz p cl
 ·simp only [Bool.false_eq_true, if_false]
  exact Big.some_ _
 ·obtain ⟨hp, hl, hg⟩ := puz_good h
  simp only [if_true]
  unfold impl_Puzzle_all.f
  exact Big.bind (Big.bind (solutions_at p hp cl (by omega) hg) (Big.some_ _)) (Big.some_ _)
theorem iCount_at (p : Int) (cl : List (Int × Int × Int)) : Big (fun k => impl_CountSolutions.f k (p, cl)) (if puz p cl = true then (((sols p cl).length : Int), true) else (0, false)) := by
 unfold impl_CountSolutions.f
 refine Big.bind (Solutions_at p cl) ?_
 cases h : puz p cl
 ·simp only [Bool.false_eq_true, if_false]
  exact Big.some_ _
 ·simp only [if_true]
  exact Big.some_ _
end Go.Proofs.YtecdijlfnnminaaGreatDoor.Q
set_option linter.all false
namespace Go.Proofs.YtecdijlfnnminaaGreatDoor.Q
open Go.RowKit Go Go.Proofs.YtecdijlfnnminaaGreatDoor.Eng Go.Proofs.YtecdijlfnnminaaGreatDoor Go.Proofs.YtecdijlfnnminaaGreatDoor.Y
set_option linter.unusedSimpArgs false

theorem Solutions2_at (p : Int) (cl : List (Int × Int × Int)) : Big (fun k => impl_Solutions.f k (p, cl)) (if puz p cl = true then (sols p cl, true) else ([], false)) := by
 unfold impl_Solutions.f
 refine Big.bind (IsPuzzle_at p cl) ?_
 cases h : puz p cl
 ·simp only [Bool.false_eq_true, if_false]
  exact Big.some_ _
 ·obtain ⟨hp, hl, hg⟩ := puz_good h
  simp only [if_true]
  unfold impl_Puzzle_all.f
  exact Big.bind (Big.bind (solutions_at p hp cl (by omega) hg) (Big.some_ _)) (Big.some_ _)
end Go.Proofs.YtecdijlfnnminaaGreatDoor.Q
set_option linter.all false
namespace Go.Proofs.YtecdijlfnnminaaGreatDoor.Q
open Go.RowKit Go Go.Proofs.YtecdijlfnnminaaGreatDoor.Eng Go.Proofs.YtecdijlfnnminaaGreatDoor Go.Proofs.YtecdijlfnnminaaGreatDoor.Y
set_option linter.unusedSimpArgs false

theorem pzSolved_at (p : Int) (hp : 2 ≤ p ∧ p ≤ 3) (cl : List (Int × Int × Int)) (h6 : cl.length ≤ 1000000) (hg : good p cl) : Big (fun k => spec_pzSolved.f k p cl) (((sols p cl).length : Int) == 1) := by
 unfold spec_pzSolved.f
 exact Big.bind (pzAll_at p hp cl (by omega) hg) (Big.some_ _)
theorem iSolved_at (p : Int) (cl : List (Int × Int × Int)) : Big (fun k => impl_IsSolved.f k (p, cl)) (if puz p cl = true then (((sols p cl).length : Int) == 1, true) else (false, false)) := by
 unfold impl_IsSolved.f
 refine Big.bind (iCount_at p cl) ?_
 cases h : puz p cl
 ·simp only [Bool.false_eq_true, if_false]
  exact Big.some_ _
 ·simp only [if_true]
  exact Big.some_ _
end Go.Proofs.YtecdijlfnnminaaGreatDoor.Q
set_option linter.all false
namespace Go.Proofs.YtecdijlfnnminaaGreatDoor.Q
open Go.RowKit Go Go.Proofs.YtecdijlfnnminaaGreatDoor.Eng Go.Proofs.YtecdijlfnnminaaGreatDoor Go.Proofs.YtecdijlfnnminaaGreatDoor.Y
set_option linter.unusedSimpArgs false

theorem without_both (cl : List (Int × Int × Int)) (i : Nat) (hi : i < cl.length) (hl : cl.length ≤ 6) : spec_pzWithout.f cl i = some (cl.eraseIdx i) ∧ S.impl_without.f cl i = some (cl.eraseIdx i) := by
 constructor
 ·unfold spec_pzWithout.f
  simp only [Option.bind_some, w64n (show i < 9223372036854775807 by omega), Int.toNat_natCast, List.nil_append, List.length_nil, Nat.zero_add, if_pos (show 0 ≤ (i : Int) by omega), if_pos (show (i : Int) ≤ (cl.length : Int) by omega), if_pos (show 0 ≤ ((i + 1 : Nat) : Int) by omega), if_pos (show ((i + 1 : Nat) : Int) ≤ (cl.length : Int) by omega), if_pos (show (cl.take i).length < 5864062014805 by rw [List.length_take]; omega), if_pos (show (cl.take i).length + (cl.drop (i + 1)).length < 5864062014805 by rw [List.length_take, List.length_drop]; omega)]
  rw [List.eraseIdx_eq_take_drop_succ]
 ·unfold S.impl_without.f
  rw [if_pos ⟨by omega, by omega, by omega⟩, Int.toNat_natCast]
end Go.Proofs.YtecdijlfnnminaaGreatDoor.Q
set_option linter.all false
namespace Go.Proofs.YtecdijlfnnminaaGreatDoor.Q
open Go.RowKit Go Go.Proofs.YtecdijlfnnminaaGreatDoor.Eng Go.Proofs.YtecdijlfnnminaaGreatDoor Go.Proofs.YtecdijlfnnminaaGreatDoor.Y
set_option linter.unusedSimpArgs false

theorem good_erase {p : Int} {cl : List (Int × Int × Int)} (hg : good p cl) (i : Nat) : good p (cl.eraseIdx i) := fun c hc => hg c (List.mem_of_mem_eraseIdx hc)
theorem agesN_sub {f g : List Int → List (List Int)} (h : ∀ b, List.Sublist (f b) (g b)) (b : List Int) : ∀ n, List.Sublist (agesN f b n) (agesN g b n)
 | 0 => List.Sublist.refl _
 | n + 1 => by
  unfold agesN
  exact (h _).append (agesN_sub h b n)
/-- Fewer clues: no fewer solutions, in the same order. -/
theorem lookN_sub {cl cl' : List (Int × Int × Int)} (h : ∀ c ∈ cl', c ∈ cl) : ∀ (n : Nat) (b : List Int), List.Sublist (lookN cl n b) (lookN cl' n b)
 | 0, b => by
  unfold lookN
  cases h1 : fitAll cl b
  ·simp
  ·have h2 : fitAll cl' b = true := by
    unfold fitAll at h1 ⊢
    rw [List.all_eq_true] at h1 ⊢
    exact fun c hc => h1 c (h c hc)
   rw [h2]
   exact List.Sublist.refl _
 | n + 1, b => by
  unfold lookN
  exact agesN_sub (lookN_sub h n) b 12
theorem sols_sub {p : Int} {cl cl' : List (Int × Int × Int)} (h : ∀ c ∈ cl', c ∈ cl) : List.Sublist (sols p cl) (sols p cl') := lookN_sub h _ _
theorem puz_of {p : Int} {cl : List (Int × Int × Int)} (hp : 2 ≤ p ∧ p ≤ 3) (hl : cl.length ≤ 6) (hg : good p cl) : puz p cl = true := by
 unfold puz
 rw [Bool.and_eq_true, Bool.and_eq_true, inR_iff, decide_eq_true_iff, List.all_eq_true]
 exact ⟨hp, hl, fun c hc => hg c hc⟩
end Go.Proofs.YtecdijlfnnminaaGreatDoor.Q
set_option linter.all false
namespace Go.Proofs.YtecdijlfnnminaaGreatDoor.Q
open Go.RowKit Go Go.Proofs.YtecdijlfnnminaaGreatDoor.Eng Go.Proofs.YtecdijlfnnminaaGreatDoor Go.Proofs.YtecdijlfnnminaaGreatDoor.Y
set_option linter.unusedSimpArgs false

def dropOk (p : Int) (cl : List (Int × Int × Int)) (a : Int) : Bool := puz p cl && inR a 0 ((cl.length : Int) - 1)
def dropR (p : Int) (cl : List (Int × Int × Int)) (a : Int) : (Int × List (Int × Int × Int)) × Bool := if dropOk p cl a = true then ((p, cl.eraseIdx a.toNat), true) else ((0, []), false)
theorem DropClue_i (p : Int) (cl : List (Int × Int × Int)) (a : Int) : Big (fun k => impl_DropClue.f k (p, cl) a) (dropR p cl a) := by
 have y := IsPuzzle_at p cl
 unfold impl_DropClue.f dropR dropOk
 cases h : puz p cl
 ·rw [h] at y
  simp only [Bool.false_and, Bool.false_eq_true, if_false]
  exact Big.bind y (Big.neg (by decide) (Big.some_ _))
 ·rw [h] at y
  obtain ⟨hp, hl6, hg⟩ := puz_good h
  have hw : IntKind.i64.wrap ((cl.length : Int) - 1) = (cl.length : Int) - 1 := w64 (by omega) (by omega)
  simp only [Bool.true_and, hw]
  cases hc : inR a 0 ((cl.length : Int) - 1)
  ·simp only [Bool.false_eq_true, if_false]
   refine Big.bind y (Big.pos rfl ?_)
   rw [v_between, hc]
   exact Big.bind (Big.some_ _) (Big.neg (by decide) (Big.some_ _))
  ·obtain ⟨i, rfl⟩ : ∃ i : Nat, a = (i : Int) := ⟨a.toNat, by have := inR_iff.mp hc; omega⟩
   have hi := inR_iff.mp hc
   obtain ⟨e1, e2⟩ := without_both cl i (by omega) hl6
   simp only [if_true, Int.toNat_natCast]
   refine Big.bind y (Big.pos rfl ?_)
   rw [v_between, hc]
   exact Big.bind (Big.some_ _) (Big.pos rfl (Big.bind (Big.of e2) (Big.some_ _)))
end Go.Proofs.YtecdijlfnnminaaGreatDoor.Q
