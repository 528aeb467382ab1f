/- Chapter 8: the calendar, CountJubilees, MostJubilees, LongestQuiet, OldestRound: program and reference answer alike. Condition: a list of at most 2^20 numbers that fit in 64 bits. -/
import Derived.Test.YtlkommjeflojjaaQR3
import Derived.Test.YtlkommjeflojjaaX0
import Derived.Test.YtlkommjeflojjaaX12
import Derived.Test.YtlkommjeflojjaaX13
import Derived.Test.YtlkommjeflojjaaX14
import Derived.Test.YtlkommjeflojjaaX15
import Derived.Test.YtlkommjeflojjaaX20
import Derived.Test.YtlkommjeflojjaaX21
import Derived.Test.YtlkommjeflojjaaX3
import Derived.Test.YtlkommjeflojjaaX5
import Derived.Test.YtlkommjeflojjaaX6
namespace Go.Proofs.Ytlkommjeflojjaa.Q
open Go.RowKit Go.Proofs.Ytlkommjeflojjaa.X Go.Proofs.YtlkommjeflojjaaW.PrintWords Go.Proofs.YtlkommjeflojjaaW.PrintLast

/-- n years from y on that have jubilees, each with its people. -/
def calF (l : List Int) (e : Int) : Nat → Int → List (List Int)
  | 0, _ => []
  | n + 1, y => (if ((jub l y e).length : Int) > 0 then [y :: jub l y e] else []) ++ calF l e n (y + 1)
theorem calF_length (l : List Int) (e : Int) (n : Nat) : ∀ y, (calF l e n y).length ≤ n := by
  induction n with
  | zero => intro y; simp [calF]
  | succ n ih =>
    intro y
    have := ih (y + 1)
    unfold calF
    rw [List.length_append]
    split <;> simp <;> omega
theorem rd1_cons_drop {l t : List (List Int)} {a : List Int} {i : Nat} (h : l.drop i = a :: t) : rd_L1 l (i : Int) = a ∧ i < l.length ∧ l.drop (i + 1) = t := by
  have hi : i < l.length := by
    rcases Nat.lt_or_ge i l.length with h1 | h1
    · exact h1
    · rw [List.drop_eq_nil_of_le h1] at h
      cases h
  rw [List.drop_eq_getElem_cons hi] at h
  injection h with h1 h2
  exact ⟨by unfold rd_L1; rw [Int.toNat_natCast, List.getD_eq_getElem?_getD, List.getElem?_eq_getElem hi]; exact h1, hi, h2⟩
theorem cal_l (l : List Int) (z e : Int) (hf : Fit l) (hz : z ≤ 3000) (he : 1 ≤ e) (n : Nat) : ∀ (y : Int) (acc : List (List Int)), 0 ≤ y → z + 1 - y = (n : Int) → acc.length + n ≤ 4000 → Big (fun k => impl_calendar.l0 k l z e acc y) (acc ++ calF l e n y, true) := by
  induction n with
  | zero =>
    intro y acc h0 hn hl
    refine Big.succ ?_
    simp only [impl_calendar.l0, if_neg (show ¬ y ≤ z by omega), calF, List.append_nil]
    exact Big.some_ _
  | succ n ih =>
    intro y acc h0 hn hl
    refine Big.succ ?_
    simp only [impl_calendar.l0, if_pos (show y ≤ z by omega)]
    rw [w64 (i := y + 1) (by omega) (by omega)]
    refine Big.bind (jubilees_at l y e hf (by omega) he) ?_
    have hj := jub_length l y e
    have hl10 := hf.1
    unfold calF
    by_cases h : ((jub l y e).length : Int) > 0
    · simp only [if_pos h, Option.bind_some, if_pos (show ([y] : List Int).length + (jub l y e).length < 17592186044416 by simp; omega), if_pos (show acc.length < 5864062014805 by omega)]
      rw [← List.append_assoc]
      exact ih (y + 1) (acc ++ [y :: jub l y e]) (by omega) (by omega) (by simp; omega)
    · simp only [if_neg h, List.nil_append]
      exact ih (y + 1) acc (by omega) (by omega) (by omega)
theorem calendar_at (l : List Int) (f t e : Int) : Big (fun k => impl_calendar.f k l f t e) (if (born l && span f t && inR e 1 100) = true then (calF l e (t + 1 - f).toNat f, true) else ([], false)) := by
  have n2 : Big (fun k => impl_calendar.j0 k l f t e true) ([], false) := Big.succ (by simp only [impl_calendar.j0, if_true]; exact Big.some_ _)
  unfold impl_calendar.f
  simp only [v_AreBirths, v_isSpan, v_isEvery, Option.bind_some]
  cases h1 : born l with
  | false => simpa only [Bool.false_and, Bool.false_eq_true, if_false] using n2
  | true =>
    cases h2 : span f t with
    | false => simpa only [Bool.and_false, Bool.false_and, Bool.false_eq_true, if_false, if_true] using n2
    | true =>
      cases h3 : inR e 1 100 with
      | false => simpa only [Bool.and_false, Bool.false_eq_true, if_false, if_true, Bool.not_false] using n2
      | true =>
        have hf := fit_of_born h1
        have hs := span_iff.mp h2
        have he := (inR_iff.mp h3).1
        simp only [Bool.and_true, if_true, Bool.not_true]
        refine Big.succ ?_
        simp only [impl_calendar.j0, Bool.false_eq_true, if_false]
        exact cal_l l t e hf (by omega) he _ f [] (by omega) (by omega) (by simp; omega)

/-- How many jubilees n years from y on have. -/
def cntF (l : List Int) (e : Int) : Nat → Int → Int
  | 0, _ => 0
  | n + 1, y => ((jub l y e).length : Int) + cntF l e n (y + 1)
def cntR : List (List Int) → Int
  | [] => 0
  | r :: t => ((r.length : Int) - 1) + cntR t
theorem cntR_append (a b : List (List Int)) : cntR (a ++ b) = cntR a + cntR b := by
  induction a with
  | nil => simp [cntR]
  | cons r t ih => simp only [List.cons_append, cntR, ih]; omega
theorem cntF_le (l : List Int) (e : Int) (hf : Fit l) (n : Nat) : ∀ y, 0 ≤ cntF l e n y ∧ cntF l e n y ≤ 10 * (n : Int) := by
  induction n with
  | zero => intro y; simp [cntF]
  | succ n ih =>
    intro y
    have := ih (y + 1)
    have h1 := jub_length l y e
    have h2 := hf.1
    unfold cntF
    omega
theorem cnt_eq (l : List Int) (e : Int) (n : Nat) : ∀ y, cntR (calF l e n y) = cntF l e n y := by
  induction n with
  | zero => intro y; rfl
  | succ n ih =>
    intro y
    unfold calF cntF
    rw [cntR_append, ih]
    split
    · simp only [cntR, List.length_cons]; omega
    · simp only [cntR]; omega
theorem sCnt_l (l : List Int) (z e : Int) (hf : Fit l) (hz : z ≤ 3000) (he : 1 ≤ e) (n : Nat) : ∀ (y acc : Int), 0 ≤ y → z + 1 - y = (n : Int) → 0 ≤ acc → acc + 10 * (n : Int) ≤ 100000 → Big (fun k => spec_CountJubilees.l0 k l z e acc y) (acc + cntF l e n y, true) := by
  induction n with
  | zero =>
    intro y acc h0 hn ha hl
    refine Big.succ ?_
    simp only [spec_CountJubilees.l0, if_neg (show ¬ y ≤ z by omega), cntF, Int.add_zero]
    exact Big.some_ _
  | succ n ih =>
    intro y acc h0 hn ha hl
    refine Big.succ ?_
    simp only [spec_CountJubilees.l0, if_pos (show y ≤ z by omega)]
    rw [w64 (i := y + 1) (by omega) (by omega)]
    refine Big.bind (roIn_at l y e hf (by omega) he) ?_
    have hj := jub_length l y e
    have hl10 := hf.1
    rw [w64 (by omega) (by omega)]
    unfold cntF
    rw [← Int.add_assoc]
    exact ih (y + 1) _ (by omega) (by omega) (by omega) (by omega)
theorem iCnt_l (rs : List (List Int)) (ok : Bool) (hr : ∀ r ∈ rs, 1 ≤ r.length ∧ r.length ≤ 20) (hn : rs.length ≤ 4000) (t : List (List Int)) : ∀ (i : Nat) (acc : Int), rs.drop i = t → 0 ≤ acc → acc ≤ 20 * (i : Int) → i ≤ rs.length → Big (fun k => impl_CountJubilees.l0 k ok acc rs (rs.length : Int) i) (acc + cntR t, ok) := by
  induction t with
  | nil =>
    intro i acc hd h0 ha hi
    rw [List.drop_eq_nil_iff] at hd
    refine Big.succ ?_
    simp only [impl_CountJubilees.l0, if_neg (show ¬ (i : Int) < (rs.length : Int) by omega), cntR, Int.add_zero]
    exact Big.some_ _
  | cons r t ih =>
    intro i acc hd h0 ha hi
    obtain ⟨h1, h2, h3⟩ := rd1_cons_drop hd
    have hrm := hr r (List.mem_of_mem_drop (i := i) (by rw [hd]; exact List.mem_cons_self))
    refine Big.succ ?_
    simp only [impl_CountJubilees.l0, h1, if_pos (show (i : Int) < (rs.length : Int) by omega), if_pos (show 0 ≤ (i : Int) by omega)]
    rw [w64n (by omega), w64 (i := (r.length : Int) - 1) (by omega) (by omega), w64 (by omega) (by omega)]
    unfold cntR
    rw [← Int.add_assoc]
    exact ih (i + 1) _ h3 (by omega) (by omega) (by omega)
theorem calF_rows (l : List Int) (e : Int) (hf : Fit l) (n : Nat) : ∀ y, ∀ r ∈ calF l e n y, 1 ≤ r.length ∧ r.length ≤ 20 := by
  induction n with
  | zero => intro y r hr; cases hr
  | succ n ih =>
    intro y r hr
    unfold calF at hr
    rw [List.mem_append] at hr
    rcases hr with hr | hr
    · split at hr
      · simp only [List.mem_singleton] at hr
        subst hr
        have hj := jub_length l y e
        have hl10 := hf.1
        simp only [List.length_cons]
        omega
      · cases hr
    · exact ih (y + 1) r hr
theorem CountJubilees_both (l : List Int) (f t e : Int) (hl : l.length ≤ 1048576) : ∃ R : Int × Bool, Big (fun k => spec_CountJubilees.f k l f t e) R ∧ Big (fun k => impl_CountJubilees.f k l f t e) R := by
  unfold spec_CountJubilees.f impl_CountJubilees.f
  have hA := roAll_at l f t e hl
  have hC := calendar_at l f t e
  cases h : (born l && span f t && inR e 1 100) with
  | false =>
    rw [h] at hA hC
    simp only [Bool.false_eq_true, if_false] at hC
    refine ⟨(0, false), Big.bind hA (by simp only [Bool.false_eq_true, if_false]; exact Big.some_ _), Big.bind hC ?_⟩
    exact iCnt_l [] false (fun r hr => by cases hr) (by simp) [] 0 0 rfl (by omega) (by omega) (by simp)
  | true =>
    rw [h] at hA hC
    simp only [if_true] at hC
    simp only [Bool.and_eq_true] at h
    have hf := fit_of_born h.1.1
    have hs := span_iff.mp h.1.2
    have he := (inR_iff.mp h.2).1
    have hlen := calF_length l e (t + 1 - f).toNat f
    refine ⟨(0 + cntF l e (t + 1 - f).toNat f, true), Big.bind hA ?_, Big.bind hC ?_⟩
    · simp only [if_true]
      exact sCnt_l l t e hf (by omega) he _ f 0 (by omega) (by omega) (by omega) (by omega)
    · rw [← cnt_eq]
      exact iCnt_l _ true (calF_rows l e hf _ f) (by omega) _ 0 0 rfl (by omega) (by omega) (by simp)

/-- The year with the most jubilees, of lines. -/
def mostR : List (List Int) → Int → Int → Int × Int
  | [], a, m => (a, m)
  | r :: t, a, m => if (r.length : Int) - 1 > m then mostR t (r.headD 0) ((r.length : Int) - 1) else mostR t a m
theorem mostR_append (a : List (List Int)) (b : List (List Int)) : ∀ x m, mostR (a ++ b) x m = mostR b (mostR a x m).1 (mostR a x m).2 := by
  induction a with
  | nil => intro x m; rfl
  | cons r t ih =>
    intro x m
    simp only [List.cons_append, mostR]
    split <;> exact ih _ _
theorem sMost_l (l : List Int) (z e : Int) (hf : Fit l) (hz : z ≤ 3000) (he : 1 ≤ e) (n : Nat) : ∀ (y a m : Int), 0 ≤ y → z + 1 - y = (n : Int) → 0 ≤ m → Big (fun k => spec_MostJubilees.l0 k l z e a m y) ((mostR (calF l e n y) a m).1, (mostR (calF l e n y) a m).2, true) := by
  induction n with
  | zero =>
    intro y a m h0 hn hm
    refine Big.succ ?_
    simp only [spec_MostJubilees.l0, if_neg (show ¬ y ≤ z by omega), calF, mostR]
    exact Big.some_ _
  | succ n ih =>
    intro y a m h0 hn hm
    refine Big.succ ?_
    simp only [spec_MostJubilees.l0, if_pos (show y ≤ z by omega)]
    rw [w64 (i := y + 1) (by omega) (by omega)]
    refine Big.bind (roIn_at l y e hf (by omega) he) ?_
    unfold calF
    rw [mostR_append]
    by_cases h : ((jub l y e).length : Int) > m
    · simp only [if_pos h, if_pos (show ((jub l y e).length : Int) > 0 by omega), mostR, List.length_cons, if_pos (show (((jub l y e).length + 1 : Nat) : Int) - 1 > m by omega), List.headD_cons]
      rw [show (((jub l y e).length + 1 : Nat) : Int) - 1 = ((jub l y e).length : Int) by omega]
      exact ih (y + 1) _ _ (by omega) (by omega) (by omega)
    · simp only [if_neg h]
      by_cases h2 : ((jub l y e).length : Int) > 0
      · simp only [if_pos h2, mostR, List.length_cons, if_neg (show ¬ (((jub l y e).length + 1 : Nat) : Int) - 1 > m by omega)]
        exact ih (y + 1) _ _ (by omega) (by omega) hm
      · simp only [if_neg h2, mostR]
        exact ih (y + 1) _ _ (by omega) (by omega) hm
theorem iMost_l (rs : List (List Int)) (hr : ∀ r ∈ rs, 1 ≤ r.length ∧ r.length ≤ 20) (hn : rs.length ≤ 4000) (t : List (List Int)) : ∀ (i : Nat) (a m : Int), rs.drop i = t → i ≤ rs.length → Big (fun k => impl_MostJubilees.l0 k a m rs (rs.length : Int) i) ((mostR t a m).1, (mostR t a m).2, true) := by
  induction t with
  | nil =>
    intro i a m hd hi
    rw [List.drop_eq_nil_iff] at hd
    refine Big.succ ?_
    simp only [impl_MostJubilees.l0, if_neg (show ¬ (i : Int) < (rs.length : Int) by omega), mostR]
    exact Big.some_ _
  | cons r t ih =>
    intro i a m hd hi
    obtain ⟨h1, h2, h3⟩ := rd1_cons_drop hd
    have hrm := hr r (List.mem_of_mem_drop (i := i) (by rw [hd]; exact List.mem_cons_self))
    refine Big.succ ?_
    simp only [impl_MostJubilees.l0, h1, if_pos (show (i : Int) < (rs.length : Int) by omega), if_pos (show 0 ≤ (i : Int) by omega)]
    rw [w64n (by omega), w64 (i := (r.length : Int) - 1) (by omega) (by omega)]
    unfold mostR
    by_cases h : (r.length : Int) - 1 > m
    · simp only [if_pos h, if_pos (show (0 : Int) < (r.length : Int) by omega)]
      have hd0 : rd r 0 = r.headD 0 := by cases r <;> rfl
      rw [hd0]
      exact ih (i + 1) _ _ h3 (by omega)
    · simp only [if_neg h]
      exact ih (i + 1) _ _ h3 (by omega)
theorem MostJubilees_both (l : List Int) (f t e : Int) (hl : l.length ≤ 1048576) : ∃ R : Int × Int × Bool, Big (fun k => spec_MostJubilees.f k l f t e) R ∧ Big (fun k => impl_MostJubilees.f k l f t e) R := by
  unfold spec_MostJubilees.f impl_MostJubilees.f
  have hA := roAll_at l f t e hl
  have hC := calendar_at l f t e
  cases h : (born l && span f t && inR e 1 100) with
  | false =>
    rw [h] at hA hC
    simp only [Bool.false_eq_true, if_false] at hC
    exact ⟨(0, 0, false), Big.bind hA (by simp only [Bool.false_eq_true, if_false]; exact Big.some_ _), Big.bind hC (by simp only [Bool.false_eq_true, if_false]; exact Big.some_ _)⟩
  | true =>
    rw [h] at hA hC
    simp only [if_true] at hC
    simp only [Bool.and_eq_true] at h
    have hf := fit_of_born h.1.1
    have hs := span_iff.mp h.1.2
    have he := (inR_iff.mp h.2).1
    have hlen := calF_length l e (t + 1 - f).toNat f
    refine ⟨((mostR (calF l e (t + 1 - f).toNat f) f 0).1, (mostR (calF l e (t + 1 - f).toNat f) f 0).2, true), Big.bind hA ?_, Big.bind hC ?_⟩
    · simp only [if_true]
      refine Big.succ ?_
      simp only [spec_MostJubilees.l0, if_pos (show f ≤ t by omega)]
      rw [w64 (i := f + 1) (by omega) (by omega)]
      refine Big.bind (roIn_at l f e hf (by omega) he) ?_
      simp only [if_pos (show ((jub l f e).length : Int) > -1 by omega)]
      obtain ⟨n, hn⟩ : ∃ n : Nat, (t + 1 - f).toNat = n + 1 := ⟨(t - f).toNat, by omega⟩
      rw [hn]
      unfold calF
      rw [mostR_append]
      have hm : mostR (if ((jub l f e).length : Int) > 0 then [f :: jub l f e] else []) f 0 = (f, ((jub l f e).length : Int)) := by
        split
        · rename_i h0
          simp only [mostR, List.length_cons, if_pos (show (((jub l f e).length + 1 : Nat) : Int) - 1 > 0 by omega), List.headD_cons]
          rw [show (((jub l f e).length + 1 : Nat) : Int) - 1 = ((jub l f e).length : Int) by omega]
        · rename_i h0
          simp only [mostR]
          rw [show ((jub l f e).length : Int) = 0 by omega]
      rw [hm]
      exact sMost_l l t e hf (by omega) he n (f + 1) f _ (by omega) (by omega) (by omega)
    · simp only [if_true]
      exact iMost_l _ (calF_rows l e hf _ f) (by omega) _ 0 f 0 rfl (by simp)

/-- The longest part without a jubilee, of lines that begin with their years. -/
def quiR : List (List Int) → Int → Int → Int → Int × Int
  | [], b, m, _ => (b, m)
  | r :: t, b, m, x => if r.headD 0 - x > m then quiR t x (r.headD 0 - x) (r.headD 0 + 1) else quiR t b m (r.headD 0 + 1)
theorem iQui_l (rs : List (List Int)) (hr : ∀ r ∈ rs, 1 ≤ r.length ∧ 0 ≤ r.headD 0 ∧ r.headD 0 ≤ 4000) (hn : rs.length ≤ 4000) (t : List (List Int)) : ∀ (i : Nat) (b m x : Int), rs.drop i = t → i ≤ rs.length → 0 ≤ x ∧ x ≤ 4001 → Big (fun k => impl_LongestQuiet.l0 k b m x rs (rs.length : Int) i) ((quiR t b m x).1, (quiR t b m x).2, decide ((quiR t b m x).2 > 0)) := by
  induction t with
  | nil =>
    intro i b m x hd hi hx
    rw [List.drop_eq_nil_iff] at hd
    refine Big.succ ?_
    simp only [impl_LongestQuiet.l0, if_neg (show ¬ (i : Int) < (rs.length : Int) by omega), quiR]
    exact Big.some_ _
  | cons r t ih =>
    intro i b m x hd hi hx
    obtain ⟨h1, h2, h3⟩ := rd1_cons_drop hd
    have hrm := hr r (List.mem_of_mem_drop (i := i) (by rw [hd]; exact List.mem_cons_self))
    have hd0 : rd r 0 = r.headD 0 := by cases r <;> rfl
    refine Big.succ ?_
    simp only [impl_LongestQuiet.l0, h1, hd0, if_pos (show (i : Int) < (rs.length : Int) by omega), if_pos (show 0 ≤ (i : Int) by omega), if_pos (show (0 : Int) < (r.length : Int) by omega)]
    rw [w64n (by omega), w64 (i := r.headD 0 - x) (by omega) (by omega), w64 (i := r.headD 0 + 1) (by omega) (by omega)]
    unfold quiR
    by_cases h : r.headD 0 - x > m
    · simp only [if_pos h]
      exact ih (i + 1) _ _ _ h3 (by omega) (by omega)
    · simp only [if_neg h]
      exact ih (i + 1) _ _ _ h3 (by omega) (by omega)
/-- What the reference holds: with a part that isn't over yet. -/
def quiS (b m x y : Int) : Int × Int := if y - x > m then (x, y - x) else (b, m)
def quiE (p : Int × Int) : Int × Int × Bool := if p.2 = 0 then (0, 0, false) else (p.1, p.2, true)
theorem sQui_l (l : List Int) (z e : Int) (hf : Fit l) (hz : z ≤ 3000) (he : 1 ≤ e) (n : Nat) : ∀ (y b m x : Int), 0 ≤ x → x ≤ y → 0 ≤ m → m ≤ 4000 → z + 1 - y = (n : Int) →
    Big (fun k => spec_LongestQuiet.l0 k l z e (quiS b m x y).1 (quiS b m x y).2 (y - x) y) (quiE (quiR (calF l e n y ++ [[z + 1]]) b m x)) := by
  induction n with
  | zero =>
    intro y b m x hx hxy hm hm2 hn
    refine Big.succ ?_
    simp only [spec_LongestQuiet.l0, if_neg (show ¬ y ≤ z by omega)]
    have hy : y = z + 1 := by omega
    subst hy
    have q2 : quiR (calF l e 0 (z + 1) ++ [[z + 1]]) b m x = quiS b m x (z + 1) := by
      unfold calF
      rw [List.nil_append]
      unfold quiR quiS
      rw [List.headD_cons]
      split <;> rfl
    rw [q2]
    unfold quiE
    exact Big.of (by split <;> rfl)
  | succ n ih =>
    intro y b m x hx hxy hm hm2 hn
    refine Big.succ ?_
    simp only [spec_LongestQuiet.l0, if_pos (show y ≤ z by omega)]
    rw [w64 (i := y + 1) (by omega) (by omega), w64 (i := y - x + 1) (by omega) (by omega), w64 (i := y - (y - x + 1)) (by omega) (by omega), w64 (i := y - (y - x + 1) + 1) (by omega) (by omega)]
    refine Big.bind (roIn_at l y e hf (by omega) he) ?_
    have hS : 0 ≤ (quiS b m x y).2 := by unfold quiS; split <;> simp only <;> omega
    by_cases h : ((jub l y e).length : Int) > 0
    · simp only [if_pos h, if_neg (show ¬ (0 : Int) > (quiS b m x y).2 by omega)]
      have hq : quiR (calF l e (n + 1) y ++ [[z + 1]]) b m x = if y - x > m then quiR (calF l e n (y + 1) ++ [[z + 1]]) x (y - x) (y + 1) else quiR (calF l e n (y + 1) ++ [[z + 1]]) b m (y + 1) := by
        conv => lhs; unfold calF
        rw [if_pos h]
        rfl
      rw [hq]
      have e1 : ∀ b' m' : Int, 0 ≤ m' → quiS b' m' (y + 1) (y + 1) = (b', m') := fun b' m' h' => by unfold quiS; rw [if_neg (by omega)]
      by_cases h2 : y - x > m
      · have e2 : quiS b m x y = (x, y - x) := by unfold quiS; rw [if_pos h2]
        simp only [if_pos h2]
        have := ih (y + 1) x (y - x) (y + 1) (by omega) (by omega) (by omega) (by omega) (by omega)
        rw [e1 _ _ (by omega), show y + 1 - (y + 1) = 0 by omega] at this
        rw [e2]
        exact this
      · have e2 : quiS b m x y = (b, m) := by unfold quiS; rw [if_neg h2]
        simp only [if_neg h2]
        have := ih (y + 1) b m (y + 1) (by omega) (by omega) (by omega) (by omega) (by omega)
        rw [e1 _ _ (by omega), show y + 1 - (y + 1) = 0 by omega] at this
        rw [e2]
        exact this
    · simp only [if_neg h]
      unfold calF
      simp only [if_neg h, List.nil_append]
      have := ih (y + 1) b m x hx (by omega) hm hm2 (by omega)
      have e1 : y - (y - x + 1) + 1 = x := by omega
      have e3 : y + 1 - x = y - x + 1 := by omega
      by_cases h2 : y - x + 1 > (quiS b m x y).2
      · simp only [if_pos h2, e1]
        have e2 : quiS b m x (y + 1) = (x, y - x + 1) := by
          unfold quiS at h2 ⊢
          by_cases h3 : y - x > m
          · rw [if_pos (by omega), e3]
          · rw [if_neg h3] at h2
            simp only at h2
            rw [if_pos (by omega), e3]
        rw [e2, e3] at this
        exact this
      · simp only [if_neg h2]
        have e2 : quiS b m x (y + 1) = quiS b m x y := by
          unfold quiS at h2 ⊢
          by_cases h3 : y - x > m
          · rw [if_pos h3] at h2
            simp only at h2
            omega
          · rw [if_neg h3] at h2 ⊢
            simp only at h2
            rw [if_neg (by omega)]
        rw [e2, e3] at this
        exact this
theorem calF_heads (l : List Int) (e : Int) (n : Nat) : ∀ y, 0 ≤ y → y + (n : Int) ≤ 4000 → ∀ r ∈ calF l e n y, 1 ≤ r.length ∧ 0 ≤ r.headD 0 ∧ r.headD 0 ≤ 4000 := by
  induction n with
  | zero => intro y _ _ r hr; cases hr
  | succ n ih =>
    intro y h0 h1 r hr
    unfold calF at hr
    rw [List.mem_append] at hr
    rcases hr with hr | hr
    · split at hr
      · simp only [List.mem_singleton] at hr
        subst hr
        simp only [List.length_cons, List.headD_cons]
        omega
      · cases hr
    · exact ih (y + 1) (by omega) (by omega) r hr
theorem quiR_nonneg (t : List (List Int)) : ∀ b m x, 0 ≤ m → 0 ≤ (quiR t b m x).2 ∧ (m = 0 ∧ b = 0 → (quiR t b m x).2 = 0 → (quiR t b m x).1 = 0) := by
  induction t with
  | nil => intro b m x h; exact ⟨h, fun h1 _ => h1.2⟩
  | cons r t ih =>
    intro b m x h
    unfold quiR
    split
    · rename_i h2
      have key : ∀ (t : List (List Int)) b m x, 0 < m → 0 < (quiR t b m x).2 := by
        intro t
        induction t with
        | nil => intro b m x h; exact h
        | cons r t ih2 =>
          intro b m x h
          unfold quiR
          split
          · exact ih2 _ _ _ (by omega)
          · exact ih2 _ _ _ h
      have := key t x (r.headD 0 - x) (r.headD 0 + 1) (by omega)
      exact ⟨by omega, fun _ h3 => by omega⟩
    · exact ih b m _ h
theorem LongestQuiet_both (l : List Int) (f t e : Int) (hl : l.length ≤ 1048576) : ∃ R : Int × Int × Bool, Big (fun k => spec_LongestQuiet.f k l f t e) R ∧ Big (fun k => impl_LongestQuiet.f k l f t e) R := by
  unfold spec_LongestQuiet.f impl_LongestQuiet.f
  have hA := roAll_at l f t e hl
  have hC := calendar_at l f t e
  cases h : (born l && span f t && inR e 1 100) with
  | false =>
    rw [h] at hA hC
    simp only [Bool.false_eq_true, if_false] at hC
    exact ⟨(0, 0, false), Big.bind hA (by simp only [Bool.false_eq_true, if_false]; exact Big.some_ _), Big.bind hC (by simp only [Bool.false_eq_true, if_false]; exact Big.some_ _)⟩
  | true =>
    rw [h] at hA hC
    simp only [if_true] at hC
    simp only [Bool.and_eq_true] at h
    have hf := fit_of_born h.1.1
    have hs := span_iff.mp h.1.2
    have he := (inR_iff.mp h.2).1
    have hlen := calF_length l e (t + 1 - f).toNat f
    have hw : wrap64 (t + 1) = t + 1 := w64 (by omega) (by omega)
    obtain ⟨hq1, hq2⟩ := quiR_nonneg (calF l e (t + 1 - f).toNat f ++ [[t + 1]]) 0 0 f (by omega)
    refine ⟨quiE (quiR (calF l e (t + 1 - f).toNat f ++ [[t + 1]]) 0 0 f), Big.bind hA ?_, Big.bind hC ?_⟩
    · simp only [if_true]
      have := sQui_l l t e hf (by omega) he (t + 1 - f).toNat f 0 0 f (by omega) (by omega) (by omega) (by omega) (by omega)
      have e1 : quiS 0 0 f f = (0, 0) := by unfold quiS; rw [if_neg (by omega)]
      rw [e1, show f - f = 0 by omega] at this
      exact this
    · simp only [if_true, if_pos (show (calF l e (t + 1 - f).toNat f).length < 5864062014805 by omega), Option.bind_some, hw]
      refine Big.cast (iQui_l _ (fun r hr => ?_) (by simp; omega) _ 0 0 0 f rfl (by simp) (by omega)) ?_
      · rw [List.mem_append] at hr
        rcases hr with hr | hr
        · exact calF_heads l e _ f (by omega) (by omega) r hr
        · simp only [List.mem_singleton] at hr
          subst hr
          simp only [List.length_singleton, List.headD_cons]
          omega
      · rw [List.drop_zero]
        unfold quiE
        by_cases h0 : (quiR (calF l e (t + 1 - f).toNat f ++ [[t + 1]]) 0 0 f).2 = 0
        · rw [if_pos h0, h0, hq2 ⟨rfl, rfl⟩ h0]
          rfl
        · rw [if_neg h0, decide_eq_true (by omega)]

/-- The oldest one of some people, from one on. -/
def oldR (l : List Int) : List Int → Int → Int
  | [], b => b
  | i :: t, b => if rd l i < rd l b then oldR l t i else oldR l t b
theorem jubF_mem (y e : Int) (l : List Int) : ∀ (i : Nat) (q : Int), q ∈ jubF y e i l → (i : Int) ≤ q ∧ q < (i : Int) + (l.length : Int) ∧ 0 < y - l.getD (q - (i : Int)).toNat 0 := by
  induction l with
  | nil => intro i q h; cases h
  | cons b t ih =>
    intro i q h
    unfold jubF at h
    rw [List.mem_append] at h
    rcases h with h | h
    · cases hc : (inR (y - b) 0 120 && rnd (y - b) e) with
      | false => rw [hc] at h; cases h
      | true =>
        rw [hc] at h
        simp only [if_true, List.mem_singleton] at h
        subst h
        rw [Bool.and_eq_true] at hc
        have h2 := hc.2
        unfold rnd at h2
        simp at h2
        refine ⟨Int.le_refl _, by simp only [List.length_cons]; omega, ?_⟩
        rw [Int.sub_self]
        simp only [Int.toNat_zero, List.getD_cons_zero]
        omega
    · obtain ⟨h1, h2, h3⟩ := ih (i + 1) q h
      refine ⟨by omega, by simp only [List.length_cons]; omega, ?_⟩
      rw [show (q - (i : Int)).toNat = (q - ((i + 1 : Nat) : Int)).toNat + 1 by omega, List.getD_cons_succ]
      exact h3
theorem jub_mem (l : List Int) (y e q : Int) (h : q ∈ jub l y e) : 0 ≤ q ∧ q < (l.length : Int) ∧ 0 < y - rd l q := by
  obtain ⟨h1, h2, h3⟩ := jubF_mem y e l 0 q h
  refine ⟨by omega, by omega, ?_⟩
  rw [show q - ((0 : Nat) : Int) = q by omega] at h3
  exact h3
theorem sOld_l (l : List Int) (y : Int) (hf : Fit l) (hy : 0 ≤ y ∧ y ≤ 3000) (js : List Int) (hj : ∀ q ∈ js, 0 ≤ q ∧ q < (l.length : Int) ∧ 0 < y - rd l q) (hn : js.length ≤ 100) (t : List Int) : ∀ (i : Nat) (b : Int), js.drop i = t → i ≤ js.length → 0 ≤ b ∧ b < (l.length : Int) ∧ 0 < y - rd l b →
    Big (fun k => spec_OldestRound.l0 k l y b (y - rd l b) js (js.length : Int) i) (oldR l t b, y - rd l (oldR l t b), true) := by
  induction t with
  | nil =>
    intro i b hd hi hb
    have hle := drop_nil_le hd
    refine Big.succ ?_
    simp only [spec_OldestRound.l0, if_neg (show ¬ (i : Int) < (js.length : Int) by omega), if_neg (show ¬ y - rd l b = 0 by omega), oldR]
    exact Big.some_ _
  | cons q t ih =>
    intro i b hd hi hb
    obtain ⟨h1, h2, h3⟩ := rd_cons_drop hd
    have hq := hj q (List.mem_of_mem_drop (i := i) (by rw [hd]; exact List.mem_cons_self))
    have hqm := hf.2 _ (rd_mem' hq.1 hq.2.1)
    refine Big.succ ?_
    simp only [spec_OldestRound.l0, h1, if_pos (show (i : Int) < (js.length : Int) by omega), if_pos (show 0 ≤ (i : Int) by omega), if_pos hq.1, if_pos hq.2.1]
    rw [w64n (by omega), w64 (i := y - rd l q) (by omega) (by omega)]
    unfold oldR
    by_cases h : rd l q < rd l b
    · simp only [if_pos h, if_pos (show y - rd l q > y - rd l b by omega)]
      exact ih (i + 1) q h3 (by omega) hq
    · simp only [if_neg h, if_neg (show ¬ y - rd l q > y - rd l b by omega)]
      exact ih (i + 1) b h3 (by omega) hb
theorem iOld_l (l : List Int) (y : Int) (hf : Fit l) (hy : 0 ≤ y ∧ y ≤ 3000) (js : List Int) (hj : ∀ q ∈ js, 0 ≤ q ∧ q < (l.length : Int) ∧ 0 < y - rd l q) (hn : js.length ≤ 100) (t : List Int) : ∀ (i : Nat) (b : Int), js.drop i = t → i ≤ js.length → 0 ≤ b ∧ b < (l.length : Int) ∧ 0 < y - rd l b →
    Big (fun k => impl_OldestRound.l0 k l y b js (js.length : Int) i) (oldR l t b, y - rd l (oldR l t b), true) := by
  induction t with
  | nil =>
    intro i b hd hi hb
    have hle := drop_nil_le hd
    have hbm := hf.2 _ (rd_mem' hb.1 hb.2.1)
    refine Big.succ ?_
    simp only [impl_OldestRound.l0, if_neg (show ¬ (i : Int) < (js.length : Int) by omega), if_pos hb.1, if_pos hb.2.1, oldR]
    rw [w64 (by omega) (by omega)]
    exact Big.some_ _
  | cons q t ih =>
    intro i b hd hi hb
    obtain ⟨h1, h2, h3⟩ := rd_cons_drop hd
    have hq := hj q (List.mem_of_mem_drop (i := i) (by rw [hd]; exact List.mem_cons_self))
    refine Big.succ ?_
    simp only [impl_OldestRound.l0, h1, if_pos (show (i : Int) < (js.length : Int) by omega), if_pos (show 0 ≤ (i : Int) by omega), if_pos hq.1, if_pos hq.2.1, if_pos hb.1, if_pos hb.2.1]
    rw [w64n (by omega)]
    unfold oldR
    by_cases h : rd l q < rd l b
    · simp only [if_pos h]
      exact ih (i + 1) q h3 (by omega) hq
    · simp only [if_neg h]
      exact ih (i + 1) b h3 (by omega) hb
theorem OldestRound_both (l : List Int) (y e : Int) (hl : l.length ≤ 1048576) : ∃ R : Int × Int × Bool, Big (fun k => spec_OldestRound.f k l y e) R ∧ Big (fun k => impl_OldestRound.f k l y e) R := by
  have n1 : Big (fun k => spec_OldestRound.j0 k l y e true) (0, 0, false) := Big.succ (by simp only [spec_OldestRound.j0, if_true]; exact Big.some_ _)
  have n2 : ∀ js, Big (fun k => impl_OldestRound.j0 k l y js true) (0, 0, false) := fun js => Big.succ (by simp only [impl_OldestRound.j0, if_true]; exact Big.some_ _)
  have hJ : Big (fun k => impl_JubileesIn.f k l y e) (if (born l && inR y 0 3000 && inR e 1 100) = true then (jub l y e, true) else ([], false)) := by
    unfold impl_JubileesIn.f
    simp only [v_AreBirths, v_isYear, v_isEvery, Option.bind_some]
    cases h1 : born l with
    | false => simp only [Bool.false_and, Bool.false_eq_true, if_false]; exact Big.some_ _
    | true =>
      cases h2 : inR y 0 3000 with
      | false => simp only [Bool.and_false, Bool.false_and, Bool.false_eq_true, if_false, if_true]; exact Big.some_ _
      | true =>
        cases h3 : inR e 1 100 with
        | false => simp only [Bool.and_false, Bool.false_eq_true, if_false, if_true]; exact Big.some_ _
        | true =>
          simp only [Bool.and_true, if_true]
          exact Big.bind (jubilees_at l y e (fit_of_born h1) (inR_iff.mp h2) (inR_iff.mp h3).1) (Big.some_ _)
  unfold spec_OldestRound.f impl_OldestRound.f
  simp only [v_roEvery, Option.bind_some]
  cases h : (born l && inR y 0 3000 && inR e 1 100) with
  | false =>
    rw [h] at hJ
    simp only [Bool.false_eq_true, if_false] at hJ
    refine ⟨(0, 0, false), Big.bind (roYear_at l y hl) ?_, Big.bind hJ (by simp only [Bool.false_eq_true, if_false]; exact n2 _)⟩
    cases h12 : (born l && inR y 0 3000) with
    | false => simpa only [Bool.false_eq_true, if_false] using n1
    | true =>
      rw [h12, Bool.true_and] at h
      simpa only [if_true, h, Bool.not_false] using n1
  | true =>
    rw [h] at hJ
    simp only [if_true] at hJ
    simp only [Bool.and_eq_true] at h
    have hf := fit_of_born h.1.1
    have hy := inR_iff.mp h.1.2
    have he := (inR_iff.mp h.2).1
    have hjl := jub_length l y e
    have hl10 := hf.1
    have h12 : (born l && inR y 0 3000) = true := by rw [h.1.1, h.1.2]; rfl
    cases hq : jub l y e with
    | nil =>
      rw [hq] at hJ
      refine ⟨(0, 0, false), Big.bind (roYear_at l y hl) ?_, Big.bind hJ (by simp only [if_true]; exact n2 _)⟩
      simp only [h12, if_true, h.2, Bool.not_true]
      refine Big.succ ?_
      simp only [spec_OldestRound.j0, Bool.false_eq_true, if_false]
      refine Big.bind (roIn_at l y e hf hy he) ?_
      rw [hq]
      refine Big.succ ?_
      simp only [spec_OldestRound.l0, List.length_nil]
      exact Big.some_ _
    | cons q t =>
      rw [hq] at hJ
      have hj : ∀ x ∈ q :: t, 0 ≤ x ∧ x < (l.length : Int) ∧ 0 < y - rd l x := fun x hx => jub_mem l y e x (by rw [hq]; exact hx)
      have hq0 := hj q List.mem_cons_self
      have hqm := hf.2 _ (rd_mem' hq0.1 hq0.2.1)
      have hlen : (q :: t).length ≤ 100 := by rw [← hq]; omega
      refine ⟨(oldR l t q, y - rd l (oldR l t q), true), Big.bind (roYear_at l y hl) ?_, Big.bind hJ ?_⟩
      · simp only [h12, if_true, h.2, Bool.not_true]
        refine Big.succ ?_
        simp only [spec_OldestRound.j0, Bool.false_eq_true, if_false]
        refine Big.bind (roIn_at l y e hf hy he) ?_
        rw [hq]
        refine Big.succ ?_
        have e0 : rd (q :: t) 0 = q := rfl
        simp only [spec_OldestRound.l0, e0, if_pos (show (0 : Int) < ((q :: t).length : Int) by simp only [List.length_cons]; omega), if_pos (show (0 : Int) ≤ 0 by omega), if_pos hq0.1, if_pos hq0.2.1]
        rw [w64 (i := y - rd l q) (by omega) (by omega)]
        have e2 : wrap64 ((0 : Int) + 1) = ((1 : Nat) : Int) := by unfold wrap64; omega
        rw [e2]
        simp only [if_pos (show y - rd l q > 0 by omega)]
        exact sOld_l l y hf hy (q :: t) hj hlen t 1 q rfl (by simp only [List.length_cons]; omega) hq0
      · simp only [if_true]
        have h0 : (((q :: t).length : Int) == 0) = false := by simp only [List.length_cons, beq_eq_false_iff_ne]; omega
        rw [h0]
        refine Big.succ ?_
        have e0 : rd (q :: t) 0 = q := rfl
        simp only [impl_OldestRound.j0, Bool.false_eq_true, if_false, if_pos (show (0 : Int) < ((q :: t).length : Int) by simp only [List.length_cons]; omega), e0]
        refine Big.cast (iOld_l l y hf hy (q :: t) hj hlen (q :: t) 0 q rfl (Nat.zero_le _) hq0) ?_
        have e1 : oldR l (q :: t) q = oldR l t q := by
          conv => lhs; unfold oldR
          rw [if_neg (Int.lt_irrefl _)]
        rw [e1]
end Go.Proofs.Ytlkommjeflojjaa.Q
