/- Dates, days and ages: plain laws. Conditions: as typed. -/
import Derived.Test.YtobblofdkpljfaaGreatDoorQ1
import Derived.Test.YtobblofdkpljfaaGreatDoorR0
namespace Go.Proofs.YtobblofdkpljfaaGreatDoor.Q
open Go.RowKit Go Go.Proofs.YtobblofdkpljfaaGreatDoor.Eng Go.Proofs.YtobblofdkpljfaaGreatDoor Go.Proofs.YtobblofdkpljfaaGreatDoor.Y
set_option linter.unusedSimpArgs false
set_option linter.unusedVariables false

/-- Is it a date? -/
def dOk (d : Int × Int) : Bool := inR d.1 0 3000 && inR d.2 1 365
theorem dOk_iff {d : Int × Int} : dOk d = true ↔ (0 ≤ d.1 ∧ d.1 ≤ 3000) ∧ (1 ≤ d.2 ∧ d.2 ≤ 365) := by
  unfold dOk
  rw [Bool.and_eq_true, inR_iff, inR_iff]
/-- The number of a day. -/
def ix (d : Int × Int) : Int := d.1 * 365 + d.2 - 1
theorem ix_in {d : Int × Int} (h : dOk d = true) : 0 ≤ ix d ∧ ix d ≤ 1095364 := by
  have := dOk_iff.mp h
  unfold ix
  omega
/-- The day of a number. -/
def dat (n : Int) : Int × Int := (n / 365, n % 365 + 1)
theorem ix_dat (n : Int) : ix (dat n) = n := by
  unfold ix dat
  dsimp only
  omega
theorem dat_ok {n : Int} (h : 0 ≤ n ∧ n ≤ 1095364) : dOk (dat n) = true := by
  rw [dOk_iff]
  unfold dat
  dsimp only
  omega
theorem dat_ix {d : Int × Int} (h : dOk d = true) : dat (ix d) = d := by
  have := dOk_iff.mp h
  obtain ⟨a, b⟩ := d
  unfold dat ix
  dsimp only at this ⊢
  rw [Prod.mk.injEq]
  omega
theorem ix_inj {c d : Int × Int} (hc : dOk c = true) (hd : dOk d = true) (h : ix c = ix d) : c = d := by rw [← dat_ix hc, h, dat_ix hd]
/-- The day of a number, if there is one. -/
def dAt (n : Int) : (Int × Int) × Bool := if inR n 0 1095364 = true then (dat n, true) else ((0, 0), false)
theorem dAt_yes {n : Int} (h : 0 ≤ n ∧ n ≤ 1095364) : dAt n = (dat n, true) := by unfold dAt; rw [if_pos (inR_iff.mpr h)]
theorem dAt_ok {n : Int} (h : (dAt n).2 = true) : (0 ≤ n ∧ n ≤ 1095364) ∧ (dAt n).1 = dat n := by
  unfold dAt at h ⊢
  split at h
  · rename_i c
    rw [if_pos c]
    exact ⟨inR_iff.mp c, rfl⟩
  · cases h
/-- The age on a day. -/
def ag (d : Int × Int) (n : Int) : Int := (n - ix d) / 365
theorem ag_dat {d e : Int × Int} (hd : dOk d = true) (he : dOk e = true) : ag d (ix e) = e.1 - d.1 - (if e.2 < d.2 then 1 else 0) := by
  have h1 := dOk_iff.mp hd
  have h2 := dOk_iff.mp he
  unfold ag ix
  split <;> omega
theorem tdiv_nn {a : Int} (h : 0 ≤ a) (b : Int) : Int.tdiv a b = a / b := Int.tdiv_eq_ediv_of_nonneg h
theorem tmod_nn {a : Int} (h : 0 ≤ a) (b : Int) : Int.tmod a b = a % b := Int.tmod_eq_emod_of_nonneg h
/-- Are all dates? -/
def dsOk (l : List (Int × Int)) : Bool := l.all dOk
/-- Are there births? -/
def bOk (l : List (Int × Int)) : Bool := inR (l.length : Int) 1 8 && dsOk l
theorem bOk_iff {l : List (Int × Int)} : bOk l = true ↔ (1 ≤ l.length ∧ l.length ≤ 8) ∧ ∀ d ∈ l, dOk d = true := by
  unfold bOk dsOk
  rw [Bool.and_eq_true, inR_iff, List.all_eq_true]
  constructor
  · rintro ⟨h1, h2⟩; exact ⟨by omega, h2⟩
  · rintro ⟨h1, h2⟩; exact ⟨by omega, h2⟩
/-- The last birth. -/
def lastB : List (Int × Int) → Int → Int
  | [], m => m
  | d :: l, m => lastB l (if m < ix d then ix d else m)
theorem lastB_ge : ∀ (l : List (Int × Int)) (m : Int), m ≤ lastB l m ∧ ∀ d ∈ l, ix d ≤ lastB l m
  | [], m => ⟨Int.le_refl _, by simp⟩
  | d :: l, m => by
    have h := lastB_ge l (if m < ix d then ix d else m)
    unfold lastB
    have h0 : m ≤ (if m < ix d then ix d else m) ∧ ix d ≤ (if m < ix d then ix d else m) := by split <;> omega
    refine ⟨by omega, fun e he => ?_⟩
    rcases List.mem_cons.1 he with rfl | he
    · omega
    · exact h.2 e he
theorem lastB_le (M : Int) : ∀ (l : List (Int × Int)) (m : Int), m ≤ M → (∀ d ∈ l, ix d ≤ M) → lastB l m ≤ M
  | [], m, h, _ => h
  | d :: l, m, h, hl => by
    unfold lastB
    have := hl d List.mem_cons_self
    exact lastB_le M l _ (by split <;> omega) (fun e he => hl e (List.mem_cons_of_mem _ he))
/-- Are all born by a day? -/
theorem lastB_iff (l : List (Int × Int)) (n : Int) (hn : 0 ≤ n) : lastB l 0 ≤ n ↔ ∀ d ∈ l, ix d ≤ n := by
  constructor
  · intro h d hd
    have := (lastB_ge l 0).2 d hd
    omega
  · exact fun h => lastB_le n l 0 hn h
/-- The sum of the ages. -/
def sumG (n : Int) : List (Int × Int) → Int
  | [] => 0
  | d :: l => ag d n + sumG n l
theorem sumG_in (n : Int) (h0 : 0 ≤ n ∧ n ≤ 1095364) : ∀ l : List (Int × Int), (∀ d ∈ l, dOk d = true ∧ ix d ≤ n) → 0 ≤ sumG n l ∧ sumG n l ≤ 3001 * (l.length : Int)
  | [], _ => by simp [sumG]
  | d :: l, h => by
    have h1 := sumG_in n h0 l (fun e he => h e (List.mem_cons_of_mem _ he))
    have h2 := h d List.mem_cons_self
    have h3 := ix_in h2.1
    have h4 : 0 ≤ ag d n ∧ ag d n ≤ 3001 := by unfold ag; omega
    unfold sumG
    rw [List.length_cons]
    omega
/-- On how many of so many first days of a year two are as old as each other. -/
def alikeN (a b : Int × Int) : Nat → Int
  | 0 => 0
  | n + 1 => alikeN a b n + (if a.1 + (if (n : Int) + 1 < a.2 then 1 else 0) = b.1 + (if (n : Int) + 1 < b.2 then 1 else 0) then 1 else 0)
theorem alikeN_in (a b : Int × Int) : ∀ n : Nat, 0 ≤ alikeN a b n ∧ alikeN a b n ≤ (n : Int)
  | 0 => by simp [alikeN]
  | n + 1 => by
    have h := alikeN_in a b n
    unfold alikeN
    split <;> omega
theorem alikeN_swap (a b : Int × Int) : ∀ n : Nat, alikeN a b n = alikeN b a n
  | 0 => rfl
  | n + 1 => by
    unfold alikeN
    rw [alikeN_swap a b n]
    congr 1
    by_cases h : a.1 + (if (n : Int) + 1 < a.2 then 1 else 0) = b.1 + (if (n : Int) + 1 < b.2 then 1 else 0)
    · rw [if_pos h, if_pos h.symm]
    · rw [if_neg h, if_neg (fun e => h e.symm)]
theorem alikeN_same {a b : Int × Int} (h : a.1 = b.1) (h2 : a.2 ≤ b.2) (h3 : 1 ≤ a.2) : ∀ n : Nat, alikeN a b n = (if (n : Int) < a.2 then (n : Int) else a.2 - 1) + (if (n : Int) < b.2 then 0 else (n : Int) + 1 - b.2)
  | 0 => by
    unfold alikeN
    split <;> split <;> omega
  | n + 1 => by
    have ih := alikeN_same h h2 h3 n
    unfold alikeN
    rw [ih, h]
    by_cases h4 : (n : Int) + 1 < a.2
    · rw [if_pos h4, if_pos (show (n : Int) + 1 < b.2 by omega), if_pos rfl, if_pos (show (n : Int) < a.2 by omega), if_pos (show (n : Int) < b.2 by omega), if_pos (show ((n + 1 : Nat) : Int) < a.2 by omega), if_pos (show ((n + 1 : Nat) : Int) < b.2 by omega)]
      omega
    · rw [if_neg h4, if_neg (show ¬ ((n + 1 : Nat) : Int) < a.2 by omega)]
      by_cases h5 : (n : Int) + 1 < b.2
      · rw [if_pos h5, if_neg (show ¬ b.1 + 0 = b.1 + 1 by omega), if_pos (show (n : Int) < b.2 by omega), if_pos (show ((n + 1 : Nat) : Int) < b.2 by omega)]
        split <;> omega
      · rw [if_neg h5, if_pos rfl, if_neg (show ¬ ((n + 1 : Nat) : Int) < b.2 by omega)]
        split <;> split <;> omega
theorem alikeN_next {a b : Int × Int} (h : a.1 + 1 = b.1) (h3 : 1 ≤ a.2) (h4 : 1 ≤ b.2) : ∀ n : Nat, alikeN a b n = (if (n : Int) < b.2 then 0 else if (n : Int) < a.2 then (n : Int) + 1 - b.2 else if b.2 < a.2 then a.2 - b.2 else 0)
  | 0 => by
    unfold alikeN
    rw [if_pos (by omega)]
  | n + 1 => by
    have ih := alikeN_next h h3 h4 n
    unfold alikeN
    rw [ih]
    by_cases h5 : (n : Int) + 1 < b.2
    · rw [if_pos h5, if_pos (show ((n + 1 : Nat) : Int) < b.2 by omega), if_pos (show (n : Int) < b.2 by omega)]
      split <;> split <;> omega
    · rw [if_neg h5, if_neg (show ¬ ((n + 1 : Nat) : Int) < b.2 by omega)]
      by_cases h6 : (n : Int) + 1 < a.2
      · rw [if_pos h6, if_pos (show ((n + 1 : Nat) : Int) < a.2 by omega), if_pos (show a.1 + 1 = b.1 + 0 by omega), if_pos (show (n : Int) < a.2 by omega)]
        split <;> omega
      · rw [if_neg h6, if_neg (show ¬ ((n + 1 : Nat) : Int) < a.2 by omega), if_neg (show ¬ a.1 + 0 = b.1 + 0 by omega)]
        repeat' split
        all_goals omega
theorem alikeN_far {a b : Int × Int} (h : a.1 + 1 < b.1) : ∀ n : Nat, alikeN a b n = 0
  | 0 => rfl
  | n + 1 => by
    unfold alikeN
    rw [alikeN_far h n, if_neg (by split <;> split <;> omega)]
    rfl
/-- What the law asks of the days alike and of the gap, of an older one and a younger one. -/
theorem alike_gap {a b : Int × Int} (ha : dOk a = true) (hb : dOk b = true) (h : ix a ≤ ix b) : (ix b - ix a) / 365 ≥ 0 ∧ (ix b - ix a + 364) / 365 - (ix b - ix a) / 365 ≤ 1 ∧ (((ix b - ix a) / 365 = (ix b - ix a + 364) / 365) ↔ a.2 = b.2) ∧ (0 < alikeN a b 365 ↔ (ix b - ix a) / 365 = 0) ∧ (0 < alikeN a b 365 → (ix b - ix a) / 365 ≠ (ix b - ix a + 364) / 365 → alikeN a b 365 = (if a.2 - b.2 < 0 then b.2 - a.2 else a.2 - b.2) ∨ alikeN a b 365 = 365 - (if a.2 - b.2 < 0 then b.2 - a.2 else a.2 - b.2)) := by
  have h1 := dOk_iff.mp ha
  have h2 := dOk_iff.mp hb
  unfold ix at h ⊢
  have key : (a.1 = b.1 ∧ a.2 ≤ b.2 ∧ alikeN a b 365 = 365 - (b.2 - a.2)) ∨ (a.1 + 1 = b.1 ∧ alikeN a b 365 = (if b.2 < a.2 then a.2 - b.2 else 0)) ∨ (a.1 + 1 < b.1 ∧ alikeN a b 365 = 0) := by
    rcases Int.lt_trichotomy (a.1 + 1) b.1 with c | c | c
    · exact .inr (.inr ⟨c, alikeN_far c _⟩)
    · refine .inr (.inl ⟨c, ?_⟩)
      rw [alikeN_next c h1.2.1 h2.2.1]
      by_cases e : b.2 < a.2
      · repeat' split
        all_goals omega
      · repeat' split
        all_goals omega
    · have e1 : a.1 = b.1 := by omega
      have e2 : a.2 ≤ b.2 := by omega
      refine .inl ⟨e1, e2, ?_⟩
      rw [alikeN_same e1 e2 h1.2.1]
      repeat' split
      all_goals omega
  rcases key with ⟨c1, c2, c3⟩ | ⟨c1, c3⟩ | ⟨c1, c3⟩
  · rw [c3]
    refine ⟨by omega, by omega, by omega, by omega, fun _ _ => ?_⟩
    split <;> omega
  · rw [c3]
    split
    · refine ⟨by omega, by omega, by omega, by omega, fun _ _ => ?_⟩
      rw [if_neg (by omega)]
      omega
    · refine ⟨by omega, by omega, by omega, by omega, fun h0 _ => ?_⟩
      omega
  · rw [c3]
    exact ⟨by omega, by omega, by omega, by omega, fun h0 _ => by omega⟩
end Go.Proofs.YtobblofdkpljfaaGreatDoor.Q
namespace Go.Proofs.YtobblofdkpljfaaGreatDoor.Q
open Go.RowKit Go Go.Proofs.YtobblofdkpljfaaGreatDoor.Eng Go.Proofs.YtobblofdkpljfaaGreatDoor Go.Proofs.YtobblofdkpljfaaGreatDoor.Y
set_option linter.unusedSimpArgs false
set_option linter.unusedVariables false

/-- A number set behind all that are not later. -/
def insK (f : Int → Int) (w : Int) : List Int → List Int
  | [] => [w]
  | x :: L => if f x ≤ f w then x :: insK f w L else w :: x :: L
theorem insK_len (f : Int → Int) (w : Int) : ∀ L : List Int, (insK f w L).length = L.length + 1
  | [] => rfl
  | x :: L => by
    unfold insK
    split
    · rw [List.length_cons, insK_len f w L, List.length_cons]
    · simp
theorem insK_mem (f : Int → Int) (w y : Int) : ∀ L : List Int, y ∈ insK f w L → y = w ∨ y ∈ L
  | [] => by simp [insK]
  | x :: L => by
    intro h
    unfold insK at h
    split at h
    · rcases List.mem_cons.1 h with rfl | h
      · exact .inr List.mem_cons_self
      · rcases insK_mem f w y L h with h | h
        · exact .inl h
        · exact .inr (List.mem_cons_of_mem _ h)
    · exact List.mem_cons.1 h
/-- Earlier, or as early and ahead. -/
def Ahd (f : Int → Int) (x y : Int) : Prop := f x < f y ∨ (f x = f y ∧ x < y)
theorem insK_pair (f : Int → Int) (w : Int) : ∀ L : List Int, L.Pairwise (Ahd f) → (∀ x ∈ L, x < w) → (insK f w L).Pairwise (Ahd f)
  | [], _, _ => by simp [insK]
  | x :: L, hp, hw => by
    obtain ⟨h1, h2⟩ := List.pairwise_cons.1 hp
    unfold insK
    have hx := hw x List.mem_cons_self
    split
    · rename_i c
      refine List.pairwise_cons.2 ⟨fun y hy => ?_, insK_pair f w L h2 (fun z hz => hw z (List.mem_cons_of_mem _ hz))⟩
      rcases insK_mem f w y L hy with rfl | hy
      · unfold Ahd
        omega
      · exact h1 y hy
    · rename_i c
      refine List.pairwise_cons.2 ⟨fun y hy => ?_, hp⟩
      unfold Ahd
      rcases List.mem_cons.1 hy with rfl | hy
      · omega
      · have h3 := h1 y hy
        unfold Ahd at h3
        omega
theorem insK_split (f : Int → Int) (w : Int) : ∀ A B : List Int, (∀ x ∈ A, f x ≤ f w) → (∀ x ∈ B, f w < f x) → insK f w (A ++ B) = A ++ w :: B
  | [], [], _, _ => rfl
  | [], b :: B, _, h => by
    have := h b List.mem_cons_self
    show insK f w (b :: B) = w :: b :: B
    unfold insK
    rw [if_neg (by omega)]
  | a :: A, B, h1, h2 => by
    show insK f w (a :: (A ++ B)) = a :: (A ++ w :: B)
    unfold insK
    rw [if_pos (h1 a List.mem_cons_self), insK_split f w A B (fun x hx => h1 x (List.mem_cons_of_mem _ hx)) h2]
/-- The first numbers in their order. -/
def ord (f : Int → Int) : Nat → List Int
  | 0 => []
  | n + 1 => insK f (n : Int) (ord f n)
theorem ord_len (f : Int → Int) : ∀ n : Nat, (ord f n).length = n
  | 0 => rfl
  | n + 1 => by unfold ord; rw [insK_len, ord_len f n]
theorem ord_mem (f : Int → Int) : ∀ (n : Nat) (x : Int), x ∈ ord f n → 0 ≤ x ∧ x < (n : Int)
  | 0, _, h => by cases h
  | n + 1, x, h => by
    unfold ord at h
    rcases insK_mem f _ x _ h with rfl | h
    · omega
    · have := ord_mem f n x h
      omega
theorem ord_pair (f : Int → Int) : ∀ n : Nat, (ord f n).Pairwise (Ahd f)
  | 0 => List.Pairwise.nil
  | n + 1 => insK_pair f _ _ (ord_pair f n) (fun x hx => (ord_mem f n x hx).2)
/-- Whose birthday is on a day. -/
def whoF (day : Int) : List (Int × Int) → Int → List Int
  | [], _ => []
  | b :: l, i => (if b.2 = day then [i] else []) ++ whoF day l (i + 1)
theorem whoF_len (day : Int) : ∀ (l : List (Int × Int)) (i : Int), (whoF day l i).length ≤ l.length
  | [], _ => by simp [whoF]
  | b :: l, i => by
    have := whoF_len day l (i + 1)
    unfold whoF
    rw [List.length_append, List.length_cons]
    split <;> simp <;> omega
theorem whoF_mem (day : Int) : ∀ (l : List (Int × Int)) (i x : Int), x ∈ whoF day l i → (i ≤ x ∧ x < i + (l.length : Int)) ∧ (l.getD (x - i).toNat (0, 0)).2 = day
  | [], _, _, h => by cases h
  | b :: l, i, x, h => by
    unfold whoF at h
    rw [List.length_cons]
    rcases List.mem_append.1 h with h | h
    · split at h
      · rename_i c
        rw [List.mem_singleton] at h
        subst h
        refine ⟨by omega, ?_⟩
        rw [show (x - x).toNat = 0 by omega]
        exact c
      · cases h
    · obtain ⟨h1, h2⟩ := whoF_mem day l (i + 1) x h
      refine ⟨by omega, ?_⟩
      rw [show (x - i).toNat = (x - (i + 1)).toNat + 1 by omega]
      exact h2
theorem whoF_rise (day : Int) : ∀ (l : List (Int × Int)) (i : Int), (whoF day l i).Pairwise (· < ·)
  | [], _ => List.Pairwise.nil
  | b :: l, i => by
    unfold whoF
    split
    · refine List.pairwise_cons.2 ⟨fun y hy => ?_, whoF_rise day l (i + 1)⟩
      have := (whoF_mem day l (i + 1) y hy).1
      omega
    · exact whoF_rise day l (i + 1)
/-- The rows of birthdays. -/
def bRows (l : List (Int × Int)) : Nat → Int → List (List Int)
  | 0, _ => []
  | n + 1, day => (if whoF day l 0 = [] then [] else [day :: whoF day l 0]) ++ bRows l n (day + 1)
theorem bRows_len (l : List (Int × Int)) : ∀ (n : Nat) (day : Int), (bRows l n day).length ≤ n
  | 0, _ => by simp [bRows]
  | n + 1, day => by
    have := bRows_len l n (day + 1)
    unfold bRows
    rw [List.length_append]
    split <;> simp <;> omega
/-- A row of birthdays. -/
def RowB (l : List (Int × Int)) (r : List Int) : Prop := ∃ d : Int, r = d :: whoF d l 0 ∧ whoF d l 0 ≠ [] ∧ 1 ≤ d
theorem bRows_mem (l : List (Int × Int)) : ∀ (n : Nat) (day : Int), 1 ≤ day → ∀ r ∈ bRows l n day, RowB l r ∧ ∃ w, r = (w :: whoF w l 0) ∧ day ≤ w
  | 0, _, _, r, h => by cases h
  | n + 1, day, h0, r, h => by
    unfold bRows at h
    rcases List.mem_append.1 h with h | h
    · split at h
      · cases h
      · rename_i c
        rw [List.mem_singleton] at h
        exact ⟨⟨day, h, c, h0⟩, day, h, Int.le_refl _⟩
    · obtain ⟨h1, w, h2, h3⟩ := bRows_mem l n (day + 1) (by omega) r h
      exact ⟨h1, w, h2, by omega⟩
theorem bRows_rise (l : List (Int × Int)) : ∀ (n : Nat) (day : Int), 1 ≤ day → (bRows l n day).Pairwise (fun r s => r.headD 0 < s.headD 0)
  | 0, _, _ => List.Pairwise.nil
  | n + 1, day, h0 => by
    unfold bRows
    split
    · exact bRows_rise l n (day + 1) (by omega)
    · refine List.pairwise_cons.2 ⟨fun s hs => ?_, bRows_rise l n (day + 1) (by omega)⟩
      obtain ⟨_, w, h2, h3⟩ := bRows_mem l n (day + 1) (by omega) s hs
      rw [h2]
      show day < w
      omega
/-- How many people stand in rows. -/
def cntR : List (List Int) → Int
  | [] => 0
  | r :: t => (r.length : Int) - 1 + cntR t
theorem cntR_app : ∀ a b : List (List Int), cntR (a ++ b) = cntR a + cntR b
  | [], b => by simp [cntR]
  | r :: a, b => by
    rw [List.cons_append, cntR, cntR, cntR_app a b]
    omega
/-- How many have their birthday in some days. -/
def inD (n : Nat) (day : Int) : List (Int × Int) → Int
  | [] => 0
  | b :: l => (if day ≤ b.2 ∧ b.2 < day + (n : Int) then 1 else 0) + inD n day l
theorem inD_step (n : Nat) (day : Int) : ∀ (l : List (Int × Int)) (i : Int), inD (n + 1) day l = ((whoF day l i).length : Int) + inD n (day + 1) l
  | [], _ => by simp [inD, whoF]
  | b :: l, i => by
    have ih := inD_step n day l (i + 1)
    unfold inD whoF
    rw [ih, List.length_append]
    by_cases h1 : b.2 = day
    · rw [if_pos h1, if_pos (by omega), if_neg (by omega), List.length_singleton]
      omega
    · rw [if_neg h1, List.length_nil]
      by_cases h2 : day + 1 ≤ b.2 ∧ b.2 < day + 1 + (n : Int)
      · rw [if_pos h2, if_pos (by omega)]
        omega
      · rw [if_neg h2, if_neg (by omega)]
        omega
theorem inD_none (day : Int) : ∀ l : List (Int × Int), inD 0 day l = 0
  | [] => rfl
  | b :: l => by
    unfold inD
    rw [inD_none day l, if_neg (by omega)]
    rfl
theorem inD_all (n : Nat) (day : Int) : ∀ l : List (Int × Int), (∀ b ∈ l, day ≤ b.2 ∧ b.2 < day + (n : Int)) → inD n day l = (l.length : Int)
  | [], _ => rfl
  | b :: l, h => by
    unfold inD
    rw [inD_all n day l (fun b hb => h b (List.mem_cons_of_mem _ hb)), if_pos (h b List.mem_cons_self), List.length_cons]
    omega
theorem bRows_cnt (l : List (Int × Int)) : ∀ (n : Nat) (day : Int), cntR (bRows l n day) = inD n day l
  | 0, day => by rw [inD_none]; rfl
  | n + 1, day => by
    unfold bRows
    rw [cntR_app, bRows_cnt l n (day + 1), inD_step n day l 0]
    split
    · rename_i c
      rw [c]
      rfl
    · simp [cntR]
end Go.Proofs.YtobblofdkpljfaaGreatDoor.Q
namespace Go.Proofs.YtobblofdkpljfaaGreatDoor.Q
open Go.RowKit Go Go.Proofs.YtobblofdkpljfaaGreatDoor.Eng Go.Proofs.YtobblofdkpljfaaGreatDoor Go.Proofs.YtobblofdkpljfaaGreatDoor.Y
set_option linter.unusedSimpArgs false
set_option linter.unusedVariables false

theorem v_IsDate (d : Int × Int) : impl_IsDate.f d = some (dOk d) := by
  unfold impl_IsDate.f dOk
  rw [v_between, Option.bind_some, v_between, Option.bind_some]
  cases inR d.1 0 3000 <;> rfl
theorem v_biDate (d : Int × Int) : spec_biDate.f d = some (dOk d) := by
  unfold spec_biDate.f dOk
  rw [v_l1In, Option.bind_some, v_l1In, Option.bind_some]
  cases inR d.1 0 3000 <;> rfl
theorem v_index {d : Int × Int} (h : dOk d = true) : impl_Date_index.f d = some (ix d) := by
  have := dOk_iff.mp h
  unfold impl_Date_index.f ix
  rw [w64 (i := d.1 * 365) (by omega) (by omega), w64 (i := d.1 * 365 + d.2) (by omega) (by omega), w64 (by omega) (by omega)]
theorem v_biDays {d : Int × Int} (h : dOk d = true) : spec_biDays.f d = some (ix d) := by
  have := dOk_iff.mp h
  unfold spec_biDays.f ix
  rw [w64 (i := d.1 * 365) (by omega) (by omega), w64 (i := d.1 * 365 + d.2) (by omega) (by omega), w64 (by omega) (by omega)]
theorem v_age {d : Int × Int} {n : Int} (h : dOk d = true) (h1 : ix d ≤ n) (h2 : n ≤ 2000000) : impl_Date_age.f d n = some (ag d n) := by
  have hi := ix_in h
  unfold impl_Date_age.f ag
  rw [v_index (d := (d.1, d.2)) h, Option.bind_some, show ix (d.1, d.2) = ix d from rfl, w64 (i := n - ix d) (by omega) (by omega), tdiv_nn (by omega), w64 (by omega) (by omega)]
theorem v_biAge {d e : Int × Int} (h : dOk d = true) (h1 : dOk e = true) : spec_biAge.f d e = some (ag d (ix e)) := by
  have hd := dOk_iff.mp h
  have he := dOk_iff.mp h1
  rw [ag_dat h h1]
  unfold spec_biAge.f
  rw [w64 (i := e.1 - d.1) (by omega) (by omega), w64 (i := e.1 - d.1 - 1) (by omega) (by omega)]
  split
  · rfl
  · rw [Int.sub_zero]
theorem v_dateAt (n : Int) : impl_dateAt.f n = some (dAt n) := by
  unfold impl_dateAt.f dAt dat
  rw [v_between, Option.bind_some]
  cases h : inR n 0 1095364
  · rfl
  · have := inR_iff.mp h
    rw [if_pos rfl, if_pos rfl, tdiv_nn this.1, tmod_nn this.1, w64 (by omega) (by omega), w64 (by omega) (by omega)]
theorem v_biBack (n : Int) : spec_biBack.f n = some (dAt n) := by
  unfold spec_biBack.f dAt dat
  rw [v_l1In, Option.bind_some]
  cases h : inR n 0 1095364
  · rfl
  · have := inR_iff.mp h
    rw [if_pos rfl, if_pos rfl, tdiv_nn this.1, tmod_nn this.1, w64 (by omega) (by omega), w64 (by omega) (by omega)]
theorem rdx_cons_drop {α : Type} [Inhabited α] {l t : List α} {a : α} {i : Nat} (h : l.drop i = a :: t) : rde l (i : Int) = a ∧ i < l.length ∧ l.drop (i + 1) = t := by
  have hi : i < l.length := by
    rcases Nat.lt_or_ge i l.length with h1 | h1
    · exact h1
    · rw [List.drop_eq_nil_of_le h1] at h
      cases h
  rw [List.drop_eq_getElem_cons hi] at h
  injection h with h1 h2
  exact ⟨by unfold rde; rw [Int.toNat_natCast, List.getD_eq_getElem?_getD, List.getElem?_eq_getElem hi]; exact h1, hi, h2⟩
theorem dropx_nil {α : Type} {l : List α} {i : Nat} (h : l.drop i = []) : l.length ≤ i := by
  rw [List.drop_eq_nil_iff] at h
  exact h
theorem all_drop {l t : List (Int × Int)} {i : Nat} (h : l.drop i = t) (hl : ∀ d ∈ l, dOk d = true) : ∀ d ∈ t, dOk d = true := fun d hd => hl d (List.mem_of_mem_drop (h ▸ hd))
theorem IndexF_l (l : List (Int × Int)) (hl : l.length ≤ 2000000) (t : List (Int × Int)) : ∀ i : Nat, l.drop i = t → i ≤ l.length → ∃ r : Int, decide (r ≥ 0) = !(dsOk t) ∧ Big (fun k => slices_IndexFunc.l0 k l (l.length : Int) (i : Int)) r := by
  induction t with
  | nil =>
    intro i hd hi
    have := dropx_nil hd
    refine ⟨-1, rfl, Big.succ ?_⟩
    unfold slices_IndexFunc.l0
    exact Big.neg (by omega) (Big.some_ _)
  | cons d t ih =>
    intro i hd hi
    obtain ⟨h1, h2, h3⟩ := rdx_cons_drop hd
    cases hb : dOk d
    · refine ⟨(i : Int), ?_, Big.succ ?_⟩
      · unfold dsOk
        rw [List.all_cons, hb, decide_eq_true (by omega)]
        rfl
      unfold slices_IndexFunc.l0 impl_AreBirthDates_1.f
      rw [h1, v_IsDate, show dOk (d.1, d.2) = false from hb, Option.bind_some, Option.bind_some]
      exact Big.pos (by omega) (Big.pos (by omega) (Big.pos (by omega) (Big.bind (Big.some_ _) (Big.pos rfl (Big.some_ _)))))
    · obtain ⟨r, i1, i2⟩ := ih (i + 1) h3 (by omega)
      refine ⟨r, ?_, Big.succ ?_⟩
      · unfold dsOk at i1 ⊢
        rw [List.all_cons, hb, Bool.true_and]
        exact i1
      unfold slices_IndexFunc.l0 impl_AreBirthDates_1.f
      rw [h1, v_IsDate, show dOk (d.1, d.2) = true from hb, Option.bind_some, Option.bind_some, w64n (by omega)]
      exact Big.pos (by omega) (Big.pos (by omega) (Big.pos (by omega) (Big.bind (Big.some_ _) (Big.neg (by decide) i2))))
theorem births_at (l : List (Int × Int)) (hl : l.length ≤ 2000000) : Big (fun k => impl_AreBirthDates.f k l) (bOk l) := by
  unfold impl_AreBirthDates.f slices_ContainsFunc.f slices_IndexFunc.f bOk
  rw [v_between]
  refine Big.bind (Big.some_ _) ?_
  cases h : inR (l.length : Int) 1 8
  · exact Big.neg (by decide) (Big.some_ _)
  · obtain ⟨r, h1, h2⟩ := IndexF_l l hl l 0 rfl (Nat.zero_le _)
    refine Big.pos rfl (Big.bind (Big.bind h2 (Big.some_ _)) ?_)
    rw [h1, Bool.not_not]
    exact Big.some_ _
theorem biGood_l (l : List (Int × Int)) (hl : l.length ≤ 2000000) (t : List (Int × Int)) : ∀ i : Nat, l.drop i = t → i ≤ l.length → Big (fun k => spec_biGood.l0 k l (l.length : Int) (i : Int)) (dsOk t) := by
  induction t with
  | nil =>
    intro i hd hi
    have := dropx_nil hd
    refine Big.succ ?_
    unfold spec_biGood.l0
    exact Big.neg (by omega) (Big.some_ _)
  | cons d t ih =>
    intro i hd hi
    obtain ⟨h1, h2, h3⟩ := rdx_cons_drop hd
    refine Big.succ ?_
    unfold spec_biGood.l0
    rw [h1, v_biDate, show dOk (d.1, d.2) = dOk d from rfl, w64n (by omega)]
    refine Big.pos (by omega) (Big.pos (by omega) (Big.pos (by omega) (Big.bind (Big.some_ _) ?_)))
    unfold dsOk
    rw [List.all_cons]
    cases hb : dOk d
    · exact Big.neg (by decide) (Big.some_ _)
    · exact Big.pos rfl (ih (i + 1) h3 (by omega))
theorem good_at (l : List (Int × Int)) (hl : l.length ≤ 2000000) : Big (fun k => spec_biGood.f k l) (bOk l) := by
  unfold spec_biGood.f bOk
  rw [v_l1In]
  refine Big.bind (Big.some_ _) ?_
  cases h : inR (l.length : Int) 1 8
  · exact Big.neg (by decide) (Big.some_ _)
  · exact Big.pos rfl (biGood_l l hl l 0 rfl (Nat.zero_le _))
theorem sgood_at (l : List (Int × Int)) (hl : l.length ≤ 2000000) : Big (fun k => spec_AreBirthDates.f k l) (bOk l) := by
  unfold spec_AreBirthDates.f
  exact Big.bind (good_at l hl) (Big.some_ _)
theorem lastB_l (l : List (Int × Int)) (hl : l.length ≤ 2000000) (t : List (Int × Int)) : ∀ (i : Nat) (m : Int), l.drop i = t → i ≤ l.length → (∀ d ∈ t, dOk d = true) → Big (fun k => impl_lastBirth.l0 k m l (l.length : Int) (i : Int)) (lastB t m) := by
  induction t with
  | nil =>
    intro i m hd hi _
    have := dropx_nil hd
    refine Big.succ ?_
    unfold impl_lastBirth.l0
    exact Big.neg (by omega) (Big.some_ _)
  | cons d t ih =>
    intro i m hd hi ha
    obtain ⟨h1, h2, h3⟩ := rdx_cons_drop hd
    refine Big.succ ?_
    unfold impl_lastBirth.l0
    rw [h1, v_index (d := (d.1, d.2)) (ha d List.mem_cons_self), w64n (by omega)]
    exact Big.pos (by omega) (Big.pos (by omega) (Big.pos (by omega) (Big.bind (Big.some_ _) (ih (i + 1) _ h3 (by omega) (fun e he => ha e (List.mem_cons_of_mem _ he))))))
theorem last_at (l : List (Int × Int)) (hl : l.length ≤ 2000000) (ha : ∀ d ∈ l, dOk d = true) : Big (fun k => impl_lastBirth.f k l) (lastB l 0) := lastB_l l hl l 0 0 rfl (Nat.zero_le _) ha
theorem agesOn_l (l : List (Int × Int)) (n : Int) (hn : n ≤ 2000000) (hl : l.length ≤ 2000000) (t : List (Int × Int)) : ∀ (i : Nat) (o : List Int), l.drop i = t → i ≤ l.length → o.length = i → (∀ d ∈ t, dOk d = true ∧ ix d ≤ n) → Big (fun k => impl_agesOn.l0 k n o l (l.length : Int) (i : Int)) (o ++ t.map fun d => ag d n) := by
  induction t with
  | nil =>
    intro i o hd hi _ _
    have := dropx_nil hd
    refine Big.succ ?_
    unfold impl_agesOn.l0
    rw [List.map_nil, List.append_nil]
    exact Big.neg (by omega) (Big.some_ _)
  | cons d t ih =>
    intro i o hd hi ho ha
    obtain ⟨h1, h2, h3⟩ := rdx_cons_drop hd
    have hh := ha d List.mem_cons_self
    refine Big.succ ?_
    unfold impl_agesOn.l0
    rw [h1, v_age (d := (d.1, d.2)) hh.1 hh.2 hn, w64n (by omega)]
    refine Big.pos (by omega) (Big.pos (by omega) (Big.pos (by omega) (Big.bind (Big.some_ _) (Big.pos (by omega) ?_))))
    have := ih (i + 1) (o ++ [ag d n]) h3 (by omega) (by rw [List.length_append, List.length_singleton, ho]) (fun e he => ha e (List.mem_cons_of_mem _ he))
    rw [List.append_assoc] at this
    exact this
theorem agesOn_at (l : List (Int × Int)) (n : Int) (hn : n ≤ 2000000) (hl : l.length ≤ 2000000) (ha : ∀ d ∈ l, dOk d = true ∧ ix d ≤ n) : Big (fun k => impl_agesOn.f k l n) (l.map fun d => ag d n) := agesOn_l l n hn hl l 0 [] rfl (Nat.zero_le _) rfl ha
theorem total_l (l : List Int) (hl : l.length ≤ 1000) (t : List Int) : ∀ (i : Nat) (m : Int), l.drop i = t → i ≤ l.length → (∀ x ∈ t, 0 ≤ x ∧ x ≤ 3001) → 0 ≤ m ∧ m ≤ 3001 * (i : Int) → Big (fun k => impl_total.l0 k m l (l.length : Int) (i : Int)) (m + t.sum) := by
  induction t with
  | nil =>
    intro i m hd hi _ _
    have := dropx_nil hd
    refine Big.succ ?_
    unfold impl_total.l0
    rw [List.sum_nil, Int.add_zero]
    exact Big.neg (by omega) (Big.some_ _)
  | cons d t ih =>
    intro i m hd hi ha hm
    obtain ⟨h1, h2, h3⟩ := rdx_cons_drop hd
    have hh := ha d List.mem_cons_self
    refine Big.succ ?_
    unfold impl_total.l0
    rw [h1, w64 (i := m + d) (by omega) (by omega), w64n (by omega), List.sum_cons, ← Int.add_assoc]
    exact Big.pos (by omega) (Big.pos (by omega) (Big.pos (by omega) (ih (i + 1) (m + d) h3 (by omega) (fun e he => ha e (List.mem_cons_of_mem _ he)) (by omega))))
theorem sumG_sum (n : Int) : ∀ l : List (Int × Int), (l.map fun d => ag d n).sum = sumG n l
  | [] => rfl
  | d :: l => by
    rw [List.map_cons, List.sum_cons, sumG_sum n l]
    rfl
theorem ag_in {d : Int × Int} {n : Int} (h : dOk d = true) (h1 : ix d ≤ n) (h2 : n ≤ 1095364) : 0 ≤ ag d n ∧ ag d n ≤ 3001 := by
  have := ix_in h
  unfold ag
  omega
theorem total_at (l : List (Int × Int)) (n : Int) (hn : n ≤ 1095364) (hl : l.length ≤ 1000) (ha : ∀ d ∈ l, dOk d = true ∧ ix d ≤ n) : Big (fun k => impl_total.f k (l.map fun d => ag d n)) (sumG n l) := by
  have h := total_l (l.map fun d => ag d n) (by rw [List.length_map]; exact hl) _ 0 0 rfl (Nat.zero_le _) (fun x hx => by
    obtain ⟨d, hd, rfl⟩ := List.mem_map.1 hx
    exact ag_in (ha d hd).1 (ha d hd).2 hn) (by omega)
  rw [Int.zero_add, List.drop_zero, sumG_sum] at h
  exact h
theorem biSum_l (l : List (Int × Int)) (on : Int × Int) (ho : dOk on = true) (hl : l.length ≤ 1000) (t : List (Int × Int)) : ∀ (i : Nat) (m : Int), l.drop i = t → i ≤ l.length → (∀ d ∈ t, dOk d = true ∧ ix d ≤ ix on) → 0 ≤ m ∧ m ≤ 3001 * (i : Int) → Big (fun k => spec_biSum.l0 k m l (l.length : Int) (i : Int) on.1 on.2) (m + sumG (ix on) t) := by
  induction t with
  | nil =>
    intro i m hd hi _ _
    have := dropx_nil hd
    refine Big.succ ?_
    unfold spec_biSum.l0 sumG
    rw [Int.add_zero]
    exact Big.neg (by omega) (Big.some_ _)
  | cons d t ih =>
    intro i m hd hi ha hm
    obtain ⟨h1, h2, h3⟩ := rdx_cons_drop hd
    have hh := ha d List.mem_cons_self
    have hg := ag_in hh.1 hh.2 (ix_in ho).2
    refine Big.succ ?_
    unfold spec_biSum.l0 sumG
    rw [h1, v_biAge (d := (d.1, d.2)) (e := (on.1, on.2)) hh.1 ho, show ag (d.1, d.2) (ix (on.1, on.2)) = ag d (ix on) from rfl, w64n (by omega), ← Int.add_assoc]
    refine Big.pos (by omega) (Big.pos (by omega) (Big.pos (by omega) (Big.bind (Big.some_ _) ?_)))
    rw [w64 (i := m + ag d (ix on)) (by omega) (by omega)]
    exact ih (i + 1) _ h3 (by omega) (fun e he => ha e (List.mem_cons_of_mem _ he)) (by omega)
theorem biSum_at (l : List (Int × Int)) (on : Int × Int) (ho : dOk on = true) (hl : l.length ≤ 1000) (ha : ∀ d ∈ l, dOk d = true ∧ ix d ≤ ix on) : Big (fun k => spec_biSum.f k l on) (sumG (ix on) l) := by
  have h := biSum_l l on ho hl l 0 0 rfl (Nat.zero_le _) ha (by omega)
  rw [Int.zero_add] at h
  exact h
/-- Are births and a date such, and all born by it? -/
def onOk (l : List (Int × Int)) (on : Int × Int) : Bool := bOk l && dOk on && decide (lastB l 0 ≤ ix on)
theorem onOk_iff {l : List (Int × Int)} {on : Int × Int} : onOk l on = true ↔ bOk l = true ∧ dOk on = true ∧ ∀ d ∈ l, ix d ≤ ix on := by
  unfold onOk
  rw [Bool.and_eq_true, Bool.and_eq_true, decide_eq_true_iff]
  constructor
  · rintro ⟨⟨h1, h2⟩, h3⟩
    exact ⟨h1, h2, (lastB_iff l _ (ix_in h2).1).mp h3⟩
  · rintro ⟨h1, h2, h3⟩
    exact ⟨⟨h1, h2⟩, (lastB_iff l _ (ix_in h2).1).mpr h3⟩
theorem bornOn_at (l : List (Int × Int)) (on : Int × Int) (hl : l.length ≤ 2000000) : Big (fun k => impl_areBornOn.f k l on) (onOk l on) := by
  unfold impl_areBornOn.f onOk
  refine Big.bind (births_at l hl) ?_
  cases h : bOk l
  · exact Big.neg (by decide) (Big.some_ _)
  · refine Big.pos rfl ?_
    rw [v_IsDate, show dOk (on.1, on.2) = dOk on from rfl]
    refine Big.bind (Big.some_ _) ?_
    cases h2 : dOk on
    · exact Big.neg (by decide) (Big.some_ _)
    · refine Big.pos rfl (Big.bind (last_at l hl (bOk_iff.mp h).2) ?_)
      rw [v_index (d := (on.1, on.2)) h2]
      exact Big.bind (Big.some_ _) (Big.some_ _)
theorem sumOn_at (l : List (Int × Int)) (on : Int × Int) (hl : l.length ≤ 2000000) : Big (fun k => impl_SumOfAgesOn.f k l on) (if onOk l on = true then (sumG (ix on) l, true) else (0, false)) := by
  unfold impl_SumOfAgesOn.f impl_AgesOn.f
  cases h : onOk l on
  · rw [if_neg (by decide)]
    have h1 := bornOn_at l on hl
    rw [h] at h1
    refine Big.bind (Big.bind h1 (Big.neg (by decide) (Big.some_ _))) (Big.bind (a := 0) ?_ (Big.some_ _))
    unfold impl_total.f
    refine Big.succ ?_
    unfold impl_total.l0
    exact Big.neg (by simp) (Big.some_ _)
  · rw [if_pos rfl]
    have h1 := bornOn_at l on hl
    rw [h] at h1
    obtain ⟨hb, ho, ha⟩ := onOk_iff.mp h
    obtain ⟨hb1, hb2⟩ := bOk_iff.mp hb
    have hi := ix_in ho
    refine Big.bind (a := (l.map fun d => ag d (ix on), true)) (Big.bind h1 (Big.pos rfl ?_)) (Big.bind (total_at l (ix on) hi.2 (by omega) (fun d hd => ⟨hb2 d hd, ha d hd⟩)) (Big.some_ _))
    rw [v_index (d := (on.1, on.2)) ho]
    exact Big.bind (Big.some_ _) (Big.bind (agesOn_at l (ix on) (by omega) (by omega) (fun d hd => ⟨hb2 d hd, ha d hd⟩)) (Big.some_ _))
theorem onOk_one (b on : Int × Int) : onOk [b] on = (dOk b && dOk on && decide (ix b ≤ ix on)) := by
  rw [Bool.eq_iff_iff, onOk_iff, Bool.and_eq_true, Bool.and_eq_true, decide_eq_true_iff, bOk_iff]
  constructor
  · rintro ⟨⟨_, h1⟩, h2, h3⟩
    exact ⟨⟨h1 b (by simp), h2⟩, h3 b (by simp)⟩
  · rintro ⟨⟨h1, h2⟩, h3⟩
    refine ⟨⟨by simp, fun d hd => ?_⟩, h2, fun d hd => ?_⟩
    · rw [List.mem_singleton] at hd
      rw [hd]
      exact h1
    · rw [List.mem_singleton] at hd
      rw [hd]
      exact h3
theorem daysOld_at (b on : Int × Int) : Big (fun k => impl_DaysOld.f k b on) (if (dOk b && dOk on && decide (ix b ≤ ix on)) = true then (ix on - ix b, true) else (0, false)) := by
  unfold impl_DaysOld.f
  have h := bornOn_at [(b.1, b.2)] (on.1, on.2) (by simp)
  rw [onOk_one] at h
  cases hc : (dOk b && dOk on && decide (ix b ≤ ix on))
  · rw [show (dOk (b.1, b.2) && dOk (on.1, on.2) && decide (ix (b.1, b.2) ≤ ix (on.1, on.2))) = false from hc] at h
    exact Big.bind h (Big.neg (by decide) (Big.some_ _))
  · rw [show (dOk (b.1, b.2) && dOk (on.1, on.2) && decide (ix (b.1, b.2) ≤ ix (on.1, on.2))) = true from hc] at h
    rw [Bool.and_eq_true, Bool.and_eq_true] at hc
    have h1 := ix_in hc.1.1
    have h2 := ix_in hc.1.2
    refine Big.bind h (Big.pos rfl ?_)
    rw [v_index (d := (on.1, on.2)) hc.1.2, v_index (d := (b.1, b.2)) hc.1.1]
    refine Big.bind (Big.some_ _) (Big.bind (Big.some_ _) ?_)
    rw [show ix (on.1, on.2) = ix on from rfl, show ix (b.1, b.2) = ix b from rfl, w64 (by omega) (by omega)]
    exact Big.some_ _
theorem biBorn_at (b on : Int × Int) : spec_biBorn.f b on = some (dOk b && dOk on && decide (ix b ≤ ix on)) := by
  unfold spec_biBorn.f
  rw [v_biDate, Option.bind_some, show dOk (b.1, b.2) = dOk b from rfl]
  cases h1 : dOk b
  · rfl
  · rw [if_pos rfl, v_biDate, Option.bind_some, show dOk (on.1, on.2) = dOk on from rfl]
    cases h2 : dOk on
    · rfl
    · rw [if_pos rfl, v_biDays (d := (on.1, on.2)) h2, v_biDays (d := (b.1, b.2)) h1]
      rfl
theorem daysApart_at {a b : Int × Int} (ha : dOk a = true) (hb : dOk b = true) : Big (fun k => impl_DaysApart.f k a b) (mx2 (ix a - ix b) (0 - (ix a - ix b)), true) := by
  have h1 := ix_in ha
  have h2 := ix_in hb
  unfold impl_DaysApart.f
  rw [v_IsDate, v_IsDate, show dOk (a.1, a.2) = true from ha, show dOk (b.1, b.2) = true from hb]
  refine Big.bind (Big.some_ _) (Big.pos rfl (Big.bind (Big.some_ _) (Big.succ ?_)))
  unfold impl_DaysApart.j0
  dsimp only
  rw [v_index (d := (a.1, a.2)) ha, v_index (d := (b.1, b.2)) hb]
  refine Big.neg (by decide) (Big.bind (Big.some_ _) (Big.bind (Big.some_ _) ?_))
  rw [show ix (a.1, a.2) = ix a from rfl, show ix (b.1, b.2) = ix b from rfl, w64 (i := ix a - ix b) (by omega) (by omega), w64 (i := 0 - (ix a - ix b)) (by omega) (by omega)]
  exact Big.some_ _
theorem addDays_at {d : Int × Int} (hd : dOk d = true) (n : Int) (hn : -2000000 ≤ n ∧ n ≤ 2000000) : Big (fun k => impl_AddDays.f k d n) (dAt (ix d + n)) := by
  have h1 := ix_in hd
  unfold impl_AddDays.f
  rw [v_IsDate, v_between, show dOk (d.1, d.2) = true from hd, inR_iff.mpr hn]
  refine Big.bind (Big.some_ _) (Big.pos rfl (Big.bind (Big.some_ _) (Big.succ ?_)))
  unfold impl_AddDays.j0
  dsimp only
  rw [v_index (d := (d.1, d.2)) hd]
  refine Big.neg (by decide) (Big.bind (Big.some_ _) ?_)
  rw [show ix (d.1, d.2) = ix d from rfl, w64 (by omega) (by omega), v_dateAt]
  exact Big.bind (Big.some_ _) (Big.some_ _)
end Go.Proofs.YtobblofdkpljfaaGreatDoor.Q
namespace Go.Proofs.YtobblofdkpljfaaGreatDoor.Q
open Go.RowKit Go Go.Proofs.YtobblofdkpljfaaGreatDoor.Eng Go.Proofs.YtobblofdkpljfaaGreatDoor Go.Proofs.YtobblofdkpljfaaGreatDoor.Y
set_option linter.unusedSimpArgs false
set_option linter.unusedVariables false

/-- Are all bytes digits? -/
def digs (w : List UInt8) : Bool := w.all fun b => decide (48 ≤ b.toNat) && decide (b.toNat ≤ 57)
theorem digs_iff {w : List UInt8} : digs w = true ↔ ∀ b ∈ w, 48 ≤ b.toNat ∧ b.toNat ≤ 57 := by simp [digs]
/-- Digits of a number, with nothing ahead that need not be there. -/
def can (w : List UInt8) : Prop := (1 ≤ w.length ∧ w.length ≤ 6) ∧ (w.headD 0 ≠ 48 ∨ w.length = 1) ∧ digs w = true
theorem dv_app (u : List UInt8) (b : UInt8) : dv 0 (u ++ [b]) = dv 0 u * 10 + (b.toNat - 48) := by
  unfold dv
  rw [List.foldl_append]
  rfl
theorem dd_dv (n : Nat) : ∀ w : List UInt8, w.length = n → 1 ≤ n → (w.headD 0 ≠ 48 ∨ n = 1) → (∀ b ∈ w, 48 ≤ b.toNat ∧ b.toNat ≤ 57) → Go.Lib.decDigits (dv 0 w) = w ∧ (w.headD 0 ≠ 48 → 1 ≤ dv 0 w) := by
  induction n with
  | zero => intro w _ h; omega
  | succ n ih =>
    intro w hw _ hh hd
    have hne : w ≠ [] := by rintro rfl; cases hw
    obtain ⟨u, b, rfl⟩ : ∃ u b, w = u ++ [b] := ⟨w.dropLast, w.getLast hne, (List.dropLast_concat_getLast hne).symm⟩
    have hb := hd b (by simp)
    rw [List.length_append, List.length_singleton] at hw
    have hof : UInt8.ofNat (48 + (b.toNat - 48)) = b := by
      rw [show 48 + (b.toNat - 48) = b.toNat by omega]
      exact UInt8.ofNat_toNat
    rw [dv_app]
    rcases Nat.eq_zero_or_pos n with h0 | h0
    · subst h0
      have hu : u = [] := List.length_eq_zero_iff.mp (by omega)
      subst hu
      have e : dv 0 [] * 10 + (b.toNat - 48) = b.toNat - 48 := by unfold dv; simp
      rw [e]
      refine ⟨?_, fun h => ?_⟩
      · rw [Go.Lib.decDigits, dif_pos (show b.toNat - 48 < 10 by omega), hof]
        rfl
      · have h1 : b ≠ 48 := h
        have h2 : b.toNat ≠ 48 := fun e => h1 (UInt8.toNat_inj.mp e)
        omega
    · have hu : u.headD 0 = (u ++ [b]).headD 0 := by
        cases u with
        | nil => simp at hw; omega
        | cons x u => rfl
      have h48 : u.headD 0 ≠ 48 := by
        rcases hh with hh | hh
        · rw [hu]; exact hh
        · omega
      obtain ⟨i1, i2⟩ := ih u (by omega) h0 (.inl h48) (fun c hc => hd c (List.mem_append_left _ hc))
      have i3 := i2 h48
      refine ⟨?_, fun _ => by omega⟩
      rw [Go.Lib.decDigits, dif_neg (show ¬ dv 0 u * 10 + (b.toNat - 48) < 10 by omega), show (dv 0 u * 10 + (b.toNat - 48)) / 10 = dv 0 u by omega, show (dv 0 u * 10 + (b.toNat - 48)) % 10 = b.toNat - 48 by omega, i1, hof]
theorem can_itoa {w : List UInt8} (h : can w) : Go.Lib.itoa (dv 0 w : Int) = w := by
  obtain ⟨h1, h2, h3⟩ := h
  unfold Go.Lib.itoa
  rw [if_neg (by omega), Int.toNat_natCast]
  exact (dd_dv w.length w rfl h1.1 h2 (digs_iff.mp h3)).1
theorem l1Read_bad (a : (List UInt8)) (hs : a.length ≤ 6) (d : Nat) : ∀ (i : Nat) (acc : Int), i + d = a.length → digs (a.drop i) = false → Big (fun k => spec_l1Read.l0 k a acc (i : Int)) (-1) := by
  induction d with
  | zero =>
    intro i acc hi hb
    rw [List.drop_eq_nil_of_le (by omega)] at hb
    cases hb
  | succ d ih =>
    intro i acc hi hb
    have hlt : i < a.length := by omega
    rw [List.drop_eq_getElem_cons hlt] at hb
    have eb := bt_list a i hlt
    refine Big.succ ?_
    unfold spec_l1Read.l0
    rw [w64n (by omega)]
    refine Big.pos (by omega) (Big.pos (by omega) ?_)
    by_cases h1 : ((rde a (i : Int)).toNat : Int) < 48
    · exact Big.pos h1 (Big.some_ _)
    · by_cases h2 : ((rde a (i : Int)).toNat : Int) > 57
      · exact Big.neg h1 (Big.pos h2 (Big.some_ _))
      · have h3 : digs (a.drop (i + 1)) = false := by
          unfold digs at hb ⊢
          rw [List.all_cons, decide_eq_true (show 48 ≤ (a[i]).toNat by omega), decide_eq_true (show (a[i]).toNat ≤ 57 by omega)] at hb
          exact hb
        exact Big.neg h1 (Big.neg h2 (ih (i + 1) _ (by omega) h3))
open Classical in
/-- What the reference reads off a word. -/
noncomputable def rv (w : List UInt8) : Int := if can w then (dv 0 w : Int) else -1
open Classical in
theorem l1Read_is (w : List UInt8) : Big (fun k => spec_l1Read.f k w) (rv w) := by
  have hj1 : Big (fun k => spec_l1Read.j0 k w true) (-1) := by
    refine Big.succ ?_
    unfold spec_l1Read.j0
    exact Big.pos rfl (Big.some_ _)
  unfold spec_l1Read.f rv
  simp only [v_l1In, Option.bind_some]
  cases h : inR (w.length : Int) 1 6
  · rw [if_neg (fun c => by have := inR_not.mp h; have := c.1; omega)]
    exact Big.neg (by decide) hj1
  · rw [inR_iff] at h
    have e0 : ((rde w 0).toNat : Int) = ((w.headD 0).toNat : Int) := by
      have := bt_list w 0 (by omega)
      cases w with
      | nil => simp at h
      | cons b w => exact this
    have hj : (w.headD 0 ≠ 48 ∨ w.length = 1) → Big (fun k => spec_l1Read.j0 k w false) (if can w then (dv 0 w : Int) else -1) := by
      intro hh
      refine Big.succ ?_
      unfold spec_l1Read.j0
      refine Big.neg (by decide) ?_
      cases hd : digs w
      · rw [if_neg (fun c => by have := c.2.2; rw [hd] at this; cases this)]
        exact l1Read_bad w (by omega) w.length 0 0 (by omega) hd
      · rw [if_pos ⟨by omega, hh, hd⟩]
        exact l1Read_l w (by omega) w 0 0 rfl (by omega) (by omega) (digs_iff.mp hd)
    by_cases h0 : w.headD 0 = 48
    · refine Big.pos rfl (Big.pos (by omega) (Big.pos (by rw [e0, h0]; rfl) ?_))
      by_cases h1 : (w.length : Int) > 1
      · rw [decide_eq_true h1, if_neg (fun c => c.2.1.elim (fun c => c h0) (fun c => by omega))]
        exact hj1
      · rw [decide_eq_false h1]
        exact hj (.inr (by omega))
    · refine Big.pos rfl (Big.pos (by omega) (Big.neg (fun e => h0 (UInt8.toNat_inj.mp ?_)) (hj (.inl h0))))
      have : (48 : UInt8).toNat = 48 := rfl
      omega
open Classical in
theorem rv_of {w : List UInt8} (h : 0 ≤ rv w) : w = Go.Lib.itoa (rv w) := by
  unfold rv at h ⊢
  split
  · rename_i c
    exact (can_itoa c).symm
  · rename_i c
    rw [if_neg c] at h
    omega
theorem rv_itoa (x : Int) (h : 0 ≤ x ∧ x ≤ 9999) : rv (Go.Lib.itoa x) = x := (l1Read_is _).uniq (l1Read_at x h)
end Go.Proofs.YtobblofdkpljfaaGreatDoor.Q
namespace Go.Proofs.YtobblofdkpljfaaGreatDoor.Q
open Go.RowKit Go Go.Proofs.YtobblofdkpljfaaGreatDoor.Eng Go.Proofs.YtobblofdkpljfaaGreatDoor Go.Proofs.YtobblofdkpljfaaGreatDoor.Y
set_option linter.unusedSimpArgs false
set_option linter.unusedVariables false

/-- The text of a date. -/
def dtx (d : Int × Int) : List UInt8 := Go.Lib.itoa d.1 ++ [46] ++ Go.Lib.itoa d.2
/-- The text of dates. -/
def dtxt (l : List (Int × Int)) : List UInt8 := Go.Lib.join (l.map dtx) [44]
theorem itoa_len3 {x : Int} (h : 0 ≤ x ∧ x ≤ 999) : (Go.Lib.itoa x).length ≤ 3 := by
  obtain ⟨n, rfl⟩ : ∃ n : Nat, x = (n : Int) := ⟨x.toNat, by omega⟩
  have := (l1Num_r 3 n (by omega) (by omega) (by omega)).2
  unfold Go.Lib.itoa
  rw [if_neg (by omega)]
  exact this
theorem dtx_len {d : Int × Int} (h : dOk d = true) : (dtx d).length ≤ 8 := by
  have h1 := dOk_iff.mp h
  have h2 := (num_at d.1 (by omega)).2
  have h3 := itoa_len3 (x := d.2) (by omega)
  unfold dtx
  rw [List.length_append, List.length_append, List.length_singleton]
  omega
theorem dtx_44 {d : Int × Int} (h : dOk d = true) : (44 : UInt8) ∉ dtx d := by
  have h1 := dOk_iff.mp h
  unfold dtx
  rw [List.mem_append, List.mem_append, List.mem_singleton]
  rintro ((h | h) | h)
  · exact no_comma d.1 (by omega) 44 (.inl (by decide)) h
  · cases h
  · exact no_comma d.2 (by omega) 44 (.inl (by decide)) h
theorem dtx_sp {d : Int × Int} (h : dOk d = true) : sp 46 (dtx d) = [Go.Lib.itoa d.1, Go.Lib.itoa d.2] := by
  have h1 := dOk_iff.mp h
  unfold dtx
  rw [List.append_assoc, List.singleton_append, sp_hit _ (no_comma d.1 (by omega) 46 (.inl (by decide))), sp_miss (no_comma d.2 (by omega) 46 (.inl (by decide)))]
theorem dtxt_sp {l : List (Int × Int)} (h : bOk l = true) : sp 44 (dtxt l) = l.map dtx := by
  obtain ⟨h1, h2⟩ := bOk_iff.mp h
  unfold dtxt
  refine sp_join 44 _ (fun e => ?_) (fun w hw => ?_)
  · have := congrArg List.length e
    rw [List.length_map, List.length_nil] at this
    omega
  · obtain ⟨x, hx, rfl⟩ := List.mem_map.1 hw
    exact dtx_44 (h2 x hx)
theorem joinTail_eq (c : UInt8) : ∀ r : List (List UInt8), (∀ x ∈ r, x.length ≤ 8) → (Go.Lib.joinTail [c] r).length ≤ 9 * r.length
  | [], _ => by simp [Go.Lib.joinTail]
  | y :: r, h => by
    have h1 := joinTail_eq c r (fun x hx => h x (List.mem_cons_of_mem _ hx))
    have h2 := h y List.mem_cons_self
    have e : Go.Lib.joinTail [c] (y :: r) = [c] ++ y ++ Go.Lib.joinTail [c] r := by simp [Go.Lib.joinTail]
    rw [e, List.length_append, List.length_append, List.length_singleton, List.length_cons]
    omega
theorem dtxt_len {l : List (Int × Int)} (h : bOk l = true) : (dtxt l).length ≤ 71 := by
  obtain ⟨h1, h2⟩ := bOk_iff.mp h
  unfold dtxt
  cases l with
  | nil => simp at h1
  | cons d l =>
    rw [List.map_cons, Go.Lib.join_cons, List.length_append]
    have h3 := dtx_len (h2 d List.mem_cons_self)
    have h4 := joinTail_eq 44 (l.map dtx) (fun x hx => by
      obtain ⟨y, hy, rfl⟩ := List.mem_map.1 hx
      exact dtx_len (h2 y (List.mem_cons_of_mem _ hy)))
    rw [List.length_map] at h4
    rw [List.length_cons] at h1
    omega
theorem dtxt_snoc (l : List (Int × Int)) (d : Int × Int) (h : l ≠ []) : dtxt (l ++ [d]) = dtxt l ++ [44] ++ dtx d := by
  unfold dtxt
  rw [List.map_append, List.map_singleton, join_snoc _ _ _ (by simp [h])]
theorem dtxt_one (d : Int × Int) : dtxt [d] = dtx d := by simp [dtxt, Go.Lib.join_one]
theorem dtxt_take_len {l : List (Int × Int)} (h : ∀ d ∈ l, dOk d = true) : (dtxt l).length ≤ 9 * l.length := by
  unfold dtxt
  cases l with
  | nil => simp [Go.Lib.join_nil]
  | cons d l =>
    rw [List.map_cons, Go.Lib.join_cons, List.length_append]
    have h3 := dtx_len (h d List.mem_cons_self)
    have h4 := joinTail_eq 44 (l.map dtx) (fun x hx => by
      obtain ⟨y, hy, rfl⟩ := List.mem_map.1 hx
      exact dtx_len (h y (List.mem_cons_of_mem _ hy)))
    rw [List.length_map] at h4
    rw [List.length_cons]
    omega
end Go.Proofs.YtobblofdkpljfaaGreatDoor.Q
namespace Go.Proofs.YtobblofdkpljfaaGreatDoor.Q
open Go.RowKit Go Go.Proofs.YtobblofdkpljfaaGreatDoor.Eng Go.Proofs.YtobblofdkpljfaaGreatDoor Go.Proofs.YtobblofdkpljfaaGreatDoor.Y
set_option linter.unusedSimpArgs false
set_option linter.unusedVariables false

theorem v_dtext {d : Int × Int} (h : dOk d = true) : impl_Date_text.f d = some (dtx d) := by
  have h1 := dOk_iff.mp h
  have h2 := (num_at d.1 (by omega)).2
  have h3 := itoa_len3 (x := d.2) (by omega)
  unfold impl_Date_text.f dtx
  rw [Itoa_at d.1 (by omega), Option.bind_some, if_pos (by omega), Itoa_at d.2 (by omega), Option.bind_some, if_pos (by rw [List.length_append, List.length_singleton]; omega)]
theorem iText_l (l : List (Int × Int)) (hb : bOk l = true) (d : Nat) : ∀ i : Nat, i + d = l.length → Big (fun k => impl_BirthsText.l0 k ((l.take i).map dtx) l (l.length : Int) (i : Int)) (dtxt l, true) := by
  obtain ⟨h1, h2⟩ := bOk_iff.mp hb
  induction d with
  | zero =>
    intro i hi
    refine Big.succ ?_
    unfold impl_BirthsText.l0
    have ht := dtxt_len hb
    rw [List.take_of_length_le (show l.length ≤ i by omega), Join_at _ [44] (by rw [List.length_map]; omega) (by unfold dtxt at ht; omega)]
    exact Big.neg (by omega) (Big.bind (Big.some_ _) (Big.some_ _))
  | succ d ih =>
    intro i hi
    have hlt : i < l.length := by omega
    have er : rde l (i : Int) = l[i] := by
      unfold rde
      rw [Int.toNat_natCast, List.getD_eq_getElem?_getD, List.getElem?_eq_getElem hlt, Option.getD_some]
    have ho := h2 _ (List.getElem_mem hlt)
    refine Big.succ ?_
    unfold impl_BirthsText.l0
    rw [er, v_dtext (d := ((l[i]).1, (l[i]).2)) ho, w64n (by omega)]
    refine Big.pos (by omega) (Big.pos (by omega) (Big.pos (by omega) (Big.bind (Big.some_ _) (Big.pos (by rw [List.length_map, List.length_take]; omega) ?_))))
    have e : ((l.take i).map dtx) ++ [dtx ((l[i]).1, (l[i]).2)] = (l.take (i + 1)).map dtx := by
      rw [List.take_succ_eq_append_getElem hlt, List.map_append]
      rfl
    rw [e]
    exact ih (i + 1) (by omega)
theorem sText_l (l : List (Int × Int)) (hl : l.length ≤ 1000) (h2 : ∀ d ∈ l, dOk d = true) (d : Nat) : ∀ i : Nat, i + d = l.length → Big (fun k => spec_biText.l0 k (dtxt (l.take i)) l (l.length : Int) (i : Int)) (dtxt l) := by
  induction d with
  | zero =>
    intro i hi
    refine Big.succ ?_
    unfold spec_biText.l0
    rw [List.take_of_length_le (show l.length ≤ i by omega)]
    exact Big.neg (by omega) (Big.some_ _)
  | succ d ih =>
    intro i hi
    have hlt : i < l.length := by omega
    have er : rde l (i : Int) = l[i] := by
      unfold rde
      rw [Int.toNat_natCast, List.getD_eq_getElem?_getD, List.getElem?_eq_getElem hlt, Option.getD_some]
    have ho := h2 _ (List.getElem_mem hlt)
    have hd := dOk_iff.mp ho
    obtain ⟨n1, n2⟩ := num_at (l[i]).1 (by omega)
    obtain ⟨m1, m2⟩ := num_at (l[i]).2 (by omega)
    have ht := dtxt_take_len (l := l.take i) (fun d hd => h2 d (List.mem_of_mem_take hd))
    rw [List.length_take] at ht
    have hw : Go.Lib.itoa (l[i]).1 ++ [46] ++ Go.Lib.itoa (l[i]).2 = dtx l[i] := rfl
    have hwl := dtx_len ho
    have nx := ih (i + 1) (by omega)
    rw [List.take_succ_eq_append_getElem hlt] at nx
    refine Big.succ ?_
    unfold spec_biText.l0
    rw [er, w64n (by omega)]
    refine Big.pos (by omega) (Big.pos (by omega) (Big.pos (by omega) ?_))
    by_cases h0 : i = 0
    · subst h0
      refine Big.neg (by omega) (Big.bind n1 (Big.pos (by omega) (Big.bind m1 (Big.pos (by rw [List.length_append, List.length_singleton]; omega) ?_))))
      rw [hw]
      refine Big.pos (by omega) ?_
      rw [List.take_zero, List.nil_append, dtxt_one] at nx
      exact nx
    · refine Big.pos (by omega) (Big.pos (by omega) (Big.bind n1 (Big.pos (by omega) (Big.bind m1 (Big.pos (by rw [List.length_append, List.length_singleton]; omega) ?_)))))
      rw [hw]
      refine Big.pos (by rw [List.length_append, List.length_singleton]; omega) ?_
      rw [dtxt_snoc _ _ (fun e => by have := congrArg List.length e; rw [List.length_take, List.length_nil] at this; omega)] at nx
      exact nx
theorem sText_at (l : List (Int × Int)) (hl : l.length ≤ 1000) (h2 : ∀ d ∈ l, dOk d = true) : Big (fun k => spec_biText.f k l) (dtxt l) := sText_l l hl h2 l.length 0 (by omega)
/-- The text of births. -/
def btF (l : List (Int × Int)) : List UInt8 × Bool := if bOk l = true then (dtxt l, true) else ([], false)
theorem BirthsText_is (l : List (Int × Int)) (hl : l.length ≤ 2000000) : Big (fun k => spec_BirthsText.f k l) (btF l) ∧ Big (fun k => impl_BirthsText.f k l) (btF l) := by
  unfold spec_BirthsText.f impl_BirthsText.f btF
  have hg := good_at l hl
  have hi := births_at l hl
  cases hb : bOk l
  · rw [hb] at hg hi
    exact ⟨Big.bind hg (Big.neg (by decide) (Big.some_ _)), Big.bind hi (Big.neg (by decide) (Big.some_ _))⟩
  · rw [hb] at hg hi
    obtain ⟨h1, h2⟩ := bOk_iff.mp hb
    rw [if_pos rfl]
    exact ⟨Big.bind hg (Big.pos rfl (Big.bind (sText_at l (by omega) h2) (Big.some_ _))), Big.bind hi (Big.pos rfl (iText_l l hb l.length 0 (by omega)))⟩
/-- What the program reads off a word. -/
noncomputable def rdW (w : List UInt8) : (Int × Int) × Bool := (((S.readWord (Go.Lib.cut w [46]).1).1, (S.readWord (Go.Lib.cut w [46]).2.1).1), (S.readWord (Go.Lib.cut w [46]).1).2 && (S.readWord (Go.Lib.cut w [46]).2.1).2 && dOk ((S.readWord (Go.Lib.cut w [46]).1).1, (S.readWord (Go.Lib.cut w [46]).2.1).1))
theorem cut_cases (w : List UInt8) : (46 ∉ w ∧ Go.Lib.cut w [46] = (w, [], false)) ∨ ∃ u v, w = u ++ 46 :: v ∧ 46 ∉ u ∧ Go.Lib.cut w [46] = (u, v, true) := by
  rcases index_one 46 w with ⟨h1, h2⟩ | ⟨u, v, h1, h2, h3⟩
  · refine .inl ⟨h1, ?_⟩
    unfold Go.Lib.cut
    rw [h2]
    rfl
  · refine .inr ⟨u, v, h1, h2, ?_⟩
    unfold Go.Lib.cut
    rw [h3]
    subst h1
    simp
theorem cut_len (w : List UInt8) : (Go.Lib.cut w [46]).1.length ≤ w.length ∧ (Go.Lib.cut w [46]).2.1.length ≤ w.length := by
  rcases cut_cases w with ⟨_, h⟩ | ⟨u, v, h1, _, h⟩
  · rw [h]; simp
  · rw [h, h1]; simp; omega
theorem readDate_at (w : List UInt8) (hw : w.length ≤ 2000000) : impl_readDate.f w = some (rdW w) := by
  have hc := cut_len w
  unfold impl_readDate.f rdW S.strings_Cut.f S.impl_readNumber.f
  rw [if_pos (by omega), Option.bind_some, if_pos (by omega), Option.bind_some, if_pos (by omega), Option.bind_some]
  cases h1 : (S.readWord (Go.Lib.cut w [46]).1).2
  · rfl
  · rw [if_pos rfl]
    cases h2 : (S.readWord (Go.Lib.cut w [46]).2.1).2
    · rfl
    · rw [if_pos rfl, v_IsDate]
      rfl
/-- A word that the program takes is the text of its date. -/
theorem rdW_of {w : List UInt8} (h : (rdW w).2 = true) : dOk (rdW w).1 = true ∧ w = dtx (rdW w).1 := by
  unfold rdW at h ⊢
  dsimp only at h ⊢
  rw [Bool.and_eq_true, Bool.and_eq_true] at h
  refine ⟨h.2, ?_⟩
  rcases cut_cases w with ⟨_, hc⟩ | ⟨u, v, h1, _, hc⟩
  · exfalso
    have h2 := word_of _ h.1.2
    rw [hc] at h2
    dsimp only at h2
    have h3 := congrArg List.length h2
    rw [List.length_nil] at h3
    have h4 := h.2
    rw [dOk_iff, hc] at h4
    dsimp only at h4
    have h5 : 0 < (Go.Lib.itoa (S.readWord ([] : List UInt8)).1).length := by
      obtain ⟨n, hn⟩ : ∃ n : Nat, (S.readWord ([] : List UInt8)).1 = (n : Int) := ⟨((S.readWord ([] : List UInt8)).1).toNat, by omega⟩
      rw [hn]
      unfold Go.Lib.itoa
      rw [if_neg (by omega), Int.toNat_natCast]
      obtain ⟨b, t, e, _⟩ := dd_head n
      rw [e]
      simp
    omega
  · have h2 := word_of _ h.1.1
    have h3 := word_of _ h.1.2
    rw [hc] at h2 h3 ⊢
    dsimp only at h2 h3 ⊢
    unfold dtx
    dsimp only
    rw [← h2, ← h3, h1]
    simp
theorem rdW_dtx {d : Int × Int} (h : dOk d = true) : rdW (dtx d) = (d, true) := by
  have h1 := dOk_iff.mp h
  have hc : Go.Lib.cut (dtx d) [46] = (Go.Lib.itoa d.1, Go.Lib.itoa d.2, true) := by
    have hn := no_comma d.1 (by omega) 46 (.inl (by decide))
    rcases cut_cases (dtx d) with ⟨h2, _⟩ | ⟨u, v, h2, h3, h4⟩
    · exact absurd (by unfold dtx; simp) h2
    · have hs := dtx_sp h
      rw [h2, sp_hit v h3] at hs
      injection hs with e1 e2
      rw [h4, e1]
      have hv : v = Go.Lib.itoa d.2 := by
        have h5 := join_sp 46 v.length v (Nat.le_refl _)
        rw [e2, Go.Lib.join_one] at h5
        exact h5.symm
      rw [hv]
  unfold rdW
  rw [hc]
  dsimp only
  rw [word_at d.1 (by omega), word_at d.2 (by omega)]
  dsimp only
  rw [h]
  rfl
theorem iParse_l (W : List (List UInt8)) (hW : ∀ w ∈ W, w.length ≤ 2000000) (hl : W.length ≤ 2000000) (d : Nat) : ∀ i : Nat, i + d = W.length → i ≤ 8 → (W.take i).all (fun w => (rdW w).2) = true → Big (fun k => impl_ParseBirths.l0 k ((W.take i).map fun w => (rdW w).1) W (W.length : Int) (i : Int)) (if W.length ≤ 8 ∧ W.all (fun w => (rdW w).2) = true then (W.map fun w => (rdW w).1, true) else ([], false)) := by
  induction d with
  | zero =>
    intro i hi h8 ha
    rw [List.take_of_length_le (show W.length ≤ i by omega)] at ha ⊢
    rw [if_pos ⟨by omega, ha⟩]
    refine Big.succ ?_
    unfold impl_ParseBirths.l0
    exact Big.neg (by omega) (Big.some_ _)
  | succ d ih =>
    intro i hi h8 ha
    have hlt : i < W.length := by omega
    have er : rde W (i : Int) = W[i] := by
      unfold rde
      rw [Int.toNat_natCast, List.getD_eq_getElem?_getD, List.getElem?_eq_getElem hlt, Option.getD_some]
    have hall : (W.take (i + 1)).all (fun w => (rdW w).2) = (rdW W[i]).2 := by
      rw [List.take_succ_eq_append_getElem hlt, List.all_append, ha, Bool.true_and, List.all_cons, List.all_nil, Bool.and_true]
    have hlen : ((W.take i).map fun w => (rdW w).1).length = i := by rw [List.length_map, List.length_take]; omega
    refine Big.succ ?_
    unfold impl_ParseBirths.l0
    rw [er, readDate_at _ (hW _ (List.getElem_mem hlt)), w64n (by omega), hlen]
    refine Big.pos (by omega) (Big.pos (by omega) (Big.pos (by omega) (Big.bind (Big.some_ _) ?_)))
    cases hr : (rdW W[i]).2
    · have hno : ¬ (W.length ≤ 8 ∧ W.all (fun w => (rdW w).2) = true) := by
        rintro ⟨_, h⟩
        have := List.all_eq_true.mp h _ (List.getElem_mem hlt)
        rw [hr] at this
        cases this
      rw [if_neg hno]
      exact Big.neg (by decide) (Big.some_ _)
    · refine Big.pos rfl ?_
      by_cases c : (i : Int) = 8
      · rw [if_neg (fun h => by have := h.1; omega)]
        exact Big.pos c (Big.some_ _)
      · refine Big.neg c (Big.pos (by omega) ?_)
        have e : ((W.take i).map fun w => (rdW w).1) ++ [((rdW W[i]).1.1, (rdW W[i]).1.2)] = (W.take (i + 1)).map fun w => (rdW w).1 := by
          rw [List.take_succ_eq_append_getElem hlt, List.map_append]
          rfl
        rw [e]
        exact ih (i + 1) (by omega) (by omega) (by rw [hall, hr])
/-- What the reference reads off a word. -/
noncomputable def sdW (w : List UInt8) : Int × Int := (rv ((sp 46 w).getD 0 []), rv ((sp 46 w).getD 1 []))
theorem sParse_l (W : List (List UInt8)) (hW : ∀ w ∈ W, w.length ≤ 100) (hl : W.length ≤ 1000) (d : Nat) : ∀ i : Nat, i + d = W.length → (W.take i).all (fun w => decide ((sp 46 w).length = 2)) = true → Big (fun k => spec_biParse.l0 k ((W.take i).map sdW) W (W.length : Int) (i : Int)) (if W.all (fun w => decide ((sp 46 w).length = 2)) = true ∧ bOk (W.map sdW) = true then (W.map sdW, true) else ([], false)) := by
  induction d with
  | zero =>
    intro i hi ha
    rw [List.take_of_length_le (show W.length ≤ i by omega)] at ha ⊢
    refine Big.succ ?_
    unfold spec_biParse.l0
    refine Big.neg (by omega) (Big.bind (good_at (W.map sdW) (by rw [List.length_map]; omega)) ?_)
    cases hb : bOk (W.map sdW)
    · refine Big.neg (by decide) ?_
      rw [if_neg (fun h => by cases h.2)]
      exact Big.some_ _
    · refine Big.pos rfl ?_
      rw [if_pos ⟨ha, rfl⟩]
      exact Big.some_ _
  | succ d ih =>
    intro i hi ha
    have hlt : i < W.length := by omega
    have er : rde W (i : Int) = W[i] := by
      unfold rde
      rw [Int.toNat_natCast, List.getD_eq_getElem?_getD, List.getElem?_eq_getElem hlt, Option.getD_some]
    have hall : (W.take (i + 1)).all (fun w => decide ((sp 46 w).length = 2)) = decide ((sp 46 W[i]).length = 2) := by
      rw [List.take_succ_eq_append_getElem hlt, List.all_append, ha, Bool.true_and, List.all_cons, List.all_nil, Bool.and_true]
    have hs := l1Split_at W[i] (by have := hW _ (List.getElem_mem hlt); omega) 46
    have hs2 : Big (fun k => spec_l1Split.f k W[i] 46) (sp 46 W[i]) := hs
    refine Big.succ ?_
    unfold spec_biParse.l0
    rw [er, w64n (by omega)]
    refine Big.pos (by omega) (Big.pos (by omega) (Big.pos (by omega) (Big.bind hs2 ?_)))
    by_cases c : (sp 46 W[i]).length = 2
    · have r0 : rde (sp 46 W[i]) 0 = (sp 46 W[i]).getD 0 [] := rfl
      have r1 : rde (sp 46 W[i]) 1 = (sp 46 W[i]).getD 1 [] := rfl
      refine Big.pos (by omega) (Big.pos (by omega) ?_)
      rw [r0, r1]
      refine Big.bind (l1Read_is _) (Big.pos (by omega) (Big.bind (l1Read_is _) (Big.pos (by rw [List.length_map, List.length_take]; omega) ?_)))
      have e : ((W.take i).map sdW) ++ [sdW W[i]] = (W.take (i + 1)).map sdW := by
        rw [List.take_succ_eq_append_getElem hlt, List.map_append]
        rfl
      have nx := ih (i + 1) (by omega) (by rw [hall]; exact decide_eq_true c)
      rw [← e] at nx
      exact nx
    · have hno : ¬ (W.all (fun w => decide ((sp 46 w).length = 2)) = true ∧ bOk (W.map sdW) = true) := by
        rintro ⟨h, _⟩
        have := of_decide_eq_true (List.all_eq_true.mp h _ (List.getElem_mem hlt))
        exact c this
      rw [if_neg hno]
      exact Big.neg (by omega) (Big.some_ _)
theorem sdW_dtx {d : Int × Int} (h : dOk d = true) : sdW (dtx d) = d := by
  have h1 := dOk_iff.mp h
  unfold sdW
  rw [dtx_sp h]
  show (rv (Go.Lib.itoa d.1), rv (Go.Lib.itoa d.2)) = d
  rw [rv_itoa d.1 (by omega), rv_itoa d.2 (by omega)]
theorem sdW_of {w : List UInt8} (h : (sp 46 w).length = 2) (h2 : dOk (sdW w) = true) : w = dtx (sdW w) := by
  have h1 := dOk_iff.mp h2
  have hj := join_sp 46 w.length w (Nat.le_refl _)
  obtain ⟨x, y, e⟩ : ∃ x y, sp 46 w = [x, y] := by
    match hs : sp 46 w, h with
    | [x, y], _ => exact ⟨x, y, rfl⟩
  unfold sdW at h1 ⊢
  rw [e] at h1 hj ⊢
  have e0 : ([x, y] : List (List UInt8)).getD 0 [] = x := rfl
  have e1 : ([x, y] : List (List UInt8)).getD 1 [] = y := rfl
  rw [e0, e1] at h1 ⊢
  have hx := rv_of (w := x) (by omega)
  have hy := rv_of (w := y) (by omega)
  unfold dtx
  dsimp only
  rw [← hx, ← hy, ← hj, join_two, Go.Lib.join_one]
theorem map_of {W : List (List UInt8)} {g : List UInt8 → Int × Int} (h : ∀ w ∈ W, w = dtx (g w)) : W = (W.map g).map dtx := by
  induction W with
  | nil => rfl
  | cons w W ih => rw [List.map_cons, List.map_cons, ← h w List.mem_cons_self, ← ih fun w hw => h w (List.mem_cons_of_mem _ hw)]
theorem map_dtx {V : List (Int × Int)} {g : List UInt8 → Int × Int} (h : ∀ d ∈ V, g (dtx d) = d) : (V.map dtx).map g = V := by
  induction V with
  | nil => rfl
  | cons d V ih => rw [List.map_cons, List.map_cons, h d List.mem_cons_self, ih fun d hd => h d (List.mem_cons_of_mem _ hd)]
/-- What both read off a text. -/
theorem ParseBirths_both (a : List UInt8) (hs : a.length ≤ 1048576) : ∃ R : List (Int × Int) × Bool, R.1.length ≤ 8 ∧ (R.2 = true → bOk R.1 = true ∧ a = dtxt R.1) ∧ Big (fun k => spec_ParseBirths.f k a) R ∧ Big (fun k => impl_ParseBirths.f k a) R := by
  have hsl := sp_len 44 a
  have hI := iParse_l (sp 44 a) (fun w hw => by have := sp_word 44 a w hw; omega) (by omega) (sp 44 a).length 0 (by omega) (by omega) rfl
  have hI2 : ∀ R, Big (fun k => impl_ParseBirths.l0 k [] (sp 44 a) ((sp 44 a).length : Int) 0) R → Big (fun k => impl_ParseBirths.f k a) R := fun R h => by
    unfold impl_ParseBirths.f
    rw [Split_at a 44 (by omega)]
    exact Big.bind (Big.some_ _) h
  have hS2 : ∀ R, a.length ≤ 71 → Big (fun k => spec_biParse.l0 k [] (sp 44 a) ((sp 44 a).length : Int) 0) R → Big (fun k => spec_ParseBirths.f k a) R := fun R h h' => by
    unfold spec_ParseBirths.f spec_biParse.f
    have h2 : Big (fun k => spec_l1Split.f k a 44) (sp 44 a) := l1Split_at a hs 44
    exact Big.bind (Big.neg (by omega) (Big.bind h2 h')) (Big.some_ _)
  by_cases h : ∃ V : List (Int × Int), bOk V = true ∧ a = dtxt V
  · obtain ⟨V, hb, hj⟩ := h
    obtain ⟨h1, h2⟩ := bOk_iff.mp hb
    have h71 := dtxt_len hb
    rw [← hj] at h71
    have hws : sp 44 a = V.map dtx := by rw [hj]; exact dtxt_sp hb
    have hS := sParse_l (sp 44 a) (fun w hw => by have := sp_word 44 a w hw; omega) (by omega) (sp 44 a).length 0 (by omega) rfl
    have m1 : (V.map dtx).map (fun w => (rdW w).1) = V := map_dtx (fun d hd => by rw [rdW_dtx (h2 d hd)])
    have m2 : (V.map dtx).map sdW = V := map_dtx (fun d hd => sdW_dtx (h2 d hd))
    have a1 : (V.map dtx).all (fun w => (rdW w).2) = true := by
      rw [List.all_eq_true]
      intro w hw
      obtain ⟨d, hd, rfl⟩ := List.mem_map.1 hw
      rw [rdW_dtx (h2 d hd)]
    have a2 : (V.map dtx).all (fun w => decide ((sp 46 w).length = 2)) = true := by
      rw [List.all_eq_true]
      intro w hw
      obtain ⟨d, hd, rfl⟩ := List.mem_map.1 hw
      rw [dtx_sp (h2 d hd)]
      rfl
    refine ⟨(V, true), h1.2, fun _ => ⟨hb, hj⟩, hS2 _ h71 ?_, hI2 _ ?_⟩
    · rw [hws] at hS ⊢
      rw [if_pos ⟨a2, by rw [m2]; exact hb⟩, m2] at hS
      exact hS
    · rw [hws] at hI ⊢
      rw [if_pos ⟨by rw [List.length_map]; omega, a1⟩, m1] at hI
      exact hI
  · refine ⟨([], false), by simp, fun h => (by cases h), ?_, hI2 _ ?_⟩
    · by_cases h71 : a.length ≤ 71
      · refine hS2 _ h71 ?_
        have hS := sParse_l (sp 44 a) (fun w hw => by have := sp_word 44 a w hw; omega) (by omega) (sp 44 a).length 0 (by omega) rfl
        rw [if_neg] at hS
        · exact hS
        · rintro ⟨c1, c2⟩
          refine h ⟨_, c2, ?_⟩
          have hm := map_of (W := sp 44 a) (g := sdW) (fun w hw => sdW_of (of_decide_eq_true (List.all_eq_true.mp c1 w hw)) ((bOk_iff.mp c2).2 _ (List.mem_map_of_mem hw)))
          have hj := join_sp 44 a.length a (Nat.le_refl _)
          unfold dtxt
          rw [← hm, hj]
      · unfold spec_ParseBirths.f spec_biParse.f
        exact Big.bind (Big.pos (by omega) (Big.some_ _)) (Big.some_ _)
    · rw [if_neg] at hI
      · exact hI
      · rintro ⟨c1, c2⟩
        have hW : ∀ w ∈ sp 44 a, dOk (rdW w).1 = true ∧ w = dtx (rdW w).1 := fun w hw => rdW_of (List.all_eq_true.mp c2 w hw)
        have hne : 1 ≤ (sp 44 a).length := by
          cases hsp : sp 44 a with
          | nil => exact absurd hsp (sp_ne 44 a)
          | cons x t => simp
        refine h ⟨(sp 44 a).map fun w => (rdW w).1, bOk_iff.mpr ⟨by rw [List.length_map]; omega, fun d hd => ?_⟩, ?_⟩
        · obtain ⟨w, hw, rfl⟩ := List.mem_map.1 hd
          exact (hW w hw).1
        · have hm := map_of (W := sp 44 a) (g := fun w => (rdW w).1) (fun w hw => (hW w hw).2)
          have hj := join_sp 44 a.length a (Nat.le_refl _)
          unfold dtxt
          rw [← hm, hj]
/-- A text of births is read back. -/
theorem parse_yes {V : List (Int × Int)} (hb : bOk V = true) : Big (fun k => impl_ParseBirths.f k (dtxt V)) (V, true) := by
  have h71 := dtxt_len hb
  obtain ⟨h1, h2⟩ := bOk_iff.mp hb
  have hws := dtxt_sp hb
  have hI := iParse_l (sp 44 (dtxt V)) (fun w hw => by have := sp_word 44 _ w hw; omega) (by rw [hws, List.length_map]; omega) (sp 44 (dtxt V)).length 0 (by omega) (by omega) rfl
  unfold impl_ParseBirths.f
  rw [Split_at _ 44 (by omega)]
  refine Big.bind (Big.some_ _) ?_
  rw [hws] at hI ⊢
  have m1 : (V.map dtx).map (fun w => (rdW w).1) = V := map_dtx (fun d hd => by rw [rdW_dtx (h2 d hd)])
  have a1 : (V.map dtx).all (fun w => (rdW w).2) = true := by
    rw [List.all_eq_true]
    intro w hw
    obtain ⟨d, hd, rfl⟩ := List.mem_map.1 hw
    rw [rdW_dtx (h2 d hd)]
  rw [if_pos ⟨by rw [List.length_map]; omega, a1⟩, m1] at hI
  exact hI
end Go.Proofs.YtobblofdkpljfaaGreatDoor.Q
