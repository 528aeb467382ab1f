/- The law on birthdays, over the plain functions, read from its end to its start. Conditions: as typed. -/
import Derived.Test.YtobblofdkpljfaaGreatDoorQ3
import Derived.Test.YtobblofdkpljfaaGreatDoorR0
namespace Go.Proofs.YtobblofdkpljfaaGreatDoor.Q
open Go.RowKit Go Go.Proofs.YtobblofdkpljfaaGreatDoor.Eng Go.Proofs.YtobblofdkpljfaaGreatDoor Go.Proofs.YtobblofdkpljfaaGreatDoor.Y
set_option linter.unusedSimpArgs false
set_option linter.unusedVariables false

theorem gSame_l (l : List Int) (hl : l.length ≤ 2000000) (d : Nat) : ∀ i : Nat, i + d = l.length → Big (fun k => laws_gSame.l0 k l l (l.length : Int) i) true := by
  induction d with
  | zero =>
    intro i hi
    refine Big.succ ?_
    unfold laws_gSame.l0
    exact Big.neg (by omega) (Big.some_ _)
  | succ d ih =>
    intro i hi
    refine Big.succ ?_
    unfold laws_gSame.l0
    rw [w64n (by omega)]
    exact Big.pos (by omega) (Big.pos (by omega) (Big.pos (by omega) (Big.pos (by omega) (Big.pos rfl (ih (i + 1) (by omega))))))
theorem gSame_at (l : List Int) (hl : l.length ≤ 2000000) : Big (fun k => laws_gSame.f k l l) true := by
  unfold laws_gSame.f
  exact Big.pos rfl (gSame_l l hl l.length 0 (by omega))
theorem gRows_l (l : List (List Int)) (hl : l.length ≤ 2000000) (hr : ∀ r ∈ l, r.length ≤ 2000000) (d : Nat) : ∀ i : Nat, i + d = l.length → Big (fun k => laws_gRows.l0 k l l (l.length : Int) i) true := by
  induction d with
  | zero =>
    intro i hi
    refine Big.succ ?_
    unfold laws_gRows.l0
    exact Big.neg (by omega) (Big.some_ _)
  | succ d ih =>
    intro i hi
    have hlt : i < l.length := by omega
    have er : rde l (i : Int) = l[i] := by
      unfold rde
      rw [Int.toNat_natCast, List.getD_eq_getElem?_getD, List.getElem?_eq_getElem hlt, Option.getD_some]
    refine Big.succ ?_
    unfold laws_gRows.l0
    rw [w64n (by omega), er]
    exact Big.pos (by omega) (Big.pos (by omega) (Big.pos (by omega) (Big.pos (by omega) (Big.bind (gSame_at _ (hr _ (List.getElem_mem hlt))) (Big.pos rfl (ih (i + 1) (by omega)))))))
theorem gRows_at (l : List (List Int)) (hl : l.length ≤ 2000000) (hr : ∀ r ∈ l, r.length ≤ 2000000) : Big (fun k => laws_gRows.f k l l) true := by
  unfold laws_gRows.f
  exact Big.pos rfl (gRows_l l hl hr l.length 0 (by omega))
theorem gDates_l (l : List (Int × Int)) (hl : l.length ≤ 2000000) (d : Nat) : ∀ i : Nat, i + d = l.length → Big (fun k => laws_gDates.l0 k l l (l.length : Int) i) true := by
  induction d with
  | zero =>
    intro i hi
    refine Big.succ ?_
    unfold laws_gDates.l0
    exact Big.neg (by omega) (Big.some_ _)
  | succ d ih =>
    intro i hi
    refine Big.succ ?_
    unfold laws_gDates.l0
    rw [w64n (by omega)]
    exact Big.pos (by omega) (Big.pos (by omega) (Big.pos (by omega) (Big.pos (by omega) (Big.pos (by simp) (ih (i + 1) (by omega))))))
theorem gDates_at (l : List (Int × Int)) (hl : l.length ≤ 2000000) : Big (fun k => laws_gDates.f k l l) true := by
  unfold laws_gDates.f
  exact Big.pos rfl (gDates_l l hl l.length 0 (by omega))
theorem gRises_l (l : List Int) (hl : l.length ≤ 2000000) (hp : l.Pairwise (· < ·)) (d : Nat) : ∀ i : Nat, 1 ≤ i → i + d = l.length ∨ (d = 0 ∧ l.length ≤ i ∧ i ≤ 1) → Big (fun k => laws_gRises.l0 k l i) true := by
  induction d with
  | zero =>
    intro i h1 hi
    refine Big.succ ?_
    unfold laws_gRises.l0
    exact Big.neg (by omega) (Big.some_ _)
  | succ d ih =>
    intro i h1 hi
    have hlt : i < l.length := by omega
    have e1 : IntKind.i64.wrap ((i : Int) - 1) = ((i - 1 : Nat) : Int) := by rw [w64 (by omega) (by omega)]; omega
    have r1 : rde l (i : Int) = l[i] := by rw [rd_nat, List.getD_eq_getElem?_getD, List.getElem?_eq_getElem hlt]; rfl
    have r2 : rde l ((i - 1 : Nat) : Int) = l[i - 1] := by rw [rd_nat, List.getD_eq_getElem?_getD, List.getElem?_eq_getElem (by omega)]; rfl
    have hlt2 : l[i - 1] < l[i] := List.pairwise_iff_getElem.1 hp (i - 1) i (by omega) hlt (by omega)
    refine Big.succ ?_
    unfold laws_gRises.l0
    rw [w64n (by omega), e1, r1, r2]
    exact Big.pos (by omega) (Big.pos (by omega) (Big.pos (by omega) (Big.pos (by omega) (Big.neg (by omega) (ih (i + 1) (by omega) (by omega))))))
theorem gRises_at (l : List Int) (hl : l.length ≤ 2000000) (hp : l.Pairwise (· < ·)) : Big (fun k => laws_gRises.f k l) true := by
  unfold laws_gRises.f
  exact gRises_l l hl hp (l.length - 1) 1 (Nat.le_refl _) (by omega)
theorem neBB (b : Bool) : ¬ (b != b) = true := by cases b <;> decide
theorem old_yes {b on : Int × Int} (h1 : dOk b = true) (h2 : dOk on = true) (h3 : ix b ≤ ix on) : Big (fun k => impl_DaysOld.f k b on) (ix on - ix b, true) := by
  have h := daysOld_at b on
  rw [h1, h2, decide_eq_true h3, if_pos (by rfl)] at h
  exact h
theorem tailB {x74 : List UInt8} {x75 : List (Int × Int)} {x76 : Bool} (hR : x76 = true → bOk x75 = true ∧ x74 = dtxt x75) : Big (fun k => if x76 = true then ((impl_BirthsText.f k x75).bind fun y1 => (if y1.2 = true then (some (y1.1 == x74)) else (some false))) else (some true)) true := by
  cases x76
  · exact Big.neg (by decide) (Big.some_ _)
  · obtain ⟨h1, h2⟩ := hR rfl
    have hl := (bOk_iff.mp h1).1
    have hb := (BirthsText_is x75 (by omega)).2
    unfold btF at hb
    rw [if_pos h1] at hb
    refine Big.pos rfl (Big.bind hb (Big.pos rfl ?_))
    rw [h2]
    exact Big.of (by simp)
theorem p20 {x74 : List UInt8} {x75 : (List (Int × Int))} {x76 : Bool} (hR : x76 = true → bOk x75 = true ∧ x74 = dtxt x75) : Big (fun k => laws_FnBirthdaysMeet.j20 k x74 x75 x76 false) true := by
  refine Big.succ ?_
  unfold laws_FnBirthdaysMeet.j20
  exact Big.neg (by decide) (tailB hR)
theorem p19 {x69 xb68_0 xb68_1 xb70_0 xb70_1 : Int} {x71 x76 : Bool} {x74 : List UInt8} {x75 : (List (Int × Int))} (hR : x76 = true → bOk x75 = true ∧ x74 = dtxt x75) (hD : x71 = true → dOk (xb68_0, xb68_1) = true ∧ dOk (xb70_0, xb70_1) = true ∧ ix (xb68_0, xb68_1) ≤ ix (xb70_0, xb70_1) ∧ ix (xb70_0, xb70_1) - ix (xb68_0, xb68_1) = x69) : Big (fun k => laws_FnBirthdaysMeet.j19 k x69 x71 x74 x75 x76 xb68_0 xb68_1 xb70_0 xb70_1) true := by
  refine Big.succ ?_
  unfold laws_FnBirthdaysMeet.j19
  cases x71
  · exact Big.neg (by decide) (tailB hR)
  · obtain ⟨h1, h2, h3, h4⟩ := hD rfl
    refine Big.pos rfl (Big.bind (old_yes h1 h2 h3) (Big.pos rfl ?_))
    rw [h4, show (x69 != x69) = false by simp]
    exact p20 hR
/-- What is known of a half birthday. -/
structure HalH (b on h : Int × Int) : Prop where
  fb : dOk b = true
  fo : dOk on = true
  fh : dOk h = true
  fl : ix b ≤ ix on
  fn : ix on < ix h
  fm : (ix h - ix b) % 365 = 182
  ff : ix h - 365 ≤ ix on ∨ ix h = ix b + 182
theorem p17 {x65 x71 x76 : Bool} {x69 xb62_0 xb62_1 xb63_0 xb63_1 xb64_0 xb64_1 xb68_0 xb68_1 xb70_0 xb70_1 : Int} {x74 : List UInt8} {x75 : (List (Int × Int))} (hH : x65 = true → HalH (xb62_0, xb62_1) (xb63_0, xb63_1) (xb64_0, xb64_1)) (h19 : Big (fun k => laws_FnBirthdaysMeet.j19 k x69 x71 x74 x75 x76 xb68_0 xb68_1 xb70_0 xb70_1) true) : Big (fun k => laws_FnBirthdaysMeet.j17 k x65 x69 x71 x74 x75 x76 xb62_0 xb62_1 xb63_0 xb63_1 xb64_0 xb64_1 xb68_0 xb68_1 xb70_0 xb70_1) true := by
  refine Big.succ ?_
  unfold laws_FnBirthdaysMeet.j17
  cases x65
  · exact Big.neg (by decide) h19
  · obtain ⟨hb, ho, hh, hl, hn, hm, hf⟩ := hH rfl
    have ib := ix_in hb
    have io := ix_in ho
    have ih := ix_in hh
    refine Big.pos rfl (Big.bind (old_yes hb hh (by omega)) (Big.bind (daysApart_at ho hh) (Big.bind (old_yes hb ho hl) (Big.succ ?_))))
    unfold laws_FnBirthdaysMeet.j18
    dsimp only
    have em : mx2 (ix (xb63_0, xb63_1) - ix (xb64_0, xb64_1)) (0 - (ix (xb63_0, xb63_1) - ix (xb64_0, xb64_1))) = ix (xb64_0, xb64_1) - ix (xb63_0, xb63_1) := by
      unfold mx2
      split <;> omega
    rw [em, w64 (i := ix (xb64_0, xb64_1) - ix (xb62_0, xb62_1) - (ix (xb63_0, xb63_1) - ix (xb62_0, xb62_1))) (by omega) (by omega), tmod_nn (by omega)]
    refine Big.pos rfl (Big.pos hm (Big.pos rfl (Big.pos rfl (Big.neg (by omega) (Big.pos (by omega) ?_)))))
    by_cases c : ix (xb64_0, xb64_1) - ix (xb63_0, xb63_1) > 365
    · exact Big.pos c (Big.neg (by omega) h19)
    · exact Big.neg c h19
/-- What is known of the day on which the older one is twice as old. -/
structure TwiH (a b t : Int × Int) : Prop where
  fa : dOk a = true
  fb : dOk b = true
  ft : dOk t = true
  fl : ix a < ix b
  fe : ix t = 2 * ix b - ix a
theorem p15 {x53 x65 x71 x76 : Bool} {x69 xb50_0 xb50_1 xb51_0 xb51_1 xb52_0 xb52_1 xb62_0 xb62_1 xb63_0 xb63_1 xb64_0 xb64_1 xb68_0 xb68_1 xb70_0 xb70_1 : Int} {x74 : List UInt8} {x75 : (List (Int × Int))} (hT : x53 = true → TwiH (xb50_0, xb50_1) (xb51_0, xb51_1) (xb52_0, xb52_1)) (h17 : Big (fun k => laws_FnBirthdaysMeet.j17 k x65 x69 x71 x74 x75 x76 xb62_0 xb62_1 xb63_0 xb63_1 xb64_0 xb64_1 xb68_0 xb68_1 xb70_0 xb70_1) true) : Big (fun k => laws_FnBirthdaysMeet.j15 k x53 x65 x69 x71 x74 x75 x76 false xb50_0 xb50_1 xb51_0 xb51_1 xb52_0 xb52_1 xb62_0 xb62_1 xb63_0 xb63_1 xb64_0 xb64_1 xb68_0 xb68_1 xb70_0 xb70_1) true := by
  refine Big.succ ?_
  unfold laws_FnBirthdaysMeet.j15
  refine Big.neg (by decide) ?_
  cases x53
  · exact Big.neg (by decide) h17
  · obtain ⟨ha, hb, ht, hl, he⟩ := hT rfl
    have ia := ix_in ha
    have ib := ix_in hb
    have it := ix_in ht
    refine Big.pos rfl (Big.bind (old_yes ha ht (by omega)) (Big.bind (old_yes hb ht (by omega)) (Big.succ ?_)))
    unfold laws_FnBirthdaysMeet.j16
    dsimp only
    rw [w64 (i := 2 * (ix (xb52_0, xb52_1) - ix (xb51_0, xb51_1))) (by omega) (by omega)]
    exact Big.pos rfl (Big.pos rfl (Big.pos (by omega) (Big.neg (by omega) h17)))
theorem p14 {x53 x58 x65 x71 x76 : Bool} {x56 x57 x69 xb50_0 xb50_1 xb51_0 xb51_1 xb52_0 xb52_1 xb62_0 xb62_1 xb63_0 xb63_1 xb64_0 xb64_1 xb68_0 xb68_1 xb70_0 xb70_1 : Int} {x74 : List UInt8} {x75 : (List (Int × Int))} (hl : x75.length ≤ 8) (hG : x53 = true → x58 = true) (h15 : Big (fun k => laws_FnBirthdaysMeet.j15 k x53 x65 x69 x71 x74 x75 x76 false xb50_0 xb50_1 xb51_0 xb51_1 xb52_0 xb52_1 xb62_0 xb62_1 xb63_0 xb63_1 xb64_0 xb64_1 xb68_0 xb68_1 xb70_0 xb70_1) true) : Big (fun k => laws_FnBirthdaysMeet.j14 k x53 x53 x56 x57 x58 x56 x57 x58 x65 x65 x69 x71 x71 x74 x75 x76 x75 x76 xb50_0 xb50_1 xb51_0 xb51_1 xb52_0 xb52_1 xb52_0 xb52_1 xb62_0 xb62_1 xb63_0 xb63_1 xb64_0 xb64_1 xb64_0 xb64_1 xb68_0 xb68_1 xb70_0 xb70_1 xb70_0 xb70_1) true := by
  refine Big.succ ?_
  unfold laws_FnBirthdaysMeet.j14
  refine Big.neg (neBB _) (Big.pos (by simp) (Big.neg (neBB _) (Big.pos rfl (Big.pos rfl (Big.neg (neBB _) (Big.pos (by simp) (Big.neg (neBB _) (Big.pos (by simp) (Big.neg (neBB _) (Big.bind (gDates_at x75 (by omega)) (Big.pos rfl ?_)))))))))))
  cases x53
  · exact Big.neg (by decide) h15
  · rw [hG rfl]
    exact Big.pos rfl h15
theorem p12 {x1 : List Int} (hc : Byt x1) : Big (fun k => laws_FnBirthdaysMeet.j12 k x1) true := by
  obtain ⟨a, b, hTW⟩ := drawTW hc
  obtain ⟨x, on, hHB⟩ := drawHB hc
  obtain ⟨y, n, hDO⟩ := drawDO hc
  obtain ⟨s, hs, hPD⟩ := drawPD hc
  obtain ⟨R, r1, r2, r3, r4⟩ := ParseBirths_both s hs
  have tw := TwiceAsOld_is a b
  have gp := GreatestGap_is a b
  have hb := HalfBirthday_is x on
  have dy := DayOf_is y n
  refine Big.succ ?_
  unfold laws_FnBirthdaysMeet.j12
  refine Big.bind hTW (Big.bind tw.2 (Big.bind tw.1 (Big.bind gp.2 (Big.bind gp.1 (Big.succ ?_)))))
  unfold laws_FnBirthdaysMeet.j13
  refine Big.bind hHB (Big.bind hb.2 (Big.bind hb.1 (Big.bind hDO (Big.bind dy.2 (Big.bind dy.1 (Big.bind hPD (Big.bind r4 (Big.bind r3 ?_))))))))
  refine p14 r1 (fun h => ?_) (p15 (fun h => ?_) (p17 (fun h => ?_) (p19 (fun h => r2 h) (fun h => ?_))))
  · unfold twiceF at h
    unfold gapF
    split at h
    · rename_i c
      rw [Bool.and_eq_true, Bool.and_eq_true] at c
      have c3 : ¬ ix b ≤ ix a := by
        intro e
        have := c.2
        rw [decide_eq_true e] at this
        cases this
      rw [c.1.1, c.1.2, decide_eq_false (show ¬ ix a > ix b by omega)]
      rfl
    · cases h
  · show TwiH a b (twiceF a b).1
    unfold twiceF at h ⊢
    split at h
    · rename_i c
      rw [if_pos c]
      rw [Bool.and_eq_true, Bool.and_eq_true] at c
      have c3 : ¬ ix b ≤ ix a := by
        intro e
        have := c.2
        rw [decide_eq_true e] at this
        cases this
      obtain ⟨d1, d2⟩ := dAt_ok h
      rw [d2]
      exact ⟨c.1.1, c.1.2, dat_ok d1, by omega, ix_dat _⟩
    · cases h
  · show HalH x on (halfF x on).1
    unfold halfF at h ⊢
    split at h
    · rename_i c
      rw [if_pos c]
      rw [Bool.and_eq_true, Bool.and_eq_true, decide_eq_true_iff] at c
      obtain ⟨d1, d2⟩ := dAt_ok h
      rw [d2]
      refine ⟨c.1.1, c.1.2, dat_ok d1, c.2, ?_, ?_, ?_⟩
      · rw [ix_dat]
        unfold halfN
        split <;> omega
      · rw [ix_dat]
        unfold halfN
        split <;> omega
      · rw [ix_dat]
        unfold halfN
        split <;> omega
    · cases h
  · show dOk y = true ∧ dOk (dayF y n).1 = true ∧ ix y ≤ ix (dayF y n).1 ∧ ix (dayF y n).1 - ix y = n
    unfold dayF at h ⊢
    split at h
    · rename_i c
      rw [if_pos c]
      rw [Bool.and_eq_true] at c
      obtain ⟨d1, d2⟩ := dAt_ok h
      have hn := inR_iff.mp c.2
      rw [d2, ix_dat]
      exact ⟨c.1, dat_ok d1, by omega, by omega⟩
    · cases h
theorem pl2 {x1 : List Int} (l : List (Int × Int)) (hl : l.length ≤ 8) (rows : List (List Int)) (hr : rows.length ≤ 1000) (i : Nat) (hi : i < rows.length) (day : Int) (W : List Int) (hW : W.length ≤ 8) (hm : ∀ w ∈ W, (0 ≤ w ∧ w < (l.length : Int)) ∧ (rde l w).2 = day) (c0 : Int) (hc0 : 0 ≤ c0 ∧ c0 ≤ 1000) (hN : Big (fun k => laws_FnBirthdaysMeet.l1 k x1 l (c0 + (W.length : Int)) rows (rows.length : Int) ((i + 1 : Nat) : Int)) true) (t : List Int) : ∀ (j : Nat) (c : Int), W.drop j = t → j ≤ W.length → c + (t.length : Int) = c0 + (W.length : Int) → 0 ≤ c → Big (fun k => laws_FnBirthdaysMeet.l2 k x1 l c (day :: W) rows (rows.length : Int) (i : Int) W (W.length : Int) (j : Int)) true := by
  induction t with
  | nil =>
    intro j c hd hj hc h0
    have := dropx_nil hd
    rw [List.length_nil] at hc
    refine Big.succ ?_
    unfold laws_FnBirthdaysMeet.l2
    rw [w64n (i := i) (by omega), show c = c0 + (W.length : Int) by omega]
    exact Big.neg (by omega) hN
  | cons w t ih =>
    intro j c hd hj hc h0
    obtain ⟨h1, h2, h3⟩ := rdx_cons_drop hd
    have hw := hm w (List.mem_of_mem_drop (hd ▸ List.mem_cons_self))
    rw [List.length_cons] at hc
    refine Big.succ ?_
    unfold laws_FnBirthdaysMeet.l2
    rw [h1, w64n (i := j) (by omega), w64 (i := c + 1) (by omega) (by omega)]
    exact Big.pos (by omega) (Big.pos (by omega) (Big.pos (by omega) (Big.neg (by omega) (Big.neg (by omega) (Big.pos (by omega) (Big.pos (by omega) (Big.pos (by rw [List.length_cons]; omega) (Big.pos hw.2 (ih (j + 1) (c + 1) h3 (by omega) (by omega) (by omega))))))))))
theorem pl1 {x1 : List Int} (l : List (Int × Int)) (hl : l.length ≤ 8) (rows : List (List Int)) (hr : rows.length ≤ 400) (hR : ∀ r ∈ rows, RowB l r) (hP : rows.Pairwise (fun r s => r.headD 0 < s.headD 0)) (h12 : Big (fun k => laws_FnBirthdaysMeet.j12 k x1) true) (t : List (List Int)) : ∀ (i : Nat) (c : Int), rows.drop i = t → i ≤ rows.length → c + cntR t = (l.length : Int) → 0 ≤ c → Big (fun k => laws_FnBirthdaysMeet.l1 k x1 l c rows (rows.length : Int) (i : Int)) true := by
  induction t with
  | nil =>
    intro i c hd hi hc h0
    have := dropx_nil hd
    rw [cntR] at hc
    refine Big.succ ?_
    unfold laws_FnBirthdaysMeet.l1
    exact Big.neg (by omega) (Big.pos (by omega) h12)
  | cons r t ih =>
    intro i c hd hi hc h0
    obtain ⟨h1, h2, h3⟩ := rdx_cons_drop hd
    have hmem : r ∈ rows := List.mem_of_mem_drop (hd ▸ List.mem_cons_self)
    obtain ⟨day, e1, e2, e3⟩ := hR r hmem
    have hwl := whoF_len day l 0
    have hpos : 1 ≤ (whoF day l 0).length := by
      cases hw : whoF day l 0 with
      | nil => exact absurd hw e2
      | cons x u => simp
    have hcnt : ∀ t' : List (List Int), (∀ r ∈ t', r ∈ rows) → 0 ≤ cntR t' := by
      intro t'
      induction t' with
      | nil => intro _; exact Int.le_refl _
      | cons q t' iq =>
        intro hq
        have h5 := iq (fun r hr => hq r (List.mem_cons_of_mem _ hr))
        obtain ⟨dq, q1, _, _⟩ := hR q (hq q List.mem_cons_self)
        rw [cntR, q1, List.length_cons]
        omega
    have ht0 := hcnt t (fun q hq => List.mem_of_mem_drop (hd ▸ List.mem_cons_of_mem _ hq))
    rw [cntR, e1, List.length_cons] at hc
    have hn := ih (i + 1) (c + ((whoF day l 0).length : Int)) h3 (by omega) (by omega) (by omega)
    have hrise := gRises_at (whoF day l 0) (by omega) (whoF_rise day l 0)
    have hgo : Big (fun k => laws_FnBirthdaysMeet.j11 k x1 l c (day :: whoF day l 0) rows (rows.length : Int) (i : Int) false) true := by
      refine Big.succ ?_
      unfold laws_FnBirthdaysMeet.j11
      refine Big.neg (by decide) (Big.pos (by rw [List.length_cons]; omega) ?_)
      rw [show (day :: whoF day l 0).drop 1 = whoF day l 0 from rfl]
      refine pl2 l hl rows (by omega) i h2 day (whoF day l 0) (by omega) (fun w hw => ?_) c (by omega) hn (whoF day l 0) 0 c rfl (Nat.zero_le _) rfl h0
      obtain ⟨m1, m2⟩ := whoF_mem day l 0 w hw
      refine ⟨by omega, ?_⟩
      unfold rde
      rw [Int.sub_zero] at m2
      exact m2
    refine Big.succ ?_
    unfold laws_FnBirthdaysMeet.l1
    rw [h1, e1, show (day :: whoF day l 0).drop 1 = whoF day l 0 from rfl]
    refine Big.pos (by omega) (Big.pos (by omega) (Big.pos (by omega) (Big.neg (by rw [List.length_cons]; omega) ?_)))
    by_cases h0 : i = 0
    · exact Big.neg (by omega) (Big.pos (by rw [List.length_cons]; omega) (Big.bind hrise hgo))
    · have hm1 : IntKind.i64.wrap ((i : Int) - 1) = ((i - 1 : Nat) : Int) := by rw [w64 (by omega) (by omega)]; omega
      have hlt1 : i - 1 < rows.length := by omega
      have er : rde rows ((i - 1 : Nat) : Int) = rows[i - 1] := by
        unfold rde
        rw [Int.toNat_natCast, List.getD_eq_getElem?_getD, List.getElem?_eq_getElem hlt1, Option.getD_some]
      have er2 : rows[i] = r := by
        unfold rde at h1
        rw [Int.toNat_natCast, List.getD_eq_getElem?_getD, List.getElem?_eq_getElem h2, Option.getD_some] at h1
        exact h1
      have hlt := List.pairwise_iff_getElem.1 hP (i - 1) i hlt1 h2 (by omega)
      obtain ⟨d1, f1, f2, f3⟩ := hR _ (List.getElem_mem hlt1)
      rw [er2, e1, f1] at hlt
      have hlt' : d1 < day := hlt
      rw [hm1, er, f1]
      refine Big.pos (by omega) (Big.pos (by omega) (Big.pos (by omega) (Big.pos (by rw [List.length_cons]; omega) (Big.pos (by rw [List.length_cons]; omega) (Big.neg ?_ (Big.pos (by rw [List.length_cons]; omega) (Big.bind hrise hgo)))))))
      show ¬ d1 ≥ day
      omega
theorem pl0 {x1 : List Int} (l : List (Int × Int)) (hl : l.length ≤ 8) (hb : ∀ d ∈ l, dOk d = true) (rows : List (List Int)) (hN : Big (fun k => laws_FnBirthdaysMeet.l1 k x1 l 0 rows (rows.length : Int) 0) true) (d : Nat) : ∀ i : Nat, 1 ≤ i → i + d = l.length ∨ (d = 0 ∧ l.length ≤ i) → Big (fun k => laws_FnBirthdaysMeet.l0 k x1 l (ord (bf l) l.length) rows (i : Int)) true := by
  have hlen := ord_len (bf l) l.length
  induction d with
  | zero =>
    intro i h1 hi
    refine Big.succ ?_
    unfold laws_FnBirthdaysMeet.l0
    exact Big.neg (by omega) hN
  | succ d ih =>
    intro i h1 hi
    have nx := ih (i + 1) (by omega) (by omega)
    have hm1 : IntKind.i64.wrap ((i : Int) - 1) = ((i - 1 : Nat) : Int) := by rw [w64 (by omega) (by omega)]; omega
    have hlt : i < (ord (bf l) l.length).length := by omega
    have hlt1 : i - 1 < (ord (bf l) l.length).length := by omega
    have ea : rde (ord (bf l) l.length) ((i - 1 : Nat) : Int) = (ord (bf l) l.length)[i - 1] := by
      unfold rde
      rw [Int.toNat_natCast, List.getD_eq_getElem?_getD, List.getElem?_eq_getElem hlt1, Option.getD_some]
    have eb : rde (ord (bf l) l.length) (i : Int) = (ord (bf l) l.length)[i] := by
      unfold rde
      rw [Int.toNat_natCast, List.getD_eq_getElem?_getD, List.getElem?_eq_getElem hlt, Option.getD_some]
    have hA := List.pairwise_iff_getElem.1 (ord_pair (bf l) l.length) (i - 1) i hlt1 hlt (by omega)
    have ma := ord_mem (bf l) l.length _ (List.getElem_mem hlt1)
    have mb := ord_mem (bf l) l.length _ (List.getElem_mem hlt)
    refine Big.succ ?_
    unfold laws_FnBirthdaysMeet.l0
    rw [hm1, ea, eb, w64n (by omega)]
    revert hA ma mb
    generalize (ord (bf l) l.length)[i - 1] = p
    generalize (ord (bf l) l.length)[i] = q
    intro hA ma mb
    have da := dOk_iff.mp (hb _ (rde_mem ma))
    have db := dOk_iff.mp (hb _ (rde_mem mb))
    unfold Ahd bf ix at hA
    refine Big.pos (by omega) (Big.pos (by omega) (Big.pos (by omega) (Big.pos (by omega) (Big.pos (by omega) (Big.pos (by omega) (Big.pos (by omega) (Big.pos (by omega) (Big.neg (by omega) ?_))))))))
    have fin : Big (fun k => if ((rde l p).1 == (rde l q).1 && (rde l p).2 == (rde l q).2) = true then (if p > q then (some false) else (laws_FnBirthdaysMeet.l0 k x1 l (ord (bf l) l.length) rows ((i + 1 : Nat) : Int))) else (laws_FnBirthdaysMeet.l0 k x1 l (ord (bf l) l.length) rows ((i + 1 : Nat) : Int))) true := by
      by_cases c : ((rde l p).1 == (rde l q).1 && (rde l p).2 == (rde l q).2) = true
      · refine Big.pos c (Big.neg ?_ nx)
        rw [Bool.and_eq_true, beq_iff_eq, beq_iff_eq] at c
        omega
      · exact Big.neg c nx
    by_cases c : (rde l p).1 = (rde l q).1
    · exact Big.pos c (Big.neg (by omega) fin)
    · exact Big.neg c fin
theorem p8 {x1 : List Int} (l : List (Int × Int)) (hll : l.length ≤ 60) (h12 : Big (fun k => laws_FnBirthdaysMeet.j12 k x1) true) : Big (fun k => laws_FnBirthdaysMeet.j8 k x1 l (olderF l).1 (olderF l).2 (bdF l).1 (btF l).1) true := by
  refine Big.succ ?_
  unfold laws_FnBirthdaysMeet.j8 olderF bdF btF
  cases hb : bOk l
  · rw [if_neg (by decide)]
    exact Big.neg (by decide) h12
  · rw [if_pos rfl, if_pos rfl, if_pos rfl]
    obtain ⟨h1, h2⟩ := bOk_iff.mp hb
    refine Big.pos rfl (Big.bind (parse_yes hb) (Big.succ ?_))
    unfold laws_FnBirthdaysMeet.j9
    dsimp only
    refine Big.pos (by rw [ord_len]) (Big.pos rfl (Big.bind (gDates_at l (by omega)) (Big.succ ?_)))
    unfold laws_FnBirthdaysMeet.j10
    refine Big.neg (by decide) ?_
    have hl1 := pl1 (x1 := x1) l h1.2 (bRows l 365 1) (by have := bRows_len l 365 1; omega) (fun r hr => (bRows_mem l 365 1 (by omega) r hr).1) (bRows_rise l 365 1 (by omega)) h12 (bRows l 365 1) 0 0 rfl (Nat.zero_le _) (by
      rw [bRows_cnt, inD_all 365 1 l (fun b hb => by have := dOk_iff.mp (h2 b hb); omega)]
      omega) (Int.le_refl _)
    exact pl0 l h1.2 h2 (bRows l 365 1) hl1 (l.length - 1) 1 (Nat.le_refl _) (by omega)
theorem p6 {x1 : List Int} (l : List (Int × Int)) (hll : l.length ≤ 60) (s : Int) (R : (Int × Int) × Bool) (hF : R.2 = true → FsoH l s R) (h8 : Big (fun k => laws_FnBirthdaysMeet.j8 k x1 l (olderF l).1 (olderF l).2 (bdF l).1 (btF l).1) true) : Big (fun k => laws_FnBirthdaysMeet.j6 k x1 l s R.2 (olderF l).1 (olderF l).2 (bdF l).1 (btF l).1 R.1.1 R.1.2) true := by
  refine Big.succ ?_
  unfold laws_FnBirthdaysMeet.j6
  cases hr : R.2
  · exact Big.neg (by decide) h8
  · obtain ⟨hb, ho, ha, hg, hz⟩ := hF hr
    obtain ⟨b1, b2⟩ := bOk_iff.mp hb
    have io := ix_in ho
    have hs := sumOn_at l R.1 (by omega)
    have hon : onOk l R.1 = true := onOk_iff.mpr ⟨hb, ho, (lastB_iff l _ io.1).mp ha⟩
    rw [if_pos hon] at hs
    have had := addDays_at ho (-1) (by omega)
    refine Big.pos rfl (Big.bind hs (Big.bind had (Big.pos rfl ?_)))
    dsimp only
    rw [decide_eq_false (show ¬ sumG (ix R.1) l < s by omega)]
    refine Big.succ ?_
    unfold laws_FnBirthdaysMeet.j7
    refine Big.neg (by decide) ?_
    cases hd : (dAt (ix R.1 + -1)).2
    · exact Big.neg (by decide) h8
    · obtain ⟨d1, d2⟩ := dAt_ok hd
      have hs2 := sumOn_at l (dAt (ix R.1 + -1)).1 (by omega)
      refine Big.pos rfl (Big.bind hs2 ?_)
      cases hc : onOk l (dAt (ix R.1 + -1)).1
      · rw [if_neg (by decide)]
        exact Big.neg (by decide) h8
      · rw [if_pos rfl]
        have hq := (onOk_iff.mp hc).2.2
        rw [d2, ix_dat] at hq
        have hl := (lastB_iff l _ (by omega)).mpr hq
        refine Big.pos rfl (Big.neg ?_ h8)
        rw [d2, ix_dat, show ix R.1 + -1 = ix R.1 - 1 by omega]
        dsimp only
        omega
/-- What the law asks of days alike and gaps. -/
structure AlkH (alike gap lo hi da db : Int) : Prop where
  a : 0 ≤ alike ∧ alike ≤ 365
  g : 0 ≤ gap ∧ gap ≤ 364
  d : hi - lo ≤ 1 ∧ lo ≤ hi ∧ hi ≤ 10000
  l : 0 ≤ lo
  s : lo = hi ↔ da = db
  z : 0 < alike ↔ lo = 0
  m : 0 < alike → lo ≠ hi → alike = gap ∨ alike = 365 - gap
theorem p4 {x1 x18 : List Int} {x8 x13 x30 x31 x32 xb5_0 xb5_1 xb6_0 xb6_1 xb14_0 xb14_1 : Int} {x12 : (List (Int × Int))} {x15 x19 : Bool} {x22 : List (List Int)} {x26 : List UInt8} (hA : AlkH x8 x30 x31 x32 xb5_1 xb6_1) (h6 : Big (fun k => laws_FnBirthdaysMeet.j6 k x1 x12 x13 x15 x18 x19 x22 x26 xb14_0 xb14_1) true) : Big (fun k => laws_FnBirthdaysMeet.j4 k x1 x8 x12 x13 x15 x18 x19 x22 x26 x30 x31 x32 true xb5_0 xb5_1 xb6_0 xb6_1 xb14_0 xb14_1) true := by
  obtain ⟨ha, hg, hd, hl, hs, hz, hm⟩ := hA
  refine Big.succ ?_
  unfold laws_FnBirthdaysMeet.j4
  dsimp only
  rw [w64 (i := x32 - x31) (by omega) (by omega)]
  refine Big.neg (by omega) (Big.neg (by omega) (Big.pos rfl (Big.neg (by omega) (Big.neg (by omega) (Big.neg ?_ ?_)))))
  · by_cases c : x31 = x32
    · have c2 := hs.mp c
      rw [c, c2]
      simp
    · have c2 : ¬ xb5_1 = xb6_1 := fun e => c (hs.mpr e)
      rw [beq_eq_false_iff_ne.mpr c, beq_eq_false_iff_ne.mpr c2]
      decide
  · have e : ((decide (x8 > 0)) != (x31 == 0)) = false := by
      by_cases c : x31 = 0
      · rw [decide_eq_true (hz.mpr c), c]
        rfl
      · rw [decide_eq_false (fun h => c (hz.mp h)), beq_eq_false_iff_ne.mpr c]
        rfl
    rw [e]
    refine Big.succ ?_
    unfold laws_FnBirthdaysMeet.j5
    dsimp only
    rw [w64 (i := 365 - x30) (by omega) (by omega)]
    refine Big.neg (by decide) ?_
    by_cases c : x8 > 0
    · refine Big.pos c ?_
      by_cases c2 : x31 = x32
      · exact Big.pos c2 h6
      · refine Big.neg c2 ?_
        by_cases c3 : x8 = x30
        · exact Big.pos c3 h6
        · refine Big.neg c3 (Big.pos ?_ h6)
          rcases hm c c2 with h | h
          · exact absurd h c3
          · exact h
    · exact Big.neg c h6
theorem p3 {x1 x18 : List Int} {x12 : (List (Int × Int))} {x13 xb5_0 xb5_1 xb6_0 xb6_1 xb14_0 xb14_1 : Int} {x15 x19 : Bool} {x22 : List (List Int)} {x26 : List UInt8} (ha : dOk (xb5_0, xb5_1) = true) (hb : dOk (xb6_0, xb6_1) = true) (h6 : Big (fun k => laws_FnBirthdaysMeet.j6 k x1 x12 x13 x15 x18 x19 x22 x26 xb14_0 xb14_1) true) : Big (fun k => laws_FnBirthdaysMeet.j3 k x1 (alikeN (xb5_0, xb5_1) (xb6_0, xb6_1) 365) x12 x13 x15 x18 x19 x22 x26 (if xb5_1 - xb6_1 < 0 then 0 - (xb5_1 - xb6_1) else xb5_1 - xb6_1) xb5_0 xb5_1 xb6_0 xb6_1 xb14_0 xb14_1) true := by
  have pa := dOk_iff.mp ha
  have pb := dOk_iff.mp hb
  have ia := ix_in ha
  have ib := ix_in hb
  dsimp only at pa pb
  have hin := alikeN_in (xb5_0, xb5_1) (xb6_0, xb6_1) 365
  have hg := (GreatestGap_is (xb5_0, xb5_1) (xb6_0, xb6_1)).2
  have hg2 := (GreatestGap_is (xb6_0, xb6_1) (xb5_0, xb5_1)).2
  unfold gapF at hg hg2
  rw [ha, hb] at hg hg2
  refine Big.succ ?_
  unfold laws_FnBirthdaysMeet.j3
  by_cases c : ix (xb5_0, xb5_1) > ix (xb6_0, xb6_1)
  · rw [decide_eq_true c, if_neg (by decide)] at hg
    rw [decide_eq_false (show ¬ ix (xb6_0, xb6_1) > ix (xb5_0, xb5_1) by omega), if_pos (by rfl)] at hg2
    refine Big.bind hg (Big.neg (by decide) (Big.bind hg2 ?_))
    obtain ⟨g1, g2, g3, g4, g5⟩ := alike_gap hb ha (by omega)
    rw [alikeN_swap] at g4 g5
    dsimp only at g3 g5
    refine p4 ⟨by omega, by split <;> omega, by dsimp only; omega, g1, ⟨fun h => (g3.mp h).symm, fun h => g3.mpr h.symm⟩, g4, fun h1 h2 => ?_⟩ h6
    rcases g5 h1 h2 with h | h
    · left
      rw [h]
      split <;> split <;> omega
    · right
      rw [h]
      split <;> split <;> omega
  · rw [decide_eq_false c, if_pos (by rfl)] at hg
    refine Big.bind hg (Big.pos rfl ?_)
    obtain ⟨g1, g2, g3, g4, g5⟩ := alike_gap ha hb (by omega)
    dsimp only at g3 g5
    refine p4 ⟨by omega, by split <;> omega, by dsimp only; omega, g1, g3, g4, fun h1 h2 => ?_⟩ h6
    rcases g5 h1 h2 with h | h
    · left
      rw [h]
      split <;> omega
    · right
      rw [h]
      split <;> omega
theorem p2 {x1 x18 : List Int} {x12 : (List (Int × Int))} {x13 xb5_0 xb5_1 xb6_0 xb6_1 xb14_0 xb14_1 : Int} {x15 x19 : Bool} {x22 : List (List Int)} {x26 : List UInt8} (y : Int) (h6 : Big (fun k => laws_FnBirthdaysMeet.j6 k x1 x12 x13 x15 x18 x19 x22 x26 xb14_0 xb14_1) true) : Big (fun k => laws_FnBirthdaysMeet.j2 k x1 (alikeF (xb5_0, xb5_1) (xb6_0, xb6_1) y).1 (alikeF (xb5_0, xb5_1) (xb6_0, xb6_1) y).2 x12 x13 x15 x18 x19 x22 x26 false xb5_0 xb5_1 xb6_0 xb6_1 xb14_0 xb14_1) true := by
  refine Big.succ ?_
  unfold laws_FnBirthdaysMeet.j2 alikeF
  refine Big.neg (by decide) ?_
  by_cases c : (dOk (xb5_0, xb5_1) && dOk (xb6_0, xb6_1) && inR y 0 3000 && !decide ((xb5_0, xb5_1).1 ≥ y) && !decide ((xb6_0, xb6_1).1 ≥ y)) = true
  · rw [if_pos c]
    simp only [Bool.and_eq_true] at c
    have ha := c.1.1.1.1
    have hb := c.1.1.1.2
    have pa := dOk_iff.mp ha
    have pb := dOk_iff.mp hb
    dsimp only at pa pb
    have h3 := p3 ha hb h6
    refine Big.pos rfl ?_
    rw [w64 (i := xb5_1 - xb6_1) (by omega) (by omega), w64 (i := 0 - (xb5_1 - xb6_1)) (by omega) (by omega)]
    by_cases e : xb5_1 - xb6_1 < 0
    · rw [if_pos e] at h3
      exact Big.pos e h3
    · rw [if_neg e] at h3
      exact Big.neg e h3
  · rw [if_neg c]
    exact Big.neg (by decide) h6
theorem p0 {x1 : List Int} (a b : Int × Int) (y : Int) (l : List (Int × Int)) (hll : l.length ≤ 60) (s : Int) (R : (Int × Int) × Bool) (hF : R.2 = true → FsoH l s R) (h6 : Big (fun k => laws_FnBirthdaysMeet.j6 k x1 l s R.2 (olderF l).1 (olderF l).2 (bdF l).1 (btF l).1 R.1.1 R.1.2) true) : Big (fun k => laws_FnBirthdaysMeet.j0 k x1 (alikeF a b y).1 (alikeF a b y).2 (alikeF a b y).1 (alikeF a b y).2 l s R.2 R.2 (olderF l).1 (olderF l).2 (olderF l).1 (olderF l).2 (bdF l).1 (bdF l).2 a.1 a.2 b.1 b.2 R.1.1 R.1.2 R.1.1 R.1.2) true := by
  have bd := BirthdaysOf_is l (by omega)
  have bt := BirthsText_is l (by omega)
  have h2 := p2 (xb5_0 := a.1) (xb5_1 := a.2) (xb6_0 := b.1) (xb6_1 := b.2) y h6
  refine Big.succ ?_
  unfold laws_FnBirthdaysMeet.j0
  refine Big.bind bd.1 (Big.bind bt.2 (Big.bind bt.1 (Big.succ ?_)))
  unfold laws_FnBirthdaysMeet.j1
  have ho : (olderF l).1.length ≤ 2000000 := by
    unfold olderF
    split
    · rw [ord_len]; omega
    · simp
  have hr : (bdF l).1.length ≤ 2000000 ∧ ∀ r ∈ (bdF l).1, r.length ≤ 2000000 := by
    unfold bdF
    split
    · refine ⟨by have := bRows_len l 365 1; dsimp only; omega, fun r hr => ?_⟩
      obtain ⟨_, w, e, _⟩ := bRows_mem l 365 1 (by omega) r hr
      have := whoF_len w l 0
      rw [e, List.length_cons]
      omega
    · simp
  have e1 : (olderF l).2 = bOk l := by unfold olderF; cases bOk l <;> rfl
  have e2 : (bdF l).2 = bOk l := by unfold bdF; cases bOk l <;> rfl
  have e3 : (btF l).2 = bOk l := by unfold btF; cases bOk l <;> rfl
  rw [e1] at h2
  rw [e1, e2, e3]
  refine Big.neg (neBB _) (Big.pos rfl (Big.neg (neBB _) (Big.pos (by simp) (Big.neg (neBB _) (Big.bind (gSame_at _ ho) (Big.pos rfl (Big.neg (neBB _) (Big.bind (gRows_at _ hr.1 hr.2) (Big.pos rfl (Big.neg (neBB _) (Big.neg (by simp) (Big.bind (births_at l (by omega)) (Big.neg (neBB _) (Big.bind (births_at l (by omega)) (Big.bind (sgood_at l (by omega)) (Big.neg (neBB _) (Big.neg (neBB _) (Big.neg (neBB _) ?_))))))))))))))))))
  cases hR : R.2
  · rw [hR] at h2
    exact Big.neg (by decide) h2
  · have hb := (hF hR).b
    rw [hb, hR] at h2
    rw [hb]
    exact Big.pos rfl h2
theorem top (x0 x1 : List Int) (hx0 : ∀ x ∈ x0, 0 ≤ x ∧ x ≤ 255) (hx1 : ∀ x ∈ x1, 0 ≤ x ∧ x ≤ 255) : Big (fun k => laws_FnBirthdaysMeet.f k x0 x1) true := by
  unfold laws_FnBirthdaysMeet.f laws_big.f
  by_cases c1 : (x0.length : Int) > 1048576
  · rw [if_pos c1]
    exact Big.bind (Big.some_ _) (Big.pos rfl (Big.some_ _))
  · rw [if_neg c1, w64 (i := 1048576 - (x0.length : Int)) (by omega) (by omega)]
    by_cases c2 : (x1.length : Int) > 1048576 - (x0.length : Int)
    · rw [decide_eq_true c2]
      exact Big.bind (Big.some_ _) (Big.pos rfl (Big.some_ _))
    · rw [decide_eq_false c2]
      have hc0 : Byt x0 := ⟨hx0, by omega⟩
      have hc1 : Byt x1 := ⟨hx1, by omega⟩
      obtain ⟨a, b, y, hDA⟩ := drawDA hc0
      obtain ⟨l, s, hl, hFS⟩ := drawFS hc0
      obtain ⟨R, hF, f1, f2⟩ := FirstSumOn_both l s (by omega)
      have da := DaysAlike_is a b y
      have od := OlderOf_is l (by omega)
      have bd := BirthdaysOf_is l (by omega)
      refine Big.bind (Big.some_ _) (Big.neg (by decide) (Big.bind hDA (Big.bind da.2 (Big.bind da.1 (Big.bind hFS (Big.bind f2 (Big.bind f1 (Big.bind od.2 (Big.bind od.1 (Big.bind bd.2 ?_))))))))))
      exact p0 a b y l hl s R hF (p6 l hl s R hF (p8 l hl (p12 hc1)))
end Go.Proofs.YtobblofdkpljfaaGreatDoor.Q
namespace Go.Proofs.YtobblofdkpljfaaGreatDoor.Pure
open Go.RowKit Go.Proofs.YtobblofdkpljfaaGreatDoor.Q Go Go.Proofs.YtobblofdkpljfaaGreatDoor.Eng Go.Proofs.YtobblofdkpljfaaGreatDoor Go.Proofs.YtobblofdkpljfaaGreatDoor.Y

theorem FnBirthdaysMeet (code more : List Int) (hb1 : ∀ x ∈ code, 0 ≤ x ∧ x ≤ 255) (hb2 : ∀ x ∈ more, 0 ≤ x ∧ x ≤ 255) : S.laws_FnBirthdaysMeet.f code more = some true := by
  obtain ⟨k, hk⟩ := (top code more hb1 hb2).exists_
  exact laws_FnBirthdaysMeet.f.br k code more _ hk
end Go.Proofs.YtobblofdkpljfaaGreatDoor.Pure
