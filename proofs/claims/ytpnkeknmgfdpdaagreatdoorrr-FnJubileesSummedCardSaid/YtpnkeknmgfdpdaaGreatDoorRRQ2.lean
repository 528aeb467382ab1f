/- Draws out of bytes: they always come, and what is drawn is small. Conditions: as typed. -/
import Derived.Test.YtpnkeknmgfdpdaaGreatDoorRRQ1
import Derived.Laws.BitsAllLaws
import Derived.Test.YtpnkeknmgfdpdaaGreatDoorRRR0
set_option linter.all false
namespace Go.Proofs.YtpnkeknmgfdpdaaGreatDoorRR.Q
open Go.RowKit Go Go.Proofs.YtpnkeknmgfdpdaaGreatDoorRR.Eng Go.Proofs.YtpnkeknmgfdpdaaGreatDoorRR Go.Proofs.YtpnkeknmgfdpdaaGreatDoorRR.X
set_option linter.unusedSimpArgs false
set_option linter.unusedVariables false

theorem u64w (z : Int) : 0 ≤ IntKind.u64.wrap z ∧ IntKind.u64.wrap z < 18446744073709551616 := by
  have : IntKind.u64.wrap z = z % 18446744073709551616 := rfl
  rw [this]
  omega
theorem and255 (x : Int) (h0 : 0 ≤ x) (h1 : x < 18446744073709551616) : 0 ≤ Go.bits .and .u64 x 255 ∧ Go.bits .and .u64 x 255 ≤ 255 := by
  rw [u64_and x 255 h0 h1 (by omega) (by omega)]
  have : x.toNat &&& (255 : Int).toNat ≤ 255 := Nat.and_le_right
  omega
theorem bit255 (x : Int) : 0 ≤ bitI .and .u64 x 255 ∧ bitI .and .u64 x 255 ≤ 255 := by
  have h : bitI .and .u64 x 255 = IntKind.u64.wrap ((BitVec.ofInt 64 x &&& BitVec.ofInt 64 255).toNat : Int) := rfl
  have e : (BitVec.ofInt 64 x &&& BitVec.ofInt 64 255).toNat ≤ 255 := by
    rw [BitVec.toNat_and]
    exact Nat.le_trans Nat.and_le_right (by decide)
  rw [h]
  have := u64w (((BitVec.ofInt 64 x &&& BitVec.ofInt 64 255).toNat : Int))
  have h2 : IntKind.u64.wrap ((BitVec.ofInt 64 x &&& BitVec.ofInt 64 255).toNat : Int) = ((BitVec.ofInt 64 x &&& BitVec.ofInt 64 255).toNat : Int) % 18446744073709551616 := rfl
  rw [h2]
  omega
/-- Bytes. -/
def Byt (code : List Int) : Prop := (∀ x ∈ code, 0 ≤ x ∧ x ≤ 255) ∧ code.length ≤ 1048576
theorem next_at {code : List Int} (hc : Byt code) (a s : Int) (ha : 0 ≤ a ∧ a ≤ 2000000) : ∃ v s', spec_l1Cur_next.f code a s = some (v, code, a + 1, s') ∧ 0 ≤ v ∧ v ≤ 255 := by
  have hw : IntKind.i64.wrap (a + 1) = a + 1 := w64 (by omega) (by omega)
  unfold spec_l1Cur_next.f
  rw [hw]
  have hl := hc.2
  by_cases h : a < (code.length : Int)
  · have hm : 0 ≤ rde code a ∧ rde code a ≤ 255 := by
      obtain ⟨n, rfl⟩ : ∃ n : Nat, a = (n : Int) := ⟨a.toNat, by omega⟩
      rw [rd_nat, List.getD_eq_getElem?_getD, List.getElem?_eq_getElem (show n < code.length by omega), Option.getD_some]
      exact hc.1 _ (List.getElem_mem _)
    rw [if_pos h, if_pos ha.1, if_pos (by omega)]
    refine ⟨_, _, rfl, ?_⟩
    rw [w64 (i := rde code a) (by omega) (by omega)]
    exact hm
  · rw [if_neg h, if_neg (by omega)]
    refine ⟨_, _, rfl, ?_⟩
    have h2 := bit255 (shrI .u64 (IntKind.u64.wrap (IntKind.u64.wrap (IntKind.u64.wrap (s * 6364136223846793005) + IntKind.u64.wrap 0) + 1442695040888963407)) 40)
    rw [w64 (by omega) (by omega)]
    exact h2
theorem tmod_in (x n : Int) (h0 : 0 ≤ x) (hn : 0 < n) : 0 ≤ Int.tmod x n ∧ Int.tmod x n < n := by
  rw [Int.tmod_eq_emod_of_nonneg h0]
  exact ⟨Int.emod_nonneg _ (by omega), Int.emod_lt_of_pos _ hn⟩
theorem pick_at {code : List Int} (hc : Byt code) (a s n : Int) (ha : 0 ≤ a ∧ a ≤ 1900000) (hn : 1 ≤ n) : ∃ v a' s', spec_l1Cur_pick.f code a s n = some (v, code, a', s') ∧ (0 ≤ v ∧ v < n) ∧ a ≤ a' ∧ a' ≤ a + 2 := by
  unfold spec_l1Cur_pick.f
  by_cases h1 : n ≤ 1
  · rw [if_pos h1]
    exact ⟨0, a, s, rfl, by omega, by omega, by omega⟩
  · rw [if_neg h1]
    obtain ⟨v, s1, e1, hv⟩ := next_at hc a s (by omega)
    rw [e1, Option.bind_some]
    by_cases h2 : n > 200
    · rw [if_pos h2]
      obtain ⟨v2, s2, e2, hv2⟩ := next_at hc (a + 1) s1 (by omega)
      rw [e2, Option.bind_some, if_neg (by omega)]
      refine ⟨_, _, _, rfl, ?_, by show a ≤ a + 1 + 1; omega, by show a + 1 + 1 ≤ a + 2; omega⟩
      show 0 ≤ Int.tmod (IntKind.i64.wrap (IntKind.i64.wrap (v * 256) + v2)) n ∧ _
      rw [w64 (i := v * 256) (by omega) (by omega), w64 (by omega) (by omega)]
      exact tmod_in _ _ (by omega) (by omega)
    · rw [if_neg h2, if_neg (by omega)]
      exact ⟨_, _, _, rfl, tmod_in _ _ hv.1 (by omega), by show a ≤ a + 1; omega, by show a + 1 ≤ a + 2; omega⟩
theorem one_at {code : List Int} (hc : Byt code) (a s n : Int) (ha : 0 ≤ a ∧ a ≤ 1900000) (hn : 1 ≤ n) : ∃ v a' s', spec_l1Cur_one.f code a s n = some (v, code, a', s') ∧ a ≤ a' ∧ a' ≤ a + 2 := by
  obtain ⟨v, a', s', e, _, h1, h2⟩ := pick_at hc a s n ha hn
  unfold spec_l1Cur_one.f
  rw [e]
  exact ⟨_, _, _, rfl, h1, h2⟩
theorem among_at {code : List Int} (hc : Byt code) (a s : Int) (l : List Int) (ha : 0 ≤ a ∧ a ≤ 1900000) (hn : 1 ≤ l.length) : ∃ v a' s', spec_l1Cur_among.f code a s l = some (v, code, a', s') ∧ v ∈ l ∧ a ≤ a' ∧ a' ≤ a + 2 := by
  obtain ⟨v, a', s', e, hv, h1, h2⟩ := pick_at hc a s (l.length : Int) ha (by omega)
  unfold spec_l1Cur_among.f
  rw [e, Option.bind_some, if_pos hv.1, if_pos hv.2]
  refine ⟨_, _, _, rfl, ?_, h1, h2⟩
  obtain ⟨n, rfl⟩ : ∃ n : Nat, v = (n : Int) := ⟨v.toNat, by omega⟩
  show rde l (n : Int) ∈ l
  rw [rd_nat, List.getD_eq_getElem?_getD, List.getElem?_eq_getElem (show n < l.length by omega), Option.getD_some]
  exact List.getElem_mem _
theorem jubilee_at {code : List Int} (hc : Byt code) (a s : Int) (ha : 0 ≤ a ∧ a ≤ 1900000) : ∃ v a' s', spec_l1Cur_jubilee.f code a s = some (v, code, a', s') ∧ a ≤ a' ∧ a' ≤ a + 2 := by
  obtain ⟨v, a', s', e, _, h1, h2⟩ := among_at hc a s [1, 5, 5, 10, 10, 20, 25, 50, 100, 101, 0] ha (by simp)
  unfold spec_l1Cur_jubilee.f
  rw [e]
  exact ⟨_, _, _, rfl, h1, h2⟩
theorem year_at {code : List Int} (hc : Byt code) (a s : Int) (ha : 0 ≤ a ∧ a ≤ 1800000) : ∃ v a' s', spec_l1Cur_year.f code a s = some (v, code, a', s') ∧ (-1 ≤ v ∧ v ≤ 4611686018427387904) ∧ a ≤ a' ∧ a' ≤ a + 4 := by
  obtain ⟨b, a1, s1, e1, h1, h2⟩ := one_at hc a s 10 (by omega) (by omega)
  unfold spec_l1Cur_year.f
  rw [e1, Option.bind_some]
  cases b
  · rw [if_neg (by simp)]
    obtain ⟨v, a2, s2, e2, hv, h3, h4⟩ := pick_at hc a1 s1 110 (by omega) (by omega)
    have e3 : IntKind.i64.wrap (1925 + v) = 1925 + v := w64 (by omega) (by omega)
    refine ⟨1925 + v, a2, s2, ?_, by omega, by omega, by omega⟩
    show (spec_l1Cur_pick.f code a1 s1 110).bind _ = _
    rw [e2, Option.bind_some, e3]
  · rw [if_pos rfl]
    obtain ⟨v, a2, s2, e2, hv, h3, h4⟩ := among_at hc a1 s1 [(-1), 0, 1, 2999, 3000, 3001, 4611686018427387904] (by omega) (by simp)
    refine ⟨v, a2, s2, ?_, ?_, by omega, by omega⟩
    · show (spec_l1Cur_among.f code a1 s1 [(-1), 0, 1, 2999, 3000, 3001, 4611686018427387904]).bind _ = _
      rw [e2, Option.bind_some]
    · simp only [List.mem_cons, List.mem_nil_iff, or_false] at hv
      omega
theorem span_at {code : List Int} (hc : Byt code) (a s : Int) (ha : 0 ≤ a ∧ a ≤ 1700000) : ∃ f t a' s', spec_l1Cur_span.f code a s = some (f, t, code, a', s') ∧ a ≤ a' ∧ a' ≤ a + 10 := by
  obtain ⟨f, a1, s1, e1, hf, h1, h2⟩ := year_at hc a s (by omega)
  obtain ⟨b, a2, s2, e2, h3, h4⟩ := one_at hc a1 s1 10 (by omega) (by omega)
  obtain ⟨m, hm⟩ : ∃ m, spec_l1Least.f f 5000 = some m := by
    unfold spec_l1Least.f
    split <;> exact ⟨_, rfl⟩
  unfold spec_l1Cur_span.f
  rw [e1, Option.bind_some]
  simp only [e2, Option.bind_some, hm]
  cases b
  · rw [if_neg (by simp)]
    obtain ⟨v, a3, s3, e3, hv, h5, h6⟩ := pick_at hc a2 s2 50 (by omega) (by omega)
    rw [e3]
    exact ⟨_, _, _, _, rfl, by show a ≤ a3; omega, by show a3 ≤ a + 10; omega⟩
  · rw [if_pos rfl]
    obtain ⟨v, a3, s3, e3, hv, h5, h6⟩ := among_at hc a2 s2 [(-1), 0, 199, 200, 201] (by omega) (by simp)
    rw [e3]
    exact ⟨_, _, _, _, rfl, by show a ≤ a3; omega, by show a3 ≤ a + 10; omega⟩
theorem sureBorn_l {code : List Int} (hc : Byt code) (n : Nat) : ∀ (L : List Int) (a s : Int), n ≤ 100 → L.length + n ≤ 200 → 0 ≤ a → a + 4 * (n : Int) ≤ 1800000 → ∃ L' a' s', L'.length = L.length + n ∧ a ≤ a' ∧ a' ≤ a + 4 * (n : Int) ∧ Big (fun k => spec_l1Cur_sureBorn.l0 k L (n : Int) code a s) (L', code, a', s') := by
  induction n with
  | zero =>
    intro L a s _ _ h0 _
    refine ⟨L, a, s, rfl, by omega, by omega, Big.succ ?_⟩
    unfold spec_l1Cur_sureBorn.l0
    exact Big.neg (by omega) (Big.some_ _)
  | succ n ih =>
    intro L a s hn hL h0 ha
    obtain ⟨v, a1, s1, e1, _, h1, h2⟩ := pick_at hc a s 12 (by omega) (by omega)
    obtain ⟨v2, a2, s2, e2, _, h3, h4⟩ := pick_at hc a1 s1 3 (by omega) (by omega)
    obtain ⟨L', a', s', hl, h5, h6, hB⟩ := ih (L ++ [IntKind.i64.wrap (IntKind.i64.wrap (1930 + IntKind.i64.wrap (5 * v)) + IntKind.i64.wrap (Int.tdiv v2 2))]) a2 s2 (by omega) (by rw [List.length_append, List.length_singleton]; omega) (by omega) (by omega)
    rw [List.length_append, List.length_singleton] at hl
    refine ⟨L', a', s', by omega, by omega, by omega, Big.succ ?_⟩
    unfold spec_l1Cur_sureBorn.l0
    refine Big.pos (by omega) ?_
    refine Big.bind (Big.of e1) ?_
    refine Big.bind (Big.of e2) ?_
    refine Big.pos (by omega) ?_
    rw [show IntKind.i64.wrap (((n + 1 : Nat) : Int) - 1) = (n : Int) by rw [w64 (by omega) (by omega)]; omega]
    exact hB
theorem sureBorn_at {code : List Int} (hc : Byt code) (a s n : Int) (hn : 1 ≤ n ∧ n ≤ 50) (ha : 0 ≤ a ∧ a ≤ 1500000) : ∃ L a' s', L.length ≤ 50 ∧ a ≤ a' ∧ a' ≤ a + 300 ∧ Big (fun k => spec_l1Cur_sureBorn.f k code a s n) (L, code, a', s') := by
  obtain ⟨v, a1, s1, e1, hv, h1, h2⟩ := pick_at hc a s n (by omega) (by omega)
  obtain ⟨m, hm⟩ : ∃ m : Nat, (m : Int) = 1 + v := ⟨(1 + v).toNat, by omega⟩
  obtain ⟨L', a', s', hl, h5, h6, hB⟩ := sureBorn_l hc m [] a1 s1 (by omega) (by simp; omega) (by omega) (by omega)
  rw [List.length_nil] at hl
  refine ⟨L', a', s', by omega, by omega, by omega, ?_⟩
  unfold spec_l1Cur_sureBorn.f
  refine Big.bind (Big.of e1) ?_
  rw [w64 (i := 1 + v) (by omega) (by omega), ← hm]
  exact hB
theorem born_l {code : List Int} (hc : Byt code) (n : Nat) : ∀ (L : List Int) (a s : Int), L.length + n = 11 ∨ (n = 0 ∧ 11 ≤ L.length ∧ L.length ≤ 50) → 0 ≤ a → a + 2 * (n : Int) + 2 ≤ 1800000 → ∃ L' a' s', L'.length ≤ 50 ∧ a ≤ a' ∧ a' ≤ a + 2 * (n : Int) + 2 ∧ Big (fun k => spec_l1Cur_born.l0 k L code a s) (L', code, a', s') := by
  induction n with
  | zero =>
    intro L a s hL h0 ha
    obtain ⟨v, a1, s1, e1, hv, h1, h2⟩ := pick_at hc a s 2 (by omega) (by omega)
    refine ⟨L, a1, s1, by omega, by omega, by omega, Big.succ ?_⟩
    unfold spec_l1Cur_born.l0
    refine Big.bind (Big.of e1) ?_
    rw [w64 (i := 10 + v) (by omega) (by omega)]
    exact Big.neg (by omega) (Big.some_ _)
  | succ n ih =>
    intro L a s hL h0 ha
    obtain ⟨v, a1, s1, e1, hv, h1, h2⟩ := pick_at hc a s 2 (by omega) (by omega)
    by_cases h : (L.length : Int) < 10 + v
    · obtain ⟨L', a', s', hl, h5, h6, hB⟩ := ih (L ++ [1970]) a1 s1 (by rw [List.length_append, List.length_singleton]; omega) (by omega) (by omega)
      refine ⟨L', a', s', hl, by omega, by omega, Big.succ ?_⟩
      unfold spec_l1Cur_born.l0
      refine Big.bind (Big.of e1) ?_
      rw [w64 (i := 10 + v) (by omega) (by omega)]
      exact Big.pos h (Big.pos (by omega) hB)
    · refine ⟨L, a1, s1, by omega, by omega, by omega, Big.succ ?_⟩
      unfold spec_l1Cur_born.l0
      refine Big.bind (Big.of e1) ?_
      rw [w64 (i := 10 + v) (by omega) (by omega)]
      exact Big.neg h (Big.some_ _)
theorem born_at {code : List Int} (hc : Byt code) (a s : Int) (ha : 0 ≤ a ∧ a ≤ 1000000) : ∃ L a' s', L.length ≤ 60 ∧ a ≤ a' ∧ a' ≤ a + 500 ∧ Big (fun k => spec_l1Cur_born.f k code a s) (L, code, a', s') := by
  obtain ⟨L, a1, s1, hl, h1, h2, hB⟩ := sureBorn_at hc a s 5 (by omega) (by omega)
  obtain ⟨v, a2, s2, e2, hv, h3, h4⟩ := pick_at hc a1 s1 20 (by omega) (by omega)
  by_cases c0 : v = 0
  · refine ⟨[], a2, s2, by simp, by omega, by omega, ?_⟩
    unfold spec_l1Cur_born.f
    exact Big.bind hB (Big.bind (Big.of e2) (Big.pos c0 (Big.some_ _)))
  · by_cases c1 : v = 1
    · obtain ⟨x, a3, s3, e3, _, h5, h6⟩ := among_at hc a2 s2 [(-1), 0, 2900, 2901, 4611686018427387904] (by omega) (by simp)
      refine ⟨L ++ [x], a3, s3, by rw [List.length_append, List.length_singleton]; omega, by omega, by omega, ?_⟩
      unfold spec_l1Cur_born.f
      exact Big.bind hB (Big.bind (Big.of e2) (Big.neg c0 (Big.pos c1 (Big.bind (Big.of e3) (Big.pos (by show L.length < _; omega) (Big.some_ _))))))
    · by_cases c2 : v = 2
      · have hL : L.length + (11 - L.length) = 11 ∨ (11 - L.length = 0 ∧ 11 ≤ L.length ∧ L.length ≤ 50) := by omega
        obtain ⟨L', a3, s3, hl3, h5, h6, hB3⟩ := born_l hc (11 - L.length) L a2 s2 hL (by omega) (by omega)
        refine ⟨L', a3, s3, by omega, by omega, by omega, ?_⟩
        unfold spec_l1Cur_born.f
        exact Big.bind hB (Big.bind (Big.of e2) (Big.neg c0 (Big.neg c1 (Big.pos c2 hB3))))
      · refine ⟨L, a2, s2, by omega, by omega, by omega, ?_⟩
        unfold spec_l1Cur_born.f
        exact Big.bind hB (Big.bind (Big.of e2) (Big.neg c0 (Big.neg c1 (Big.neg c2 (Big.some_ _)))))
end Go.Proofs.YtpnkeknmgfdpdaaGreatDoorRR.Q
set_option linter.all false
namespace Go.Proofs.YtpnkeknmgfdpdaaGreatDoorRR.Q
open Go.RowKit Go Go.Proofs.YtpnkeknmgfdpdaaGreatDoorRR.Eng Go.Proofs.YtpnkeknmgfdpdaaGreatDoorRR Go.Proofs.YtpnkeknmgfdpdaaGreatDoorRR.X
set_option linter.unusedSimpArgs false
set_option linter.unusedVariables false

theorem drawRS {code : List Int} (hc : Byt code) : ∃ L f t e, L.length ≤ 60 ∧ Big (fun k => spec_DrawRoundSums.f k code) (L, f, t, e) := by
  obtain ⟨f, t, a1, s1, e1, h1, h2⟩ := span_at hc 0 0 (by omega)
  obtain ⟨L, a2, s2, hl, h3, h4, hB⟩ := born_at hc a1 s1 (by omega)
  obtain ⟨e, a3, s3, e3, h5, h6⟩ := jubilee_at hc a2 s2 (by omega)
  refine ⟨L, f, t, e, hl, ?_⟩
  unfold spec_DrawRoundSums.f spec_DrawCountJubilees.f
  exact Big.bind (Big.bind (Big.of e1) (Big.bind hB (Big.bind (Big.of e3) (Big.some_ _)))) (Big.some_ _)
theorem drawSA {code : List Int} (hc : Byt code) : ∃ L y, L.length ≤ 60 ∧ Big (fun k => spec_DrawSumOfAges.f k code) (L, y) := by
  obtain ⟨L, a2, s2, hl, h3, h4, hB⟩ := born_at hc 0 0 (by omega)
  obtain ⟨y, a1, s1, e1, _, h1, h2⟩ := year_at hc a2 s2 (by omega)
  refine ⟨L, y, hl, ?_⟩
  unfold spec_DrawSumOfAges.f
  exact Big.bind hB (Big.bind (Big.of e1) (Big.some_ _))
theorem drawYS {code : List Int} (hc : Byt code) : ∃ L s, L.length ≤ 60 ∧ Big (fun k => spec_DrawYearOfSum.f k code) (L, s) := by
  obtain ⟨b, a1, s1, e1, h1, h2⟩ := one_at hc 0 0 8 (by omega) (by omega)
  obtain ⟨L, a2, s2, hl, h3, h4, hB⟩ := born_at hc a1 s1 (by omega)
  unfold spec_DrawYearOfSum.f
  cases b
  · obtain ⟨v, a3, s3, e3, hv, h5, h6⟩ := pick_at hc a2 s2 250 (by omega) (by omega)
    exact ⟨L, _, hl, Big.bind (Big.of e1) (Big.neg (by simp) (Big.bind hB (Big.bind (Big.of e3) (Big.some_ _))))⟩
  · obtain ⟨v, a3, s3, e3, hv, h5, h6⟩ := among_at hc a2 s2 [(-1), 0, 1, 1000, 1001] (by omega) (by simp)
    exact ⟨L, _, hl, Big.bind (Big.of e1) (Big.pos rfl (Big.bind hB (Big.bind (Big.of e3) (Big.some_ _))))⟩
theorem drawBE {code : List Int} (hc : Byt code) : ∃ L y m, L.length ≤ 60 ∧ Big (fun k => spec_DrawBestEvery.f k code) (L, y, m) := by
  obtain ⟨L, a2, s2, hl, h3, h4, hB⟩ := born_at hc 0 0 (by omega)
  obtain ⟨y, a1, s1, e1, _, h1, h2⟩ := year_at hc a2 s2 (by omega)
  obtain ⟨m, a3, s3, e3, _, h5, h6⟩ := among_at hc a1 s1 [2, 5, 10, 10, 25, 100, 101, 1, 0] (by omega) (by simp)
  refine ⟨L, y, m, hl, ?_⟩
  unfold spec_DrawBestEvery.f
  exact Big.bind hB (Big.bind (Big.of e1) (Big.bind (Big.of e3) (Big.some_ _)))
theorem drawDY {code : List Int} (hc : Byt code) : ∃ L a b, L.length ≤ 60 ∧ Big (fun k => spec_DrawDoubleYear.f k code) (L, a, b) := by
  obtain ⟨L, a2, s2, hl, h3, h4, hB⟩ := born_at hc 0 0 (by omega)
  have hw : IntKind.i64.wrap ((L.length : Int) + 1) = (L.length : Int) + 1 := w64 (by omega) (by omega)
  obtain ⟨u, a3, s3, e3, _, h5, h6⟩ := pick_at hc a2 s2 ((L.length : Int) + 1) (by omega) (by omega)
  obtain ⟨v, a4, s4, e4, _, h7, h8⟩ := pick_at hc a3 s3 9 (by omega) (by omega)
  obtain ⟨z, a5, s5, e5, _, h9, h10⟩ := pick_at hc a4 s4 ((L.length : Int) + 1) (by omega) (by omega)
  refine ⟨L, IntKind.i64.wrap (u - IntKind.i64.wrap (Int.tdiv v 8)), z, hl, ?_⟩
  unfold spec_DrawDoubleYear.f
  refine Big.bind hB ?_
  rw [hw]
  exact Big.bind (Big.of e3) (Big.bind (Big.of e4) (Big.bind (Big.of e5) (Big.some_ _)))
theorem drawJB {code : List Int} (hc : Byt code) : ∃ p q, p.length ≤ 60 ∧ q.length ≤ 60 ∧ Big (fun k => spec_DrawJoinBorn.f k code) (p, q) := by
  obtain ⟨L, a2, s2, hl, h3, h4, hB⟩ := born_at hc 0 0 (by omega)
  obtain ⟨M, a3, s3, hm, h5, h6, hC⟩ := born_at hc a2 s2 (by omega)
  refine ⟨L, M, hl, hm, ?_⟩
  unfold spec_DrawJoinBorn.f
  exact Big.bind hB (Big.bind hC (Big.some_ _))
theorem sureB_l {code : List Int} (hc : Byt code) (n : Nat) : ∀ (L : List Int) (a s : Int), n ≤ 100 → L.length + n ≤ 200 → 0 ≤ a → a + 4 * (n : Int) ≤ 1800000 → (∀ x ∈ L, 0 ≤ x ∧ x ≤ 2900) → ∃ L' a' s', L'.length = L.length + n ∧ (∀ x ∈ L', 0 ≤ x ∧ x ≤ 2900) ∧ a ≤ a' ∧ a' ≤ a + 4 * (n : Int) ∧ Big (fun k => spec_l1Cur_sureBorn.l0 k L (n : Int) code a s) (L', code, a', s') := by
  induction n with
  | zero =>
    intro L a s _ _ h0 _ hx
    refine ⟨L, a, s, rfl, hx, by omega, by omega, Big.succ ?_⟩
    unfold spec_l1Cur_sureBorn.l0
    exact Big.neg (by omega) (Big.some_ _)
  | succ n ih =>
    intro L a s hn hL h0 ha hx
    obtain ⟨v, a1, s1, e1, hv, h1, h2⟩ := pick_at hc a s 12 (by omega) (by omega)
    obtain ⟨v2, a2, s2, e2, hv2, h3, h4⟩ := pick_at hc a1 s1 3 (by omega) (by omega)
    have ht : 0 ≤ Int.tdiv v2 2 ∧ Int.tdiv v2 2 ≤ 1 := by
      obtain ⟨m, rfl⟩ : ∃ m : Nat, v2 = (m : Int) := ⟨v2.toNat, by omega⟩
      rw [show Int.tdiv (m : Int) 2 = ((m / 2 : Nat) : Int) from rfl]
      omega
    have hval : IntKind.i64.wrap (IntKind.i64.wrap (1930 + IntKind.i64.wrap (5 * v)) + IntKind.i64.wrap (Int.tdiv v2 2)) = 1930 + 5 * v + Int.tdiv v2 2 := by
      rw [w64 (i := 5 * v) (by omega) (by omega), w64 (i := 1930 + 5 * v) (by omega) (by omega), w64 (i := Int.tdiv v2 2) (by omega) (by omega), w64 (by omega) (by omega)]
    obtain ⟨L', a', s', hl, hx', h5, h6, hB⟩ := ih (L ++ [1930 + 5 * v + Int.tdiv v2 2]) a2 s2 (by omega) (by rw [List.length_append, List.length_singleton]; omega) (by omega) (by omega) (fun x hm => by
      rcases List.mem_append.1 hm with hm | hm
      · exact hx x hm
      · rw [List.mem_singleton] at hm
        omega)
    rw [List.length_append, List.length_singleton] at hl
    refine ⟨L', a', s', by omega, hx', by omega, by omega, Big.succ ?_⟩
    unfold spec_l1Cur_sureBorn.l0
    refine Big.pos (by omega) ?_
    refine Big.bind (Big.of e1) ?_
    refine Big.bind (Big.of e2) ?_
    refine Big.pos (by omega) ?_
    rw [show IntKind.i64.wrap (((n + 1 : Nat) : Int) - 1) = (n : Int) by rw [w64 (by omega) (by omega)]; omega]
    simp only [hval]
    exact hB
theorem sureB_at {code : List Int} (hc : Byt code) (a s n : Int) (hn : 1 ≤ n ∧ n ≤ 10) (ha : 0 ≤ a ∧ a ≤ 1500000) : ∃ L a' s', born L = true ∧ a ≤ a' ∧ a' ≤ a + 300 ∧ Big (fun k => spec_l1Cur_sureBorn.f k code a s n) (L, code, a', s') := by
  obtain ⟨v, a1, s1, e1, hv, h1, h2⟩ := pick_at hc a s n (by omega) (by omega)
  obtain ⟨m, hm⟩ : ∃ m : Nat, (m : Int) = 1 + v := ⟨(1 + v).toNat, by omega⟩
  obtain ⟨L', a', s', hl, hx, h5, h6, hB⟩ := sureB_l hc m [] a1 s1 (by omega) (by simp; omega) (by omega) (by omega) (fun x hx => by cases hx)
  rw [List.length_nil] at hl
  refine ⟨L', a', s', born_iff.mpr ⟨by omega, hx⟩, by omega, by omega, ?_⟩
  unfold spec_l1Cur_sureBorn.f
  refine Big.bind (Big.of e1) ?_
  rw [w64 (i := 1 + v) (by omega) (by omega), ← hm]
  exact hB
theorem spoilt_l {code : List Int} (hc : Byt code) (wth : List UInt8) (hw : 1 ≤ wth.length) (n : Nat) : ∀ (t : List UInt8) (a s : Int), n ≤ 100 → t.length + n ≤ 1000000 → 0 ≤ a → a + 6 * (n : Int) ≤ 1800000 → ∃ t' a' s', t'.length ≤ t.length + n ∧ a ≤ a' ∧ a' ≤ a + 6 * (n : Int) ∧ Big (fun k => spec_l1Cur_spoilt.l0 k t wth (n : Int) code a s) (t', code, a', s') := by
  induction n with
  | zero =>
    intro t a s _ _ h0 _
    refine ⟨t, a, s, by omega, by omega, by omega, Big.succ ?_⟩
    unfold spec_l1Cur_spoilt.l0
    refine Big.neg (by omega) (Big.succ ?_)
    unfold spec_l1Cur_spoilt.j0
    exact Big.neg (by decide) (Big.some_ _)
  | succ n ih =>
    intro t a s hn ht h0 ha
    by_cases hz : t.length = 0
    · refine ⟨t, a, s, by omega, by omega, by omega, Big.succ ?_⟩
      unfold spec_l1Cur_spoilt.l0
      rw [decide_eq_false (show ¬ (t.length : Int) > 0 by omega)]
      refine Big.pos (by omega) (Big.succ ?_)
      unfold spec_l1Cur_spoilt.j0
      exact Big.neg (by decide) (Big.some_ _)
    · obtain ⟨i, a1, s1, e1, hi, h1, h2⟩ := pick_at hc a s (t.length : Int) (by omega) (by omega)
      obtain ⟨c, a2, s2, e2, hcc, h3, h4⟩ := pick_at hc a1 s1 (wth.length : Int) (by omega) (by omega)
      obtain ⟨m, a3, s3, e3, hm, h5, h6⟩ := pick_at hc a2 s2 3 (by omega) (by omega)
      have hw1 : IntKind.i64.wrap (i + 1) = i + 1 := w64 (by omega) (by omega)
      have hn1 : IntKind.i64.wrap (((n + 1 : Nat) : Int) - 1) = (n : Int) := by rw [w64 (by omega) (by omega)]; omega
      have lt : (t.take i.toNat).length = i.toNat := by rw [List.length_take]; omega
      have ld : (t.drop i.toNat).length = t.length - i.toNat := List.length_drop
      have ld1 : (t.drop (i + 1).toNat).length = t.length - (i + 1).toNat := List.length_drop
      have head : ∀ {r : List UInt8 × List Int × Int × Int}, Big (fun k => spec_l1Cur_spoilt.j0 k t wth ((n + 1 : Nat) : Int) true code a s) r → Big (fun k => spec_l1Cur_spoilt.l0 k t wth ((n + 1 : Nat) : Int) code a s) r := by
        intro r hr
        refine Big.succ ?_
        unfold spec_l1Cur_spoilt.l0
        refine Big.pos (by omega) ?_
        rw [decide_eq_true (show (t.length : Int) > 0 by omega)]
        exact hr
      by_cases m0 : m = 0
      · obtain ⟨t', a', s', g1, g2, g3, g4⟩ := ih ((t.take i.toNat ++ ([((rde wth c).toNat : Int)].map fun n => UInt8.ofNat n.toNat)) ++ t.drop i.toNat) a3 s3 (by omega) (by simp; omega) (by omega) (by omega)
        refine ⟨t', a', s', by simp at g1; omega, by omega, by omega, head (Big.succ ?_)⟩
        unfold spec_l1Cur_spoilt.j0
        refine Big.pos rfl (Big.bind (Big.of e1) (Big.bind (Big.of e2) (Big.pos (by simp only; omega) (Big.pos (by simp only; omega) (Big.bind (Big.of e3) (Big.pos m0 ?_))))))
        refine Big.pos (by simp only; omega) (Big.pos (by simp only; omega) (Big.pos (by simp; omega) (Big.pos (by simp; omega) ?_)))
        rw [hn1]
        exact g4
      · by_cases m1 : m = 1
        · obtain ⟨t', a', s', g1, g2, g3, g4⟩ := ih ((t.take i.toNat ++ ([((rde wth c).toNat : Int)].map fun n => UInt8.ofNat n.toNat)) ++ t.drop (i + 1).toNat) a3 s3 (by omega) (by simp; omega) (by omega) (by omega)
          refine ⟨t', a', s', by simp at g1; omega, by omega, by omega, head (Big.succ ?_)⟩
          unfold spec_l1Cur_spoilt.j0
          refine Big.pos rfl (Big.bind (Big.of e1) (Big.bind (Big.of e2) (Big.pos (by simp only; omega) (Big.pos (by simp only; omega) (Big.bind (Big.of e3) (Big.neg m0 (Big.pos m1 ?_)))))))
          simp only [hw1, hn1]
          refine Big.pos (by omega) (Big.pos (by omega) (Big.pos (by simp; omega) (Big.pos (by omega) (Big.pos (by omega) (Big.pos (by simp; omega) ?_)))))
          exact g4
        · obtain ⟨t', a', s', g1, g2, g3, g4⟩ := ih (t.take i.toNat ++ t.drop (i + 1).toNat) a3 s3 (by omega) (by simp; omega) (by omega) (by omega)
          refine ⟨t', a', s', by simp at g1; omega, by omega, by omega, head (Big.succ ?_)⟩
          unfold spec_l1Cur_spoilt.j0
          refine Big.pos rfl (Big.bind (Big.of e1) (Big.bind (Big.of e2) (Big.pos (by simp only; omega) (Big.pos (by simp only; omega) (Big.bind (Big.of e3) (Big.neg m0 (Big.neg m1 ?_)))))))
          simp only [hw1, hn1]
          refine Big.pos (by omega) (Big.pos (by omega) (Big.pos (by omega) (Big.pos (by omega) (Big.pos (by simp; omega) ?_))))
          exact g4
theorem drawPB {code : List Int} (hc : Byt code) : ∃ s : List UInt8, s.length ≤ 1048576 ∧ Big (fun k => spec_DrawParseBorn.f k code) s := by
  obtain ⟨L, a1, s1, hb, h1, h2, hB⟩ := sureB_at hc 0 0 4 (by omega) (by omega)
  have hT := roText_at L hb
  obtain ⟨⟨hV1, hV10⟩, hV⟩ := born_iff.mp hb
  have hlen := join_len [44] 4 (L.map Go.Lib.itoa) (fun w hw => by
    obtain ⟨x, hx, rfl⟩ := List.mem_map.1 hw
    exact (num_at x (by have := hV x hx; omega)).2)
  rw [List.length_map, List.length_singleton] at hlen
  obtain ⟨b, a2, s2, e2, h3, h4⟩ := one_at hc a1 s1 3 (by omega) (by omega)
  unfold spec_DrawParseBorn.f
  cases b
  · exact ⟨_, by omega, Big.bind hB (Big.bind hT (Big.bind (Big.of e2) (Big.neg (by simp) (Big.some_ _))))⟩
  · obtain ⟨v, a3, s3, e3, hv, h5, h6⟩ := pick_at hc a2 s2 2 (by omega) (by omega)
    obtain ⟨m, hm⟩ : ∃ m : Nat, (m : Int) = 1 + v := ⟨(1 + v).toNat, by omega⟩
    obtain ⟨t', a', s', g1, g2, g3, g4⟩ := spoilt_l hc [48, 49, 50, 57, 44, 120] (by simp) m (Go.Lib.join (L.map Go.Lib.itoa) [44]) a3 s3 (by omega) (by omega) (by omega) (by omega)
    refine ⟨t', by omega, Big.bind hB (Big.bind hT (Big.bind (Big.of e2) (Big.pos rfl (Big.bind (a := (t', code, a', s')) ?_ (Big.some_ _)))))⟩
    unfold spec_l1Cur_spoilt.f
    refine Big.bind (Big.of e3) ?_
    rw [w64 (i := 1 + v) (by omega) (by omega), ← hm]
    exact g4
end Go.Proofs.YtpnkeknmgfdpdaaGreatDoorRR.Q
set_option linter.all false
namespace Go.Proofs.YtpnkeknmgfdpdaaGreatDoorRR.Q
open Go.RowKit Go Go.Proofs.YtpnkeknmgfdpdaaGreatDoorRR.Eng Go.Proofs.YtpnkeknmgfdpdaaGreatDoorRR Go.Proofs.YtpnkeknmgfdpdaaGreatDoorRR.X
set_option linter.unusedSimpArgs false
set_option linter.unusedVariables false

theorem v_is (l : List Int) (a : Int) (hl : l.length ≤ 1048576) : impl_is.f l a = some (inR a 0 ((l.length : Int) - 1)) := by
  unfold impl_is.f
  rw [w64 (by omega) (by omega), v_between, Option.bind_some]
theorem rd_mem {l : List Int} {i : Int} (h0 : 0 ≤ i) (h1 : i < (l.length : Int)) : rde l i ∈ l := by
  have h : i.toNat < l.length := by omega
  unfold rde
  rw [List.getD_eq_getElem?_getD, List.getElem?_eq_getElem h]
  exact List.getElem_mem h
/-- The first of n years from y on with a sum of at least s. -/
def yosF (l : List Int) (s : Int) : Nat → Int → Int × Bool
  | 0, _ => (0, false)
  | n + 1, y => if sumA y l ≥ s then (y, true) else yosF l s n (y + 1)
theorem sYos_l (l : List Int) (s : Int) (hf : Fit l) (n : Nat) : ∀ y : Int, 0 ≤ y → 3001 - y = (n : Int) → Big (fun k => spec_YearOfSum.l0 k l s y) (yosF l s n y) := by
  induction n with
  | zero =>
    intro y h0 hn
    refine Big.succ ?_
    simp only [spec_YearOfSum.l0, if_neg (show ¬ y ≤ 3000 by omega)]
    exact Big.some_ _
  | succ n ih =>
    intro y h0 hn
    refine Big.succ ?_
    simp only [spec_YearOfSum.l0]
    simp only [if_pos (show y ≤ 3000 by omega)]
    rw [w64 (by omega) (by omega)]
    refine Big.bind (roSum_at l y hf (by omega)) ?_
    unfold yosF
    by_cases h : sumA y l ≥ s
    · simp only [if_pos h]
      exact Big.some_ _
    · simp only [if_neg h]
      exact ih (y + 1) (by omega) (by omega)
theorem iYos_l (l : List Int) (s : Int) (hf : Fit l) (n : Nat) : ∀ y : Int, 0 ≤ y → 3001 - y = (n : Int) → Big (fun k => impl_YearOfSum.l0 k l s y) (yosF l s n y) := by
  induction n with
  | zero =>
    intro y h0 hn
    refine Big.succ ?_
    simp only [impl_YearOfSum.l0, if_neg (show ¬ y < 3001 by omega)]
    exact Big.some_ _
  | succ n ih =>
    intro y h0 hn
    refine Big.succ ?_
    simp only [impl_YearOfSum.l0]
    simp only [if_pos (show y < 3001 by omega)]
    rw [w64 (by omega) (by omega)]
    refine Big.bind (sumOfAges_at l y hf (by omega)) ?_
    unfold yosF
    by_cases h : sumA y l ≥ s
    · simp only [if_pos h]
      exact Big.some_ _
    · simp only [if_neg h]
      exact ih (y + 1) (by omega) (by omega)
/-- The best of n numbers from e on, with what is the best so far. -/
def bestF (l : List Int) (y : Int) : Nat → Int → Int → Int → Int × Int × Bool
  | 0, b, m, _ => (b, m, true)
  | n + 1, b, m, e => if ((jub l y e).length : Int) ≥ m then bestF l y n e ((jub l y e).length : Int) (e + 1) else bestF l y n b m (e + 1)
theorem sBest_l (l : List Int) (y z : Int) (hf : Fit l) (hy : 0 ≤ y ∧ y ≤ 3000) (hz : z ≤ 100) (n : Nat) : ∀ b m e : Int, 1 ≤ e → z + 1 - e = (n : Int) → Big (fun k => spec_BestEvery.l0 k l y z b m e) (bestF l y n b m e) := by
  induction n with
  | zero =>
    intro b m e h0 hn
    refine Big.succ ?_
    simp only [spec_BestEvery.l0, if_neg (show ¬ e ≤ z by omega)]
    exact Big.some_ _
  | succ n ih =>
    intro b m e h0 hn
    refine Big.succ ?_
    simp only [spec_BestEvery.l0, if_pos (show e ≤ z by omega)]
    rw [w64 (by omega) (by omega)]
    refine Big.bind (roIn_at l y e hf hy h0) ?_
    unfold bestF
    by_cases h : ((jub l y e).length : Int) ≥ m
    · simp only [if_pos h]
      exact ih _ _ (e + 1) (by omega) (by omega)
    · simp only [if_neg h]
      exact ih _ _ (e + 1) (by omega) (by omega)
theorem iBest_l (l : List Int) (y z : Int) (hf : Fit l) (hy : 0 ≤ y ∧ y ≤ 3000) (hz : z ≤ 100) (n : Nat) : ∀ b m e : Int, 1 ≤ e → z + 1 - e = (n : Int) → Big (fun k => impl_BestEvery.l0 k l y z b m e) (bestF l y n b m e) := by
  induction n with
  | zero =>
    intro b m e h0 hn
    refine Big.succ ?_
    simp only [impl_BestEvery.l0, if_neg (show ¬ e ≤ z by omega)]
    exact Big.some_ _
  | succ n ih =>
    intro b m e h0 hn
    refine Big.succ ?_
    simp only [impl_BestEvery.l0, if_pos (show e ≤ z by omega)]
    rw [w64 (by omega) (by omega)]
    refine Big.bind (jubilees_at l y e hf hy h0) ?_
    unfold bestF
    by_cases h : ((jub l y e).length : Int) ≥ m
    · simp only [if_pos h]
      exact ih _ _ (e + 1) (by omega) (by omega)
    · simp only [if_neg h]
      exact ih _ _ (e + 1) (by omega) (by omega)
/-- The greatest common divisor by remainders. -/
theorem gcd_tmod (a b : Int) (ha : 0 ≤ a) (hb : 0 < b) : (Int.gcd b (Int.tmod a b) : Int) = Int.gcd a b := by
  rw [Int.tmod_eq_emod_of_nonneg ha]
  obtain ⟨m, rfl⟩ := Int.eq_ofNat_of_zero_le ha
  obtain ⟨n, rfl⟩ := Int.eq_ofNat_of_zero_le (Int.le_of_lt hb)
  show ((Nat.gcd n (m % n) : Nat) : Int) = ((Nat.gcd m n : Nat) : Int)
  rw [Nat.gcd_comm n, ← Nat.gcd_rec, Nat.gcd_comm]
theorem tmod_lt (a b : Int) (ha : 0 ≤ a) (hb : 0 < b) : 0 ≤ Int.tmod a b ∧ Int.tmod a b < b := by
  rw [Int.tmod_eq_emod_of_nonneg ha]
  exact ⟨Int.emod_nonneg _ (by omega), Int.emod_lt_of_pos _ hb⟩
theorem divisor_l (n : Nat) : ∀ a b : Int, 0 ≤ a → a ≤ 9223372036854775807 → 0 ≤ b → b ≤ 9223372036854775807 → b.toNat < n → Big (fun k => impl_divisor.l0 k a b) (Int.gcd a b : Int) := by
  induction n with
  | zero => intro a b _ _ _ _ h; omega
  | succ n ih =>
    intro a b ha ha2 hb hb2 hn
    refine Big.succ ?_
    simp only [impl_divisor.l0]
    by_cases h : b = 0
    · subst h
      simp only [if_true]
      rw [w64 (by omega) (by omega)]
      refine Big.cast (Big.some_ _) ?_
      unfold mx2
      rw [Int.gcd_zero_right]
      split <;> omega
    · simp only [if_neg h]
      have hb3 : 0 < b := by omega
      have h2 := tmod_lt a b ha hb3
      exact Big.cast (ih b (Int.tmod a b) hb hb2 h2.1 (by omega) (by omega)) (gcd_tmod a b ha hb3)
theorem divisor_at (a b : Int) (ha : 0 ≤ a) (ha2 : a ≤ 9223372036854775807) (hb : 0 ≤ b) (hb2 : b ≤ 9223372036854775807) : Big (fun k => impl_divisor.f k a b) (Int.gcd a b : Int) := by
  unfold impl_divisor.f
  exact divisor_l (b.toNat + 1) a b ha ha2 hb hb2 (by omega)
/-- The common divisor of g and all ages; fails where somebody doesn't count. -/
def sharF (y : Int) : List Int → Int → Int × Bool
  | [], g => if g = 0 then (0, false) else (g, true)
  | b :: t, g => if inR (y - b) 0 120 = true then sharF y t (Int.gcd g (y - b) : Int) else (0, false)
theorem gcd_le120 (g a : Int) (h : 0 < a ∧ a ≤ 120 ∨ a = 0) (hg : 0 ≤ g ∧ g ≤ 120) : 0 ≤ (Int.gcd g a : Int) ∧ (Int.gcd g a : Int) ≤ 120 := by
  rcases h with h | h
  · have h1 : (Int.gcd g a : Int) ∣ a := Int.gcd_dvd_right ..
    have := Int.le_of_dvd h.1 h1
    omega
  · subst h
    rw [Int.gcd_zero_right]
    omega
theorem sShar_in (l : List Int) (y : Int) (i : Nat) (r : Int × Bool) (n : Nat) : ∀ a b : Int, 0 ≤ a → 0 ≤ b → b.toNat < n → Big (fun k => spec_SharedEvery.l0 k y (Int.gcd a b : Int) l (l.length : Int) (IntKind.i64.wrap ((i : Int) + 1))) r → Big (fun k => spec_SharedEvery.l1 k y a b l (l.length : Int) i) r := by
  induction n with
  | zero => intro a b _ _ h; omega
  | succ n ih =>
    intro a b ha hb hn hr
    refine Big.succ ?_
    simp only [spec_SharedEvery.l1]
    by_cases h : b > 0
    · simp only [if_pos h, if_neg (show ¬ b = 0 by omega)]
      have h2 := tmod_lt a b ha h
      refine ih b (Int.tmod a b) hb h2.1 (by omega) ?_
      rw [gcd_tmod a b ha h]
      exact hr
    · simp only [if_neg h]
      have : b = 0 := by omega
      subst this
      rw [Int.gcd_zero_right, Int.natAbs_of_nonneg ha] at hr
      exact hr
theorem sShar_l (l : List Int) (y : Int) (hf : Fit l) (hy : 0 ≤ y ∧ y ≤ 3000) (t : List Int) : ∀ (i : Nat) (g : Int), l.drop i = t → 0 ≤ g → g ≤ 120 → i ≤ l.length → Big (fun k => spec_SharedEvery.l0 k y g l (l.length : Int) i) (sharF y t g) := by
  induction t with
  | nil =>
    intro i g hd h0 ha hi
    have hle := drop_nil_le hd
    refine Big.succ ?_
    simp only [spec_SharedEvery.l0, if_neg (show ¬ (i : Int) < (l.length : Int) by omega)]
    unfold sharF
    exact Big.of (by split <;> rfl)
  | cons b t ih =>
    intro i g hd h0 ha hi
    obtain ⟨h1, h2, h3⟩ := rd_cons_drop hd
    have hbm : 0 ≤ b ∧ b ≤ 2900 := hf.2 b (List.mem_of_mem_drop (i := i) (by rw [hd]; exact List.mem_cons_self))
    have hl := hf.1
    refine Big.succ ?_
    simp only [spec_SharedEvery.l0]
    simp only [h1, if_pos (show (i : Int) < (l.length : Int) by omega), if_pos (show 0 ≤ (i : Int) by omega), v_roAge b y hbm hy, Option.bind_some]
    unfold sharF
    cases h4 : inR (y - b) 0 120 with
    | true =>
      rw [inR_iff] at h4
      simp only [if_true, if_neg (show ¬ y - b < 0 by omega)]
      refine sShar_in l y i _ (g.toNat + 1) (y - b) g (by omega) h0 (by omega) ?_
      rw [w64n (by omega), Int.gcd_comm]
      have := gcd_le120 g (y - b) (by omega) ⟨h0, ha⟩
      exact ih (i + 1) _ h3 this.1 this.2 (by omega)
    | false =>
      simp only [Bool.false_eq_true, if_false, if_pos (show (-1 : Int) < 0 by omega)]
      exact Big.some_ _
theorem iShar_l (l : List Int) (y : Int) (hf : Fit l) (hy : 0 ≤ y ∧ y ≤ 3000) (t : List Int) : ∀ (i : Nat) (g : Int), l.drop i = t → 0 ≤ g → g ≤ 120 → i ≤ l.length → Big (fun k => impl_SharedEvery.l0 k y g l (l.length : Int) i) (sharF y t g) := by
  induction t with
  | nil =>
    intro i g hd h0 ha hi
    have hle := drop_nil_le hd
    refine Big.succ ?_
    simp only [impl_SharedEvery.l0, if_neg (show ¬ (i : Int) < (l.length : Int) by omega)]
    unfold sharF
    refine Big.of ?_
    split
    · rename_i h
      subst h
      rfl
    · rw [decide_eq_true (by omega)]
  | cons b t ih =>
    intro i g hd h0 ha hi
    obtain ⟨h1, h2, h3⟩ := rd_cons_drop hd
    have hbm : 0 ≤ b ∧ b ≤ 2900 := hf.2 b (List.mem_of_mem_drop (i := i) (by rw [hd]; exact List.mem_cons_self))
    have hl := hf.1
    refine Big.succ ?_
    simp only [impl_SharedEvery.l0]
    simp only [h1, if_pos (show (i : Int) < (l.length : Int) by omega), if_pos (show 0 ≤ (i : Int) by omega), v_ageIn b y hbm hy, Option.bind_some]
    unfold sharF
    cases h4 : inR (y - b) 0 120 with
    | true =>
      rw [inR_iff] at h4
      simp only [if_true]
      refine Big.bind (divisor_at g (y - b) h0 (by omega) (by omega) (by omega)) ?_
      rw [w64n (by omega)]
      have := gcd_le120 g (y - b) (by omega) ⟨h0, ha⟩
      exact ih (i + 1) _ h3 this.1 this.2 (by omega)
    | false =>
      simp only [Bool.false_eq_true, if_false]
      exact Big.some_ _
/-- n years from y on that are so. -/
def yrs (p : Int → Bool) : Nat → Int → List Int
  | 0, _ => []
  | n + 1, y => (if p y then [y] else []) ++ yrs p n (y + 1)
theorem yrs_length (p : Int → Bool) (n : Nat) : ∀ y, (yrs p n y).length ≤ n := by
  induction n with
  | zero => intro y; simp [yrs]
  | succ n ih =>
    intro y
    have := ih (y + 1)
    unfold yrs
    rw [List.length_append]
    split <;> simp <;> omega
theorem sRS_l (l : List Int) (z e : Int) (hf : Fit l) (hz : z ≤ 3000) (he : 1 ≤ e) (n : Nat) : ∀ (y : Int) (acc : List Int), 0 ≤ y → z + 1 - y = (n : Int) → acc.length + n ≤ 4000 → Big (fun k => spec_RoundSums.l0 k l z e acc y) (acc ++ yrs (fun y => rnd (sumA y l) e) n y, true) := by
  induction n with
  | zero =>
    intro y acc h0 hn hl
    refine Big.succ ?_
    simp only [spec_RoundSums.l0, if_neg (show ¬ y ≤ z by omega), yrs, List.append_nil]
    exact Big.some_ _
  | succ n ih =>
    intro y acc h0 hn hl
    refine Big.succ ?_
    simp only [spec_RoundSums.l0, if_pos (show y ≤ z by omega)]
    rw [w64 (i := y + 1) (by omega) (by omega)]
    refine Big.bind (roSum_at l y hf (by omega)) ?_
    simp only [v_roRound _ e he, Option.bind_some, if_pos (show acc.length < 17592186044416 by omega)]
    unfold yrs
    cases h5 : rnd (sumA y l) e with
    | true =>
      simp only [if_true]
      rw [← List.append_assoc]
      exact ih (y + 1) (acc ++ [y]) (by omega) (by omega) (by simp; omega)
    | false =>
      simp only [Bool.false_eq_true, if_false, List.nil_append]
      exact ih (y + 1) acc (by omega) (by omega) (by omega)
theorem iRS_l (l : List Int) (z e : Int) (hf : Fit l) (hz : z ≤ 3000) (he : 1 ≤ e) (n : Nat) : ∀ (y : Int) (acc : List Int), 0 ≤ y → z + 1 - y = (n : Int) → acc.length + n ≤ 4000 → Big (fun k => impl_RoundSums.l0 k l z e acc y) (acc ++ yrs (fun y => rnd (sumA y l) e) n y, true) := by
  induction n with
  | zero =>
    intro y acc h0 hn hl
    refine Big.succ ?_
    simp only [impl_RoundSums.l0, if_neg (show ¬ y ≤ z by omega), yrs, List.append_nil]
    exact Big.some_ _
  | succ n ih =>
    intro y acc h0 hn hl
    refine Big.succ ?_
    simp only [impl_RoundSums.l0, if_pos (show y ≤ z by omega)]
    rw [w64 (i := y + 1) (by omega) (by omega)]
    refine Big.bind (sumOfAges_at l y hf (by omega)) ?_
    simp only [v_isRound _ e he, Option.bind_some, if_pos (show acc.length < 17592186044416 by omega)]
    unfold yrs
    cases h5 : rnd (sumA y l) e with
    | true =>
      simp only [if_true]
      rw [← List.append_assoc]
      exact ih (y + 1) (acc ++ [y]) (by omega) (by omega) (by simp; omega)
    | false =>
      simp only [Bool.false_eq_true, if_false, List.nil_append]
      exact ih (y + 1) acc (by omega) (by omega) (by omega)
theorem concat_at (a b : List Int) (ha : a.length ≤ 10) (hb : b.length ≤ 10) : Big (fun k => slices_Concat.f k [a, b]) (a ++ b) := by
  have e0 : rde [a, b] 0 = a := rfl
  have e1 : rde [a, b] 1 = b := rfl
  have z0 : ((0 : Nat) : Int) = 0 := rfl
  have l2 : (([a, b] : List (List Int)).length : Int) = 2 := rfl
  have w0 : IntKind.i64.wrap (0 + (a.length : Int)) = (a.length : Int) := by rw [w64 (by omega) (by omega)]; omega
  have w1 : IntKind.i64.wrap ((a.length : Int) + (b.length : Int)) = (a.length : Int) + (b.length : Int) := w64 (by omega) (by omega)
  have w2 : IntKind.i64.wrap (0 + 1) = 1 := by rw [Go.IntWalk.i64_left]; unfold wrap64; omega
  have w3 : IntKind.i64.wrap (1 + 1) = 2 := by rw [Go.IntWalk.i64_left]; unfold wrap64; omega
  have G : S.slices_Grow.f [] ((a.length : Int) + (b.length : Int)) = some [] := by
    unfold S.slices_Grow.f
    rw [if_pos ⟨by omega, by omega⟩]
  unfold slices_Concat.f
  rw [l2]
  refine Big.succ ?_
  simp only [slices_Concat.l0, l2, e0, w0, w2, if_pos (show (0 : Int) < 2 by decide), if_pos (show (0 : Int) ≤ 0 by decide), if_neg (show ¬ (a.length : Int) < 0 by omega)]
  refine Big.succ ?_
  simp only [slices_Concat.l0, l2, e1, w1, w3, if_pos (show (1 : Int) < 2 by decide), if_pos (show (0 : Int) ≤ 1 by decide), if_neg (show ¬ (a.length : Int) + (b.length : Int) < 0 by omega)]
  refine Big.succ ?_
  simp only [slices_Concat.l0, l2, if_neg (show ¬ (2 : Int) < 2 by decide), G, Option.bind_some]
  refine Big.succ ?_
  simp only [slices_Concat.l1, l2, e0, w2, if_pos (show (0 : Int) < 2 by decide), if_pos (show (0 : Int) ≤ 0 by decide), List.length_nil, Nat.zero_add, List.nil_append, if_pos (show a.length < 17592186044416 by omega)]
  refine Big.succ ?_
  simp only [slices_Concat.l1, l2, e1, w3, if_pos (show (1 : Int) < 2 by decide), if_pos (show (0 : Int) ≤ 1 by decide), if_pos (show a.length + b.length < 17592186044416 by omega)]
  refine Big.succ ?_
  simp only [slices_Concat.l1, if_neg (show ¬ (2 : Int) < 2 by decide)]
  exact Big.some_ _
theorem born_append {a b : List Int} (ha : born a = true) (hb : born b = true) : born (a ++ b) = decide (a.length + b.length ≤ 10) := by
  rw [born_iff] at ha hb
  by_cases h : a.length + b.length ≤ 10
  · rw [decide_eq_true h, born_iff]
    refine ⟨by rw [List.length_append]; omega, fun x hx => ?_⟩
    rcases List.mem_append.mp hx with h1 | h1
    · exact ha.2 x h1
    · exact hb.2 x h1
  · rw [decide_eq_false h, ← Bool.not_eq_true, born_iff, List.length_append]
    omega
end Go.Proofs.YtpnkeknmgfdpdaaGreatDoorRR.Q
set_option linter.all false
namespace Go.Proofs.YtpnkeknmgfdpdaaGreatDoorRR.Q
open Go.RowKit Go Go.Proofs.YtpnkeknmgfdpdaaGreatDoorRR.Eng Go.Proofs.YtpnkeknmgfdpdaaGreatDoorRR Go.Proofs.YtpnkeknmgfdpdaaGreatDoorRR.X
set_option linter.unusedSimpArgs false
set_option linter.unusedVariables false

theorem SumOfAges_is (l : List Int) (y : Int) (hl : l.length ≤ 1048576) : Big (fun k => spec_SumOfAges.f k l y) (if (born l && inR y 0 3000) = true then (sumA y l, true) else (0, false)) ∧ Big (fun k => impl_SumOfAges.f k l y) (if (born l && inR y 0 3000) = true then (sumA y l, true) else (0, false)) := by
  cases h1 : born l with
  | false => rw [if_neg (by simp)]; exact ⟨by unfold spec_SumOfAges.f; exact Big.bind (roYear_at l y hl) (by simp only [h1, Bool.false_and, Bool.false_eq_true, if_false]; exact Big.some_ _), by unfold impl_SumOfAges.f; simp only [v_AreBirths, h1, Option.bind_some, Bool.false_eq_true, if_false]; exact Big.some_ _⟩
  | true =>
    cases h2 : inR y 0 3000 with
    | false => rw [if_neg (by simp)]; exact ⟨by unfold spec_SumOfAges.f; exact Big.bind (roYear_at l y hl) (by simp only [h1, h2, Bool.and_false, Bool.false_eq_true, if_false]; exact Big.some_ _), by unfold impl_SumOfAges.f; simp only [v_AreBirths, v_isYear, h1, h2, Option.bind_some, Bool.false_eq_true, if_false, if_true]; exact Big.some_ _⟩
    | true =>
      have hy := inR_iff.mp h2
      have hf := fit_of_born h1
      rw [if_pos (show (true && true) = true from rfl)]
      refine ⟨?_, ?_⟩
      · unfold spec_SumOfAges.f
        refine Big.bind (roYear_at l y hl) ?_
        simp only [h1, h2, Bool.and_true, if_true]
        exact Big.bind (roSum_at l y hf hy) (Big.some_ _)
      · unfold impl_SumOfAges.f
        simp only [v_AreBirths, v_isYear, h1, h2, Option.bind_some, if_true]
        exact Big.bind (sumOfAges_at l y hf hy) (Big.some_ _)

theorem YearOfSum_is (l : List Int) (s : Int) (hl : l.length ≤ 1048576) : Big (fun k => spec_YearOfSum.f k l s) (if (born l && inR s 1 1000) = true then yosF l s 3001 0 else (0, false)) ∧ Big (fun k => impl_YearOfSum.f k l s) (if (born l && inR s 1 1000) = true then yosF l s 3001 0 else (0, false)) := by
  have n1 : Big (fun k => spec_YearOfSum.j0 k l s true) (0, false) := Big.succ (by simp only [spec_YearOfSum.j0, if_true]; exact Big.some_ _)
  have n2 : Big (fun k => impl_YearOfSum.j0 k l s true) (0, false) := Big.succ (by simp only [impl_YearOfSum.j0, if_true]; exact Big.some_ _)
  unfold spec_YearOfSum.f impl_YearOfSum.f
  simp only [v_AreBirths, v_between, v_l1In, Option.bind_some]
  cases h1 : born l with
  | false => rw [if_neg (by simp)]; exact ⟨Big.bind (roBorn_at l hl) (by simpa only [h1, Bool.false_eq_true, if_false] using n1), by simpa only [Bool.false_eq_true, if_false] using n2⟩
  | true =>
    cases h2 : inR s 1 1000 with
    | false => rw [if_neg (by simp)]; exact ⟨Big.bind (roBorn_at l hl) (by simpa only [h1, if_true, Bool.not_false] using n1), by simpa only [if_true, Bool.not_false] using n2⟩
    | true =>
      have hf := fit_of_born h1
      rw [if_pos (show (true && true) = true from rfl)]
      refine ⟨Big.bind (roBorn_at l hl) ?_, ?_⟩
      · simp only [h1, if_true, Bool.not_true]
        refine Big.succ ?_
        simp only [spec_YearOfSum.j0, Bool.false_eq_true, if_false]
        exact sYos_l l s hf 3001 0 (by omega) (by omega)
      · simp only [if_true, Bool.not_true]
        refine Big.succ ?_
        simp only [impl_YearOfSum.j0, Bool.false_eq_true, if_false]
        exact iYos_l l s hf 3001 0 (by omega) (by omega)

theorem BestEvery_is (l : List Int) (y z : Int) (hl : l.length ≤ 1048576) : Big (fun k => spec_BestEvery.f k l y z) (if (born l && inR y 0 3000 && inR z 2 100) = true then bestF l y (z - 1).toNat 0 (-1) 2 else (0, 0, false)) ∧ Big (fun k => impl_BestEvery.f k l y z) (if (born l && inR y 0 3000 && inR z 2 100) = true then bestF l y (z - 1).toNat 0 (-1) 2 else (0, 0, false)) := by
  have n1 : Big (fun k => spec_BestEvery.j0 k l y z true) (0, 0, false) := Big.succ (by simp only [spec_BestEvery.j0, if_true]; exact Big.some_ _)
  have n2 : Big (fun k => impl_BestEvery.j0 k l y z true) (0, 0, false) := Big.succ (by simp only [impl_BestEvery.j0, if_true]; exact Big.some_ _)
  unfold spec_BestEvery.f impl_BestEvery.f
  simp only [v_AreBirths, v_isYear, v_between, v_l1In, Option.bind_some]
  cases h1 : born l with
  | false => rw [if_neg (by simp)]; exact ⟨Big.bind (roYear_at l y hl) (by simpa only [h1, Bool.false_and, Bool.false_eq_true, if_false] using n1), by simpa only [Bool.false_eq_true, if_false] using n2⟩
  | true =>
    cases h2 : inR y 0 3000 with
    | false => rw [if_neg (by simp)]; exact ⟨Big.bind (roYear_at l y hl) (by simpa only [h2, Bool.and_false, Bool.false_eq_true, if_false] using n1), by simpa only [Bool.false_eq_true, if_false, if_true] using n2⟩
    | true =>
      cases h3 : inR z 2 100 with
      | false => rw [if_neg (by simp)]; exact ⟨Big.bind (roYear_at l y hl) (by simpa only [h1, h2, Bool.and_true, if_true, Bool.not_false] using n1), by simpa only [if_true, Bool.not_false] using n2⟩
      | true =>
        have hy := inR_iff.mp h2
        have hz := inR_iff.mp h3
        have hf := fit_of_born h1
        rw [if_pos (show (true && true && true) = true from rfl)]
        refine ⟨Big.bind (roYear_at l y hl) ?_, ?_⟩
        · simp only [h1, h2, Bool.and_true, if_true, Bool.not_true]
          refine Big.succ ?_
          simp only [spec_BestEvery.j0, Bool.false_eq_true, if_false]
          exact sBest_l l y z hf hy hz.2 _ 0 (-1) 2 (by omega) (by omega)
        · simp only [if_true, Bool.not_true]
          refine Big.succ ?_
          simp only [impl_BestEvery.j0, Bool.false_eq_true, if_false]
          exact iBest_l l y z hf hy hz.2 _ 0 (-1) 2 (by omega) (by omega)

theorem SharedEvery_is (l : List Int) (y : Int) (hl : l.length ≤ 1048576) : Big (fun k => spec_SharedEvery.f k l y) (if (born l && inR y 0 3000) = true then sharF y l 0 else (0, false)) ∧ Big (fun k => impl_SharedEvery.f k l y) (if (born l && inR y 0 3000) = true then sharF y l 0 else (0, false)) := by
  have n2 : Big (fun k => impl_SharedEvery.j0 k l y true) (0, false) := Big.succ (by simp only [impl_SharedEvery.j0, if_true]; exact Big.some_ _)
  unfold spec_SharedEvery.f impl_SharedEvery.f
  simp only [v_AreBirths, v_isYear, Option.bind_some]
  cases h1 : born l with
  | false => rw [if_neg (by simp)]; exact ⟨Big.bind (roYear_at l y hl) (by simp only [h1, Bool.false_and, Bool.false_eq_true, if_false]; exact Big.some_ _), by simpa only [Bool.false_eq_true, if_false] using n2⟩
  | true =>
    cases h2 : inR y 0 3000 with
    | false => rw [if_neg (by simp)]; exact ⟨Big.bind (roYear_at l y hl) (by simp only [h2, Bool.and_false, Bool.false_eq_true, if_false]; exact Big.some_ _), by simpa only [Bool.not_false, if_true] using n2⟩
    | true =>
      have hy := inR_iff.mp h2
      have hf := fit_of_born h1
      rw [if_pos (show (true && true) = true from rfl)]
      refine ⟨Big.bind (roYear_at l y hl) ?_, ?_⟩
      · simp only [h1, h2, Bool.and_true, if_true]
        exact sShar_l l y hf hy l 0 0 rfl (by omega) (by omega) (Nat.zero_le _)
      · simp only [if_true, Bool.not_true]
        refine Big.succ ?_
        simp only [impl_SharedEvery.j0, Bool.false_eq_true, if_false]
        exact iShar_l l y hf hy l 0 0 rfl (by omega) (by omega) (Nat.zero_le _)
theorem RoundSums_is (l : List Int) (f t e : Int) (hl : l.length ≤ 1048576) : Big (fun k => spec_RoundSums.f k l f t e) (if (born l && span f t && inR e 1 100) = true then (yrs (fun y => rnd (sumA y l) e) (t + 1 - f).toNat f, true) else ([], false)) ∧ Big (fun k => impl_RoundSums.f k l f t e) (if (born l && span f t && inR e 1 100) = true then (yrs (fun y => rnd (sumA y l) e) (t + 1 - f).toNat f, true) else ([], false)) := by
  have n2 : Big (fun k => impl_RoundSums.j0 k l f t e true) ([], false) := Big.succ (by simp only [impl_RoundSums.j0, if_true]; exact Big.some_ _)
  unfold spec_RoundSums.f impl_RoundSums.f
  simp only [v_AreBirths, v_isSpan, v_isEvery, Option.bind_some]
  have hA := roAll_at l f t e hl
  cases h1 : born l with
  | false => rw [if_neg (by simp)]; exact ⟨Big.bind hA (by simp only [h1, Bool.false_and, Bool.false_eq_true, if_false]; exact Big.some_ _), by simpa only [Bool.false_eq_true, if_false] using n2⟩
  | true =>
    cases h2 : span f t with
    | false => rw [if_neg (by simp)]; exact ⟨Big.bind hA (by simp only [h2, Bool.and_false, Bool.false_and, Bool.false_eq_true, if_false]; exact Big.some_ _), by simpa only [Bool.false_eq_true, if_false, if_true] using n2⟩
    | true =>
      cases h3 : inR e 1 100 with
      | false => rw [if_neg (by simp)]; exact ⟨Big.bind hA (by simp only [h3, Bool.and_false, Bool.false_eq_true, if_false]; exact Big.some_ _), by simpa only [Bool.not_false, if_true] using n2⟩
      | true =>
        have hf := fit_of_born h1
        have hs := span_iff.mp h2
        have he := (inR_iff.mp h3).1
        rw [if_pos (show (true && true && true) = true from rfl)]
        refine ⟨Big.bind hA ?_, ?_⟩
        · simp only [h1, h2, h3, Bool.and_true, if_true]
          exact sRS_l l t e hf (by omega) he _ f [] (by omega) (by omega) (by simp; omega)
        · simp only [if_true, Bool.not_true]
          refine Big.succ ?_
          simp only [impl_RoundSums.j0, Bool.false_eq_true, if_false]
          exact iRS_l l t e hf (by omega) he _ f [] (by omega) (by omega) (by simp; omega)

/-- What is known of a double year. -/
def DYP (l : List Int) (a b : Int) (R : Int × Bool) : Prop := R.2 = true → (0 ≤ a ∧ a < (l.length : Int)) ∧ (0 ≤ b ∧ b < (l.length : Int)) ∧ born l = true ∧ R.1 = 2 * rde l b - rde l a ∧ rde l b < R.1 ∧ R.1 - rde l a ≤ 120
theorem DoubleYear_both (l : List Int) (a b : Int) (hl : l.length ≤ 1048576) : ∃ R : Int × Bool, DYP l a b R ∧ Big (fun k => spec_DoubleYear.f k l a b) R ∧ Big (fun k => impl_DoubleYear.f k l a b) R := by
  have no : ∃ R : Int × Bool, DYP l a b R ∧ Big (fun k => spec_DoubleYear.j0 k l a b true) R ∧ Big (fun k => impl_DoubleYear.j0 k l a b true) R :=
    ⟨(0, false), (fun h => by cases h), Big.succ (by simp only [spec_DoubleYear.j0, if_true]; exact Big.some_ _), Big.succ (by simp only [impl_DoubleYear.j0, if_true]; exact Big.some_ _)⟩
  have hw : IntKind.i64.wrap ((l.length : Int) - 1) = (l.length : Int) - 1 := w64 (by omega) (by omega)
  have key : ∃ R : Int × Bool, DYP l a b R ∧ Big (fun k => (some (born l)).bind fun t201 => (if t201 = true then ((spec_l1In.f a 0 (IntKind.i64.wrap ((l.length : Int) - 1))).bind fun t202 => (if t202 = true then ((spec_l1In.f b 0 (IntKind.i64.wrap ((l.length : Int) - 1))).bind fun t203 => (if t203 = true then (spec_DoubleYear.j0 k l a b (a == b)) else (spec_DoubleYear.j0 k l a b true))) else (spec_DoubleYear.j0 k l a b true))) else (spec_DoubleYear.j0 k l a b true))) R ∧ Big (fun k => impl_DoubleYear.f k l a b) R := by
    unfold impl_DoubleYear.f
    simp only [v_AreBirths, v_l1In, v_is l _ hl, hw, Option.bind_some]
    cases h1 : born l with
    | false => simpa only [Bool.false_eq_true, if_false] using no
    | true =>
      simp only [if_true]
      cases h2 : inR a 0 ((l.length : Int) - 1) with
      | false => simpa only [Bool.false_eq_true, if_false] using no
      | true =>
        simp only [if_true]
        cases h3 : inR b 0 ((l.length : Int) - 1) with
        | false => simpa only [Bool.false_eq_true, if_false] using no
        | true =>
          simp only [if_true]
          cases h4 : (a == b) with
          | true => exact no
          | false =>
            have hf := fit_of_born h1
            rw [inR_iff] at h2 h3
            have ha := hf.2 _ (rd_mem h2.1 (show a < (l.length : Int) by omega))
            have hb := hf.2 _ (rd_mem h3.1 (show b < (l.length : Int) by omega))
            generalize hA : rde l a = A at ha
            generalize hB : rde l b = B at hb
            have e1 : IntKind.i64.wrap (B - A) = B - A := w64 (by omega) (by omega)
            have e2 : IntKind.i64.wrap (2 * (B - A)) = 2 * (B - A) := w64 (by omega) (by omega)
            have e3 : IntKind.i64.wrap (B + (B - A)) = B + (B - A) := w64 (by omega) (by omega)
            have e4 : IntKind.i64.wrap (2 * B) = 2 * B := w64 (by omega) (by omega)
            have e5 : IntKind.i64.wrap (2 * B - A) = 2 * B - A := w64 (by omega) (by omega)
            have g1 : (if B - A < 1 then ((0 : Int), false) else if 2 * (B - A) > 120 then (0, false) else if B + (B - A) > 3000 then (0, false) else (B + (B - A), true)) =
                (if inR (2 * B - A) 0 3000 = true then if inR (2 * B - A - A) 0 120 = true then if inR (2 * B - A - B) 0 120 = true then if 2 * B - A - B = 0 then ((0 : Int), false) else (2 * B - A, true) else (0, false) else (0, false) else (0, false)) := by
              simp only [inR_iff]
              have e : B + (B - A) = 2 * B - A := by omega
              rw [e]
              split
              · split
                · split
                  · split
                    · split
                      · rfl
                      · omega
                    · rfl
                  · rfl
                · rfl
              · split
                · split
                  · split
                    · split
                      · split
                        · rfl
                        · omega
                      · rfl
                    · rfl
                  · rfl
                · split
                  · split
                    · split
                      · split
                        · split
                          · rfl
                          · omega
                        · rfl
                      · rfl
                    · rfl
                  · rw [if_pos (by omega), if_pos (by omega), if_pos (by omega), if_neg (by omega)]
            have e6 : IntKind.i64.wrap (2 * B - A - A) = 2 * B - A - A := w64 (by omega) (by omega)
            have e7 : IntKind.i64.wrap (2 * B - A - B) = 2 * B - A - B := w64 (by omega) (by omega)
            have q1 : impl_ageIn.f A (2 * B - A) = some (2 * B - A - A, inR (2 * B - A - A) 0 120) := by
              unfold impl_ageIn.f impl_isAge.f
              rw [e6, v_between]
              rfl
            have q2 : impl_ageIn.f B (2 * B - A) = some (2 * B - A - B, inR (2 * B - A - B) 0 120) := by
              unfold impl_ageIn.f impl_isAge.f
              rw [e7, v_between]
              rfl
            refine ⟨if B - A < 1 then ((0 : Int), false) else if 2 * (B - A) > 120 then (0, false) else if B + (B - A) > 3000 then (0, false) else (B + (B - A), true), ?_, Big.succ ?_, Big.succ ?_⟩
            · unfold DYP
              intro hr
              split at hr
              · cases hr
              · split at hr
                · cases hr
                · split at hr
                  · cases hr
                  · rename_i c1 c2 c3
                    rw [if_neg c1, if_neg c2, if_neg c3]
                    simp only
                    exact ⟨⟨h2.1, by omega⟩, ⟨h3.1, by omega⟩, h1, by rw [hA, hB]; omega, by rw [hB]; omega, by rw [hA]; omega⟩
            · simp only [spec_DoubleYear.j0, Bool.false_eq_true, if_false, if_pos h3.1, if_pos h2.1, if_pos (show b < (l.length : Int) by omega), if_pos (show a < (l.length : Int) by omega), hA, hB, e1, e2, e3]
              exact Big.of (by rw [← apply_ite some, ← apply_ite some, ← apply_ite some])
            · simp only [impl_DoubleYear.j0, Bool.false_eq_true, if_false, if_pos h3.1, if_pos h2.1, if_pos (show b < (l.length : Int) by omega), if_pos (show a < (l.length : Int) by omega), hA, hB, e4, e5, q1, q2, v_isYear, Option.bind_some]
              exact Big.of (by rw [g1, ← apply_ite some, ← apply_ite some, ← apply_ite some, ← apply_ite some])
  obtain ⟨R, h0, h1, h2⟩ := key
  refine ⟨R, h0, ?_, h2⟩
  unfold spec_DoubleYear.f
  exact Big.bind (roBorn_at l hl) (by simpa only [Option.bind_some] using h1)

theorem JoinBorn_both (a b : List Int) (ha : a.length ≤ 1048576) (hb : b.length ≤ 1048576) : ∃ R : List Int × Bool, R.1.length ≤ 1048576 ∧ (R.2 = true → R.1 = a ++ b) ∧ Big (fun k => spec_JoinBorn.f k a b) R ∧ Big (fun k => impl_JoinBorn.f k a b) R := by
  unfold spec_JoinBorn.f impl_JoinBorn.f
  have no : Big (fun k => impl_JoinBorn.j0 k a b true) ([], false) := Big.succ (by simp only [impl_JoinBorn.j0, if_true]; exact Big.some_ _)
  have A := roBorn_at a ha
  have B := roBorn_at b hb
  simp only [v_AreBirths, Option.bind_some]
  cases h1 : born a
  · rw [h1] at A
    refine ⟨([], false), by simp, (fun h => by cases h), Big.bind A ?_, ?_⟩
    · simp only [Bool.false_eq_true, if_false]
      exact Big.some_ _
    · simp only [Bool.false_eq_true, if_false]
      exact no
  · rw [h1] at A
    cases h2 : born b
    · rw [h2] at B
      refine ⟨([], false), by simp, (fun h => by cases h), Big.bind A ?_, ?_⟩
      · simp only [if_true]
        refine Big.bind B ?_
        simp only [Bool.false_eq_true, if_false]
        exact Big.some_ _
      · simp only [if_true, Bool.not_false]
        exact no
    · rw [h2] at B
      have ea := born_iff.mp h1
      have eb := born_iff.mp h2
      have hw : IntKind.i64.wrap ((a.length : Int) + (b.length : Int)) = (a.length : Int) + (b.length : Int) := w64 (by omega) (by omega)
      have J := concat_at a b ea.1.2 eb.1.2
      have hj := born_append h1 h2
      have own : spec_l1Own.f a = some a := by
        unfold spec_l1Own.f
        rw [if_pos (by omega)]
      by_cases h : a.length + b.length ≤ 10
      · rw [decide_eq_true h] at hj
        refine ⟨(a ++ b, true), by simp; omega, (fun _ => rfl), Big.bind A ?_, ?_⟩
        · simp only [if_true]
          refine Big.bind B ?_
          simp only [if_true, hw, if_neg (show ¬ (a.length : Int) + (b.length : Int) > 10 by omega), own, Option.bind_some, if_pos (show a.length + b.length < 17592186044416 by omega)]
          exact Big.some_ _
        · simp only [if_true, Bool.not_true]
          refine Big.succ ?_
          simp only [impl_JoinBorn.j0, Bool.false_eq_true, if_false]
          refine Big.bind J ?_
          simp only [impl_bornOr.f, v_AreBirths, hj, Option.bind_some, if_true]
          exact Big.some_ _
      · rw [decide_eq_false h] at hj
        refine ⟨([], false), by simp, (fun h => by cases h), Big.bind A ?_, ?_⟩
        · simp only [if_true]
          refine Big.bind B ?_
          simp only [if_true, hw, if_pos (show (a.length : Int) + (b.length : Int) > 10 by omega)]
          exact Big.some_ _
        · simp only [if_true, Bool.not_true]
          refine Big.succ ?_
          simp only [impl_JoinBorn.j0, Bool.false_eq_true, if_false]
          refine Big.bind J ?_
          simp only [impl_bornOr.f, v_AreBirths, hj, Option.bind_some, Bool.false_eq_true, if_false]
          exact Big.some_ _
theorem JubileesIn_is (l : List Int) (y e : Int) (hl : l.length ≤ 1048576) : Big (fun k => impl_JubileesIn.f k l y e) (if (born l && inR y 0 3000 && inR e 1 100) = true then (jub l y e, true) else ([], false)) := by
  unfold impl_JubileesIn.f
  simp only [v_AreBirths, v_isYear, v_roEvery, v_isEvery, Option.bind_some]
  cases h1 : born l with
  | false => rw [if_neg (by simp)]; simp only [Bool.false_eq_true, if_false]; exact Big.some_ _
  | true =>
    cases h2 : inR y 0 3000 with
    | false => rw [if_neg (by simp)]; simp only [Bool.false_eq_true, if_false, if_true]; exact Big.some_ _
    | true =>
      cases h3 : inR e 1 100 with
      | false => rw [if_neg (by simp)]; simp only [Bool.false_eq_true, if_false, if_true]; exact Big.some_ _
      | true =>
        have hy := inR_iff.mp h2
        have he := (inR_iff.mp h3).1
        have hf := fit_of_born h1
        rw [if_pos (show (true && true && true) = true from rfl)]
        simp only [if_true]
        exact Big.bind (jubilees_at l y e hf hy he) (Big.some_ _)
end Go.Proofs.YtpnkeknmgfdpdaaGreatDoorRR.Q
set_option linter.all false
namespace Go.Proofs.YtpnkeknmgfdpdaaGreatDoorRR.Q
open Go.RowKit Go Go.Proofs.YtpnkeknmgfdpdaaGreatDoorRR.Eng Go.Proofs.YtpnkeknmgfdpdaaGreatDoorRR Go.Proofs.YtpnkeknmgfdpdaaGreatDoorRR.X
set_option linter.unusedSimpArgs false
set_option linter.unusedVariables false

theorem yrs_rises (p : Int → Bool) (n : Nat) : ∀ y : Int, (yrs p n y).Pairwise (· < ·) ∧ ∀ q ∈ yrs p n y, (y ≤ q ∧ q < y + (n : Int)) ∧ p q = true := by
  induction n with
  | zero => intro y; simp [yrs]
  | succ n ih =>
    intro y
    obtain ⟨h1, h2⟩ := ih (y + 1)
    unfold yrs
    split
    · rename_i hp
      rw [List.singleton_append]
      refine ⟨List.pairwise_cons.2 ⟨fun q hq => by have := (h2 q hq).1; omega, h1⟩, fun q hq => ?_⟩
      rcases List.mem_cons.1 hq with rfl | hq
      · exact ⟨by omega, hp⟩
      · have := h2 q hq
        exact ⟨by omega, this.2⟩
    · rw [List.nil_append]
      exact ⟨h1, fun q hq => by have := h2 q hq; exact ⟨by omega, this.2⟩⟩
theorem yrs_iff (p : Int → Bool) (n : Nat) : ∀ y q : Int, q ∈ yrs p n y ↔ (y ≤ q ∧ q < y + (n : Int)) ∧ p q = true := by
  induction n with
  | zero =>
    intro y q
    simp only [yrs]
    constructor
    · intro h; cases h
    · rintro ⟨h, _⟩
      omega
  | succ n ih =>
    intro y q
    have h := ih (y + 1) q
    unfold yrs
    rw [List.mem_append, h]
    constructor
    · rintro (h1 | h1)
      · split at h1
        · rename_i hp
          rw [List.mem_singleton] at h1
          subst h1
          exact ⟨by omega, hp⟩
        · cases h1
      · exact ⟨by omega, h1.2⟩
    · rintro ⟨h1, h2⟩
      rcases Int.lt_or_le y q with h3 | h3
      · exact .inr ⟨by omega, h2⟩
      · have : q = y := by omega
        subst this
        rw [if_pos h2]
        exact .inl (by simp)
theorem qSame_l (l : List Int) (hl : l.length ≤ 2000000) (d : Nat) : ∀ i : Nat, i + d = l.length → Big (fun k => laws_qSame.l0 k l l (l.length : Int) i) true := by
  induction d with
  | zero =>
    intro i hi
    refine Big.succ ?_
    unfold laws_qSame.l0
    exact Big.neg (by omega) (Big.some_ _)
  | succ d ih =>
    intro i hi
    refine Big.succ ?_
    unfold laws_qSame.l0
    rw [w64n (by omega)]
    exact Big.pos (by omega) (Big.pos (by omega) (Big.pos (by omega) (Big.pos (by omega) (Big.pos rfl (ih (i + 1) (by omega))))))
theorem qSame_at (l : List Int) (hl : l.length ≤ 2000000) : Big (fun k => laws_qSame.f k l l) true := by
  unfold laws_qSame.f
  exact Big.pos rfl (qSame_l l hl l.length 0 (by omega))
theorem qRises_l (l : List Int) (hl : l.length ≤ 2000000) (hp : l.Pairwise (· < ·)) (d : Nat) : ∀ i : Nat, 1 ≤ i → i + d = l.length ∨ (d = 0 ∧ l.length ≤ i ∧ i ≤ 1) → Big (fun k => laws_qRises.l0 k l i) true := by
  induction d with
  | zero =>
    intro i h1 hi
    refine Big.succ ?_
    unfold laws_qRises.l0
    exact Big.neg (by omega) (Big.some_ _)
  | succ d ih =>
    intro i h1 hi
    have hlt : i < l.length := by omega
    have e1 : IntKind.i64.wrap ((i : Int) - 1) = ((i - 1 : Nat) : Int) := by rw [w64 (by omega) (by omega)]; omega
    have r1 : rde l (i : Int) = l[i] := by rw [rd_nat, List.getD_eq_getElem?_getD, List.getElem?_eq_getElem hlt]; rfl
    have r2 : rde l ((i - 1 : Nat) : Int) = l[i - 1] := by rw [rd_nat, List.getD_eq_getElem?_getD, List.getElem?_eq_getElem (by omega)]; rfl
    have hlt2 : l[i - 1] < l[i] := List.pairwise_iff_getElem.1 hp (i - 1) i (by omega) hlt (by omega)
    refine Big.succ ?_
    unfold laws_qRises.l0
    rw [w64n (by omega), e1, r1, r2]
    exact Big.pos (by omega) (Big.pos (by omega) (Big.pos (by omega) (Big.pos (by omega) (Big.neg (by omega) (ih (i + 1) (by omega) (by omega))))))
theorem qRises_at (l : List Int) (hl : l.length ≤ 2000000) (hp : l.Pairwise (· < ·)) : Big (fun k => laws_qRises.f k l) true := by
  unfold laws_qRises.f
  exact qRises_l l hl hp (l.length - 1) 1 (Nat.le_refl _) (by omega)
theorem qHas_l (l : List Int) (n : Int) (hl : l.length ≤ 2000000) (t : List Int) : ∀ i : Nat, l.drop i = t → i ≤ l.length → Big (fun k => laws_qHas.l0 k n l (l.length : Int) i) (decide (n ∈ t)) := by
  induction t with
  | nil =>
    intro i hd hi
    rw [List.drop_eq_nil_iff] at hd
    refine Big.succ ?_
    unfold laws_qHas.l0
    refine Big.neg (by omega) ?_
    rw [show decide (n ∈ ([] : List Int)) = false by simp]
    exact Big.some_ _
  | cons x t ih =>
    intro i hd hi
    obtain ⟨h1, h2, h3⟩ := rd_cons_drop hd
    refine Big.succ ?_
    unfold laws_qHas.l0
    rw [h1, w64n (by omega)]
    refine Big.pos (by omega) (Big.pos (by omega) (Big.pos (by omega) ?_))
    by_cases hx : x = n
    · subst hx
      refine Big.pos rfl ?_
      rw [show decide (x ∈ x :: t) = true by simp]
      exact Big.some_ _
    · refine Big.neg hx ?_
      rw [show decide (n ∈ x :: t) = decide (n ∈ t) by simp [Ne.symm hx]]
      exact ih (i + 1) h3 (by omega)
theorem qHas_at (l : List Int) (n : Int) (hl : l.length ≤ 2000000) : Big (fun k => laws_qHas.f k l n) (decide (n ∈ l)) :=
  qHas_l l n hl l 0 rfl (Nat.zero_le _)
theorem jubIn {l : List Int} {y e : Int} (hl : l.length ≤ 1048576) (hb : born l = true) (hy : 0 ≤ y ∧ y ≤ 3000) (he : inR e 1 100 = true) : Big (fun k => impl_JubileesIn.f k l y e) (jub l y e, true) := by
  have h := JubileesIn_is l y e hl
  rw [if_pos (by rw [hb, inR_iff.mpr hy, he]; rfl)] at h
  exact h

/-! ### the calendar's part -/

/-- The first year with a sum. -/
theorem yos_prop (l : List Int) (s : Int) (n : Nat) : ∀ y : Int, (yosF l s n y).2 = true → (y ≤ (yosF l s n y).1 ∧ (yosF l s n y).1 < y + (n : Int)) ∧ sumA (yosF l s n y).1 l ≥ s ∧ ∀ z, y ≤ z → z < (yosF l s n y).1 → sumA z l < s := by
  induction n with
  | zero => intro y h; cases h
  | succ n ih =>
    intro y h
    unfold yosF at h ⊢
    by_cases c : sumA y l ≥ s
    · rw [if_pos c]
      exact ⟨⟨Int.le_refl _, by simp only; omega⟩, c, fun z h1 h2 => by simp only at h2; omega⟩
    · rw [if_neg c] at h ⊢
      obtain ⟨h1, h2, h3⟩ := ih (y + 1) h
      refine ⟨by omega, h2, fun z h4 h5 => ?_⟩
      rcases Int.lt_or_le y z with h6 | h6
      · exact h3 z (by omega) h5
      · rw [show z = y by omega]; omega
/-- The best number of years. -/
theorem best_prop (l : List Int) (y : Int) (n : Nat) : ∀ b m e : Int, ∃ B M, bestF l y n b m e = (B, M, true) ∧ m ≤ M ∧ ((B = b ∧ M = m) ∨ (e ≤ B ∧ B < e + (n : Int) ∧ ((jub l y B).length : Int) = M)) ∧
    ∀ q, e ≤ q → q < e + (n : Int) → ((jub l y q).length : Int) ≤ M ∧ (((jub l y q).length : Int) = M → q ≤ B ∧ e ≤ B) := by
  induction n with
  | zero => intro b m e; exact ⟨b, m, rfl, Int.le_refl _, .inl ⟨rfl, rfl⟩, fun q h1 h2 => by omega⟩
  | succ n ih =>
    intro b m e
    unfold bestF
    by_cases c : ((jub l y e).length : Int) ≥ m
    · rw [if_pos c]
      obtain ⟨B, M, h1, h2, h3, h4⟩ := ih e ((jub l y e).length : Int) (e + 1)
      refine ⟨B, M, h1, by omega, ?_, fun q k1 k2 => ?_⟩
      · rcases h3 with ⟨rfl, rfl⟩ | h3
        · exact .inr ⟨Int.le_refl _, by omega, rfl⟩
        · exact .inr ⟨by omega, by omega, h3.2.2⟩
      · rcases Int.lt_or_le e q with h6 | h6
        · have := h4 q (by omega) (by omega)
          exact ⟨this.1, fun k => by have := this.2 k; omega⟩
        · have : q = e := by omega
          subst this
          refine ⟨h2, fun k => ?_⟩
          rcases h3 with ⟨rfl, rfl⟩ | h3
          · omega
          · omega
    · rw [if_neg c]
      obtain ⟨B, M, h1, h2, h3, h4⟩ := ih b m (e + 1)
      refine ⟨B, M, h1, h2, ?_, fun q k1 k2 => ?_⟩
      · rcases h3 with h3 | h3
        · exact .inl h3
        · exact .inr ⟨by omega, by omega, h3.2.2⟩
      · rcases Int.lt_or_le e q with h6 | h6
        · have := h4 q (by omega) (by omega)
          exact ⟨this.1, fun k => by have := this.2 k; omega⟩
        · have : q = e := by omega
          subst this
          exact ⟨by omega, fun k => by omega⟩
theorem best_of (l : List Int) (y z : Int) (hz : 2 ≤ z) : ∃ B M, bestF l y (z - 1).toNat 0 (-1) 2 = (B, M, true) ∧ (2 ≤ B ∧ B ≤ z) ∧ ((jub l y B).length : Int) = M ∧ ∀ q, 2 ≤ q → q ≤ z → ((jub l y q).length : Int) ≤ M ∧ (((jub l y q).length : Int) = M → q ≤ B) := by
  obtain ⟨B, M, h1, h2, h3, h4⟩ := best_prop l y (z - 1).toNat 0 (-1) 2
  have h5 := (h4 2 (Int.le_refl _) (by omega)).1
  rcases h3 with ⟨_, h3⟩ | h3
  · omega
  · exact ⟨B, M, h1, by omega, h3.2.2, fun q k1 k2 => ⟨(h4 q k1 (by omega)).1, fun k => ((h4 q k1 (by omega)).2 k).1⟩⟩

/-- All ages count. -/
def allA (y : Int) (l : List Int) : Bool := l.all fun b => inR (y - b) 0 120
theorem shar_all (y : Int) (l : List Int) : ∀ g : Int, 0 ≤ g → (sharF y l g).2 = (allA y l && decide (0 < sumA y l + g)) ∧ ((sharF y l g).2 = true → 1 ≤ (sharF y l g).1 ∧ (sharF y l g).1 ∣ g ∧ ∀ b ∈ l, (sharF y l g).1 ∣ y - b) := by
  induction l with
  | nil =>
    intro g hg
    unfold sharF allA sumA
    by_cases h : g = 0
    · subst h
      simp
    · rw [if_neg h]
      refine ⟨by simp; omega, fun _ => ⟨by simp only; omega, Int.dvd_refl _, fun b hb => by cases hb⟩⟩
  | cons b t ih =>
    intro g hg
    unfold sharF
    by_cases h : inR (y - b) 0 120 = true
    · rw [if_pos h]
      have hb := inR_iff.mp h
      obtain ⟨h1, h2⟩ := ih (Int.gcd g (y - b) : Int) (Int.natCast_nonneg _)
      have hd1 : ((Int.gcd g (y - b) : Int)) ∣ g := Int.gcd_dvd_left ..
      have hd2 : ((Int.gcd g (y - b) : Int)) ∣ (y - b) := Int.gcd_dvd_right ..
      refine ⟨?_, fun hr => ?_⟩
      · rw [h1]
        have ha : allA y (b :: t) = allA y t := by unfold allA; rw [List.all_cons, h, Bool.true_and]
        have hs : sumA y (b :: t) = (y - b) + sumA y t := by rw [sumA, h, if_pos rfl]
        rw [ha, hs]
        congr 1
        have hn := (sumA_le y t).1
        have hz : (0 : Int) < (Int.gcd g (y - b) : Int) ↔ 0 < g + (y - b) := by
          constructor
          · intro hp
            rcases Int.lt_or_le 0 (g + (y - b)) with h5 | h5
            · exact h5
            · have e1 : g = 0 := by omega
              have e2 : y - b = 0 := by omega
              rw [e1, e2] at hp
              simp at hp
          · intro hp
            rcases Int.lt_or_le 0 (Int.gcd g (y - b) : Int) with h5 | h5
            · exact h5
            · have e0 : Int.gcd g (y - b) = 0 := by omega
              rw [Int.gcd_eq_zero_iff] at e0
              omega
        by_cases k : 0 < sumA y t + (Int.gcd g (y - b) : Int)
        · rw [decide_eq_true k, decide_eq_true (show 0 < y - b + sumA y t + g by
            rcases Int.lt_or_le 0 (Int.gcd g (y - b) : Int) with h5 | h5
            · have := hz.mp h5
              omega
            · omega)]
        · rw [decide_eq_false k, decide_eq_false (by
            intro h6
            have h7 : ¬ (0 : Int) < (Int.gcd g (y - b) : Int) := by omega
            rw [hz] at h7
            omega)]
      · obtain ⟨k1, k2, k3⟩ := h2 hr
        refine ⟨k1, Int.dvd_trans k2 hd1, fun c hc => ?_⟩
        rcases List.mem_cons.1 hc with rfl | hc
        · exact Int.dvd_trans k2 hd2
        · exact k3 c hc
    · rw [if_neg h]
      refine ⟨?_, fun hr => by cases hr⟩
      have ha : allA y (b :: t) = false := by
        unfold allA
        rw [List.all_cons]
        cases hq : inR (y - b) 0 120
        · rfl
        · exact absurd hq h
      rw [ha, Bool.false_and]
theorem shar_of (y : Int) (l : List Int) : (sharF y l 0).2 = (allA y l && decide (0 < sumA y l)) ∧ ((sharF y l 0).2 = true → 1 ≤ (sharF y l 0).1 ∧ ∀ b ∈ l, (sharF y l 0).1 ∣ y - b) := by
  obtain ⟨h1, h2⟩ := shar_all y l 0 (Int.le_refl _)
  rw [Int.add_zero] at h1
  exact ⟨h1, fun h => ⟨(h2 h).1, (h2 h).2.2⟩⟩
theorem dvd_sum (g y : Int) (l : List Int) (h : ∀ b ∈ l, g ∣ y - b) : g ∣ sumA y l := by
  induction l with
  | nil => exact Int.dvd_zero _
  | cons b t ih =>
    rw [sumA]
    refine Int.dvd_add ?_ (ih fun c hc => h c (List.mem_cons_of_mem _ hc))
    split
    · exact h b List.mem_cons_self
    · exact Int.dvd_zero _
theorem tmod_dvd {a g : Int} (h : g ∣ a) : Int.tmod a g = 0 := Int.tmod_eq_zero_of_dvd h
/-- How many were born in a year. -/
def zeroN (y : Int) : List Int → Int
  | [] => 0
  | b :: t => (if b = y then 1 else 0) + zeroN y t
theorem zeroN_le (y : Int) (l : List Int) : 0 ≤ zeroN y l ∧ zeroN y l ≤ (l.length : Int) := by
  induction l with
  | nil => simp [zeroN]
  | cons b t ih =>
    rw [zeroN, List.length_cons]
    split <;> omega
theorem jub_zero (y g : Int) (l : List Int) (ha : allA y l = true) (h : ∀ b ∈ l, g ∣ y - b) : ∀ i, ((jubF y g i l).length : Int) + zeroN y l = (l.length : Int) := by
  induction l with
  | nil => intro i; simp [jubF, zeroN]
  | cons b t ih =>
    intro i
    unfold allA at ha
    rw [List.all_cons, Bool.and_eq_true] at ha
    have hb := inR_iff.mp ha.1
    have h2 := ih ha.2 (fun c hc => h c (List.mem_cons_of_mem _ hc)) (i + 1)
    have hd := tmod_dvd (h b List.mem_cons_self)
    rw [zeroN, List.length_cons]
    unfold jubF
    rw [List.length_append, ha.1, Bool.true_and]
    unfold rnd
    rw [hd]
    by_cases hz : b = y
    · rw [if_pos hz, decide_eq_false (show ¬ 0 < y - b by omega)]
      simp
      omega
    · rw [if_neg hz, decide_eq_true (show 0 < y - b by omega)]
      simp
      omega
end Go.Proofs.YtpnkeknmgfdpdaaGreatDoorRR.Q
set_option linter.all false
namespace Go.Proofs.YtpnkeknmgfdpdaaGreatDoorRR.Q
open Go.RowKit Go Go.Proofs.YtpnkeknmgfdpdaaGreatDoorRR.Eng Go.Proofs.YtpnkeknmgfdpdaaGreatDoorRR Go.Proofs.YtpnkeknmgfdpdaaGreatDoorRR.X
set_option linter.unusedSimpArgs false
set_option linter.unusedVariables false

def txt (l : List Int) : List UInt8 := Go.Lib.join (l.map Go.Lib.itoa) [44]
theorem readTail {x58 : List UInt8} {x59 : List Int} {x60 : Bool} (hR : x60 = true → born x59 = true ∧ x58 = txt x59) : Big (fun k => if x60 = true then ((impl_BornText.f k x59).bind fun y1 => (if y1.2 = true then (some (y1.1 == x58)) else (some false))) else (some true)) true := by
  cases x60
  · exact Big.neg (by decide) (Big.some_ _)
  · obtain ⟨h1, h2⟩ := hR rfl
    have hl := (born_iff.mp h1).1
    have hb := (BornText_is x59 (by omega)).2
    rw [if_pos h1] at hb
    refine Big.pos rfl (Big.bind hb (Big.pos rfl ?_))
    rw [h2]
    exact Big.of (by simp [txt])
theorem p17 {x58 : List UInt8} {x59 : List Int} {x60 : Bool} (hR : x60 = true → born x59 = true ∧ x58 = txt x59) : Big (fun k => laws_FnJubileesSummed.j17 k x58 x59 x60 false) true := by
  refine Big.succ ?_
  unfold laws_FnJubileesSummed.j17
  exact Big.neg (by decide) (readTail hR)
theorem p16 {x16 x59 : List Int} {x54 x58 : List UInt8} {x55 x60 : Bool} (hR : x60 = true → born x59 = true ∧ x58 = txt x59) (hT : x55 = true → born x16 = true ∧ x54 = txt x16) : Big (fun k => laws_FnJubileesSummed.j16 k x16 x54 x55 x58 x59 x60 false) true := by
  refine Big.succ ?_
  unfold laws_FnJubileesSummed.j16
  refine Big.neg (by decide) ?_
  cases x55
  · exact Big.neg (by decide) (readTail hR)
  · obtain ⟨h1, h2⟩ := hT rfl
    subst h2
    have hl := (born_iff.mp h1).1
    exact Big.pos rfl (Big.bind (parse_yes h1) (Big.pos rfl (Big.bind (qSame_at x16 (by omega)) (p17 hR))))
theorem p15 {x16 x48 x49 x50 x59 : List Int} {x51 x55 x60 : Bool} {x54 x58 : List UInt8} (hl8 : x48.length ≤ 60) (hl9 : x49.length ≤ 60) (hJ : x51 = true → x50 = x48 ++ x49) (h16 : Big (fun k => laws_FnJubileesSummed.j16 k x16 x54 x55 x58 x59 x60 false) true) : Big (fun k => laws_FnJubileesSummed.j15 k x16 x48 x49 x50 x51 x54 x55 x58 x59 x60 false) true := by
  refine Big.succ ?_
  unfold laws_FnJubileesSummed.j15
  dsimp only
  refine Big.neg (by decide) ?_
  cases x51
  · exact Big.neg (by decide) h16
  · have hj := hJ rfl
    subst hj
    have e1 : (x48 ++ x49).take (x48.length : Int).toNat = x48 := by rw [Int.toNat_natCast]; exact List.take_left
    have e2 : (x48 ++ x49).drop (x48.length : Int).toNat = x49 := by rw [Int.toNat_natCast]; exact List.drop_left
    rw [e1, e2, w64 (i := (x48.length : Int) + (x49.length : Int)) (by omega) (by omega)]
    exact Big.pos rfl (Big.pos (by rw [List.length_append]; omega) (Big.pos (by omega) (Big.pos (by rw [List.length_append]; omega) (Big.bind (qSame_at x48 (by omega)) (Big.pos rfl (Big.bind (qSame_at x49 (by omega)) h16))))))
theorem p14 {x16 x41 x48 x49 x50 x59 : List Int} {x42 x43 x44 : Int} {x45 x51 x55 x60 : Bool} {x54 x58 : List UInt8} (hD : DYP x41 x42 x43 (x44, x45)) (h15 : Big (fun k => laws_FnJubileesSummed.j15 k x16 x48 x49 x50 x51 x54 x55 x58 x59 x60 false) true) : Big (fun k => laws_FnJubileesSummed.j14 k x16 x41 x42 x43 x44 x45 x48 x49 x50 x51 x54 x55 x58 x59 x60) true := by
  refine Big.succ ?_
  unfold laws_FnJubileesSummed.j14
  dsimp only
  cases x45
  · exact Big.neg (by decide) h15
  · obtain ⟨h1, h2, hb, h3, h4, h5⟩ := hD rfl
    simp only at h3 h4 h5
    have hf := fit_of_born hb
    have hA := hf.2 _ (rd_mem h1.1 h1.2)
    have hB := hf.2 _ (rd_mem h2.1 h2.2)
    rw [w64 (i := x44 - rde x41 x42) (by omega) (by omega), w64 (i := x44 - rde x41 x43) (by omega) (by omega), w64 (i := 2 * (x44 - rde x41 x43)) (by omega) (by omega)]
    refine Big.pos rfl (Big.pos h1.1 (Big.pos h1.2 (Big.pos h2.1 (Big.pos h2.2 (Big.pos (by omega) (Big.neg (by omega) ?_))))))
    rw [decide_eq_false (show ¬ x44 - rde x41 x42 > 120 by omega)]
    exact h15
structure BestH (w : List Int) (at_ most best many : Int) : Prop where
  b : born w = true
  y : 0 ≤ at_ ∧ at_ ≤ 3000
  m : 2 ≤ most ∧ most ≤ 100
  r : 2 ≤ best ∧ best ≤ most
  n : ((jub w at_ best).length : Int) = many
  a : ∀ q, 2 ≤ q → q ≤ most → ((jub w at_ q).length : Int) ≤ many ∧ (((jub w at_ q).length : Int) = many → q ≤ best)
theorem p4 {x16 x32 x41 x48 x49 x50 x59 : List Int} {x33 x34 x35 x36 x42 x43 x44 : Int} {x45 x51 x55 x60 : Bool} {x54 x58 : List UInt8} (hB : BestH x32 x33 x34 x35 x36) (h14 : Big (fun k => laws_FnJubileesSummed.j14 k x16 x41 x42 x43 x44 x45 x48 x49 x50 x51 x54 x55 x58 x59 x60) true) (d : Nat) : ∀ q : Int, 2 ≤ q → q + (d : Int) = x34 + 1 → Big (fun k => laws_FnJubileesSummed.l4 k x16 x32 x33 x34 x35 x36 x41 x42 x43 x44 x45 x48 x49 x50 x51 x54 x55 x58 x59 x60 q) true := by
  obtain ⟨hb, hy, hm, hr, hn, ha⟩ := hB
  have hl := (born_iff.mp hb).1
  induction d with
  | zero =>
    intro q h1 h2
    refine Big.succ ?_
    unfold laws_FnJubileesSummed.l4
    exact Big.neg (by omega) (Big.neg (by omega) (Big.neg (by omega) h14))
  | succ d ih =>
    intro q h1 h2
    have nx := ih (q + 1) (by omega) (by omega)
    have hq := ha q h1 (by omega)
    refine Big.succ ?_
    unfold laws_FnJubileesSummed.l4
    refine Big.pos (by omega) ?_
    refine Big.bind (jubIn (by omega) hb hy (inR_iff.mpr ⟨by omega, by omega⟩)) ?_
    refine Big.succ ?_
    unfold laws_FnJubileesSummed.j13
    rw [w64 (i := q + 1) (by omega) (by omega)]
    refine Big.pos rfl (Big.neg (by simp only; omega) ?_)
    by_cases c : ((jub x32 x33 q).length : Int) = x36
    · have hle := hq.2 c
      refine Big.pos c (Big.neg (by omega) ?_)
      by_cases e : q = x35
      · exact Big.pos e nx
      · exact Big.neg e nx
    · refine Big.neg c ?_
      have e : ¬ q = x35 := fun e => c (by rw [e]; exact hn)
      exact Big.neg e nx
theorem p12 {x16 x32 x41 x48 x49 x50 x59 : List Int} {x33 x34 x35 x36 x42 x43 x44 : Int} {x37 x45 x51 x55 x60 : Bool} {x54 x58 : List UInt8} (hB : x37 = true → BestH x32 x33 x34 x35 x36) (h14 : Big (fun k => laws_FnJubileesSummed.j14 k x16 x41 x42 x43 x44 x45 x48 x49 x50 x51 x54 x55 x58 x59 x60) true) : Big (fun k => laws_FnJubileesSummed.j12 k x16 x32 x33 x34 x35 x36 x37 x41 x42 x43 x44 x45 x48 x49 x50 x51 x54 x55 x58 x59 x60) true := by
  refine Big.succ ?_
  unfold laws_FnJubileesSummed.j12
  cases x37
  · exact Big.neg (by decide) h14
  · have h := hB rfl
    have hm := h.m
    exact Big.pos rfl (p4 h h14 (x34 - 1).toNat 2 (Int.le_refl _) (by omega))
theorem sumIn {l : List Int} {y : Int} (hl : l.length ≤ 1048576) (hb : born l = true) (hy : 0 ≤ y ∧ y ≤ 3000) : Big (fun k => impl_SumOfAges.f k l y) (sumA y l, true) := by
  have h := (SumOfAges_is l y hl).2
  rw [if_pos (by rw [hb, Bool.true_and]; exact inR_iff.mpr hy)] at h
  exact h
structure YosH (v : List Int) (goal first : Int) : Prop where
  b : born v = true
  y : 0 ≤ first ∧ first ≤ 3000
  g : sumA first v ≥ goal
  z : ∀ z, 0 ≤ z → z < first → sumA z v < goal
theorem p10 {x16 x26 x32 x41 x48 x49 x50 x59 : List Int} {x27 x28 x33 x34 x35 x36 x42 x43 x44 : Int} {x29 x37 x45 x51 x55 x60 : Bool} {x54 x58 : List UInt8} (hY : x29 = true → YosH x26 x27 x28) (h12 : Big (fun k => laws_FnJubileesSummed.j12 k x16 x32 x33 x34 x35 x36 x37 x41 x42 x43 x44 x45 x48 x49 x50 x51 x54 x55 x58 x59 x60) true) : Big (fun k => laws_FnJubileesSummed.j10 k x16 x26 x27 x28 x29 x32 x33 x34 x35 x36 x37 x41 x42 x43 x44 x45 x48 x49 x50 x51 x54 x55 x58 x59 x60) true := by
  refine Big.succ ?_
  unfold laws_FnJubileesSummed.j10
  cases x29
  · exact Big.neg (by decide) h12
  · obtain ⟨hb, hy, hg, hz⟩ := hY rfl
    have hl := (born_iff.mp hb).1
    refine Big.pos rfl (Big.bind (sumIn (by omega) hb hy) (Big.pos rfl ?_))
    rw [decide_eq_false (show ¬ (sumA x28 x26, true).1 < x27 by simp only; omega)]
    refine Big.succ ?_
    unfold laws_FnJubileesSummed.j11
    dsimp only
    refine Big.neg (by decide) ?_
    by_cases c : x28 > 0
    · refine Big.pos c ?_
      rw [w64 (i := x28 - 1) (by omega) (by omega)]
      have := hz (x28 - 1) (by omega) (by omega)
      exact Big.bind (sumIn (by omega) hb (by omega)) (Big.pos rfl (Big.neg (by simp only; omega) h12))
    · exact Big.neg c h12
/-- What is known of the shared number. -/
structure ShaH (u : List Int) (year sum shared : Int) : Prop where
  b : born u = true
  y : 0 ≤ year ∧ year ≤ 3000
  s : sum = sumA year u
  a : allA year u = true
  n : 1 ≤ shared
  d : ∀ b ∈ u, shared ∣ year - b
theorem p3 {x17 x27 x28 x33 x34 x35 x36 x42 x43 x44 : Int} {x26 x32 x41 x48 x49 x50 x59 x16 : List Int} {x29 x37 x45 x51 x55 x60 : Bool} {x54 x58 : List UInt8} {g : Int} (hS : ShaH x16 x17 (sumA x17 x16) g) (h10 : Big (fun k => laws_FnJubileesSummed.j10 k x16 x26 x27 x28 x29 x32 x33 x34 x35 x36 x37 x41 x42 x43 x44 x45 x48 x49 x50 x51 x54 x55 x58 x59 x60) true) (t : List Int) : ∀ (i : Nat) (c : Int), x16.drop i = t → i ≤ x16.length → c + zeroN x17 t = zeroN x17 x16 → 0 ≤ c → Big (fun k => laws_FnJubileesSummed.l3 k x17 x26 x27 x28 x29 x32 x33 x34 x35 x36 x37 x41 x42 x43 x44 x45 x48 x49 x50 x51 x54 x55 x58 x59 x60 (jub x16 x17 g) true c x16 (x16.length : Int) (i : Int)) true := by
  obtain ⟨hb, hy, _, ha, hn, hd⟩ := hS
  have hl := (born_iff.mp hb).1
  have hz := zeroN_le x17 x16
  have hj := jub_zero x17 g x16 ha hd 0
  induction t with
  | nil =>
    intro i c h1 h2 h3 h4
    have hle := drop_nil_le h1
    rw [zeroN] at h3
    refine Big.succ ?_
    unfold laws_FnJubileesSummed.l3
    refine Big.neg (by omega) (Big.succ ?_)
    unfold laws_FnJubileesSummed.j9
    dsimp only
    have hjl : (jub x16 x17 g).length ≤ x16.length := jub_length x16 x17 g
    rw [w64 (by omega) (by omega)]
    refine Big.pos rfl (Big.pos ?_ h10)
    have : ((jub x16 x17 g).length : Int) + zeroN x17 x16 = (x16.length : Int) := hj
    omega
  | cons b t ih =>
    intro i c h1 h2 h3 h4
    obtain ⟨k1, k2, k3⟩ := rd_cons_drop h1
    have hzt := zeroN_le x17 t
    rw [zeroN] at h3
    refine Big.succ ?_
    unfold laws_FnJubileesSummed.l3
    rw [k1, w64n (by omega)]
    refine Big.pos (by omega) (Big.pos (by omega) (Big.pos (by omega) ?_))
    by_cases e : b = x17
    · rw [if_pos e] at h3
      rw [w64 (i := c + 1) (by omega) (by omega)]
      exact Big.pos e (ih (i + 1) (c + 1) k3 (by omega) (by omega) (by omega))
    · rw [if_neg e] at h3
      exact Big.neg e (ih (i + 1) c k3 (by omega) (by omega) (by omega))
theorem p2 {x17 x22 x27 x28 x33 x34 x35 x36 x42 x43 x44 : Int} {x26 x32 x41 x48 x49 x50 x59 x16 : List Int} {x29 x37 x45 x51 x55 x60 : Bool} {x54 x58 : List UInt8} (hS : ShaH x16 x17 (sumA x17 x16) x22) (h10 : Big (fun k => laws_FnJubileesSummed.j10 k x16 x26 x27 x28 x29 x32 x33 x34 x35 x36 x37 x41 x42 x43 x44 x45 x48 x49 x50 x51 x54 x55 x58 x59 x60) true) (t : List Int) : ∀ i : Nat, x16.drop i = t → i ≤ x16.length → Big (fun k => laws_FnJubileesSummed.l2 k x17 x22 x26 x27 x28 x29 x32 x33 x34 x35 x36 x37 x41 x42 x43 x44 x45 x48 x49 x50 x51 x54 x55 x58 x59 x60 x16 (x16.length : Int) (i : Int)) true := by
  have hS' := hS
  obtain ⟨hb, hy, _, ha, hn, hd⟩ := hS
  have hl := (born_iff.mp hb).1
  have hf := fit_of_born hb
  induction t with
  | nil =>
    intro i h1 h2
    have hle := drop_nil_le h1
    refine Big.succ ?_
    unfold laws_FnJubileesSummed.l2
    refine Big.neg (by omega) ?_
    by_cases c : x22 ≤ 100
    · refine Big.pos c ?_
      refine Big.bind (jubIn (by omega) hb hy (inR_iff.mpr ⟨hn, c⟩)) ?_
      exact p3 hS' h10 x16 0 0 rfl (Nat.zero_le _) (by omega) (Int.le_refl _)
    · exact Big.neg c h10
  | cons b t ih =>
    intro i h1 h2
    obtain ⟨k1, k2, k3⟩ := rd_cons_drop h1
    have hm : b ∈ x16 := List.mem_of_mem_drop (i := i) (by rw [h1]; exact List.mem_cons_self)
    have hbb := hf.2 b hm
    refine Big.succ ?_
    unfold laws_FnJubileesSummed.l2
    rw [k1, w64n (by omega), w64 (i := x17 - b) (by omega) (by omega)]
    exact Big.pos (by omega) (Big.pos (by omega) (Big.pos (by omega) (Big.neg (by omega) (Big.pos (tmod_dvd (hd b hm)) (ih (i + 1) k3 (by omega))))))
theorem p7 {x16 x26 x32 x41 x48 x49 x50 x59 : List Int} {x17 x18 x22 x27 x28 x33 x34 x35 x36 x42 x43 x44 : Int} {x23 x29 x37 x45 x51 x55 x60 : Bool} {x54 x58 : List UInt8} (hS : x23 = true → ShaH x16 x17 x18 x22) (h10 : Big (fun k => laws_FnJubileesSummed.j10 k x16 x26 x27 x28 x29 x32 x33 x34 x35 x36 x37 x41 x42 x43 x44 x45 x48 x49 x50 x51 x54 x55 x58 x59 x60) true) : Big (fun k => laws_FnJubileesSummed.j7 k x16 x17 x18 x22 x23 x26 x27 x28 x29 x32 x33 x34 x35 x36 x37 x41 x42 x43 x44 x45 x48 x49 x50 x51 x54 x55 x58 x59 x60) true := by
  refine Big.succ ?_
  unfold laws_FnJubileesSummed.j7
  dsimp only
  cases x23
  · exact Big.neg (by decide) h10
  · have h := hS rfl
    obtain ⟨hb, hy, hs, ha, hn, hd⟩ := h
    subst hs
    rw [tmod_dvd (dvd_sum x22 x17 x16 hd)]
    refine Big.pos rfl (Big.neg (by omega) (Big.neg (by omega) (Big.succ ?_)))
    unfold laws_FnJubileesSummed.j8
    exact Big.neg (by decide) (p2 ⟨hb, hy, rfl, ha, hn, hd⟩ h10 x16 0 rfl (Nat.zero_le _))
theorem p1 {x17 x18 x22 x27 x28 x33 x34 x35 x36 x42 x43 x44 : Int} {x23 x29 x37 x45 x51 x55 x60 : Bool} {x26 x32 x41 x48 x49 x50 x59 x16 : List Int} {x54 x58 : List UInt8} (hb : born x16 = true) (hy : 0 ≤ x17 ∧ x17 ≤ 3000) (h18 : x18 = sumA x17 x16) (h23 : x23 = (allA x17 x16 && decide (0 < sumA x17 x16))) (h7 : Big (fun k => laws_FnJubileesSummed.j7 k x16 x17 x18 x22 x23 x26 x27 x28 x29 x32 x33 x34 x35 x36 x37 x41 x42 x43 x44 x45 x48 x49 x50 x51 x54 x55 x58 x59 x60) true) (t : List Int) : ∀ (i : Nat) (n : Int) (al : Bool), x16.drop i = t → i ≤ x16.length → n + sumA x17 t = sumA x17 x16 → 0 ≤ n → (al && allA x17 t) = allA x17 x16 → Big (fun k => laws_FnJubileesSummed.l1 k x17 x18 x22 x23 x26 x27 x28 x29 x32 x33 x34 x35 x36 x37 x41 x42 x43 x44 x45 x48 x49 x50 x51 x54 x55 x58 x59 x60 n al x16 (x16.length : Int) (i : Int)) true := by
  have hl := (born_iff.mp hb).1
  have hf := fit_of_born hb
  have hsl := sumA_le x17 x16
  induction t with
  | nil =>
    intro i n al h1 h2 h3 h4 h5
    have hle := drop_nil_le h1
    rw [sumA] at h3
    have h5' : al = allA x17 x16 := by rw [← h5]; simp [allA]
    refine Big.succ ?_
    unfold laws_FnJubileesSummed.l1
    refine Big.neg (by omega) (Big.pos (by omega) ?_)
    cases al
    · have : x23 = false := by rw [h23, ← h5', Bool.false_and]
      rw [this] at h7 ⊢
      exact Big.neg (by decide) (Big.neg (by decide) h7)
    · have : x23 = decide (x18 > 0) := by rw [h23, ← h5', Bool.true_and, h18]
      refine Big.pos rfl (Big.neg ?_ h7)
      rw [this]
      simp
  | cons b t ih =>
    intro i n al h1 h2 h3 h4 h5
    obtain ⟨k1, k2, k3⟩ := rd_cons_drop h1
    have hm : b ∈ x16 := List.mem_of_mem_drop (i := i) (by rw [h1]; exact List.mem_cons_self)
    have hbb := hf.2 b hm
    have hst := sumA_le x17 t
    rw [sumA] at h3
    have hal : allA x17 (b :: t) = (inR (x17 - b) 0 120 && allA x17 t) := by unfold allA; rw [List.all_cons]
    rw [hal] at h5
    refine Big.succ ?_
    unfold laws_FnJubileesSummed.l1
    rw [k1, w64n (by omega), w64 (i := x17 - b) (by omega) (by omega)]
    refine Big.pos (by omega) (Big.pos (by omega) (Big.pos (by omega) ?_))
    by_cases c1 : x17 - b ≥ 0
    · refine Big.pos c1 ?_
      by_cases c2 : x17 - b ≤ 120
      · have hi : inR (x17 - b) 0 120 = true := inR_iff.mpr ⟨c1, c2⟩
        rw [hi, if_pos rfl] at h3
        rw [hi, Bool.true_and] at h5
        rw [w64 (i := n + (x17 - b)) (by omega) (by omega)]
        exact Big.pos c2 (ih (i + 1) (n + (x17 - b)) al k3 (by omega) (by omega) (by omega) h5)
      · have hi : inR (x17 - b) 0 120 = false := inR_not.mpr (by omega)
        rw [hi, if_neg (by decide)] at h3
        rw [hi, Bool.false_and, Bool.and_false] at h5
        exact Big.neg c2 (ih (i + 1) n false k3 (by omega) (by omega) (by omega) (by rw [Bool.false_and]; exact h5))
    · have hi : inR (x17 - b) 0 120 = false := inR_not.mpr (by omega)
      rw [hi, if_neg (by decide)] at h3
      rw [hi, Bool.false_and, Bool.and_false] at h5
      exact Big.neg c1 (ih (i + 1) n false k3 (by omega) (by omega) (by omega) (by rw [Bool.false_and]; exact h5))
/-- What is known of the sum and the shared number. -/
structure SumH (u : List Int) (year sum : Int) (one : Bool) (shared : Int) (three : Bool) : Prop where
  o : one = (born u && inR year 0 3000)
  s : one = true → sum = sumA year u
  t : three = (one && (allA year u && decide (0 < sumA year u)))
  d : three = true → 1 ≤ shared ∧ ∀ b ∈ u, shared ∣ year - b
theorem p6 {x16 x26 x32 x41 x48 x49 x50 x59 : List Int} {x17 x18 x22 x27 x28 x33 x34 x35 x36 x42 x43 x44 : Int} {x19 x23 x29 x37 x45 x51 x55 x60 : Bool} {x54 x58 : List UInt8} (hH : SumH x16 x17 x18 x19 x22 x23) (h10 : Big (fun k => laws_FnJubileesSummed.j10 k x16 x26 x27 x28 x29 x32 x33 x34 x35 x36 x37 x41 x42 x43 x44 x45 x48 x49 x50 x51 x54 x55 x58 x59 x60) true) : Big (fun k => laws_FnJubileesSummed.j6 k x16 x17 x18 x19 x22 x23 x26 x27 x28 x29 x32 x33 x34 x35 x36 x37 x41 x42 x43 x44 x45 x48 x49 x50 x51 x54 x55 x58 x59 x60 false) true := by
  obtain ⟨ho, hs, ht, hd⟩ := hH
  have hS : x23 = true → ShaH x16 x17 x18 x22 := by
    intro h
    rw [h] at ht
    have ht' := ht.symm
    simp only [Bool.and_eq_true, decide_eq_true_eq] at ht'
    have ho' := ho.symm.trans ht'.1
    simp only [Bool.and_eq_true] at ho'
    obtain ⟨k1, k2⟩ := hd h
    exact ⟨ho'.1, inR_iff.mp ho'.2, hs ht'.1, ht'.2.1, k1, k2⟩
  have h7 : Big (fun k => laws_FnJubileesSummed.j7 k x16 x17 x18 x22 x23 x26 x27 x28 x29 x32 x33 x34 x35 x36 x37 x41 x42 x43 x44 x45 x48 x49 x50 x51 x54 x55 x58 x59 x60) true := p7 hS h10
  refine Big.succ ?_
  unfold laws_FnJubileesSummed.j6
  refine Big.neg (by decide) ?_
  cases x19
  · exact Big.neg (by decide) h7
  · have ho' := ho.symm
    simp only [Bool.and_eq_true] at ho'
    rw [Bool.true_and] at ht
    exact Big.pos rfl (p1 ho'.1 (inR_iff.mp ho'.2) (hs rfl) ht h7 x16 0 0 true rfl (Nat.zero_le _) (by omega) (Int.le_refl _) (by rw [Bool.true_and]))
theorem p5 {x16 x26 x32 x41 x48 x49 x50 x59 : List Int} {x17 x18 x22 x27 x28 x33 x34 x35 x36 x42 x43 x44 : Int} {x19 x23 x29 x37 x45 x51 x55 x60 : Bool} {x54 x58 : List UInt8} (hH : SumH x16 x17 x18 x19 x22 x23) (h50 : x50.length ≤ 2000000) (h59 : x59.length ≤ 2000000) (h55 : x55 = born x16) (h6 : Big (fun k => laws_FnJubileesSummed.j6 k x16 x17 x18 x19 x22 x23 x26 x27 x28 x29 x32 x33 x34 x35 x36 x37 x41 x42 x43 x44 x45 x48 x49 x50 x51 x54 x55 x58 x59 x60 false) true) :
    Big (fun k => laws_FnJubileesSummed.j5 k x16 x17 x18 x19 x18 x19 x22 x23 x22 x23 x26 x27 x28 x29 x28 x29 x32 x33 x34 x35 x36 x37 x35 x36 x37 x41 x42 x43 x44 x45 x44 x45 x48 x49 x50 x51 x50 x51 x54 x55 x54 x55 x58 x59 x60 x59 x60) true := by
  refine Big.succ ?_
  unfold laws_FnJubileesSummed.j5
  refine Big.neg (by simp) (Big.pos rfl (Big.neg (by simp) (Big.pos rfl (Big.neg (by simp) (Big.pos rfl (Big.neg (by simp) (Big.pos rfl (Big.pos rfl (Big.neg (by simp) (Big.pos rfl (Big.neg (by simp) (Big.bind (qSame_at x50 h50) (Big.pos rfl (Big.neg (by simp) (Big.neg (by simp) (Big.neg (by simp) (Big.bind (qSame_at x59 h59) (Big.pos rfl ?_))))))))))))))))))
  have hA : impl_AreBirths.f x16 = some (born x16) := v_AreBirths x16
  have e0 : (x55 != born x16) = false := by rw [h55]; exact bne_self_eq_false _
  have last : Big (fun k => (impl_AreBirths.f x16).bind fun y => laws_FnJubileesSummed.j6 k x16 x17 x18 x19 x22 x23 x26 x27 x28 x29 x32 x33 x34 x35 x36 x37 x41 x42 x43 x44 x45 x48 x49 x50 x51 x54 x55 x58 x59 x60 (x55 != y)) true := by
    rw [hA]
    refine Big.bind (Big.some_ _) ?_
    rw [e0]
    exact h6
  cases h23 : x23
  · rw [h23] at last
    exact Big.neg (by decide) last
  · have ht := hH.t
    rw [h23] at ht
    have h19 : x19 = true := by
      have := ht.symm
      simp only [Bool.and_eq_true] at this
      exact this.1
    rw [h23] at last
    exact Big.pos rfl (Big.pos h19 last)
end Go.Proofs.YtpnkeknmgfdpdaaGreatDoorRR.Q
set_option linter.all false
namespace Go.Proofs.YtpnkeknmgfdpdaaGreatDoorRR.Pure
open Go.RowKit Go.Proofs.YtpnkeknmgfdpdaaGreatDoorRR.Q Go Go.Proofs.YtpnkeknmgfdpdaaGreatDoorRR.Eng Go.Proofs.YtpnkeknmgfdpdaaGreatDoorRR Go.Proofs.YtpnkeknmgfdpdaaGreatDoorRR.X
set_option linter.unusedSimpArgs false
set_option linter.unusedVariables false

theorem sumH_of (u : List Int) (y : Int) : SumH u y (if (born u && inR y 0 3000) = true then (sumA y u, true) else ((0 : Int), false)).1 (if (born u && inR y 0 3000) = true then (sumA y u, true) else ((0 : Int), false)).2
    (if (born u && inR y 0 3000) = true then sharF y u 0 else (0, false)).1 (if (born u && inR y 0 3000) = true then sharF y u 0 else (0, false)).2 := by
  cases hg : (born u && inR y 0 3000)
  · rw [if_neg (by decide), if_neg (by decide)]
    exact ⟨hg.symm, (fun h => by cases h), by rw [Bool.false_and], (fun h => by cases h)⟩
  · rw [if_pos rfl, if_pos rfl]
    obtain ⟨h1, h2⟩ := shar_of y u
    exact ⟨hg.symm, fun _ => rfl, by rw [h1, Bool.true_and], h2⟩
theorem yosH_of (v : List Int) (g : Int) : (if (born v && inR g 1 1000) = true then yosF v g 3001 0 else ((0 : Int), false)).2 = true → YosH v g (if (born v && inR g 1 1000) = true then yosF v g 3001 0 else ((0 : Int), false)).1 := by
  cases hg : (born v && inR g 1 1000)
  · rw [if_neg (by decide)]
    intro h; cases h
  · rw [if_pos rfl]
    intro h
    obtain ⟨h1, h2, h3⟩ := yos_prop v g 3001 0 h
    rw [Bool.and_eq_true] at hg
    exact ⟨hg.1, by omega, h2, h3⟩
theorem bestH_of (w : List Int) (y z : Int) : (if (born w && inR y 0 3000 && inR z 2 100) = true then bestF w y (z - 1).toNat 0 (-1) 2 else ((0 : Int), (0 : Int), false)).2.2 = true →
    BestH w y z (if (born w && inR y 0 3000 && inR z 2 100) = true then bestF w y (z - 1).toNat 0 (-1) 2 else ((0 : Int), (0 : Int), false)).1 (if (born w && inR y 0 3000 && inR z 2 100) = true then bestF w y (z - 1).toNat 0 (-1) 2 else ((0 : Int), (0 : Int), false)).2.1 := by
  cases hg : (born w && inR y 0 3000 && inR z 2 100)
  · rw [if_neg (by decide)]
    intro h; cases h
  · rw [if_pos rfl]
    intro _
    simp only [Bool.and_eq_true] at hg
    have hz := inR_iff.mp hg.2
    obtain ⟨B, M, h1, h2, h3, h4⟩ := best_of w y z hz.1
    rw [h1]
    exact ⟨hg.1.1, inR_iff.mp hg.1.2, hz, h2, h3, h4⟩
theorem textH_of (u : List Int) : (if born u = true then (Go.Lib.join (u.map Go.Lib.itoa) [44], true) else (([] : List UInt8), false)).2 = born u ∧ ((if born u = true then (Go.Lib.join (u.map Go.Lib.itoa) [44], true) else (([] : List UInt8), false)).2 = true → born u = true ∧ (if born u = true then (Go.Lib.join (u.map Go.Lib.itoa) [44], true) else (([] : List UInt8), false)).1 = txt u) := by
  cases hg : born u
  · rw [if_neg (by decide)]
    exact ⟨rfl, fun h => by cases h⟩
  · rw [if_pos rfl]
    exact ⟨rfl, fun _ => ⟨rfl, rfl⟩⟩
set_option maxHeartbeats 1000000 in
theorem top {code : List Int} (hc : Byt code) : Big (fun k => laws_FnJubileesSummed.j2 k code) true := by
  obtain ⟨u, y, hu, dSA⟩ := drawSA hc
  obtain ⟨v, g, hv, dYS⟩ := drawYS hc
  obtain ⟨w, ay, most, hw, dBE⟩ := drawBE hc
  obtain ⟨l, a, b, hl, dDY⟩ := drawDY hc
  obtain ⟨p, q, hp, hq, dJB⟩ := drawJB hc
  obtain ⟨s, hs, dPB⟩ := drawPB hc
  obtain ⟨sA, iA⟩ := SumOfAges_is u y (by omega)
  obtain ⟨sS, iS⟩ := SharedEvery_is u y (by omega)
  obtain ⟨sY, iY⟩ := YearOfSum_is v g (by omega)
  obtain ⟨sB, iB⟩ := BestEvery_is w ay most (by omega)
  obtain ⟨⟨D1, D2⟩, hD, sD, iD⟩ := DoubleYear_both l a b (by omega)
  obtain ⟨⟨J1, J2⟩, hJl, hJ, sJ, iJ⟩ := JoinBorn_both p q (by omega) (by omega)
  obtain ⟨sT, iT⟩ := BornText_is u (by omega)
  obtain ⟨⟨R1, R2⟩, hRl, hR, sR, iR⟩ := ParseBorn_both s hs
  have hH := sumH_of u y
  have hY := yosH_of v g
  have hB := bestH_of w ay most
  have hT := textH_of u
  generalize (if (born u && inR y 0 3000) = true then (sumA y u, true) else ((0 : Int), false)) = A at sA iA hH
  generalize (if (born u && inR y 0 3000) = true then sharF y u 0 else ((0 : Int), false)) = E at sS iS hH
  generalize (if (born v && inR g 1 1000) = true then yosF v g 3001 0 else ((0 : Int), false)) = Y at sY iY hY
  generalize (if (born w && inR ay 0 3000 && inR most 2 100) = true then bestF w ay (most - 1).toNat 0 (-1) 2 else ((0 : Int), (0 : Int), false)) = B at sB iB hB
  generalize (if born u = true then (Go.Lib.join (u.map Go.Lib.itoa) [44], true) else (([] : List UInt8), false)) = T at sT iT hT
  obtain ⟨A1, A2⟩ := A
  obtain ⟨E1, E2⟩ := E
  obtain ⟨Y1, Y2⟩ := Y
  obtain ⟨B1, B2, B3⟩ := B
  obtain ⟨T1, T2⟩ := T
  simp only at hH hY hB hT hJl hJ hRl hR
  have h16 := p16 (x16 := u) (x54 := T1) (x55 := T2) (x58 := s) (x59 := R1) (x60 := R2) hR hT.2
  have h15 := p15 (x48 := p) (x49 := q) (x50 := J1) (x51 := J2) hp hq hJ h16
  have h14 := p14 (x41 := l) (x42 := a) (x43 := b) (x44 := D1) (x45 := D2) hD h15
  have h12 := p12 (x32 := w) (x33 := ay) (x34 := most) (x35 := B1) (x36 := B2) (x37 := B3) hB h14
  have h10 := p10 (x26 := v) (x27 := g) (x28 := Y1) (x29 := Y2) hY h12
  have h6 := p6 hH h10
  have h5 := p5 hH (by omega) (by omega) hT.1 h6
  have h4 : Big (fun k => laws_FnJubileesSummed.j4 k code u y A1 A2 A1 A2 E1 E2 E1 E2 v g Y1 Y2 Y1 Y2 w ay most B1 B2 B3 B1 B2 B3 l a b D1 D2 D1 D2 p q) true := by
    refine Big.succ ?_
    unfold laws_FnJubileesSummed.j4
    dsimp only
    exact Big.bind iJ (Big.bind sJ (Big.bind iT (Big.bind sT (Big.bind dPB (Big.bind iR (Big.bind sR h5))))))
  have h3 : Big (fun k => laws_FnJubileesSummed.j3 k code u y A1 A2 A1 A2 E1 E2 E1 E2) true := by
    refine Big.succ ?_
    unfold laws_FnJubileesSummed.j3
    dsimp only
    exact Big.bind dYS (Big.bind iY (Big.bind sY (Big.bind dBE (Big.bind iB (Big.bind sB (Big.bind dDY (Big.bind iD (Big.bind sD (Big.bind dJB h4)))))))))
  refine Big.succ ?_
  unfold laws_FnJubileesSummed.j2
  dsimp only
  exact Big.bind dSA (Big.bind iA (Big.bind sA (Big.bind iS (Big.bind sS h3))))
theorem round_l {more : List Int} (h2 : Big (fun k => laws_FnJubileesSummed.j2 k more) true) {L : List Int} {f t e : Int} (hb : born L = true) (hs : 0 ≤ f ∧ f ≤ t ∧ t ≤ 3000 ∧ t - f < 200) (he : 1 ≤ e) (d : Nat) : ∀ y : Int, f ≤ y → y + (d : Int) = t + 1 → Big (fun k => laws_FnJubileesSummed.l0 k more L t e (yrs (fun y => rnd (sumA y L) e) (t + 1 - f).toNat f) y) true := by
  have hl := (born_iff.mp hb).1
  have hlen := yrs_length (fun y => rnd (sumA y L) e) (t + 1 - f).toNat f
  induction d with
  | zero =>
    intro y h0 h1
    refine Big.succ ?_
    unfold laws_FnJubileesSummed.l0
    exact Big.neg (by omega) h2
  | succ d ih =>
    intro y h0 h1
    have nx := ih (y + 1) (by omega) (by omega)
    have hmem : decide (y ∈ yrs (fun y => rnd (sumA y L) e) (t + 1 - f).toNat f) = rnd (sumA y L) e := by
      have h := yrs_iff (fun y => rnd (sumA y L) e) (t + 1 - f).toNat f y
      cases hr : rnd (sumA y L) e
      · exact decide_eq_false (fun hm => by have := (h.mp hm).2; rw [hr] at this; cases this)
      · exact decide_eq_true (h.mpr ⟨by omega, hr⟩)
    refine Big.succ ?_
    unfold laws_FnJubileesSummed.l0
    refine Big.pos (by omega) (Big.bind (sumIn (by omega) hb (by omega)) (Big.succ ?_))
    unfold laws_FnJubileesSummed.j1
    rw [w64 (i := y + 1) (by omega) (by omega)]
    refine Big.pos rfl (Big.bind (qHas_at _ y (by omega)) ?_)
    rw [hmem]
    have hn := (sumA_le y L).1
    by_cases c : sumA y L > 0
    · have e1 : rnd (sumA y L) e = (Int.tmod (sumA y L) e == 0) := by
        unfold rnd
        rw [decide_eq_true (show 0 < sumA y L from c), Bool.true_and]
      refine Big.pos c (Big.neg (by omega) (Big.neg ?_ nx))
      simp only [e1, bne_self_eq_false]
      decide
    · have e1 : rnd (sumA y L) e = false := by
        unfold rnd
        rw [decide_eq_false (show ¬ 0 < sumA y L by omega), Bool.false_and]
      refine Big.neg c (Big.neg ?_ nx)
      rw [e1]
      decide
theorem FnJubileesSummed_k (code more : List Int) (hb1 : ∀ x ∈ code, 0 ≤ x ∧ x ≤ 255) (hb2 : ∀ x ∈ more, 0 ≤ x ∧ x ≤ 255) : ∃ k, laws_FnJubileesSummed.f k code more = some true := by
  by_cases hbig : laws_big.f code more = some true
  · exact ⟨0, by unfold laws_FnJubileesSummed.f; rw [hbig]; rfl⟩
  · have hsmall : laws_big.f code more = some false ∧ code.length ≤ 1048576 ∧ more.length ≤ 1048576 := by
      unfold laws_big.f at hbig ⊢
      by_cases hc : (code.length : Int) > 1048576
      · rw [if_pos hc] at hbig
        exact absurd rfl hbig
      · rw [if_neg hc] at hbig ⊢
        rw [w64 (i := 1048576 - (code.length : Int)) (by omega) (by omega)] at hbig ⊢
        by_cases hd : (more.length : Int) > 1048576 - (code.length : Int)
        · rw [decide_eq_true hd] at hbig
          exact absurd rfl hbig
        · rw [decide_eq_false hd]
          exact ⟨rfl, by omega, by omega⟩
    obtain ⟨hS, hl1, hl2⟩ := hsmall
    have h2 := top (code := more) ⟨hb2, hl2⟩
    obtain ⟨L, f, t, e, hl, hD⟩ := drawRS (code := code) ⟨hb1, hl1⟩
    obtain ⟨r1, r2⟩ := RoundSums_is L f t e (by omega)
    refine Big.exists_ ?_
    unfold laws_FnJubileesSummed.f
    refine Big.bind (Big.of hS) (Big.neg (by decide) (Big.bind hD (Big.bind r2 (Big.bind r1 (Big.neg (by simp) ?_)))))
    cases hg : (born L && span f t && inR e 1 100)
    · rw [if_neg (by decide)]
      refine Big.bind (qSame_at [] (by simp)) (Big.succ ?_)
      unfold laws_FnJubileesSummed.j0
      exact Big.neg (by decide) (Big.neg (by decide) h2)
    · rw [if_pos rfl]
      simp only [Bool.and_eq_true] at hg
      have hs := span_iff.mp hg.1.2
      have he := inR_iff.mp hg.2
      have hlen := yrs_length (fun y => rnd (sumA y L) e) (t + 1 - f).toNat f
      refine Big.bind (qSame_at (yrs (fun y => rnd (sumA y L) e) (t + 1 - f).toNat f) (by omega)) (Big.succ ?_)
      unfold laws_FnJubileesSummed.j0
      refine Big.neg (by decide) (Big.pos rfl (Big.bind (qRises_at _ (by simp only; omega) (yrs_rises _ _ _).1) (Big.pos rfl ?_)))
      exact round_l h2 hg.1.1 hs he.1 (t + 1 - f).toNat f (Int.le_refl _) (by omega)
theorem FnJubileesSummed (code more : List Int) (hb1 : ∀ x ∈ code, 0 ≤ x ∧ x ≤ 255) (hb2 : ∀ x ∈ more, 0 ≤ x ∧ x ≤ 255) : S.laws_FnJubileesSummed.f code more = some true := by
  obtain ⟨k, hk⟩ := FnJubileesSummed_k code more hb1 hb2
  exact laws_FnJubileesSummed.f.br k code more _ hk
end Go.Proofs.YtpnkeknmgfdpdaaGreatDoorRR.Pure
