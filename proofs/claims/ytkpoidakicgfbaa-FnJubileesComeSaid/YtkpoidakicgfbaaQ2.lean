/- Ways of a plain function that takes a number of rounds. No condition. -/
import Derived.Test.YtkpoidakicgfbaaQ1
import Derived.Test.YtkpoidakicgfbaaP0
import Derived.Laws.BitsAllLaws
set_option linter.all false
namespace Go.Proofs.Ytkpoidakicgfbaa.Q
open Go.RowKit Go Go.Proofs.Ytkpoidakicgfbaa.Eng Go.Proofs.Ytkpoidakicgfbaa.C

theorem Big.pos {α : Type} {c : Prop} [Decidable c] {f g : Nat → Option α} {r : α} (h : c) (hb : Big f r) : Big (fun k => if c then f k else g k) r := by
  simpa only [if_pos h] using hb
theorem Big.neg {α : Type} {c : Prop} [Decidable c] {f g : Nat → Option α} {r : α} (h : ¬ c) (hb : Big g r) : Big (fun k => if c then f k else g k) r := by
  simpa only [if_neg h] using hb
end Go.Proofs.Ytkpoidakicgfbaa.Q
set_option linter.all false
namespace Go.Proofs.Ytkpoidakicgfbaa.Q
open Go.RowKit Go Go.Proofs.Ytkpoidakicgfbaa.Eng Go.Proofs.Ytkpoidakicgfbaa.C
set_option linter.unusedSimpArgs false
set_option linter.unusedVariables false

theorem u64w (z : Int) : 0 ≤ IntKind.u64.wrap z ∧ IntKind.u64.wrap z < 18446744073709551616 := by
  have : IntKind.u64.wrap z = z % 18446744073709551616 := rfl
  rw [this]
  omega
theorem and255 (x : Int) (h0 : 0 ≤ x) (h1 : x < 18446744073709551616) : 0 ≤ Go.bits .and .u64 x 255 ∧ Go.bits .and .u64 x 255 ≤ 255 := by
  rw [u64_and x 255 h0 h1 (by omega) (by omega)]
  have : x.toNat &&& (255 : Int).toNat ≤ 255 := Nat.and_le_right
  omega
theorem bit255 (x : Int) : 0 ≤ bitI .and .u64 x 255 ∧ bitI .and .u64 x 255 ≤ 255 := by
  have h : bitI .and .u64 x 255 = IntKind.u64.wrap ((BitVec.ofInt 64 x &&& BitVec.ofInt 64 255).toNat : Int) := rfl
  have e : (BitVec.ofInt 64 x &&& BitVec.ofInt 64 255).toNat ≤ 255 := by
    rw [BitVec.toNat_and]
    exact Nat.le_trans Nat.and_le_right (by decide)
  rw [h]
  have := u64w (((BitVec.ofInt 64 x &&& BitVec.ofInt 64 255).toNat : Int))
  have h2 : IntKind.u64.wrap ((BitVec.ofInt 64 x &&& BitVec.ofInt 64 255).toNat : Int) = ((BitVec.ofInt 64 x &&& BitVec.ofInt 64 255).toNat : Int) % 18446744073709551616 := rfl
  rw [h2]
  omega
/-- Bytes. -/
def Byt (code : List Int) : Prop := (∀ x ∈ code, 0 ≤ x ∧ x ≤ 255) ∧ code.length ≤ 1048576
theorem next_at {code : List Int} (hc : Byt code) (a s : Int) (ha : 0 ≤ a ∧ a ≤ 2000000) : ∃ v s', spec_l1Cur_next.f code a s = some (v, code, a + 1, s') ∧ 0 ≤ v ∧ v ≤ 255 := by
  have hw : IntKind.i64.wrap (a + 1) = a + 1 := w64 (by omega) (by omega)
  unfold spec_l1Cur_next.f
  rw [hw]
  have hl := hc.2
  by_cases h : a < (code.length : Int)
  · have hm : 0 ≤ rde code a ∧ rde code a ≤ 255 := by
      obtain ⟨n, rfl⟩ : ∃ n : Nat, a = (n : Int) := ⟨a.toNat, by omega⟩
      rw [rd_nat, List.getD_eq_getElem?_getD, List.getElem?_eq_getElem (show n < code.length by omega), Option.getD_some]
      exact hc.1 _ (List.getElem_mem _)
    rw [if_pos h, if_pos ha.1, if_pos (by omega)]
    refine ⟨_, _, rfl, ?_⟩
    rw [w64 (i := rde code a) (by omega) (by omega)]
    exact hm
  · rw [if_neg h, if_neg (by omega)]
    refine ⟨_, _, rfl, ?_⟩
    have h2 := bit255 (shrI .u64 (IntKind.u64.wrap (IntKind.u64.wrap (IntKind.u64.wrap (s * 6364136223846793005) + IntKind.u64.wrap 0) + 1442695040888963407)) 40)
    rw [w64 (by omega) (by omega)]
    exact h2
theorem tmod_in (x n : Int) (h0 : 0 ≤ x) (hn : 0 < n) : 0 ≤ Int.tmod x n ∧ Int.tmod x n < n := by
  rw [Int.tmod_eq_emod_of_nonneg h0]
  exact ⟨Int.emod_nonneg _ (by omega), Int.emod_lt_of_pos _ hn⟩
theorem pick_at {code : List Int} (hc : Byt code) (a s n : Int) (ha : 0 ≤ a ∧ a ≤ 1900000) (hn : 1 ≤ n) : ∃ v a' s', spec_l1Cur_pick.f code a s n = some (v, code, a', s') ∧ (0 ≤ v ∧ v < n) ∧ a ≤ a' ∧ a' ≤ a + 2 := by
  unfold spec_l1Cur_pick.f
  by_cases h1 : n ≤ 1
  · rw [if_pos h1]
    exact ⟨0, a, s, rfl, by omega, by omega, by omega⟩
  · rw [if_neg h1]
    obtain ⟨v, s1, e1, hv⟩ := next_at hc a s (by omega)
    rw [e1, Option.bind_some]
    by_cases h2 : n > 200
    · rw [if_pos h2]
      obtain ⟨v2, s2, e2, hv2⟩ := next_at hc (a + 1) s1 (by omega)
      rw [e2, Option.bind_some, if_neg (by omega)]
      refine ⟨_, _, _, rfl, ?_, by show a ≤ a + 1 + 1; omega, by show a + 1 + 1 ≤ a + 2; omega⟩
      show 0 ≤ Int.tmod (IntKind.i64.wrap (IntKind.i64.wrap (v * 256) + v2)) n ∧ _
      rw [w64 (i := v * 256) (by omega) (by omega), w64 (by omega) (by omega)]
      exact tmod_in _ _ (by omega) (by omega)
    · rw [if_neg h2, if_neg (by omega)]
      exact ⟨_, _, _, rfl, tmod_in _ _ hv.1 (by omega), by show a ≤ a + 1; omega, by show a + 1 ≤ a + 2; omega⟩
theorem one_at {code : List Int} (hc : Byt code) (a s n : Int) (ha : 0 ≤ a ∧ a ≤ 1900000) (hn : 1 ≤ n) : ∃ v a' s', spec_l1Cur_one.f code a s n = some (v, code, a', s') ∧ a ≤ a' ∧ a' ≤ a + 2 := by
  obtain ⟨v, a', s', e, _, h1, h2⟩ := pick_at hc a s n ha hn
  unfold spec_l1Cur_one.f
  rw [e]
  exact ⟨_, _, _, rfl, h1, h2⟩
theorem among_at {code : List Int} (hc : Byt code) (a s : Int) (l : List Int) (ha : 0 ≤ a ∧ a ≤ 1900000) (hn : 1 ≤ l.length) : ∃ v a' s', spec_l1Cur_among.f code a s l = some (v, code, a', s') ∧ v ∈ l ∧ a ≤ a' ∧ a' ≤ a + 2 := by
  obtain ⟨v, a', s', e, hv, h1, h2⟩ := pick_at hc a s (l.length : Int) ha (by omega)
  unfold spec_l1Cur_among.f
  rw [e, Option.bind_some, if_pos hv.1, if_pos hv.2]
  refine ⟨_, _, _, rfl, ?_, h1, h2⟩
  obtain ⟨n, rfl⟩ : ∃ n : Nat, v = (n : Int) := ⟨v.toNat, by omega⟩
  show rde l (n : Int) ∈ l
  rw [rd_nat, List.getD_eq_getElem?_getD, List.getElem?_eq_getElem (show n < l.length by omega), Option.getD_some]
  exact List.getElem_mem _
theorem jubilee_at {code : List Int} (hc : Byt code) (a s : Int) (ha : 0 ≤ a ∧ a ≤ 1900000) : ∃ v a' s', spec_l1Cur_jubilee.f code a s = some (v, code, a', s') ∧ a ≤ a' ∧ a' ≤ a + 2 := by
  obtain ⟨v, a', s', e, _, h1, h2⟩ := among_at hc a s [1, 5, 5, 10, 10, 20, 25, 50, 100, 101, 0] ha (by simp)
  unfold spec_l1Cur_jubilee.f
  rw [e]
  exact ⟨_, _, _, rfl, h1, h2⟩
theorem year_at {code : List Int} (hc : Byt code) (a s : Int) (ha : 0 ≤ a ∧ a ≤ 1800000) : ∃ v a' s', spec_l1Cur_year.f code a s = some (v, code, a', s') ∧ (-1 ≤ v ∧ v ≤ 4611686018427387904) ∧ a ≤ a' ∧ a' ≤ a + 4 := by
  obtain ⟨b, a1, s1, e1, h1, h2⟩ := one_at hc a s 10 (by omega) (by omega)
  unfold spec_l1Cur_year.f
  rw [e1, Option.bind_some]
  cases b
  · rw [if_neg (by simp)]
    obtain ⟨v, a2, s2, e2, hv, h3, h4⟩ := pick_at hc a1 s1 110 (by omega) (by omega)
    have e3 : IntKind.i64.wrap (1925 + v) = 1925 + v := w64 (by omega) (by omega)
    refine ⟨1925 + v, a2, s2, ?_, by omega, by omega, by omega⟩
    show (spec_l1Cur_pick.f code a1 s1 110).bind _ = _
    rw [e2, Option.bind_some, e3]
  · rw [if_pos rfl]
    obtain ⟨v, a2, s2, e2, hv, h3, h4⟩ := among_at hc a1 s1 [(-1), 0, 1, 2999, 3000, 3001, 4611686018427387904] (by omega) (by simp)
    refine ⟨v, a2, s2, ?_, ?_, by omega, by omega⟩
    · show (spec_l1Cur_among.f code a1 s1 [(-1), 0, 1, 2999, 3000, 3001, 4611686018427387904]).bind _ = _
      rw [e2, Option.bind_some]
    · simp only [List.mem_cons, List.mem_nil_iff, or_false] at hv
      omega
theorem span_at {code : List Int} (hc : Byt code) (a s : Int) (ha : 0 ≤ a ∧ a ≤ 1700000) : ∃ f t a' s', spec_l1Cur_span.f code a s = some (f, t, code, a', s') ∧ a ≤ a' ∧ a' ≤ a + 10 := by
  obtain ⟨f, a1, s1, e1, hf, h1, h2⟩ := year_at hc a s (by omega)
  obtain ⟨b, a2, s2, e2, h3, h4⟩ := one_at hc a1 s1 10 (by omega) (by omega)
  obtain ⟨m, hm⟩ : ∃ m, spec_l1Least.f f 5000 = some m := by
    unfold spec_l1Least.f
    split <;> exact ⟨_, rfl⟩
  unfold spec_l1Cur_span.f
  rw [e1, Option.bind_some]
  simp only [e2, Option.bind_some, hm]
  cases b
  · rw [if_neg (by simp)]
    obtain ⟨v, a3, s3, e3, hv, h5, h6⟩ := pick_at hc a2 s2 50 (by omega) (by omega)
    rw [e3]
    exact ⟨_, _, _, _, rfl, by show a ≤ a3; omega, by show a3 ≤ a + 10; omega⟩
  · rw [if_pos rfl]
    obtain ⟨v, a3, s3, e3, hv, h5, h6⟩ := among_at hc a2 s2 [(-1), 0, 199, 200, 201] (by omega) (by simp)
    rw [e3]
    exact ⟨_, _, _, _, rfl, by show a ≤ a3; omega, by show a3 ≤ a + 10; omega⟩
theorem sureBorn_l {code : List Int} (hc : Byt code) (n : Nat) : ∀ (L : List Int) (a s : Int), n ≤ 100 → L.length + n ≤ 200 → 0 ≤ a → a + 4 * (n : Int) ≤ 1800000 → ∃ L' a' s', L'.length = L.length + n ∧ a ≤ a' ∧ a' ≤ a + 4 * (n : Int) ∧ Big (fun k => spec_l1Cur_sureBorn.l0 k L (n : Int) code a s) (L', code, a', s') := by
  induction n with
  | zero =>
    intro L a s _ _ h0 _
    refine ⟨L, a, s, rfl, by omega, by omega, Big.succ ?_⟩
    unfold spec_l1Cur_sureBorn.l0
    exact Big.neg (by omega) (Big.some_ _)
  | succ n ih =>
    intro L a s hn hL h0 ha
    obtain ⟨v, a1, s1, e1, _, h1, h2⟩ := pick_at hc a s 12 (by omega) (by omega)
    obtain ⟨v2, a2, s2, e2, _, h3, h4⟩ := pick_at hc a1 s1 3 (by omega) (by omega)
    obtain ⟨L', a', s', hl, h5, h6, hB⟩ := ih (L ++ [IntKind.i64.wrap (IntKind.i64.wrap (1930 + IntKind.i64.wrap (5 * v)) + IntKind.i64.wrap (Int.tdiv v2 2))]) a2 s2 (by omega) (by rw [List.length_append, List.length_singleton]; omega) (by omega) (by omega)
    rw [List.length_append, List.length_singleton] at hl
    refine ⟨L', a', s', by omega, by omega, by omega, Big.succ ?_⟩
    unfold spec_l1Cur_sureBorn.l0
    refine Big.pos (by omega) ?_
    refine Big.bind (Big.of e1) ?_
    refine Big.bind (Big.of e2) ?_
    refine Big.pos (by omega) ?_
    rw [show IntKind.i64.wrap (((n + 1 : Nat) : Int) - 1) = (n : Int) by rw [w64 (by omega) (by omega)]; omega]
    exact hB
theorem sureBorn_at {code : List Int} (hc : Byt code) (a s n : Int) (hn : 1 ≤ n ∧ n ≤ 50) (ha : 0 ≤ a ∧ a ≤ 1500000) : ∃ L a' s', L.length ≤ 50 ∧ a ≤ a' ∧ a' ≤ a + 300 ∧ Big (fun k => spec_l1Cur_sureBorn.f k code a s n) (L, code, a', s') := by
  obtain ⟨v, a1, s1, e1, hv, h1, h2⟩ := pick_at hc a s n (by omega) (by omega)
  obtain ⟨m, hm⟩ : ∃ m : Nat, (m : Int) = 1 + v := ⟨(1 + v).toNat, by omega⟩
  obtain ⟨L', a', s', hl, h5, h6, hB⟩ := sureBorn_l hc m [] a1 s1 (by omega) (by simp; omega) (by omega) (by omega)
  rw [List.length_nil] at hl
  refine ⟨L', a', s', by omega, by omega, by omega, ?_⟩
  unfold spec_l1Cur_sureBorn.f
  refine Big.bind (Big.of e1) ?_
  rw [w64 (i := 1 + v) (by omega) (by omega), ← hm]
  exact hB
theorem born_l {code : List Int} (hc : Byt code) (n : Nat) : ∀ (L : List Int) (a s : Int), L.length + n = 11 ∨ (n = 0 ∧ 11 ≤ L.length ∧ L.length ≤ 50) → 0 ≤ a → a + 2 * (n : Int) + 2 ≤ 1800000 → ∃ L' a' s', L'.length ≤ 50 ∧ a ≤ a' ∧ a' ≤ a + 2 * (n : Int) + 2 ∧ Big (fun k => spec_l1Cur_born.l0 k L code a s) (L', code, a', s') := by
  induction n with
  | zero =>
    intro L a s hL h0 ha
    obtain ⟨v, a1, s1, e1, hv, h1, h2⟩ := pick_at hc a s 2 (by omega) (by omega)
    refine ⟨L, a1, s1, by omega, by omega, by omega, Big.succ ?_⟩
    unfold spec_l1Cur_born.l0
    refine Big.bind (Big.of e1) ?_
    rw [w64 (i := 10 + v) (by omega) (by omega)]
    exact Big.neg (by omega) (Big.some_ _)
  | succ n ih =>
    intro L a s hL h0 ha
    obtain ⟨v, a1, s1, e1, hv, h1, h2⟩ := pick_at hc a s 2 (by omega) (by omega)
    by_cases h : (L.length : Int) < 10 + v
    · obtain ⟨L', a', s', hl, h5, h6, hB⟩ := ih (L ++ [1970]) a1 s1 (by rw [List.length_append, List.length_singleton]; omega) (by omega) (by omega)
      refine ⟨L', a', s', hl, by omega, by omega, Big.succ ?_⟩
      unfold spec_l1Cur_born.l0
      refine Big.bind (Big.of e1) ?_
      rw [w64 (i := 10 + v) (by omega) (by omega)]
      exact Big.pos h (Big.pos (by omega) hB)
    · refine ⟨L, a1, s1, by omega, by omega, by omega, Big.succ ?_⟩
      unfold spec_l1Cur_born.l0
      refine Big.bind (Big.of e1) ?_
      rw [w64 (i := 10 + v) (by omega) (by omega)]
      exact Big.neg h (Big.some_ _)
theorem born_at {code : List Int} (hc : Byt code) (a s : Int) (ha : 0 ≤ a ∧ a ≤ 1000000) : ∃ L a' s', L.length ≤ 60 ∧ a ≤ a' ∧ a' ≤ a + 500 ∧ Big (fun k => spec_l1Cur_born.f k code a s) (L, code, a', s') := by
  obtain ⟨L, a1, s1, hl, h1, h2, hB⟩ := sureBorn_at hc a s 5 (by omega) (by omega)
  obtain ⟨v, a2, s2, e2, hv, h3, h4⟩ := pick_at hc a1 s1 20 (by omega) (by omega)
  by_cases c0 : v = 0
  · refine ⟨[], a2, s2, by simp, by omega, by omega, ?_⟩
    unfold spec_l1Cur_born.f
    exact Big.bind hB (Big.bind (Big.of e2) (Big.pos c0 (Big.some_ _)))
  · by_cases c1 : v = 1
    · obtain ⟨x, a3, s3, e3, _, h5, h6⟩ := among_at hc a2 s2 [(-1), 0, 2900, 2901, 4611686018427387904] (by omega) (by simp)
      refine ⟨L ++ [x], a3, s3, by rw [List.length_append, List.length_singleton]; omega, by omega, by omega, ?_⟩
      unfold spec_l1Cur_born.f
      exact Big.bind hB (Big.bind (Big.of e2) (Big.neg c0 (Big.pos c1 (Big.bind (Big.of e3) (Big.pos (by show L.length < _; omega) (Big.some_ _))))))
    · by_cases c2 : v = 2
      · have hL : L.length + (11 - L.length) = 11 ∨ (11 - L.length = 0 ∧ 11 ≤ L.length ∧ L.length ≤ 50) := by omega
        obtain ⟨L', a3, s3, hl3, h5, h6, hB3⟩ := born_l hc (11 - L.length) L a2 s2 hL (by omega) (by omega)
        refine ⟨L', a3, s3, by omega, by omega, by omega, ?_⟩
        unfold spec_l1Cur_born.f
        exact Big.bind hB (Big.bind (Big.of e2) (Big.neg c0 (Big.neg c1 (Big.pos c2 hB3))))
      · refine ⟨L, a2, s2, by omega, by omega, by omega, ?_⟩
        unfold spec_l1Cur_born.f
        exact Big.bind hB (Big.bind (Big.of e2) (Big.neg c0 (Big.neg c1 (Big.neg c2 (Big.some_ _)))))
theorem drawCal {code : List Int} (hc : Byt code) : ∃ L f t e, L.length ≤ 60 ∧ Big (fun k => spec_DrawCalendarOf.f k code) (L, f, t, e) := by
  obtain ⟨f, t, a1, s1, e1, h1, h2⟩ := span_at hc 0 0 (by omega)
  obtain ⟨L, a2, s2, hl, h3, h4, hB⟩ := born_at hc a1 s1 (by omega)
  obtain ⟨e, a3, s3, e3, h5, h6⟩ := jubilee_at hc a2 s2 (by omega)
  refine ⟨L, f, t, e, hl, ?_⟩
  unfold spec_DrawCalendarOf.f spec_DrawCountJubilees.f
  exact Big.bind (Big.bind (Big.of e1) (Big.bind hB (Big.bind (Big.of e3) (Big.some_ _)))) (Big.some_ _)
theorem drawNext {code : List Int} (hc : Byt code) : ∃ L y e, L.length ≤ 60 ∧ Big (fun k => spec_DrawNextJubilee.f k code) (L, y, e) := by
  obtain ⟨L, a2, s2, hl, h3, h4, hB⟩ := born_at hc 0 0 (by omega)
  obtain ⟨y, a1, s1, e1, _, h1, h2⟩ := year_at hc a2 s2 (by omega)
  obtain ⟨e, a3, s3, e3, h5, h6⟩ := jubilee_at hc a1 s1 (by omega)
  refine ⟨L, y, e, hl, ?_⟩
  unfold spec_DrawNextJubilee.f spec_DrawJubileesIn.f
  exact Big.bind (Big.bind hB (Big.bind (Big.of e1) (Big.bind (Big.of e3) (Big.some_ _)))) (Big.some_ _)
theorem drawTog {code : List Int} (hc : Byt code) : ∃ L e, L.length ≤ 60 ∧ Big (fun k => spec_DrawTogetherJubilees.f k code) (L, e) := by
  obtain ⟨L, a2, s2, hl, h3, h4, hB⟩ := born_at hc 0 0 (by omega)
  obtain ⟨e, a3, s3, e3, h5, h6⟩ := jubilee_at hc a2 s2 (by omega)
  refine ⟨L, e, hl, ?_⟩
  unfold spec_DrawTogetherJubilees.f
  exact Big.bind hB (Big.bind (Big.of e3) (Big.some_ _))
theorem drawAnn {code : List Int} (hc : Byt code) : ∃ s f t e, spec_DrawAnniversaries.f code = some (s, f, t, e) := by
  obtain ⟨f, t, a1, s1, e1, h1, h2⟩ := span_at hc 0 0 (by omega)
  obtain ⟨y, a2, s2, e2, _, h3, h4⟩ := year_at hc a1 s1 (by omega)
  obtain ⟨e, a3, s3, e3, h5, h6⟩ := jubilee_at hc a2 s2 (by omega)
  unfold spec_DrawAnniversaries.f
  simp only [e1, e2, e3, Option.bind_some]
  exact ⟨_, _, _, _, rfl⟩
end Go.Proofs.Ytkpoidakicgfbaa.Q
set_option linter.all false
namespace Go.Proofs.Ytkpoidakicgfbaa.Q
open Go.RowKit Go Go.Proofs.Ytkpoidakicgfbaa.Eng Go.Proofs.Ytkpoidakicgfbaa.C
set_option linter.unusedSimpArgs false
set_option linter.unusedVariables false

/-- Nobody has a jubilee from u on, before v. -/
def Quiet (l : List Int) (e u v : Int) : Prop := ∀ q, u ≤ q → q < v → jub l q e = []
/-- The longest quiet part, year by year. -/
def quiN (l : List Int) (e : Int) : Nat → Int → Int → Int → Int → Int × Int
  | 0, y, x, b, m => quiS b m x y
  | n + 1, y, x, b, m => if jub l y e = [] then quiN l e n (y + 1) x b m else quiN l e n (y + 1) (y + 1) (quiS b m x y).1 (quiS b m x y).2
theorem qui_eq (l : List Int) (e : Int) (n : Nat) : ∀ y x b m : Int, quiR (calF l e n y ++ [[y + (n : Int)]]) b m x = quiN l e n y x b m := by
  induction n with
  | zero =>
    intro y x b m
    simp only [calF, List.nil_append, quiR, quiN, quiS, List.headD_cons]
    rw [show y + ((0 : Nat) : Int) = y by omega]
    rfl
  | succ n ih =>
    intro y x b m
    have h := ih (y + 1)
    rw [show y + 1 + (n : Int) = y + ((n + 1 : Nat) : Int) by omega] at h
    unfold calF quiN
    by_cases hj : jub l y e = []
    · rw [if_pos hj, if_neg (by rw [hj]; simp), List.nil_append]
      exact h x b m
    · rw [if_neg hj, if_pos (by have := List.length_pos_iff.2 hj; omega), List.append_assoc, List.singleton_append]
      unfold quiR quiS
      rw [List.headD_cons]
      by_cases hm : y - x > m
      · rw [if_pos hm]
        simp only [if_pos hm]
        exact h (y + 1) x (y - x)
      · rw [if_neg hm]
        simp only [if_neg hm]
        exact h (y + 1) b m
theorem quiN_prop (l : List Int) (e : Int) (n : Nat) : ∀ y x b m : Int, x ≤ y → 0 ≤ m → Quiet l e x y →
    m ≤ (quiN l e n y x b m).2 ∧
    (∀ u v, x ≤ u → u ≤ v → v ≤ y + (n : Int) → Quiet l e u v → v - u ≤ (quiN l e n y x b m).2) ∧
    (∀ u v, x ≤ u → u < v → v ≤ y + (n : Int) → Quiet l e u v → v - u = (quiN l e n y x b m).2 → (quiN l e n y x b m).2 > m → (quiN l e n y x b m).1 ≤ u) ∧
    ((quiN l e n y x b m).2 = m → (quiN l e n y x b m).1 = b) ∧
    ((quiN l e n y x b m).2 > m → x ≤ (quiN l e n y x b m).1 ∧ (quiN l e n y x b m).1 + (quiN l e n y x b m).2 ≤ y + (n : Int) ∧ Quiet l e (quiN l e n y x b m).1 ((quiN l e n y x b m).1 + (quiN l e n y x b m).2)) := by
  induction n with
  | zero =>
    intro y x b m hx hm hq
    unfold quiN quiS
    by_cases h : y - x > m
    · rw [if_pos h]
      refine ⟨by show m ≤ y - x; omega, fun u v h1 h2 h3 _ => by show v - u ≤ y - x; omega, fun u v h1 h2 h3 _ _ _ => by show x ≤ u; omega, fun h1 => by have h2 : y - x = m := h1; omega, fun _ => ⟨by show x ≤ x; omega, by show x + (y - x) ≤ _; omega, fun q h1 h2 => hq q h1 (by have h3 : q < x + (y - x) := h2; omega)⟩⟩
    · rw [if_neg h]
      refine ⟨by show m ≤ m; omega, fun u v h1 h2 h3 _ => by show v - u ≤ m; omega, fun u v h1 h2 h3 _ _ h4 => by have h5 : m > m := h4; omega, fun _ => rfl, fun h4 => by have h5 : m > m := h4; omega⟩
  | succ n ih =>
    intro y x b m hx hm hq
    unfold quiN
    by_cases hj : jub l y e = []
    · rw [if_pos hj]
      have hq2 : Quiet l e x (y + 1) := fun q h1 h2 => by
        rcases Int.lt_or_le q y with h3 | h3
        · exact hq q h1 h3
        · rw [show q = y by omega]
          exact hj
      have := ih (y + 1) x b m (by omega) hm hq2
      rw [show y + 1 + (n : Int) = y + ((n + 1 : Nat) : Int) by omega] at this
      exact this
    · rw [if_neg hj]
      have hS : (y - x > m ∧ quiS b m x y = (x, y - x)) ∨ (¬ y - x > m ∧ quiS b m x y = (b, m)) := by
        unfold quiS
        by_cases h : y - x > m
        · exact .inl ⟨h, if_pos h⟩
        · exact .inr ⟨h, if_neg h⟩
      have hsplit : ∀ u v, Quiet l e u v → u ≤ v → v ≤ y ∨ y + 1 ≤ u ∨ u = v := fun u v h1 h2 => by
        rcases Int.lt_or_le y u with h3 | h3
        · exact .inr (.inl (by omega))
        · rcases Int.lt_or_le y v with h4 | h4
          · exact absurd (h1 y h3 h4) hj
          · exact .inl h4
      have hq0 : Quiet l e (y + 1) (y + 1) := fun q h1 h2 => by omega
      rcases hS with ⟨hm2, hS⟩ | ⟨hm2, hS⟩
      · rw [hS]
        dsimp only
        obtain ⟨a1, a2, a3, a4, a5⟩ := ih (y + 1) (y + 1) x (y - x) (by omega) (by omega) hq0
        rw [show y + 1 + (n : Int) = y + ((n + 1 : Nat) : Int) by omega] at a2 a3 a5
        refine ⟨by omega, fun u v h1 h2 h3 h4 => ?_, fun u v h1 h2 h3 h4 h5 h6 => ?_, fun h1 => by omega, fun h1 => ?_⟩
        · rcases hsplit u v h4 h2 with h5 | h5 | h5
          · omega
          · exact a2 u v h5 h2 h3 h4
          · omega
        · rcases hsplit u v h4 (by omega) with h7 | h7 | h7
          · have h8 : (quiN l e n (y + 1) (y + 1) x (y - x)).2 = y - x := by omega
            have := a4 h8
            omega
          · rcases Int.lt_or_le (y - x) (quiN l e n (y + 1) (y + 1) x (y - x)).2 with h8 | h8
            · exact a3 u v h7 h2 h3 h4 h5 h8
            · have := a4 (by omega)
              omega
          · omega
        · rcases Int.lt_or_le (y - x) (quiN l e n (y + 1) (y + 1) x (y - x)).2 with h8 | h8
          · obtain ⟨b1, b2, b3⟩ := a5 h8
            exact ⟨by omega, b2, b3⟩
          · have h9 : (quiN l e n (y + 1) (y + 1) x (y - x)).2 = y - x := by omega
            have h10 := a4 h9
            rw [h9, h10]
            exact ⟨by omega, by omega, fun q h1 h2 => hq q h1 (by omega)⟩
      · rw [hS]
        dsimp only
        obtain ⟨a1, a2, a3, a4, a5⟩ := ih (y + 1) (y + 1) b m (by omega) (by omega) hq0
        rw [show y + 1 + (n : Int) = y + ((n + 1 : Nat) : Int) by omega] at a2 a3 a5
        refine ⟨a1, fun u v h1 h2 h3 h4 => ?_, fun u v h1 h2 h3 h4 h5 h6 => ?_, a4, fun h1 => ?_⟩
        · rcases hsplit u v h4 h2 with h5 | h5 | h5
          · have h6 : m ≤ (quiN l e n (y + 1) (y + 1) b m).2 := a1
            show v - u ≤ (quiN l e n (y + 1) (y + 1) b m).2
            omega
          · exact a2 u v h5 h2 h3 h4
          · have h6 : m ≤ (quiN l e n (y + 1) (y + 1) b m).2 := a1
            show v - u ≤ (quiN l e n (y + 1) (y + 1) b m).2
            omega
        · rcases hsplit u v h4 (by omega) with h7 | h7 | h7
          · have h8 : v - u = (quiN l e n (y + 1) (y + 1) b m).2 := h5
            have h9 : (quiN l e n (y + 1) (y + 1) b m).2 > m := h6
            omega
          · exact a3 u v h7 h2 h3 h4 h5 h6
          · omega
        · obtain ⟨b1, b2, b3⟩ := a5 h1
          exact ⟨by omega, b2, b3⟩
theorem calF_succ (l : List Int) (e : Int) (n : Nat) (y : Int) : calF l e (n + 1) y = (if ((jub l y e).length : Int) > 0 then [y :: jub l y e] else []) ++ calF l e n (y + 1) := rfl
/-- The year with the most. -/
theorem most_prop (l : List Int) (e : Int) (n : Nat) : ∀ y a m : Int, 0 ≤ m →
    m ≤ (mostR (calF l e n y) a m).2 ∧
    (∀ q, y ≤ q → q < y + (n : Int) → ((jub l q e).length : Int) ≤ (mostR (calF l e n y) a m).2) ∧
    (∀ q, y ≤ q → q < y + (n : Int) → ((jub l q e).length : Int) = (mostR (calF l e n y) a m).2 → (mostR (calF l e n y) a m).2 > m → (mostR (calF l e n y) a m).1 ≤ q) ∧
    ((mostR (calF l e n y) a m).2 = m → (mostR (calF l e n y) a m).1 = a) ∧
    ((mostR (calF l e n y) a m).2 > m → y ≤ (mostR (calF l e n y) a m).1 ∧ ((jub l (mostR (calF l e n y) a m).1 e).length : Int) = (mostR (calF l e n y) a m).2) := by
  induction n with
  | zero =>
    intro y a m hm
    simp only [calF, mostR]
    exact ⟨Int.le_refl _, fun q h1 h2 => by omega, fun q h1 h2 => by omega, fun _ => trivial, fun h => by omega⟩
  | succ n ih =>
    intro y a m hm
    have step : mostR (calF l e (n + 1) y) a m = if ((jub l y e).length : Int) > m then mostR (calF l e n (y + 1)) y ((jub l y e).length : Int) else mostR (calF l e n (y + 1)) a m := by
      rw [calF_succ]
      by_cases hj : ((jub l y e).length : Int) > 0
      · rw [if_pos hj, List.singleton_append]
        conv => lhs; unfold mostR
        rw [List.length_cons, List.headD_cons, show (((jub l y e).length + 1 : Nat) : Int) - 1 = ((jub l y e).length : Int) by omega]
      · rw [if_neg hj, List.nil_append, if_neg (show ¬ ((jub l y e).length : Int) > m by omega)]
    rw [step]
    by_cases h : ((jub l y e).length : Int) > m
    · rw [if_pos h]
      obtain ⟨a1, a2, a3, a4, a5⟩ := ih (y + 1) y ((jub l y e).length : Int) (by omega)
      rw [show y + 1 + (n : Int) = y + ((n + 1 : Nat) : Int) by omega] at a2 a3
      refine ⟨by omega, fun q h1 h2 => ?_, fun q h1 h2 h3 h4 => ?_, fun h1 => by omega, fun h1 => ?_⟩
      · rcases Int.lt_or_le y q with h5 | h5
        · exact a2 q (by omega) h2
        · rw [show q = y by omega]
          exact a1
      · rcases Int.lt_or_le ((jub l y e).length : Int) (mostR (calF l e n (y + 1)) y ((jub l y e).length : Int)).2 with h6 | h6
        · rcases Int.lt_or_le y q with h5 | h5
          · exact a3 q (by omega) h2 h3 h6
          · rw [show q = y by omega] at h3
            omega
        · have := a4 (by omega)
          omega
      · rcases Int.lt_or_le ((jub l y e).length : Int) (mostR (calF l e n (y + 1)) y ((jub l y e).length : Int)).2 with h6 | h6
        · obtain ⟨b1, b2⟩ := a5 h6
          exact ⟨by omega, b2⟩
        · have h7 : (mostR (calF l e n (y + 1)) y ((jub l y e).length : Int)).2 = ((jub l y e).length : Int) := by omega
          rw [a4 h7, h7]
          exact ⟨Int.le_refl _, rfl⟩
    · rw [if_neg h]
      obtain ⟨a1, a2, a3, a4, a5⟩ := ih (y + 1) a m hm
      rw [show y + 1 + (n : Int) = y + ((n + 1 : Nat) : Int) by omega] at a2 a3
      refine ⟨a1, fun q h1 h2 => ?_, fun q h1 h2 h3 h4 => ?_, a4, fun h1 => ?_⟩
      · rcases Int.lt_or_le y q with h5 | h5
        · exact a2 q (by omega) h2
        · rw [show q = y by omega]
          omega
      · rcases Int.lt_or_le y q with h5 | h5
        · exact a3 q (by omega) h2 h3 h4
        · rw [show q = y by omega] at h3
          omega
      · obtain ⟨b1, b2⟩ := a5 h1
        exact ⟨by omega, b2⟩
/-- A calendar misses a year where nobody has a jubilee. -/
theorem cal_full (l : List Int) (e : Int) (n : Nat) : ∀ y : Int, (calF l e n y).length = n → ∀ q, y ≤ q → q < y + (n : Int) → jub l q e ≠ [] := by
  induction n with
  | zero => intro y _ q h1 h2; omega
  | succ n ih =>
    intro y h q h1 h2
    have hl := calF_length l e n (y + 1)
    unfold calF at h
    rw [List.length_append] at h
    split at h
    · rename_i hj
      rw [List.length_singleton] at h
      rcases Int.lt_or_le y q with h5 | h5
      · exact ih (y + 1) (by omega) q (by omega) (by omega)
      · rw [show q = y by omega]
        intro h6
        rw [h6] at hj
        simp at hj
    · rw [List.length_nil] at h
      omega
theorem cal_miss (l : List Int) (e : Int) (n : Nat) : ∀ y : Int, (calF l e n y).length < n → ∃ q, y ≤ q ∧ q < y + (n : Int) ∧ jub l q e = [] := by
  induction n with
  | zero => intro y h; omega
  | succ n ih =>
    intro y h
    by_cases hj : jub l y e = []
    · exact ⟨y, by omega, by omega, hj⟩
    · unfold calF at h
      rw [List.length_append, if_pos (by have := List.length_pos_iff.2 hj; omega), List.length_singleton] at h
      obtain ⟨q, h1, h2, h3⟩ := ih (y + 1) (by omega)
      exact ⟨q, by omega, by omega, h3⟩
/-- The next year with a jubilee. -/
theorem next_prop (l : List Int) (e : Int) (n : Nat) : ∀ y : Int, (nextF l e n y).2 = true → y ≤ (nextF l e n y).1 ∧ (nextF l e n y).1 < y + (n : Int) ∧ jub l (nextF l e n y).1 e ≠ [] ∧ Quiet l e y (nextF l e n y).1 := by
  induction n with
  | zero => intro y h; cases h
  | succ n ih =>
    intro y h
    unfold nextF at h ⊢
    by_cases hj : ((jub l y e).length : Int) > 0
    · rw [if_pos hj]
      exact ⟨Int.le_refl _, by show y < _; omega, fun h0 => by rw [show jub l y e = [] from h0] at hj; simp at hj, fun q h1 h2 => by have h3 : q < y := h2; omega⟩
    · rw [if_neg hj] at h ⊢
      obtain ⟨a1, a2, a3, a4⟩ := ih (y + 1) h
      refine ⟨by omega, by omega, a3, fun q h1 h2 => ?_⟩
      rcases Int.lt_or_le y q with h5 | h5
      · exact a4 q (by omega) h2
      · rw [show q = y by omega]
        exact List.length_eq_zero_iff.mp (by omega)
/-- Who has a jubilee. -/
theorem jubF_rises (y e : Int) (l : List Int) : ∀ i : Nat, (jubF y e i l).Pairwise (· < ·) ∧ ∀ q ∈ jubF y e i l, (i : Int) ≤ q := by
  induction l with
  | nil => intro i; simp [jubF]
  | cons b t ih =>
    intro i
    obtain ⟨h1, h2⟩ := ih (i + 1)
    unfold jubF
    split
    · rw [List.singleton_append]
      refine ⟨List.pairwise_cons.2 ⟨fun q hq => by have := h2 q hq; omega, h1⟩, fun q hq => ?_⟩
      rcases List.mem_cons.1 hq with rfl | hq
      · exact Int.le_refl _
      · have := h2 q hq
        omega
    · rw [List.nil_append]
      exact ⟨h1, fun q hq => by have := h2 q hq; omega⟩
theorem jubF_iff (y e : Int) (l : List Int) : ∀ (i j : Nat) (h : j < l.length), ((i + j : Nat) : Int) ∈ jubF y e i l ↔ (inR (y - l[j]) 0 120 && rnd (y - l[j]) e) = true := by
  induction l with
  | nil => intro i j h; simp at h
  | cons b t ih =>
    intro i j h
    have hr := (jubF_rises y e t (i + 1)).2
    unfold jubF
    rw [List.mem_append]
    cases j with
    | zero =>
      rw [List.getElem_cons_zero]
      constructor
      · rintro (h1 | h1)
        · split at h1
          · assumption
          · cases h1
        · have := hr _ h1
          omega
      · intro h1
        rw [if_pos h1]
        exact .inl (by simp)
    | succ j =>
      have h0 := ih (i + 1) j (by simpa using h)
      rw [show i + 1 + j = i + (j + 1) by omega] at h0
      rw [List.getElem_cons_succ, ← h0]
      constructor
      · rintro (h1 | h1)
        · split at h1
          · rw [List.mem_singleton] at h1
            omega
          · cases h1
        · exact h1
      · exact .inr
theorem jub_iff (l : List Int) (y e : Int) (j : Nat) (h : j < l.length) : (j : Int) ∈ jub l y e ↔ (inR (y - l[j]) 0 120 && rnd (y - l[j]) e) = true := by
  have := jubF_iff y e l 0 j h
  rw [Nat.zero_add] at this
  exact this
theorem jub_rises (l : List Int) (y e : Int) : (jub l y e).Pairwise (· < ·) := (jubF_rises y e l 0).1
/-- The oldest one. -/
theorem old_prop (l : List Int) (t : List Int) : ∀ b : Int, (b :: t).Pairwise (· < ·) → oldR l t b ∈ b :: t ∧ ∀ i ∈ b :: t, rde l (oldR l t b) ≤ rde l i ∧ (rde l i = rde l (oldR l t b) → oldR l t b ≤ i) := by
  induction t with
  | nil =>
    intro b _
    simp only [oldR]
    refine ⟨List.mem_cons_self, fun i hi => ?_⟩
    rw [List.mem_singleton] at hi
    subst hi
    exact ⟨Int.le_refl _, fun _ => Int.le_refl _⟩
  | cons c t ih =>
    intro b hp
    rw [List.pairwise_cons] at hp
    obtain ⟨h1, h2⟩ := hp
    have hbc := h1 c List.mem_cons_self
    unfold oldR
    by_cases h : rde l c < rde l b
    · rw [if_pos h]
      obtain ⟨a1, a2⟩ := ih c h2
      refine ⟨List.mem_cons_of_mem _ a1, fun i hi => ?_⟩
      rcases List.mem_cons.1 hi with rfl | hi
      · have := (a2 c List.mem_cons_self).1
        exact ⟨by omega, fun h3 => by omega⟩
      · exact a2 i hi
    · rw [if_neg h]
      have hp2 : (b :: t).Pairwise (· < ·) := List.pairwise_cons.2 ⟨fun q hq => h1 q (List.mem_cons_of_mem _ hq), (List.pairwise_cons.1 h2).2⟩
      obtain ⟨a1, a2⟩ := ih b hp2
      have hb := a2 b List.mem_cons_self
      have hbt : oldR l t b = b ∨ oldR l t b ∈ t := List.mem_cons.1 a1
      refine ⟨by rcases hbt with h3 | h3
                 · rw [h3]; exact List.mem_cons_self
                 · exact List.mem_cons_of_mem _ (List.mem_cons_of_mem _ h3), fun i hi => ?_⟩
      rcases List.mem_cons.1 hi with rfl | hi
      · exact a2 i List.mem_cons_self
      · rcases List.mem_cons.1 hi with rfl | hi
        · refine ⟨by omega, fun h3 => ?_⟩
          have := hb.2 (by omega)
          omega
        · exact a2 i (List.mem_cons_of_mem _ hi)
/-- Years of a list of years. -/
theorem yrs_rises (p : Int → Bool) (n : Nat) : ∀ y : Int, (yrs p n y).Pairwise (· < ·) ∧ ∀ q ∈ yrs p n y, (y ≤ q ∧ q < y + (n : Int)) ∧ p q = true := by
  induction n with
  | zero => intro y; simp [yrs]
  | succ n ih =>
    intro y
    obtain ⟨h1, h2⟩ := ih (y + 1)
    unfold yrs
    split
    · rename_i hp
      rw [List.singleton_append]
      refine ⟨List.pairwise_cons.2 ⟨fun q hq => by have := (h2 q hq).1; omega, h1⟩, fun q hq => ?_⟩
      rcases List.mem_cons.1 hq with rfl | hq
      · exact ⟨by omega, hp⟩
      · have := h2 q hq
        exact ⟨by omega, this.2⟩
    · rw [List.nil_append]
      exact ⟨h1, fun q hq => by have := h2 q hq; exact ⟨by omega, this.2⟩⟩
theorem yrsA_iff (p : Int → Bool) (n : Nat) : ∀ y q : Int, q ∈ yrsA p n y ↔ (y ≤ q ∧ q < y + (n : Int)) ∧ p q = true := by
  induction n with
  | zero =>
    intro y q
    simp only [yrsA]
    constructor
    · intro h; cases h
    · rintro ⟨h, _⟩
      omega
  | succ n ih =>
    intro y q
    have h := ih (y + 1) q
    unfold yrsA
    rw [List.mem_append, h]
    constructor
    · rintro (h1 | h1)
      · split at h1
        · rename_i hp
          rw [List.mem_singleton] at h1
          subst h1
          exact ⟨by omega, hp⟩
        · cases h1
      · exact ⟨by omega, h1.2⟩
    · rintro ⟨h1, h2⟩
      rcases Int.lt_or_le y q with h3 | h3
      · exact .inr ⟨by omega, h2⟩
      · have : q = y := by omega
        subst this
        rw [if_pos h2]
        exact .inl (by simp)
end Go.Proofs.Ytkpoidakicgfbaa.Q
set_option linter.all false
namespace Go.Proofs.Ytkpoidakicgfbaa.Q
open Go.RowKit Go Go.Proofs.Ytkpoidakicgfbaa.Eng Go.Proofs.Ytkpoidakicgfbaa.C
set_option linter.unusedSimpArgs false
set_option linter.unusedVariables false

theorem qSame_l (l : List Int) (hl : l.length ≤ 2000000) (d : Nat) : ∀ i : Nat, i + d = l.length → Big (fun k => laws_qSame.l0 k l l (l.length : Int) i) true := by
  induction d with
  | zero =>
    intro i hi
    refine Big.succ ?_
    unfold laws_qSame.l0
    exact Big.neg (by omega) (Big.some_ _)
  | succ d ih =>
    intro i hi
    refine Big.succ ?_
    unfold laws_qSame.l0
    rw [w64n (by omega)]
    exact Big.pos (by omega) (Big.pos (by omega) (Big.pos (by omega) (Big.pos (by omega) (Big.pos rfl (ih (i + 1) (by omega))))))
theorem qSame_at (l : List Int) (hl : l.length ≤ 2000000) : Big (fun k => laws_qSame.f k l l) true := by
  unfold laws_qSame.f
  exact Big.pos rfl (qSame_l l hl l.length 0 (by omega))
theorem qRows_l (l : List (List Int)) (hl : l.length ≤ 2000000) (hr : ∀ x ∈ l, x.length ≤ 2000000) (d : Nat) : ∀ i : Nat, i + d = l.length → Big (fun k => laws_qRows.l0 k l l (l.length : Int) i) true := by
  induction d with
  | zero =>
    intro i hi
    refine Big.succ ?_
    unfold laws_qRows.l0
    exact Big.neg (by omega) (Big.some_ _)
  | succ d ih =>
    intro i hi
    have hlt : i < l.length := by omega
    have er : rde l (i : Int) = l[i] := (rd1_cons_drop (List.drop_eq_getElem_cons hlt)).1
    refine Big.succ ?_
    unfold laws_qRows.l0
    rw [w64n (by omega), er]
    exact Big.pos (by omega) (Big.pos (by omega) (Big.pos (by omega) (Big.pos (by omega) (Big.bind (qSame_at _ (hr _ (List.getElem_mem hlt))) (Big.pos rfl (ih (i + 1) (by omega)))))))
theorem qRows_at (l : List (List Int)) (hl : l.length ≤ 2000000) (hr : ∀ x ∈ l, x.length ≤ 2000000) : Big (fun k => laws_qRows.f k l l) true := by
  unfold laws_qRows.f
  exact Big.pos rfl (qRows_l l hl hr l.length 0 (by omega))
theorem qRises_l (l : List Int) (hl : l.length ≤ 2000000) (hp : l.Pairwise (· < ·)) (d : Nat) : ∀ i : Nat, 1 ≤ i → i + d = l.length ∨ (d = 0 ∧ l.length ≤ i ∧ i ≤ 1) → Big (fun k => laws_qRises.l0 k l i) true := by
  induction d with
  | zero =>
    intro i h1 hi
    refine Big.succ ?_
    unfold laws_qRises.l0
    exact Big.neg (by omega) (Big.some_ _)
  | succ d ih =>
    intro i h1 hi
    have hlt : i < l.length := by omega
    have e1 : IntKind.i64.wrap ((i : Int) - 1) = ((i - 1 : Nat) : Int) := by rw [w64 (by omega) (by omega)]; omega
    have r1 : rde l (i : Int) = l[i] := by rw [rd_nat, List.getD_eq_getElem?_getD, List.getElem?_eq_getElem hlt]; rfl
    have r2 : rde l ((i - 1 : Nat) : Int) = l[i - 1] := by rw [rd_nat, List.getD_eq_getElem?_getD, List.getElem?_eq_getElem (by omega)]; rfl
    have hlt2 : l[i - 1] < l[i] := List.pairwise_iff_getElem.1 hp (i - 1) i (by omega) hlt (by omega)
    refine Big.succ ?_
    unfold laws_qRises.l0
    rw [w64n (by omega), e1, r1, r2]
    exact Big.pos (by omega) (Big.pos (by omega) (Big.pos (by omega) (Big.pos (by omega) (Big.neg (by omega) (ih (i + 1) (by omega) (by omega))))))
theorem qRises_at (l : List Int) (hl : l.length ≤ 2000000) (hp : l.Pairwise (· < ·)) : Big (fun k => laws_qRises.f k l) true := by
  unfold laws_qRises.f
  exact qRises_l l hl hp (l.length - 1) 1 (Nat.le_refl _) (by omega)
theorem qHas_l (l : List Int) (n : Int) (hl : l.length ≤ 2000000) (t : List Int) : ∀ i : Nat, l.drop i = t → i ≤ l.length → Big (fun k => laws_qHas.l0 k n l (l.length : Int) i) (decide (n ∈ t)) := by
  induction t with
  | nil =>
    intro i hd hi
    rw [List.drop_eq_nil_iff] at hd
    refine Big.succ ?_
    unfold laws_qHas.l0
    refine Big.neg (by omega) ?_
    rw [show decide (n ∈ ([] : List Int)) = false by simp]
    exact Big.some_ _
  | cons x t ih =>
    intro i hd hi
    obtain ⟨h1, h2, h3⟩ := rd_cons_drop hd
    refine Big.succ ?_
    unfold laws_qHas.l0
    rw [h1, w64n (by omega)]
    refine Big.pos (by omega) (Big.pos (by omega) (Big.pos (by omega) ?_))
    by_cases hx : x = n
    · subst hx
      refine Big.pos rfl ?_
      rw [show decide (x ∈ x :: t) = true by simp]
      exact Big.some_ _
    · refine Big.neg hx ?_
      rw [show decide (n ∈ x :: t) = decide (n ∈ t) by simp [Ne.symm hx]]
      exact ih (i + 1) h3 (by omega)
theorem qHas_at (l : List Int) (n : Int) (hl : l.length ≤ 2000000) : Big (fun k => laws_qHas.f k l n) (decide (n ∈ l)) :=
  qHas_l l n hl l 0 rfl (Nat.zero_le _)
/-- JubileesIn, where births, a year and a number of years are given. -/
theorem jubIn {l : List Int} {y e : Int} (hl : l.length ≤ 1048576) (hb : born l = true) (hy : 0 ≤ y ∧ y ≤ 3000) (he : inR e 1 100 = true) : Big (fun k => impl_JubileesIn.f k l y e) (jub l y e, true) := by
  have h := (JubileesIn_is l y e hl).2
  rw [if_pos (by rw [hb, inR_iff.mpr hy, he]; rfl)] at h
  exact h

/-! ### the calendar's part -/
theorem calPart_l1 {k0 : List Int} {L : List Int} {f t e quiet long : Int} (hl : L.length ≤ 60) (hb : born L = true) (hs : 0 ≤ f ∧ f ≤ t ∧ t ≤ 3000 ∧ t - f < 200) (he : inR e 1 100 = true) (hq : f ≤ quiet) (hz : quiet + long ≤ t + 1) (hQ : Quiet L e quiet (quiet + long)) (hJ : Big (fun k => laws_FnJubileesCome.j4 k k0) true) (d : Nat) : ∀ y : Int, quiet ≤ y → y + (d : Int) = quiet + long → Big (fun k => laws_FnJubileesCome.l1 k k0 L f t e quiet long y) true := by
  induction d with
  | zero =>
    intro y h1 h2
    refine Big.succ ?_
    unfold laws_FnJubileesCome.l1
    rw [w64 (i := quiet + long) (by omega) (by omega)]
    exact Big.neg (by omega) hJ
  | succ d ih =>
    intro y h1 h2
    refine Big.succ ?_
    unfold laws_FnJubileesCome.l1
    rw [w64 (i := quiet + long) (by omega) (by omega), w64 (i := y + 1) (by omega) (by omega)]
    refine Big.pos (by omega) ?_
    refine Big.bind (jubIn (by omega) hb (by omega) he) ?_
    refine Big.neg (by omega) (Big.neg (by omega) (Big.pos rfl (Big.pos ?_ (ih (y + 1) (by omega) (by omega)))))
    show ((jub L y e).length : Int) = 0
    rw [hQ y h1 (by omega)]
    rfl
/-- What the loop over the years of a calendar needs to know. -/
structure Cal (L : List Int) (f t e : Int) (C : List (List Int)) (cnt at_ most quiet long : Int) (five : Bool) : Prop where
  hl : L.length ≤ 60
  hb : born L = true
  hs : 0 ≤ f ∧ f ≤ t ∧ t ≤ 3000 ∧ t - f < 200
  he : inR e 1 100 = true
  hC : C.length ≤ 200
  m1 : ∀ q, f ≤ q → q ≤ t → ((jub L q e).length : Int) ≤ most
  m2 : ∀ q, f ≤ q → q ≤ t → ((jub L q e).length : Int) = most → at_ ≤ q
  m3 : ((jub L at_ e).length : Int) = most
  q0 : 0 ≤ long
  q1 : ∀ u v, f ≤ u → u ≤ v → v ≤ t + 1 → Quiet L e u v → v - u ≤ long
  q2 : ∀ u v, f ≤ u → u < v → v ≤ t + 1 → Quiet L e u v → v - u = long → quiet ≤ u
  q3 : five = true → f ≤ quiet ∧ quiet + long ≤ t + 1 ∧ Quiet L e quiet (quiet + long)
theorem sub_tail {α : Type} (y : α) (l : List α) : subI (y :: l) 1 ((l.length + 1 : Nat) : Int) = some l := by
  unfold subI
  rw [if_pos (by simp; omega)]
  have e : ((l.length + 1 : Nat) : Int).toNat - (1 : Int).toNat = l.length := by omega
  rw [e]
  simp
theorem calPart_l0 {k0 : List Int} {L : List Int} {f t e : Int} {C : List (List Int)} {cnt at_ most quiet long : Int} {five : Bool} (H : Cal L f t e C cnt at_ most quiet long five) (hJ : Big (fun k => laws_FnJubileesCome.j4 k k0) true) (d : Nat) : ∀ (y n run : Int) (i : Nat), f ≤ y → y + (d : Int) = t + 1 → n + cntF L e d y = cnt → C.drop i = calF L e d y → i ≤ C.length → 0 ≤ run → f ≤ y - run → Quiet L e (y - run) y → 0 ≤ n → n + 10 * (d : Int) ≤ 100000 → Big (fun k => laws_FnJubileesCome.l0 k k0 L f t e C cnt at_ most quiet long five n i run y) true := by
  obtain ⟨hl, hb, hs, he, hC, m1, m2, m3, q0, q1, q2, q3⟩ := H
  have hf := fit_of_born hb
  induction d with
  | zero =>
    intro y n run i hy hd hn hc hi hr hfr hq hn0 hn2
    simp only [cntF] at hn
    simp only [calF] at hc
    rw [List.drop_eq_nil_iff] at hc
    refine Big.succ ?_
    unfold laws_FnJubileesCome.l0
    refine Big.neg (by omega) (Big.pos (by omega) ?_)
    rw [show ((i : Int) != (C.length : Int)) = false by simp; omega]
    refine Big.succ ?_
    unfold laws_FnJubileesCome.j3
    refine Big.neg (by decide) ?_
    cases five
    · exact Big.neg (by decide) hJ
    · obtain ⟨b1, b2, b3⟩ := q3 rfl
      obtain ⟨dd, hdd⟩ : ∃ dd : Nat, (dd : Int) = long := ⟨long.toNat, by omega⟩
      exact Big.pos rfl (calPart_l1 hl hb hs he b1 b2 b3 hJ dd quiet (Int.le_refl _) (by omega))
  | succ d ih =>
    intro y n run i hy hd hn hc hi hr hfr hq hn0 hn2
    have hjl := jub_length L y e
    have hl10 := hf.1
    have hm1 := m1 y hy (by omega)
    simp only [cntF] at hn
    -- behind the tests on the most
    have main : Big (fun k => laws_FnJubileesCome.j1 k k0 L f t e C cnt at_ most quiet long five n i run y (jub L y e) false) true := by
      refine Big.succ ?_
      unfold laws_FnJubileesCome.j1
      refine Big.neg (by decide) ?_
      by_cases hj : ((jub L y e).length : Int) > 0
      · refine Big.pos hj ?_
        rw [calF_succ, if_pos hj, List.singleton_append] at hc
        obtain ⟨r1, r2, r3⟩ := rd1_cons_drop hc
        rw [r1, List.length_cons, w64 (i := ((jub L y e).length : Int) + 1) (by omega) (by omega), w64 (i := n + ((jub L y e).length : Int)) (by omega) (by omega)]
        refine Big.neg (by omega) (Big.pos (by omega) (Big.pos (by omega) (Big.pos (by omega) (Big.pos (by omega) (Big.pos rfl ?_)))))
        rw [sub_tail]
        refine Big.bind (Big.some_ _) ?_
        refine Big.bind (qSame_at _ (by omega)) ?_
        refine Big.succ ?_
        unfold laws_FnJubileesCome.j2
        rw [w64n (by omega), w64 (i := y + 1) (by omega) (by omega)]
        refine Big.neg (by decide) (Big.neg (by omega) ?_)
        have nx := ih (y + 1) (n + ((jub L y e).length : Int)) 0 (i + 1) (by omega) (by omega) (by omega) r3 (by omega) (Int.le_refl _) (by omega) (fun q h1 h2 => by omega) (by omega) (by omega)
        by_cases h0 : 0 = long
        · exact Big.pos h0 nx
        · exact Big.neg h0 nx
      · refine Big.neg hj ?_
        have hj0 : jub L y e = [] := List.length_eq_zero_iff.mp (by omega)
        rw [calF_succ, if_neg hj, List.nil_append] at hc
        have hq2 : Quiet L e (y - run) (y + 1) := fun q h1 h2 => by
          rcases Int.lt_or_le q y with h3 | h3
          · exact hq q h1 h3
          · rw [show q = y by omega]
            exact hj0
        have b1 := q1 (y - run) (y + 1) hfr (by omega) (by omega) hq2
        have b2 := q2 (y - run) (y + 1) hfr (by omega) (by omega) hq2
        have hcn : ((jub L y e).length : Int) = 0 := by omega
        rw [hcn, w64 (i := run + 1) (by omega) (by omega), w64 (i := n + 0) (by omega) (by omega), w64 (i := y + 1) (by omega) (by omega), w64 (i := y - (run + 1)) (by omega) (by omega), w64 (i := y - (run + 1) + 1) (by omega) (by omega)]
        have nx := ih (y + 1) (n + 0) (run + 1) i (by omega) (by omega) (by omega) hc hi (by omega) (by omega) (by rw [show y + 1 - (run + 1) = y - run by omega]; exact hq2) (by omega) (by omega)
        refine Big.neg (by omega) ?_
        by_cases h0 : run + 1 = long
        · have := b2 (by omega)
          exact Big.pos h0 (Big.pos (by omega) (Big.neg (by omega) nx))
        · exact Big.neg h0 nx
    refine Big.succ ?_
    unfold laws_FnJubileesCome.l0
    refine Big.pos (by omega) ?_
    refine Big.bind (jubIn (by omega) hb (by omega) he) ?_
    refine Big.pos rfl ?_
    refine Big.bind (qRises_at (jub L y e) (by omega) (jub_rises L y e)) ?_
    refine Big.pos rfl ?_
    refine Big.neg (by show ¬ ((jub L y e).length : Int) > most; omega) ?_
    by_cases hm : ((jub L y e).length : Int) = most
    · have := m2 y hy (by omega) hm
      refine Big.pos hm (Big.neg (by omega) ?_)
      by_cases ha : y = at_
      · refine Big.pos ha ?_
        rw [show (((jub L y e).length : Int) != most) = false by rw [hm]; exact bne_self_eq_false _]
        exact main
      · exact Big.neg ha main
    · refine Big.neg hm ?_
      have ha : ¬ y = at_ := fun h => hm (by rw [h]; exact m3)
      exact Big.neg ha main
theorem calPart {k0 : List Int} {L : List Int} {f t e : Int} (hl : L.length ≤ 60) (hgood : (born L && span f t && inR e 1 100) = true) (hJ : Big (fun k => laws_FnJubileesCome.j4 k k0) true) :
    Big (fun k => laws_FnJubileesCome.l0 k k0 L f t e (calF L e (t + 1 - f).toNat f) (cntF L e (t + 1 - f).toNat f) (mostR (calF L e (t + 1 - f).toNat f) f 0).1 (mostR (calF L e (t + 1 - f).toNat f) f 0).2 (quiE (quiR (calF L e (t + 1 - f).toNat f ++ [[t + 1]]) 0 0 f)).1 (quiE (quiR (calF L e (t + 1 - f).toNat f ++ [[t + 1]]) 0 0 f)).2.1 (quiE (quiR (calF L e (t + 1 - f).toNat f ++ [[t + 1]]) 0 0 f)).2.2 0 0 0 f) true ∧
    ((quiE (quiR (calF L e (t + 1 - f).toNat f ++ [[t + 1]]) 0 0 f)).2.2 = decide (((calF L e (t + 1 - f).toNat f).length : Int) < t - f + 1)) := by
  simp only [Bool.and_eq_true] at hgood
  obtain ⟨⟨hb, hs0⟩, he⟩ := hgood
  have hs := span_iff.mp hs0
  obtain ⟨n, hn⟩ : ∃ n : Nat, (n : Int) = t + 1 - f := ⟨(t + 1 - f).toNat, by omega⟩
  rw [show (t + 1 - f).toNat = n by omega]
  have hlen := calF_length L e n f
  have hqe := qui_eq L e n f f 0 0
  rw [show f + (n : Int) = t + 1 by omega] at hqe
  rw [hqe]
  obtain ⟨p1, p2, p3, p4, p5⟩ := quiN_prop L e n f f 0 0 (Int.le_refl _) (Int.le_refl _) (fun q h1 h2 => by omega)
  obtain ⟨o1, o2, o3, o4, o5⟩ := most_prop L e n f f 0 (Int.le_refl _)
  rw [show f + (n : Int) = t + 1 by omega] at p2 p3 p5 o2 o3
  generalize hM : mostR (calF L e n f) f 0 = M at o1 o2 o3 o4 o5
  obtain ⟨ma, mm⟩ := M
  generalize hP : quiN L e n f f 0 0 = P at p1 p2 p3 p4 p5
  obtain ⟨qb, qm⟩ := P
  dsimp only at p1 p2 p3 p4 p5 o1 o2 o3 o4 o5 ⊢
  have hE : ((quiE (qb, qm)).1 = (if qm = 0 then 0 else qb)) ∧ (quiE (qb, qm)).2.1 = qm ∧ (quiE (qb, qm)).2.2 = decide (qm > 0) := by
    unfold quiE
    by_cases h : qm = 0
    · subst h
      exact ⟨rfl, rfl, rfl⟩
    · simp only [if_neg h]
      exact ⟨trivial, trivial, (decide_eq_true (by omega)).symm⟩
  obtain ⟨e1, e2, e3⟩ := hE
  rw [e1, e2, e3]
  constructor
  · have hm3 : ((jub L ma e).length : Int) = mm := by
      rcases Int.lt_or_le 0 mm with h | h
      · exact (o5 h).2
      · have h0 : mm = 0 := by omega
        have h1 := o4 h0
        have h2 := o2 f (Int.le_refl _) (by omega)
        rw [h1]
        omega
    have H : Cal L f t e (calF L e n f) (cntF L e n f) ma mm (if qm = 0 then 0 else qb) qm (decide (qm > 0)) := by
      refine ⟨hl, hb, hs, he, by omega, fun q h1 h2 => o2 q h1 (by omega), fun q h1 h2 h3 => ?_, hm3, p1, fun u v h1 h2 h3 h4 => p2 u v h1 h2 h3 h4, fun u v h1 h2 h3 h4 h5 => ?_, fun h => ?_⟩
      · rcases Int.lt_or_le 0 mm with h | h
        · exact o3 q h1 (by omega) h3 h
        · have h0 : mm = 0 := by omega
          rw [o4 h0]
          exact h1
      · rw [if_neg (by omega)]
        exact p3 u v h1 h2 h3 h4 h5 (by omega)
      · have h0 : qm > 0 := of_decide_eq_true h
        obtain ⟨b1, b2, b3⟩ := p5 h0
        rw [if_neg (by omega)]
        exact ⟨b1, b2, b3⟩
    exact calPart_l0 H hJ n f 0 0 0 (Int.le_refl _) (by omega) (by omega) rfl (Nat.zero_le _) (Int.le_refl _) (by omega) (fun q h1 h2 => by omega) (Int.le_refl _) (by omega)
  · rcases Nat.lt_or_ge (calF L e n f).length n with h | h
    · obtain ⟨q, h1, h2, h3⟩ := cal_miss L e n f h
      have := p2 q (q + 1) h1 (by omega) (by omega) (fun z h4 h5 => by rw [show z = q by omega]; exact h3)
      rw [decide_eq_true (show qm > 0 by omega), decide_eq_true (by omega)]
    · have hfull := cal_full L e n f (by omega)
      have : ¬ qm > 0 := fun h0 => by
        obtain ⟨b1, b2, b3⟩ := p5 h0
        exact hfull qb b1 (by omega) (b3 qb (Int.le_refl _) (by omega))
      rw [decide_eq_false this, decide_eq_false (by omega)]
end Go.Proofs.Ytkpoidakicgfbaa.Q
set_option linter.all false
namespace Go.Proofs.Ytkpoidakicgfbaa.Q
open Go.RowKit Go Go.Proofs.Ytkpoidakicgfbaa.Eng Go.Proofs.Ytkpoidakicgfbaa.C
set_option linter.unusedSimpArgs false
set_option linter.unusedVariables false

theorem annPart_l {s f t e : Int} (hs : 0 ≤ s ∧ s ≤ 3000) (hsp : 0 ≤ f ∧ f ≤ t ∧ t ≤ 3000 ∧ t - f < 200) (he : 1 ≤ e) (l : List Int) (hl : l.length ≤ 2000000) (hm : ∀ q, f ≤ q → q ≤ t → (q ∈ l ↔ rnd (q - s) e = true)) (d : Nat) : ∀ y : Int, f ≤ y → y + (d : Int) = t + 1 → Big (fun k => laws_FnJubileesCome.l6 k s t e l y) true := by
  induction d with
  | zero =>
    intro y h1 h2
    refine Big.succ ?_
    unfold laws_FnJubileesCome.l6
    exact Big.neg (by omega) (Big.some_ _)
  | succ d ih =>
    intro y h1 h2
    have hy := hm y h1 (by omega)
    have hr : decide (y ∈ l) = rnd (y - s) e := by
      cases h : rnd (y - s) e
      · exact decide_eq_false (fun h3 => by rw [hy.mp h3] at h; cases h)
      · exact decide_eq_true (hy.mpr h)
    refine Big.succ ?_
    unfold laws_FnJubileesCome.l6
    rw [w64 (i := y + 1) (by omega) (by omega), w64 (i := y - s) (by omega) (by omega)]
    refine Big.pos (by omega) ?_
    refine Big.bind (qHas_at l y hl) ?_
    rw [hr]
    have nx := ih (y + 1) (by omega) (by omega)
    by_cases hc : y > s
    · refine Big.pos hc (Big.neg (by omega) ?_)
      have e1 : rnd (y - s) e = (Int.tmod (y - s) e == 0) := by
        unfold rnd
        rw [decide_eq_true (show 0 < y - s by omega), Bool.true_and]
      rw [e1, bne_self_eq_false]
      exact Big.neg (by decide) nx
    · refine Big.neg hc ?_
      have e1 : rnd (y - s) e = false := by
        unfold rnd
        rw [decide_eq_false (show ¬ 0 < y - s by omega), Bool.false_and]
      rw [e1]
      exact Big.neg (by decide) nx
theorem annPart (s f t e : Int) : Big (fun k => laws_FnJubileesCome.j11 k s f t e (if (inR s 0 3000 && span f t && inR e 1 100) = true then (yrsA (fun y => rnd (y - s) e) (t + 1 - f).toNat f, true) else ([], false)).1 (if (inR s 0 3000 && span f t && inR e 1 100) = true then (yrsA (fun y => rnd (y - s) e) (t + 1 - f).toNat f, true) else ([], false)).2) true := by
  refine Big.succ ?_
  unfold laws_FnJubileesCome.j11
  cases h : (inR s 0 3000 && span f t && inR e 1 100)
  · rw [if_neg (show ¬ (false = true) by decide)]
    exact Big.neg (by decide) (Big.some_ _)
  · rw [if_pos (show (true = true) from rfl)]
    dsimp only
    simp only [Bool.and_eq_true] at h
    have hs := inR_iff.mp h.1.1
    have hsp := span_iff.mp h.1.2
    have he := inR_iff.mp h.2
    have hlen := yrsA_length (fun y => rnd (y - s) e) (t + 1 - f).toNat f
    refine Big.pos rfl ?_
    refine annPart_l hs hsp he.1 _ (by omega) (fun q h1 h2 => ?_) (t + 1 - f).toNat f (Int.le_refl _) (by omega)
    rw [yrsA_iff]
    exact ⟨fun h3 => h3.2, fun h3 => ⟨by omega, h3⟩⟩
theorem togPart_l {v : List Int} {m s f t e : Int} {an : List Int} {fi : Bool} (hl : v.length ≤ 60) (hb : born v = true) (hm : inR m 1 100 = true) (W : List Int) (hW : W.length ≤ 2000000) (hq : ∀ q ∈ W, (0 ≤ q ∧ q ≤ 3000) ∧ allJ v m q = true) (hT : Big (fun k => laws_FnJubileesCome.j11 k s f t e an fi) true) (T : List Int) : ∀ i : Nat, W.drop i = T → i ≤ W.length → Big (fun k => laws_FnJubileesCome.l5 k v m s f t e an fi W (W.length : Int) i) true := by
  induction T with
  | nil =>
    intro i hd hi
    rw [List.drop_eq_nil_iff] at hd
    refine Big.succ ?_
    unfold laws_FnJubileesCome.l5
    exact Big.neg (by omega) hT
  | cons q T ih =>
    intro i hd hi
    obtain ⟨h1, h2, h3⟩ := rd_cons_drop hd
    obtain ⟨hq1, hq2⟩ := hq q (List.mem_of_mem_drop (i := i) (by rw [hd]; exact List.mem_cons_self))
    unfold allJ at hq2
    rw [beq_iff_eq] at hq2
    refine Big.succ ?_
    unfold laws_FnJubileesCome.l5
    rw [h1, w64n (by omega)]
    refine Big.pos (by omega) (Big.pos (by omega) (Big.pos (by omega) ?_))
    refine Big.bind (jubIn (by omega) hb hq1 hm) ?_
    exact Big.pos rfl (Big.pos hq2 (ih (i + 1) h3 (by omega)))
theorem togPart {v : List Int} {m s f t e : Int} {an : List Int} {fi : Bool} (hl : v.length ≤ 60) (hT : Big (fun k => laws_FnJubileesCome.j11 k s f t e an fi) true) : Big (fun k => laws_FnJubileesCome.j10 k v m (if (born v && inR m 1 100) = true then (yrs (allJ v m) 3001 0, true) else ([], false)).1 (if (born v && inR m 1 100) = true then (yrs (allJ v m) 3001 0, true) else ([], false)).2 s f t e an fi) true := by
  refine Big.succ ?_
  unfold laws_FnJubileesCome.j10
  cases h : (born v && inR m 1 100)
  · rw [if_neg (show ¬ (false = true) by decide)]
    exact Big.neg (by decide) hT
  · rw [if_pos (show (true = true) from rfl)]
    dsimp only
    rw [Bool.and_eq_true] at h
    have hlen := yrs_length (allJ v m) 3001 0
    obtain ⟨r1, r2⟩ := yrs_rises (allJ v m) 3001 0
    refine Big.pos rfl ?_
    refine Big.bind (qRises_at (yrs (allJ v m) 3001 0) (by omega) r1) ?_
    refine Big.pos rfl ?_
    exact togPart_l hl h.1 h.2 _ (by omega) (fun q hq => by obtain ⟨h1, h2⟩ := r2 q hq; exact ⟨by omega, h2⟩) hT _ 0 rfl (Nat.zero_le _)
/-- What is known of the oldest one. -/
def Oldest (u : List Int) (y : Int) (who : List Int) (best age : Int) : Prop := best ∈ who ∧ y - rde u best = age ∧ ∀ i ∈ who, (0 ≤ i ∧ i < (u.length : Int)) ∧ (0 ≤ rde u i ∧ rde u i ≤ 3000) ∧ y - rde u i ≤ age ∧ (y - rde u i = age → best ≤ i)
theorem oldPart_l {u who v : List Int} {y best age m s f t e : Int} {tg an : List Int} {th fi : Bool} (hy : 0 ≤ y ∧ y ≤ 3000) (hw : who.length ≤ 2000000) (hO : Oldest u y who best age) (hT : Big (fun k => laws_FnJubileesCome.j10 k v m tg th s f t e an fi) true) (T : List Int) : ∀ i : Nat, who.drop i = T → i ≤ who.length → Big (fun k => laws_FnJubileesCome.l4 k u y best age v m tg th s f t e an fi who (who.length : Int) i) true := by
  induction T with
  | nil =>
    intro i hd hi
    rw [List.drop_eq_nil_iff] at hd
    refine Big.succ ?_
    unfold laws_FnJubileesCome.l4
    exact Big.neg (by omega) hT
  | cons q T ih =>
    intro i hd hi
    obtain ⟨h1, h2, h3⟩ := rd_cons_drop hd
    obtain ⟨a1, a2, a3, a4⟩ := hO.2.2 q (List.mem_of_mem_drop (i := i) (by rw [hd]; exact List.mem_cons_self))
    refine Big.succ ?_
    unfold laws_FnJubileesCome.l4
    rw [h1, w64n (by omega), w64 (i := y - rde u q) (by omega) (by omega)]
    have nx := ih (i + 1) h3 (by omega)
    refine Big.pos (by omega) (Big.pos (by omega) (Big.pos (by omega) (Big.pos (by omega) (Big.pos (by omega) (Big.neg (by omega) ?_)))))
    by_cases hc : y - rde u q = age
    · have := a4 hc
      exact Big.pos hc (Big.neg (by omega) nx)
    · exact Big.neg hc nx
theorem oldPart {u who v : List Int} {y best age m s f t e : Int} {el : Bool} {tg an : List Int} {th fi : Bool} (hy : el = true → 0 ≤ y ∧ y ≤ 3000) (hw : who.length ≤ 2000000) (hO : el = true → Oldest u y who best age) (hT : Big (fun k => laws_FnJubileesCome.j10 k v m tg th s f t e an fi) true) : Big (fun k => laws_FnJubileesCome.j8 k u y who best age el v m tg th s f t e an fi) true := by
  refine Big.succ ?_
  unfold laws_FnJubileesCome.j8
  cases el
  · exact Big.neg (by decide) hT
  · have hO := hO rfl
    have hy := hy rfl
    obtain ⟨b1, b2, b3⟩ := hO
    obtain ⟨c1, c2, _, _⟩ := b3 best b1
    refine Big.pos rfl ?_
    refine Big.bind (qHas_at who best hw) ?_
    rw [decide_eq_true b1, w64 (i := y - rde u best) (by omega) (by omega), b2, bne_self_eq_false]
    refine Big.pos rfl (Big.pos (by omega) (Big.pos (by omega) ?_))
    refine Big.succ ?_
    unfold laws_FnJubileesCome.j9
    exact Big.neg (by decide) (oldPart_l hy hw ⟨b1, b2, b3⟩ hT who 0 rfl (Nat.zero_le _))
theorem nextPart_l {u who v : List Int} {y each nx best age m s f t e : Int} {el : Bool} {tg an : List Int} {th fi : Bool} (hl : u.length ≤ 60) (hb : born u = true) (he : inR each 1 100 = true) (hy : 0 ≤ y ∧ y < nx ∧ nx ≤ 3000) (hN : jub u nx each ≠ []) (hQ : Quiet u each (y + 1) nx) (hT : Big (fun k => laws_FnJubileesCome.j8 k u y who best age el v m tg th s f t e an fi) true) (d : Nat) : ∀ z : Int, y + 1 ≤ z → z + (d : Int) = nx + 1 → Big (fun k => laws_FnJubileesCome.l3 k u y each nx who best age el v m tg th s f t e an fi z) true := by
  induction d with
  | zero =>
    intro z h1 h2
    refine Big.succ ?_
    unfold laws_FnJubileesCome.l3
    refine Big.neg (by omega) ?_
    refine Big.succ ?_
    unfold laws_FnJubileesCome.j7
    exact Big.neg (by decide) hT
  | succ d ih =>
    intro z h1 h2
    refine Big.succ ?_
    unfold laws_FnJubileesCome.l3
    refine Big.pos (by omega) ?_
    refine Big.succ ?_
    unfold laws_FnJubileesCome.j7
    rw [w64 (i := y + 60) (by omega) (by omega), w64 (i := z + 1) (by omega) (by omega)]
    by_cases hz : z < y + 60
    · rw [decide_eq_true hz]
      refine Big.pos rfl ?_
      refine Big.bind (jubIn (by omega) hb (by omega) he) ?_
      refine Big.pos rfl ?_
      have e1 : ((decide (((jub u z each).length : Int) > 0)) != (z == nx)) = false := by
        by_cases hzn : z = nx
        · subst hzn
          rw [decide_eq_true (by have := List.length_pos_iff.2 hN; omega), beq_self_eq_true]
          rfl
        · rw [hQ z h1 (by omega), beq_eq_false_iff_ne.mpr hzn]
          rfl
      refine Big.neg ?_ (ih (z + 1) (by omega) (by omega))
      show ¬ ((decide (((jub u z each).length : Int) > 0)) != (z == nx)) = true
      rw [e1]
      decide
    · rw [decide_eq_false hz]
      exact Big.neg (by decide) hT
theorem nextPart {u who v : List Int} {y each nx best age m s f t e : Int} {se el : Bool} {tg an : List Int} {th fi : Bool} (hl : u.length ≤ 60) (hS : se = true → born u = true ∧ inR each 1 100 = true ∧ (0 ≤ y ∧ y < nx ∧ nx ≤ 3000) ∧ jub u nx each ≠ [] ∧ Quiet u each (y + 1) nx) (hT : Big (fun k => laws_FnJubileesCome.j8 k u y who best age el v m tg th s f t e an fi) true) : Big (fun k => laws_FnJubileesCome.j6 k u y each nx se who best age el v m tg th s f t e an fi) true := by
  refine Big.succ ?_
  unfold laws_FnJubileesCome.j6
  cases se
  · exact Big.neg (by decide) hT
  · obtain ⟨h1, h2, h3, h4, h5⟩ := hS rfl
    obtain ⟨d, hd⟩ : ∃ d : Nat, (d : Int) = nx - y := ⟨(nx - y).toNat, by omega⟩
    have hw : IntKind.i64.wrap (y + 1) = y + 1 := w64 (by omega) (by omega)
    refine Big.pos rfl (Big.neg (show ¬ nx ≤ y by omega) ?_)
    show Big (fun k => laws_FnJubileesCome.l3 k u y each nx who best age el v m tg th s f t e an fi (IntKind.i64.wrap (y + 1))) true
    rw [hw]
    exact nextPart_l hl h1 h2 h3 h4 h5 hT d (y + 1) (Int.le_refl _) (by omega)
theorem whoPart_l {u v : List Int} {y each nx best age m s f t e : Int} {se el : Bool} {tg an : List Int} {th fi : Bool} (hf : Fit u) (he : 1 ≤ each) (hy : 0 ≤ y ∧ y ≤ 3000) (hT : Big (fun k => laws_FnJubileesCome.j6 k u y each nx se (jub u y each) best age el v m tg th s f t e an fi) true) (T : List Int) : ∀ i : Nat, u.drop i = T → i ≤ u.length → Big (fun k => laws_FnJubileesCome.l2 k y each nx se (jub u y each) best age el v m tg th s f t e an fi u (u.length : Int) i) true := by
  have hul := hf.1
  have hjl := jub_length u y each
  induction T with
  | nil =>
    intro i hd hi
    rw [List.drop_eq_nil_iff] at hd
    refine Big.succ ?_
    unfold laws_FnJubileesCome.l2
    exact Big.neg (by omega) hT
  | cons b T ih =>
    intro i hd hi
    obtain ⟨h1, h2, h3⟩ := rd_cons_drop hd
    have hbm := hf.2 b (List.mem_of_mem_drop (i := i) (by rw [hd]; exact List.mem_cons_self))
    have hj := jub_iff u y each i h2
    have hub : u[i] = b := by
      have := h1
      rw [rd_nat, List.getD_eq_getElem?_getD, List.getElem?_eq_getElem h2, Option.getD_some] at this
      exact this
    rw [hub] at hj
    have hr : decide ((i : Int) ∈ jub u y each) = (inR (y - b) 0 120 && rnd (y - b) each) := by
      cases h : (inR (y - b) 0 120 && rnd (y - b) each)
      · exact decide_eq_false (fun h3 => by rw [hj.mp h3] at h; cases h)
      · exact decide_eq_true (hj.mpr h)
    refine Big.succ ?_
    unfold laws_FnJubileesCome.l2
    rw [h1, w64n (by omega), w64 (i := y - b) (by omega) (by omega)]
    have nx := ih (i + 1) h3 (by omega)
    refine Big.pos (by omega) (Big.pos (by omega) (Big.pos (by omega) ?_))
    refine Big.bind (qHas_at (jub u y each) (i : Int) (by omega)) ?_
    rw [hr]
    by_cases hp : y - b > 0
    · refine Big.pos hp ?_
      have e0 : rnd (y - b) each = (Int.tmod (y - b) each == 0) := by
        unfold rnd
        rw [decide_eq_true (show 0 < y - b by omega), Bool.true_and]
      by_cases hq : y - b ≤ 120
      · refine Big.pos hq (Big.neg (by omega) ?_)
        rw [inR_iff.mpr (show 0 ≤ y - b ∧ y - b ≤ 120 by omega), Bool.true_and, e0, bne_self_eq_false]
        exact Big.neg (by decide) nx
      · refine Big.neg hq ?_
        rw [inR_not.mpr (show ¬ (0 ≤ y - b ∧ y - b ≤ 120) by omega), Bool.false_and]
        exact Big.neg (by decide) nx
    · refine Big.neg hp ?_
      have e0 : rnd (y - b) each = false := by
        unfold rnd
        rw [decide_eq_false (show ¬ 0 < y - b by omega), Bool.false_and]
      rw [e0, Bool.and_false]
      exact Big.neg (by decide) nx
theorem laterPart {code : List Int} (hc : Byt code) : Big (fun k => laws_FnJubileesCome.j4 k code) true := by
  obtain ⟨u, y, each, hl, hD⟩ := drawNext hc
  obtain ⟨v, m, hl2, hD2⟩ := drawTog hc
  obtain ⟨s, f, t, e, hD3⟩ := drawAnn hc
  obtain ⟨n1, n2⟩ := NextJubilee_is u y each (by omega)
  obtain ⟨j1, j2⟩ := JubileesIn_is u y each (by omega)
  obtain ⟨o1, o2⟩ := OldestRound_is u y each (by omega)
  obtain ⟨t1, t2⟩ := TogetherJubilees_is v m (by omega)
  obtain ⟨a1, a2⟩ := Anniversaries_is s f t e
  have hjl := jub_length u y each
  have hA := annPart s f t e
  have hT := togPart (m := m) hl2 hA
  have q1 : Big (fun k => laws_qSame.f k (if (born v && inR m 1 100) = true then (yrs (allJ v m) 3001 0, true) else ([], false)).1 (if (born v && inR m 1 100) = true then (yrs (allJ v m) 3001 0, true) else ([], false)).1) true := qSame_at _ (by
    have := yrs_length (allJ v m) 3001 0
    split <;> simp only [List.length_nil] <;> omega)
  have q2 : Big (fun k => laws_qSame.f k (if (inR s 0 3000 && span f t && inR e 1 100) = true then (yrsA (fun y => rnd (y - s) e) (t + 1 - f).toNat f, true) else ([], false)).1 (if (inR s 0 3000 && span f t && inR e 1 100) = true then (yrsA (fun y => rnd (y - s) e) (t + 1 - f).toNat f, true) else ([], false)).1) true := qSame_at _ (by
    have := yrsA_length (fun y => rnd (y - s) e) (t + 1 - f).toNat f
    split
    · rename_i h
      simp only [Bool.and_eq_true] at h
      have hsp := span_iff.mp h.1.2
      show (yrsA (fun y => rnd (y - s) e) (t + 1 - f).toNat f).length ≤ 2000000
      omega
    · simp)
  generalize hR5 : (if (inR s 0 3000 && span f t && inR e 1 100) = true then (yrsA (fun y => rnd (y - s) e) (t + 1 - f).toNat f, true) else (([] : List Int), false)) = R5 at a1 a2 hT q2
  generalize hR4 : (if (born v && inR m 1 100) = true then (yrs (allJ v m) 3001 0, true) else (([] : List Int), false)) = R4 at t1 t2 hT q1
  clear hR5 hR4 hA
  -- all are equal
  have key : ∀ (N : Int × Bool) (J : List Int × Bool) (O : Int × Int × Bool), Big (fun k => impl_NextJubilee.f k u y each) N → Big (fun k => spec_NextJubilee.f k u y each) N → Big (fun k => impl_JubileesIn.f k u y each) J → Big (fun k => spec_JubileesIn.f k u y each) J → Big (fun k => impl_OldestRound.f k u y each) O → Big (fun k => spec_OldestRound.f k u y each) O → J.1.length ≤ 2000000 → (J.2 = true → O.2.2 = decide ((J.1.length : Int) > 0)) → (J.2 = false → O.2.2 = false) → (N.2 = true → J.2 = true) →
      Big (fun k => laws_FnJubileesCome.j5 k u y each N.1 N.2 J.1 J.2 O.1 O.2.1 O.2.2 v m R4.1 R4.2 s f t e R5.1 R5.2 false) true → Big (fun k => laws_FnJubileesCome.j4 k code) true := by
    rintro ⟨na, nb⟩ ⟨ja, jb⟩ ⟨oa, ob, oc⟩ k1 k2 k3 k4 k5 k6 k7 k8 k9 k10 k11
    dsimp only at k7 k8 k9 k10 k11
    have qj := qSame_at ja k7
    refine Big.succ ?_
    unfold laws_FnJubileesCome.j4
    refine Big.bind hD ?_
    refine Big.bind k1 ?_
    refine Big.bind k2 ?_
    refine Big.bind k3 ?_
    refine Big.bind k4 ?_
    refine Big.bind k5 ?_
    refine Big.bind k6 ?_
    refine Big.bind hD2 ?_
    refine Big.bind t2 ?_
    refine Big.bind t1 ?_
    refine Big.bind (Big.of hD3) ?_
    refine Big.bind a2 ?_
    refine Big.bind a1 ?_
    dsimp only
    refine Big.neg (by simp) (Big.pos rfl (Big.neg (by simp) ?_))
    refine Big.bind qj ?_
    refine Big.pos rfl (Big.neg (by simp) (Big.pos rfl (Big.pos rfl (Big.neg (by simp) ?_))))
    refine Big.bind q1 ?_
    refine Big.pos rfl (Big.neg (by simp) ?_)
    refine Big.bind q2 ?_
    refine Big.pos rfl ?_
    cases jb
    · refine Big.neg (by decide) ?_
      rw [k9 rfl] at k11 ⊢
      refine Big.neg (by decide) ?_
      cases nb
      · exact Big.neg (by decide) k11
      · exact absurd (k10 rfl) (by decide)
    · refine Big.pos rfl ?_
      rw [k8 rfl] at k11 ⊢
      refine Big.neg (by simp) ?_
      cases nb
      · exact Big.neg (by decide) k11
      · exact Big.pos rfl k11
  refine key _ _ _ n2 n1 j2 j1 o2 o1 ?_ ?_ ?_ ?_ ?_
  · split
    · show (jub u y each).length ≤ 2000000
      omega
    · simp
  · intro h
    cases hg : (born u && inR y 0 3000 && inR each 1 100)
    · rw [hg] at h
      cases h
    · rw [if_pos (show (true = true) from rfl)]
      cases hq : jub u y each with
      | nil => rfl
      | cons q T =>
        rw [if_pos (by simp)]
        show true = decide (((q :: T).length : Int) > 0)
        rw [decide_eq_true (by simp only [List.length_cons]; omega)]
  · intro h
    cases hg : (born u && inR y 0 3000 && inR each 1 100)
    · rw [if_neg (by simp)]
    · rw [hg] at h
      cases h
  · intro h
    cases hg : (born u && inR y 0 3000 && inR each 1 100)
    · rw [hg] at h
      cases h
    · rfl
  · refine Big.succ ?_
    unfold laws_FnJubileesCome.j5
    refine Big.neg (by decide) ?_
    cases hg : (born u && inR y 0 3000 && inR each 1 100)
    · simp only [Bool.false_and, Bool.false_eq_true, if_false]
      exact nextPart hl (fun h => by cases h) (oldPart (fun h => by cases h) (by simp) (fun h => by cases h) hT)
    · simp only [Bool.and_eq_true] at hg
      have hy := inR_iff.mp hg.1.2
      have he := inR_iff.mp hg.2
      have hf := fit_of_born hg.1.1
      simp only [if_true]
      refine whoPart_l hf he.1 hy ?_ u 0 rfl (Nat.zero_le _)
      refine nextPart hl (fun h => ?_) (oldPart (fun _ => hy) (by omega) (fun h => ?_) hT)
      · obtain ⟨p1, p2, p3, p4⟩ := next_prop u each (3000 - y).toNat (y + 1) h
        exact ⟨hg.1.1, hg.2, by omega, p3, p4⟩
      · cases hq : jub u y each with
        | nil =>
          rw [hq] at h
          cases h
        | cons q T =>
          have hp := jub_rises u y each
          rw [hq] at hp
          obtain ⟨r1, r2⟩ := old_prop u T q hp
          have hmem : ∀ x ∈ q :: T, 0 ≤ x ∧ x < (u.length : Int) ∧ 0 < y - rde u x := fun x hx => jub_mem u y each x (by rw [hq]; exact hx)
          have e1 : (true && !(q :: T).isEmpty) = true := by simp
          rw [if_pos e1]
          refine ⟨r1, rfl, fun i hi => ?_⟩
          obtain ⟨s1, s2⟩ := r2 i hi
          obtain ⟨m1, m2, m3⟩ := hmem i hi
          have hfi := hf.2 _ (rd_mem' m1 m2)
          refine ⟨⟨m1, m2⟩, by omega, ?_, fun h4 => s2 ?_⟩
          · show y - rde u i ≤ y - rde u (oldR u T q)
            omega
          · have h5 : y - rde u i = y - rde u (oldR u T q) := h4
            omega
end Go.Proofs.Ytkpoidakicgfbaa.Q
set_option linter.all false
namespace Go.Proofs.Ytkpoidakicgfbaa.Pure
open Go.RowKit Go.Proofs.Ytkpoidakicgfbaa.Q Go Go.Proofs.Ytkpoidakicgfbaa.Eng Go.Proofs.Ytkpoidakicgfbaa Go.Proofs.Ytkpoidakicgfbaa.C
set_option linter.unusedSimpArgs false
set_option linter.unusedVariables false
theorem FnJubileesCome_k (code more : List Int) (hb1 : ∀ x ∈ code, 0 ≤ x ∧ x ≤ 255) (hb2 : ∀ x ∈ more, 0 ≤ x ∧ x ≤ 255) : ∃ k, laws_FnJubileesCome.f k code more = some true := by
  by_cases hbig : laws_big.f code more = some true
  · exact ⟨0, by unfold laws_FnJubileesCome.f; rw [hbig]; rfl⟩
  · have hsmall : laws_big.f code more = some false ∧ code.length ≤ 1048576 ∧ more.length ≤ 1048576 := by
      unfold laws_big.f at hbig ⊢
      by_cases hc : (code.length : Int) > 1048576
      · rw [if_pos hc] at hbig
        exact absurd rfl hbig
      · rw [if_neg hc] at hbig ⊢
        rw [w64 (i := 1048576 - (code.length : Int)) (by omega) (by omega)] at hbig ⊢
        by_cases hd : (more.length : Int) > 1048576 - (code.length : Int)
        · rw [decide_eq_true hd] at hbig
          exact absurd rfl hbig
        · rw [decide_eq_false hd]
          exact ⟨rfl, by omega, by omega⟩
    obtain ⟨hS, hl1, hl2⟩ := hsmall
    have hB1 : Byt code := ⟨hb1, hl1⟩
    have hB2 : Byt more := ⟨hb2, hl2⟩
    have hJ := laterPart hB2
    obtain ⟨L, f, t, e, hl, hD⟩ := drawCal hB1
    obtain ⟨c1, c2⟩ := CalendarOf_is L f t e (by omega)
    obtain ⟨n1, n2⟩ := CountJubilees_is L f t e (by omega)
    obtain ⟨m1, m2⟩ := MostJubilees_is L f t e (by omega)
    obtain ⟨q1, q2⟩ := LongestQuiet_is L f t e (by omega)
    have hA := AreBirths_at L (by omega)
    have key : ∀ (C : List (List Int) × Bool) (N : Int × Bool) (M Q : Int × Int × Bool), Big (fun k => impl_CalendarOf.f k L f t e) C → Big (fun k => spec_CalendarOf.f k L f t e) C → Big (fun k => impl_CountJubilees.f k L f t e) N → Big (fun k => spec_CountJubilees.f k L f t e) N → Big (fun k => impl_MostJubilees.f k L f t e) M → Big (fun k => spec_MostJubilees.f k L f t e) M → Big (fun k => impl_LongestQuiet.f k L f t e) Q → Big (fun k => spec_LongestQuiet.f k L f t e) Q → C.1.length ≤ 2000000 → (∀ x ∈ C.1, x.length ≤ 2000000) → N.2 = C.2 → M.2.2 = C.2 → (C.2 = false → Q.2.2 = false) → (C.2 = true → born L = true ∧ (0 ≤ f ∧ f ≤ t ∧ t ≤ 3000) ∧ Q.2.2 = decide ((C.1.length : Int) < t - f + 1)) →
        Big (fun k => laws_FnJubileesCome.j0 k more L f t e C.1 C.2 N.1 M.1 M.2.1 Q.1 Q.2.1 Q.2.2 false) true → Big (fun k => laws_FnJubileesCome.f k code more) true := by
      rintro ⟨ca, cb⟩ ⟨na, nb⟩ ⟨ma, mb, mc⟩ ⟨qa, qb, qc⟩ k1 k2 k3 k4 k5 k6 k7 k8 k9 k10 k11 k12 k13 k14 k15
      dsimp only at k9 k10 k11 k12 k13 k14 k15
      subst k11 k12
      have qr := qRows_at ca k9 k10
      unfold laws_FnJubileesCome.f
      refine Big.bind (Big.of hS) (Big.neg (by decide) ?_)
      refine Big.bind hD ?_
      refine Big.bind k1 ?_
      refine Big.bind k2 ?_
      refine Big.bind k3 ?_
      refine Big.bind k4 ?_
      refine Big.bind k5 ?_
      refine Big.bind k6 ?_
      refine Big.bind k7 ?_
      refine Big.bind k8 ?_
      dsimp only
      refine Big.neg (by simp) ?_
      refine Big.bind qr ?_
      refine Big.pos rfl (Big.neg (by simp) (Big.pos rfl (Big.neg (by simp) (Big.pos rfl (Big.pos rfl (Big.neg (by simp) (Big.pos rfl (Big.pos rfl (Big.neg (by simp) (Big.neg (by simp) ?_))))))))))
      cases mc
      · refine Big.neg (by decide) ?_
        rw [k13 rfl] at k15 ⊢
        refine Big.neg (by decide) ?_
        refine Big.bind (Big.of (v_AreBirths L)) ?_
        refine Big.bind hA ?_
        rw [bne_self_eq_false]
        exact k15
      · obtain ⟨g1, g2, g3⟩ := k14 rfl
        refine Big.pos rfl ?_
        rw [g3] at k15 ⊢
        refine Big.neg (by rw [w64 (i := t - f) (by omega) (by omega), w64 (i := t - f + 1) (by omega) (by omega), bne_self_eq_false]; decide) ?_
        refine Big.bind (Big.of (v_AreBirths L)) ?_
        refine Big.pos g1 ?_
        refine Big.bind (Big.of (v_AreBirths L)) ?_
        refine Big.bind hA ?_
        rw [bne_self_eq_false]
        exact k15
    refine Big.exists_ (key _ _ _ _ c2 c1 n2 n1 m2 m1 q2 q1 ?_ ?_ ?_ ?_ ?_ ?_ ?_)
    all_goals cases hg : (born L && span f t && inR e 1 100)
    · rw [if_neg (by decide)]
      simp
    · rw [if_pos rfl]
      have hgg := hg
      simp only [Bool.and_eq_true] at hgg
      have hs := span_iff.mp hgg.1.2
      have hlen := calF_length L e (t + 1 - f).toNat f
      show (calF L e (t + 1 - f).toNat f).length ≤ 2000000
      omega
    · rw [if_neg (by decide)]
      simp
    · rw [if_pos rfl]
      simp only [Bool.and_eq_true] at hg
      intro x hx
      have := calF_rows L e (fit_of_born hg.1.1).1 _ f x hx
      omega
    · rfl
    · rfl
    · rfl
    · rfl
    · intro _
      rfl
    · intro h
      cases h
    · intro h
      cases h
    · intro _
      have hgg := hg
      simp only [Bool.and_eq_true] at hgg
      have hs := span_iff.mp hgg.1.2
      exact ⟨hgg.1.1, ⟨hs.1, hs.2.1, hs.2.2.1⟩, (calPart (k0 := more) hl hg hJ).2⟩
    · refine Big.succ ?_
      unfold laws_FnJubileesCome.j0
      exact Big.neg (by decide) (Big.neg (by simp) hJ)
    · refine Big.succ ?_
      unfold laws_FnJubileesCome.j0
      exact Big.neg (by decide) (Big.pos rfl (calPart (k0 := more) hl hg hJ).1)
theorem FnJubileesCome (code more : List Int) (hb1 : ∀ x ∈ code, 0 ≤ x ∧ x ≤ 255) (hb2 : ∀ x ∈ more, 0 ≤ x ∧ x ≤ 255) : S.laws_FnJubileesCome.f code more = some true := by
  obtain ⟨k, hk⟩ := FnJubileesCome_k code more hb1 hb2
  exact laws_FnJubileesCome.f.br k code more _ hk
end Go.Proofs.Ytkpoidakicgfbaa.Pure
