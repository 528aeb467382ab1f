/- What the functions of this seat come to, over plain values. No condition. -/
import Derived.Test.YtbmbejbhlcadmaaGreatK1
namespace Go.Proofs.YtbmbejbhlcadmaaGreat.S
open Go Go.Proofs.YtbmbejbhlcadmaaGreat.Eng Go.Proofs
set_option maxRecDepth 1000000
set_option linter.unusedVariables false
section
open Go.RowKit
/-! ### impl.solutions: a list that is filled by a function value that calls itself -/
noncomputable def impl_solutions.f (a : Int) (cl : List (Int × Int × Int)) : Option (List (List Int)) := (impl_solutions_1.f [] a cl []).map fun y => y.2.2
noncomputable def impl_solutions.sp : CSpec := spec2 (.int .i64) (.slice (.pair (.int .i64) (.pair (.int .i64) (.int .i64)))) impl_solutions.f (fun r => [.own 24 (.slice (.int .i64)) r])
theorem sol_loads : LoadsOne Tryz.prog 98 := fun w ad v h => by
  have hb : (isAgg 98).run Tryz.prog w = .ok false w := by kernel_rfl
  unfold loadVar
  rw [Sem.run_bind, hb, Result.andThen_ok]
  simp only [Bool.false_eq_true, if_false, run_load, h]
/-- The world when the function value lies in its box. -/
def solW (w : World) (a : Int) (v x : Value) : World := (((((w.alloc (.cells #[.int .i64 a] 3)).alloc (.cells #[v] 27)).alloc (.cells #[] 24)).alloc (.cells #[.slice (some ⟨w.heap.size + 1 + 1, 0, none⟩) 0 0] 44)).alloc (.cells #[x] 98))
def solF (w : World) : Value := .func (.func 80) #[] #[.pointer (some ⟨w.heap.size, 0, none⟩), .pointer (some ⟨w.heap.size + 1 + 1 + 1 + 1, 0, none⟩), .pointer (some ⟨w.heap.size + 1, 0, none⟩), .pointer (some ⟨w.heap.size + 1 + 1 + 1, 0, none⟩)]
structure SolAt (w : World) (a : Int) (v : Value) (W : World) : Prop where
  os : W.os = w.os
  tape : W.tape = w.tape
  output : W.output = w.output
  size : W.heap.size = w.heap.size + 5
  old : ∀ k, k < w.heap.size → W.heap[k]? = w.heap[k]?
  h0 : W.heap[w.heap.size]? = some (.cells #[.int .i64 a] 3 (0, 0))
  h1 : W.heap[w.heap.size + 1]? = some (.cells #[v] 27 (0, 0))
  h2 : W.heap[w.heap.size + 1 + 1]? = some (.cells #[] 24 (0, 0))
  h3 : W.heap[w.heap.size + 1 + 1 + 1]? = some (.cells #[.slice (some ⟨w.heap.size + 1 + 1, 0, none⟩) 0 0] 44 (0, 0))
  h4 : W.heap[w.heap.size + 1 + 1 + 1 + 1]? = some (.cells #[solF w] 98 (0, 0))
theorem alloc_keep {w : World} {o x : Obj} {k : Nat} (h : w.heap[k]? = some x) : (w.alloc o).heap[k]? = some x := by
  have hk := (Array.getElem?_eq_some_iff.1 h).1
  show (w.heap.push o)[k]? = some x
  rw [Array.getElem?_push, if_neg (by omega)]
  exact h
theorem alloc_old {w : World} {o : Obj} {k : Nat} (h : k < w.heap.size) : (w.alloc o).heap[k]? = w.heap[k]? := by
  show (w.heap.push o)[k]? = _
  rw [Array.getElem?_push, if_neg (by omega)]
theorem alloc_at {w : World} {o : Obj} {k : Nat} (h : k = w.heap.size) : (w.alloc o).heap[k]? = some o := by
  show (w.heap.push o)[k]? = _
  rw [Array.getElem?_push, if_pos h]
theorem alloc_size (w : World) (o : Obj) : (w.alloc o).heap.size = w.heap.size + 1 := Array.size_push ..
theorem solAt (w : World) (a : Int) (v : Value) : SolAt w a v (solW w a v (solF w)) := by
  unfold solW
  generalize h1 : w.alloc (.cells #[.int .i64 a] 3) = w1
  generalize h2 : w1.alloc (.cells #[v] 27) = w2
  generalize h3 : w2.alloc (.cells #[] 24) = w3
  generalize h4 : w3.alloc (.cells #[.slice (some ⟨w.heap.size + 1 + 1, 0, none⟩) 0 0] 44) = w4
  generalize h5 : w4.alloc (.cells #[solF w] 98) = w5
  have s1 : w1.heap.size = w.heap.size + 1 := by rw [← h1, alloc_size]
  have s2 : w2.heap.size = w.heap.size + 1 + 1 := by rw [← h2, alloc_size, s1]
  have s3 : w3.heap.size = w.heap.size + 1 + 1 + 1 := by rw [← h3, alloc_size, s2]
  have s4 : w4.heap.size = w.heap.size + 1 + 1 + 1 + 1 := by rw [← h4, alloc_size, s3]
  have s5 : w5.heap.size = w.heap.size + 1 + 1 + 1 + 1 + 1 := by rw [← h5, alloc_size, s4]
  have c0 : w5.heap[w.heap.size]? = some (.cells #[.int .i64 a] 3 (0, 0)) := by subst h5 h4 h3 h2 h1; exact alloc_keep (alloc_keep (alloc_keep (alloc_keep (alloc_at rfl))))
  have c1 : w5.heap[w.heap.size + 1]? = some (.cells #[v] 27 (0, 0)) := by subst h5 h4 h3 h2; exact alloc_keep (alloc_keep (alloc_keep (alloc_at s1.symm)))
  have c2 : w5.heap[w.heap.size + 1 + 1]? = some (.cells #[] 24 (0, 0)) := by subst h5 h4 h3; exact alloc_keep (alloc_keep (alloc_at s2.symm))
  have c3 : w5.heap[w.heap.size + 1 + 1 + 1]? = some (.cells #[.slice (some ⟨w.heap.size + 1 + 1, 0, none⟩) 0 0] 44 (0, 0)) := by subst h5 h4; exact alloc_keep (alloc_at s3.symm)
  have c4 : w5.heap[w.heap.size + 1 + 1 + 1 + 1]? = some (.cells #[solF w] 98 (0, 0)) := by subst h5; exact alloc_at s4.symm
  refine ⟨?_, ?_, ?_, ?_, ?_, ?_, ?_, ?_, ?_, ?_⟩
  · subst h5 h4 h3 h2 h1; rfl
  · subst h5 h4 h3 h2 h1; rfl
  · subst h5 h4 h3 h2 h1; rfl
  · exact s5
  · intro k hk
    subst h5 h4 h3 h2 h1
    rw [alloc_old (by rw [s4]; omega), alloc_old (by rw [s3]; omega), alloc_old (by rw [s2]; omega), alloc_old (by rw [s1]; omega), alloc_old hk]
  · exact c0
  · exact c1
  · exact c2
  · exact c3
  · exact c4
theorem solNil (w : World) (a : Int) (v : Value) : (solW w a v .nilFunc).cell? ⟨w.heap.size + 1 + 1 + 1 + 1, 0, none⟩ = some .nilFunc ∧ (solW w a v .nilFunc).frozen? ⟨w.heap.size + 1 + 1 + 1 + 1, 0, none⟩ = false := by
  have h : (solW w a v .nilFunc).heap[w.heap.size + 1 + 1 + 1 + 1]? = some (.cells #[.nilFunc] 98 (0, 0)) := by
    unfold solW
    refine alloc_at ?_
    rw [alloc_size, alloc_size, alloc_size, alloc_size]
  exact ⟨by rw [cell_of_row _ _ _ _ _ _ h]; rfl, by simp [World.frozen?, h]⟩
set_option maxHeartbeats 4000000 in
theorem impl_solutions.ok : SpecOk Tryz.prog I 55 impl_solutions.sp := spec2_ok ⟨_, Tryz.func55, by kernel_rfl, by kernel_rfl⟩ (by
  intro S w (a : Int) (cl : List (Int × Int × Int)) u v r hI0 hlt hu hv hr
  rw [ValR.int] at hu
  subst hu
  obtain ⟨⟨p, cl', rows⟩, hr1, rfl⟩ := Option.map_eq_some_iff.1 hr
  clear hr
  obtain ⟨A, n, c, rfl⟩ : ∃ A n c, v = .slice A n c := by
    rw [ValR.slice] at hv
    rcases hv with ⟨ad, rfl, _⟩ | ⟨b, off, cap, rfl, _⟩
    · exact ⟨_, _, _, rfl⟩
    · exact ⟨_, _, _, rfl⟩
  have hW := solAt w a (.slice A n c)
  generalize hw6 : solW w a (.slice A n c) (solF w) = w6 at hW
  have hk : Keep S w w6 := ⟨by rw [hW.size]; omega, fun b hb hl => hW.old b hl⟩
  have hv' : Cells (fun b => S b ∨ b = w.heap.size + 1 + 1 + 1 + 1) w6 (.slice (.pair (.int .i64) (.pair (.int .i64) (.int .i64)))) cl [.slice A n c] := by
    obtain ⟨cs, h1, h2⟩ := hv
    have hl := h1.length
    obtain ⟨u, rfl⟩ := List.length_eq_one_iff.1 hl
    have h3 : u = .slice A n c := h2.symm
    subst h3
    exact h1.mono hk (fun b hb => .inl hb)
  have HC := Aside0.mk (impl_solutions_1.ok.calls (fun b => S b ∨ b = w.heap.size + 1 + 1 + 1 + 1) w6
    [.v (.slice (.int .i64)) ([] : List Int), .bx [⟨.int .i64, a⟩], .fp 98 80 [some 1000001, none, some 1000003, some 1000004], .bx [⟨.slice (.pair (.int .i64) (.pair (.int .i64) (.int .i64))), cl⟩], .bx [ownV 24 (.slice (.int .i64)) ([] : List (List Int))]]
    [.slice none 0 0, .pointer (some ⟨w.heap.size, 0, none⟩), .pointer (some ⟨w.heap.size + 1 + 1 + 1 + 1, 0, none⟩), .pointer (some ⟨w.heap.size + 1, 0, none⟩), .pointer (some ⟨w.heap.size + 1 + 1 + 1, 0, none⟩)]
    [w.heap.size, w.heap.size + 1, w.heap.size + 1 + 1 + 1] [w.heap.size + 1 + 1] (p, cl', rows)
    (hI _ _ _ _ hI0 hk (fun b hb => .inl hb)) (by
      rintro b (hb | hb)
      · have := hlt b hb; rw [hW.size]; omega
      · rw [hW.size]; omega) (by simp; omega) (by
      intro g hg
      have hg' : g = w.heap.size ∨ g = w.heap.size + 1 ∨ g = w.heap.size + 1 + 1 + 1 ∨ g = w.heap.size + 1 + 1 := by simpa using hg
      refine ⟨?_, by rw [hW.size]; omega⟩
      rintro (hb | hb)
      · have := hlt g hb; omega
      · omega) (by
      refine ⟨_, _, rfl, ValR.slice.2 (.inl ⟨none, rfl, rfl⟩), _, _, _, _, (fun _ => none), rfl, rfl, rfl, ⟨_, _, hW.h0, .inl ⟨rfl, _, _, rfl, rfl, rfl⟩⟩, _, #[.pointer (some ⟨w.heap.size, 0, none⟩), .pointer (some ⟨w.heap.size + 1 + 1 + 1 + 1, 0, none⟩), .pointer (some ⟨w.heap.size + 1, 0, none⟩), .pointer (some ⟨w.heap.size + 1 + 1 + 1, 0, none⟩)], _, rfl, ?_, ⟨sol_loads, .inr rfl, by rw [hW.size]; omega, ?_⟩, _, _, _, _, (fun _ => none), rfl, rfl, rfl, ⟨_, _, hW.h1, .inl ⟨rfl, _, _, rfl, hv', rfl⟩⟩, _, _, _, _, (fun _ => some (w.heap.size + 1 + 1)), rfl, rfl, rfl, ⟨_, _, hW.h3, .inl ⟨rfl, _, _, rfl, ?_, rfl⟩⟩, rfl, rfl, rfl⟩
      · exact ⟨_, _, rfl, rfl, _, rfl, _, _, rfl, rfl, _, _, rfl, rfl, rfl⟩
      · rw [cell_of_row _ _ _ _ _ _ hW.h4]; rfl
      · exact ⟨[], ⟨rfl, .inr ⟨_, 0, #[], rfl, Nat.zero_le _, hW.h2, Nat.le_refl _, Nat.zero_le _, rfl, rfl⟩⟩, rfl, rfl⟩) hr1)
  have HS := Aside0.mk (And.intro hlt hW)
  have hcz6 : (solW w a (.slice A n c) .nilFunc).cell? ⟨w.heap.size + 1 + 1 + 1 + 1, 0, none⟩ = some .nilFunc := (solNil w a (.slice A n c)).1
  have hfz6 : (solW w a (.slice A n c) .nilFunc).frozen? ⟨w.heap.size + 1 + 1 + 1 + 1, 0, none⟩ = false := (solNil w a (.slice A n c)).2
  unfold solW at hcz6 hfz6
  clear hr1 hI0 hlt hv hv' hW hk
  go_enter Tryz.func55, Tryz.ntmps55
  go_wp2_with fail
  rw [run_store _ _ _ _ _ rfl, hcz6]
  simp only [hfz6, Bool.false_eq_true, if_false, Result.andThen_ok]
  go_wp2_with fail
  rw [← hw6] at HC HS
  refine HC.out.mono ?_
  clear HC hcz6 hfz6 hw6
  rintro e w7 ⟨rv, S2, B2, Bo, rfl, hkept, hres, houts, hX, hrows⟩
  obtain ⟨hlt, hW⟩ := HS.out
  obtain ⟨g0, X0, e0, _, g1, X1, e1, _, g2, X2, e2, hbox, _⟩ := houts
  cases e0
  cases e1
  cases e2
  obtain ⟨cells, id, hh, hc⟩ := hbox
  obtain ⟨u, r, hu, hleaf, hr0⟩ := hc.leaves rfl
  have hr1 : r = [] := hr0
  subst hr1
  have hcells : cells = #[u] := by
    cases cells
    exact congrArg Array.mk hu
  subst hcells
  obtain ⟨cs2, hown, hrc, hob⟩ := hleaf
  obtain ⟨A2, n2, c2, rfl⟩ : ∃ A2 n2 c2, u = .slice A2 n2 c2 := by
    rcases hown.2 with ⟨h, _⟩ | ⟨g, cap, cur, h, _⟩
    · exact ⟨_, _, _, h⟩
    · exact ⟨_, _, _, h⟩
  have HF : Aside0 (After S w [] [] [.own 24 (.slice (.int .i64)) rows] [] (.returned (.slice A2 n2 c2)) w7) := by
    refine ⟨.slice A2 n2 c2, S2, fun i => if i = 0 then Bo 2 0 else none, fun _ _ => none, rfl, ⟨hkept.os.trans hW.os, hkept.tape.trans hW.tape, hkept.output.trans hW.output, ?_, ?_⟩, ⟨.inl rfl, ?_, fun b hb => hres.sup b (.inl hb), hres.lt, ?_, ?_, ?_⟩, rfl, (fun _ h => by cases h), RowsAt.none _ _ _ _ _⟩
    · have := hkept.size
      have := hW.size
      omega
    · intro k hk _
      refine (hkept.block k (by rw [hW.size]; omega) ?_).trans (hW.old k hk)
      intro h
      have h' : (k = w.heap.size ∨ k = w.heap.size + 1 ∨ k = w.heap.size + 1 + 1 + 1) ∨ k = w.heap.size + 1 + 1 := by simpa using h
      omega
    · intro b hb
      have hs := hW.size
      rcases hres.frm b hb with (h | h) | h | h
      · exact .inl h
      · exact .inr (.inl (by omega))
      · exact .inr (.inl (by omega))
      · have h' : b = w.heap.size + 1 + 1 := by simpa using h
        exact .inr (.inl (by omega))
    · intro i j g h1 h2
      by_cases hi : i = 0
      · by_cases hj : j = 0
        · omega
        · rw [if_neg hj] at h2; cases h2
      · rw [if_neg hi] at h1; cases h1
    · intro i g h1
      by_cases hi : i = 0
      · rw [if_pos hi] at h1
        have hs := hW.size
        obtain ⟨k1, k2, k3⟩ := hrows.free 2 0 g h1
        refine ⟨.inl ?_, k2, k3⟩
        rcases k1 with h | h
        · omega
        · have h' : g = w.heap.size + 1 + 1 := by simpa using h
          omega
      · rw [if_neg hi] at h1; cases h1
    · intro i sv hs
      match i, hs with
      | 0, hs => cases hs; exact ⟨cs2, hown, hrc, hob⟩
      | _ + 1, hs => cases hs
  have hcz7 : w7.cell? ⟨w.heap.size + 1 + 1 + 1, 0, none⟩ = some (.slice A2 n2 c2) := by rw [cell_of_row _ _ _ _ _ _ hh]; rfl
  clear hkept hres hX hrows hh hc hu hr0 hown hrc hob hlt hW HS
  go_wp2
  go_ret
  exact HF.out)
end
noncomputable def impl_Puzzle_all.g : Gam := [(55, impl_solutions.sp)]
theorem impl_Puzzle_all.gok : GOkI Tryz.prog I impl_Puzzle_all.g := (GOkI.nil _ _).cons impl_solutions.ok
noncomputable def impl_Puzzle_all.i : FI := ⟨Tryz.f60, body Tryz.f60, (.seq .nil (.seq .nil .nil)), [], [], [.res (.tmp 2) (.own 24 (.slice (.int .i64)))]⟩
noncomputable def impl_Puzzle_all.sp : CSpec := mkSpec impl_Puzzle_all.g T impl_Puzzle_all.i
theorem impl_Puzzle_all.ok : SpecOk Tryz.prog I 60 impl_Puzzle_all.sp := mkSpec_ok hmix hI impl_Puzzle_all.gok tok impl_Puzzle_all.i Tryz.func60 (by kernel_rfl) (by kernel_rfl) (by kernel_rfl) (by kernel_rfl)
noncomputable def impl_Puzzle_all.f (x0 : Int × (List (Int × Int × Int))) : Option (List (List Int)) := run impl_Puzzle_all.g T impl_Puzzle_all.i [.v (.pair (.int .i64) (.slice (.pair (.int .i64) (.pair (.int .i64) (.int .i64))))) x0]
theorem impl_Puzzle_all.f.eq (x0 : Int × (List (Int × Int × Int))) : impl_Puzzle_all.f x0 =
  (impl_solutions.f x0.1 x0.2).bind fun y1 =>
  some y1 := by kernel_rfl
noncomputable def impl_Solutions.g : Gam := [(13, impl_IsPuzzle.sp), (60, impl_Puzzle_all.sp)]
theorem impl_Solutions.gok : GOkI Tryz.prog I impl_Solutions.g := ((GOkI.nil _ _).cons impl_Puzzle_all.ok).cons impl_IsPuzzle.ok
noncomputable def impl_Solutions.i : FI := ⟨Tryz.f18, body Tryz.f18, (.seq .nil (.seq (.seq .nil (.cond (.seq .nil .nil) .nil)) (.seq .nil .nil))), [], [], [.res (.tmp 2) (.own 24 (.slice (.int .i64))), .res (.tmp 3) (.v .bool)]⟩
noncomputable def impl_Solutions.sp : CSpec := mkSpec impl_Solutions.g T impl_Solutions.i
theorem impl_Solutions.ok : SpecOk Tryz.prog I 18 impl_Solutions.sp := mkSpec_ok hmix hI impl_Solutions.gok tok impl_Solutions.i Tryz.func18 (by kernel_rfl) (by kernel_rfl) (by kernel_rfl) (by kernel_rfl)
noncomputable def impl_Solutions.f (x0 : Int × (List (Int × Int × Int))) : Option ((List (List Int)) × Bool) := run impl_Solutions.g T impl_Solutions.i [.v (.pair (.int .i64) (.slice (.pair (.int .i64) (.pair (.int .i64) (.int .i64))))) x0]
theorem impl_Solutions.f.eq (x0 : Int × (List (Int × Int × Int))) : impl_Solutions.f x0 =
  (impl_IsPuzzle.f (x0.1, x0.2)).bind fun y1 =>
  if (!y1) = true then
    some ([], false)
  else
    (impl_Puzzle_all.f (x0.1, x0.2)).bind fun y2 =>
    some (y2, true) := by kernel_rfl
noncomputable def impl_CountSolutions.g : Gam := [(18, impl_Solutions.sp)]
theorem impl_CountSolutions.gok : GOkI Tryz.prog I impl_CountSolutions.g := (GOkI.nil _ _).cons impl_Solutions.ok
noncomputable def impl_CountSolutions.i : FI := ⟨Tryz.f59, body Tryz.f59, (.seq .nil (.seq .nil (.seq .nil .nil))), [], [], [.res (.tmp 2) (.v (.int .i64)), .res (.tmp 3) (.v .bool)]⟩
noncomputable def impl_CountSolutions.sp : CSpec := mkSpec impl_CountSolutions.g T impl_CountSolutions.i
theorem impl_CountSolutions.ok : SpecOk Tryz.prog I 59 impl_CountSolutions.sp := mkSpec_ok hmix hI impl_CountSolutions.gok tok impl_CountSolutions.i Tryz.func59 (by kernel_rfl) (by kernel_rfl) (by kernel_rfl) (by kernel_rfl)
noncomputable def impl_CountSolutions.f (x0 : Int × (List (Int × Int × Int))) : Option (Int × Bool) := run impl_CountSolutions.g T impl_CountSolutions.i [.v (.pair (.int .i64) (.slice (.pair (.int .i64) (.pair (.int .i64) (.int .i64))))) x0]
theorem impl_CountSolutions.f.eq (x0 : Int × (List (Int × Int × Int))) : impl_CountSolutions.f x0 =
  (impl_Solutions.f (x0.1, x0.2)).bind fun y1 =>
  some ((y1.1.length : Int), y1.2) := by kernel_rfl
noncomputable def impl_IsSolved.g : Gam := [(59, impl_CountSolutions.sp)]
theorem impl_IsSolved.gok : GOkI Tryz.prog I impl_IsSolved.g := (GOkI.nil _ _).cons impl_CountSolutions.ok
noncomputable def impl_IsSolved.i : FI := ⟨Tryz.f17, body Tryz.f17, (.seq .nil (.seq .nil (.seq .nil .nil))), [], [], [.res (.tmp 2) (.v .bool), .res (.tmp 3) (.v .bool)]⟩
noncomputable def impl_IsSolved.sp : CSpec := mkSpec impl_IsSolved.g T impl_IsSolved.i
theorem impl_IsSolved.ok : SpecOk Tryz.prog I 17 impl_IsSolved.sp := mkSpec_ok hmix hI impl_IsSolved.gok tok impl_IsSolved.i Tryz.func17 (by kernel_rfl) (by kernel_rfl) (by kernel_rfl) (by kernel_rfl)
noncomputable def impl_IsSolved.f (x0 : Int × (List (Int × Int × Int))) : Option (Bool × Bool) := run impl_IsSolved.g T impl_IsSolved.i [.v (.pair (.int .i64) (.slice (.pair (.int .i64) (.pair (.int .i64) (.int .i64))))) x0]
theorem impl_IsSolved.f.eq (x0 : Int × (List (Int × Int × Int))) : impl_IsSolved.f x0 =
  (impl_CountSolutions.f (x0.1, x0.2)).bind fun y1 =>
  if y1.2 = true then
    some ((if true = true then (y1.1 == 1) else false), y1.2)
  else
    some (false, y1.2) := by kernel_rfl
noncomputable def slices_Clone_53.g : Gam := []
theorem slices_Clone_53.gok : GOkI Tryz.prog I slices_Clone_53.g := GOkI.nil _ _
noncomputable def slices_Clone_53.i : FI := ⟨Tryz.f53, body Tryz.f53, (.seq .nil (.seq (.seq .nil (.cond (.seq .nil .nil) .nil)) (.seq .nil .nil))), [], [], [.res (.tmp 2) (.own 38 (.pair (.int .i64) (.pair (.int .i64) (.int .i64))))]⟩
noncomputable def slices_Clone_53.sp : CSpec := mkSpecN slices_Clone_53.g T slices_Clone_53.i
theorem slices_Clone_53.ok : SpecOk Tryz.prog I 53 slices_Clone_53.sp := mkSpecN_ok hI slices_Clone_53.gok tok slices_Clone_53.i Tryz.func53 (by kernel_rfl) (by kernel_rfl) (by kernel_rfl) (by kernel_rfl)
noncomputable def slices_Clone_53.f (x0 : List (Int × Int × Int)) : Option (List (Int × Int × Int)) := Go.Proofs.YtbmbejbhlcadmaaGreat.Eng.runN slices_Clone_53.g T slices_Clone_53.i [.v (.slice (.pair (.int .i64) (.pair (.int .i64) (.int .i64)))) x0]
theorem slices_Clone_53.f.eq (x0 : List (Int × Int × Int)) : slices_Clone_53.f x0 =
  nilT x0 (
    some []) (
    (catI (appMax 24) [] x0).bind fun y1 =>
    some y1) := by kernel_rfl
section
open Go.RowKit
/-! ### impl.without: slices.Clone, then slices.Delete of one -/
noncomputable def impl_without.f (l : List (Int × Int × Int)) (a : Int) : Option (List (Int × Int × Int)) := if 0 ≤ a ∧ a < (l.length : Int) ∧ l.length ≤ 1048576 then some (l.eraseIdx a.toNat) else none
noncomputable def impl_without.sp : CSpec := spec2 (.slice (.pair (.int .i64) (.pair (.int .i64) (.int .i64)))) (.int .i64) impl_without.f (fun r => [.own 38 (.pair (.int .i64) (.pair (.int .i64) (.int .i64))) r])
/-- A row at block g, of capacity c, whose first cells are these. -/
def RowIs (w : World) (g c : Nat) (inner : List Value) : Prop := ∃ cur : Array Value, w.heap[g]? = some (.cells cur 38 (0, 0)) ∧ cur.size = c * 3 ∧ cur.toList.take inner.length = inner
/-- All but block g is as it was. -/
structure SameBut (g : Nat) (w w1 : World) : Prop where
  os : w1.os = w.os
  tape : w1.tape = w.tape
  output : w1.output = w.output
  size : w1.heap.size = w.heap.size
  far : ∀ k, k ≠ g → w1.heap[k]? = w.heap[k]?
theorem SameBut.trans {g : Nat} {w w1 w2 : World} (h : SameBut g w w1) (k : SameBut g w1 w2) : SameBut g w w2 := ⟨k.os.trans h.os, k.tape.trans h.tape, k.output.trans h.output, k.size.trans h.size, fun i hi => (k.far i hi).trans (h.far i hi)⟩
theorem SameBut.drew {g : Nat} {w w1 : World} (h : SameBut g w w1) : SameBut g w w1.drew := ⟨h.os, h.tape, h.output, h.size, h.far⟩
theorem SameBut.undrew {g : Nat} {w w1 : World} (h : SameBut g w.drew w1) : SameBut g w w1 := ⟨h.os, h.tape, h.output, h.size, h.far⟩
theorem SameBut.refl (g : Nat) (w : World) : SameBut g w w := ⟨rfl, rfl, rfl, rfl, fun _ _ => rfl⟩
theorem setCells_far {g : Nat} : ∀ (vs : List Value) (o : Nat) {w : World} (k : Nat), k ≠ g → (w.setCells g o vs).heap[k]? = w.heap[k]?
  | [], _, _, _, _ => rfl
  | v :: r, o, w, k, hk => by
    rw [World.setCells, setCells_far r (o + 1) k hk]
    exact Below.heap_setCell w ⟨g, o, none⟩ v k hk
theorem setCells_same (g : Nat) : ∀ (vs : List Value) (o : Nat) (w : World), SameBut g w (w.setCells g o vs)
  | [], _, w => SameBut.refl g w
  | v :: r, o, w => by
    have h := setCells_same g r (o + 1) (w.setCell ⟨g, o, none⟩ v)
    rw [World.setCells]
    exact ⟨h.os, h.tape, h.output, by rw [h.size]; simp [World.setCell], fun k hk => (h.far k hk).trans (Below.heap_setCell w ⟨g, o, none⟩ v k hk)⟩
theorem blk_set {w : World} {g : Nat} {t : TypeId} {cs : Array Value} (h : w.heap[g]? = some (.cells cs t (0, 0))) (i : Nat) (u : Value) : (w.setCell ⟨g, i, none⟩ u).heap[g]? = some (.cells (cs.setIfInBounds i u) t (0, 0)) := by
  simp [World.setCell, Array.getElem?_modify, h]
theorem setCells_row {g : Nat} {e : TypeId} : ∀ (vs : List Value) (o : Nat) (w : World) (cur : Array Value), w.heap[g]? = some (.cells cur e (0, 0)) → o + vs.length ≤ cur.size →
    ∃ cur', (w.setCells g o vs).heap[g]? = some (.cells cur' e (0, 0)) ∧ cur'.size = cur.size ∧ cur'.toList = cur.toList.take o ++ vs ++ cur.toList.drop (o + vs.length)
  | [], o, w, cur, h, _ => ⟨cur, h, rfl, by simp⟩
  | v :: r, o, w, cur, h, hl => by
    have h2 := blk_set h o v
    simp only [List.length_cons] at hl
    obtain ⟨cur', h3, h4, h5⟩ := setCells_row r (o + 1) (w.setCell ⟨g, o, none⟩ v) _ h2 (by simp; omega)
    refine ⟨cur', h3, by rw [h4]; simp, ?_⟩
    rw [h5, Array.toList_setIfInBounds]
    have ho : o < cur.toList.length := by rw [Array.length_toList]; omega
    rw [List.take_set, List.drop_set_of_lt (by omega)]
    simp only [List.length_cons]
    rw [show o + 1 + r.length = o + (r.length + 1) by omega]
    congr 1
    rw [List.take_succ_eq_append_getElem ho, List.set_append_right _ _ (by rw [List.length_take]; omega)]
    have ho' : o < cur.size := by omega
    simp [Nat.min_eq_left (Nat.le_of_lt ho')]
/-- What is written behind a row's end leaves the row as it is. -/
theorem RowIs.tail {w : World} {g c : Nat} {inner : List Value} (h : RowIs w g c inner) (o : Nat) (zs : List Value) (ho : inner.length ≤ o) (hz : o + zs.length ≤ c * 3) : RowIs (w.setCells g o zs) g c inner := by
  obtain ⟨cur, h1, h2, h3⟩ := h
  obtain ⟨cur', k1, k2, k3⟩ := setCells_row zs o w cur h1 (by omega)
  have hl : inner.length ≤ cur.toList.length := by have := congrArg List.length h3; rw [List.length_take] at this; omega
  refine ⟨cur', k1, by rw [k2, h2], ?_⟩
  rw [k3, List.append_assoc, List.take_append_of_le_length (by rw [List.length_take]; omega), List.take_take, Nat.min_eq_left ho]
  exact h3
theorem RowIs.head {w : World} {g c : Nat} {inner : List Value} (h : RowIs w g c inner) (m : Nat) (hm : m ≤ inner.length) : RowIs w g c (inner.take m) := by
  obtain ⟨cur, h1, h2, h3⟩ := h
  refine ⟨cur, h1, h2, ?_⟩
  rw [List.length_take, Nat.min_eq_left hm]
  have := congrArg (List.take m) h3
  rwa [List.take_take, Nat.min_eq_left hm] at this
theorem wo_info : (Tryz.prog.info? 38).map (fun i => i.size) = some 3 := by kernel_rfl
theorem wo_clear (g o m c : Nat) (w1 : World) (hm : m = 1) {inner : List Value} {cc : Nat} (h : RowIs w1 g cc inner) (hfit : o + 3 ≤ cc * 3) : (Builtin.clear_ #[27] 0 #[.slice (some ⟨g, o, none⟩) m c]).run Tryz.prog w1 = .ok (.tuple #[]) (w1.setCells g o [.int .i64 0, .int .i64 0, .int .i64 0]) := by
  subst hm
  obtain ⟨cur, hh, hs, _⟩ := h
  have hst := run_storeCells_cells (P := Tryz.prog) g o [.int .i64 0, .int .i64 0, .int .i64 0] 0 w1 (fun j hj => by rw [cell_of_row w1 g _ cur _ _ hh]; simp at hj ⊢; omega) (fun j _ => by simp [World.frozen?, hh]) (by intro v hv; simp at hv; subst hv; rfl)
  simp only [Nat.add_zero] at hst
  have hv : ∀ w, (zeroValue 38).run Tryz.prog w = .ok (.agg #[.int .i64 0, .int .i64 0, .int .i64 0]) w := fun w => by kernel_rfl
  have hzc : (Builtin.zeroCells (Value.agg #[.int .i64 0, .int .i64 0, .int .i64 0]).cells 1).toList = [.int .i64 0, .int .i64 0, .int .i64 0] := by kernel_rfl
  simp [Builtin.clear_, run_underlying Tryz.underlying27, hv, hzc, hst]
theorem add_at (g o j : Nat) : (⟨g, o, none⟩ : Addr).add j = ⟨g, o + j, none⟩ := by unfold Addr.add; split <;> simp_all
/-- 'append(s[:k], s[k+1:]...)' in place. -/
theorem del_run {W : World} (ty : TypeId) {g n c k : Nat} {inner : List Value} (h : RowIs W g c inner) (hin : inner.length = n * 3) (hone : ∀ u ∈ inner, u.oneCell' = true) (hk : k < n) (hnc : n ≤ c) {A : Option Addr}
    (hA : A = if c = k + 1 then some ⟨g, 0, none⟩ else some ⟨g, (k + 1) * 3, none⟩) (c2 : Nat) :
    (Builtin.append_ #[27, 27] ty #[.slice (some ⟨g, 0, none⟩) k c, .slice A (n - (k + 1)) c2]).run Tryz.prog W = .ok (.slice (some ⟨g, 0, none⟩) (n - 1) c) (W.setCells g (k * 3) (inner.drop ((k + 1) * 3))) ∧ RowIs (W.setCells g (k * 3) (inner.drop ((k + 1) * 3))) g c (inner.take (k * 3) ++ inner.drop ((k + 1) * 3)) := by
  obtain ⟨cur, hh, hcs, htake⟩ := h
  obtain ⟨i, hi, hsz⟩ := Option.map_eq_some_iff.1 wo_info
  have hnl : (inner.drop ((k + 1) * 3)).length = (n - (k + 1)) * 3 := by rw [List.length_drop, hin]; omega
  have hcur : ∀ q, q < n * 3 → cur.toList[q]? = inner[q]? := by
    intro q hq
    rw [← htake, List.getElem?_take, if_pos (by omega)]
  obtain ⟨a, rfl, hcell⟩ : ∃ a, A = some a ∧ ∀ j u, (inner.drop ((k + 1) * 3))[j]? = some u → W.cell? (a.add j) = some u := by
    by_cases hck : c = k + 1
    · rw [if_pos hck] at hA
      refine ⟨_, hA, fun j u hu => ?_⟩
      have h0 : inner.drop ((k + 1) * 3) = [] := List.eq_nil_of_length_eq_zero (by rw [hnl]; omega)
      rw [h0] at hu
      simp at hu
    · rw [if_neg hck] at hA
      refine ⟨_, hA, fun j u hu => ?_⟩
      have hj : j < (inner.drop ((k + 1) * 3)).length := (List.getElem?_eq_some_iff.1 hu).1
      rw [add_at, cell_of_row W g _ cur _ (0, 0) hh, ← Array.getElem?_toList]
      rw [List.getElem?_drop] at hu
      rw [← hu]
      exact hcur _ (by omega)
  have hfit : k * 3 + (inner.drop ((k + 1) * 3)).length ≤ cur.size := by omega
  have hrun := run_append_room_cells (P := Tryz.prog) (w := W) 27 ty 38 i Tryz.underlying27 hi g 0 k c a (n - (k + 1)) c2 (inner.drop ((k + 1) * 3)) (by rw [hnl, hsz]) hcell (fun u hu => hone u (List.mem_of_mem_drop hu)) (by omega)
    (fun j hj => by rw [hsz, cell_of_row W g _ cur _ (0, 0) hh]; simp; omega) (fun j _ => by simp [World.frozen?, hh])
  rw [hsz, show k + (n - (k + 1)) = n - 1 by omega, Nat.zero_add] at hrun
  refine ⟨hrun, ?_⟩
  obtain ⟨cur', h3, h4, h5⟩ := setCells_row (inner.drop ((k + 1) * 3)) (k * 3) W cur hh hfit
  refine ⟨cur', h3, by rw [h4, hcs], ?_⟩
  rw [h5]
  have h7 : cur.toList.take (k * 3) = inner.take (k * 3) := by rw [← htake, List.take_take, Nat.min_eq_left (by omega)]
  rw [h7]
  exact List.take_left' rfl
section
variable {ops : Array Oper} {o : Oper} {a : Act} {Q : Exit → Act → World → Prop} {Kc : Act → World → Prop}
theorem del_step {W : World} (hw : Region.wanted o (yielded ops a.tmps) = true) (s x : Operand) (ho : o.op = .call { callee := .builtin .append, args := #[s, x], argTypes := #[27, 27] })
    {g n c k m c2 : Nat} {inner : List Value} {A : Option Addr} (hs : a.eval s = .slice (some ⟨g, 0, none⟩) k c) (hx : a.eval x = .slice A m c2) (hA : A = if c = k + 1 then some ⟨g, 0, none⟩ else some ⟨g, (k + 1) * 3, none⟩) (hm : m = n - (k + 1))
    (HO : RowIs W g c inner) (hin : inner.length = n * 3) (hone : ∀ u ∈ inner, u.oneCell' = true) (hk : k < n) (hnc : n ≤ c)
    (h : ∀ w1, RowIs w1 g c (inner.take (k * 3) ++ inner.drop ((k + 1) * 3)) → SameBut g W w1 → Kc (a.put o.dst (.slice (some ⟨g, 0, none⟩) (n - 1) c)) w1) :
    if Region.wanted o (yielded ops a.tmps) = true then Oper.wp Tryz.prog o a W Kc Q else Kc (a.put o.dst undef) W := by
  subst hm
  obtain ⟨hr, h1⟩ := del_run o.type HO hin hone hk hnc hA c2
  rw [if_pos hw]
  unfold Oper.wp execOp
  simp only [ho, resolve, invoke, builtin, Sem.run_bind, Sem.run_pure, Result.andThen_ok, List.map_toArray, List.map_cons, List.map_nil, hs, hx, hr]
  exact h _ h1 (setCells_same g _ _ _)
end
set_option maxHeartbeats 4000000 in
theorem delete_one (W : World) (g c n k : Nat) (inner : List Value) (hk : k < n) (hnm : n ≤ 1048576) (hnc : n ≤ c) (HO : RowIs W g c inner) (hin : inner.length = n * 3) (hone : ∀ u ∈ inner, u.oneCell' = true) :
    Calls Tryz.prog 79 #[.slice (some ⟨g, 0, none⟩) n c, .int .i64 (k : Int), .int .i64 ((k + 1 : Nat) : Int)] W fun e w' => e = .returned (.slice (some ⟨g, 0, none⟩) (n - 1) c) ∧ RowIs w' g c (inner.take (k * 3) ++ inner.drop ((k + 1) * 3)) ∧ SameBut g W w' := by
  have hu := Tryz.underlying38
  have hne : ¬ ((k : Int) = ((k + 1 : Nat) : Int)) := by omega
  have hk0 : (0 : Int) ≤ (k : Int) := by omega
  have hk1 : (k : Int) ≤ ((k + 1 : Nat) : Int) := by omega
  have hk2 : ((k + 1 : Nat) : Int) ≤ (n : Int) := by omega
  have hk3 : (n : Int) ≤ (c : Int) := by omega
  have hkc : k ≤ c := by omega
  have hk6 : (0 : Int) ≤ (k : Int) + 1 := by omega
  have hk7 : (k : Int) + 1 ≤ (n : Int) := by omega
  have hk8 : (k : Int) + 1 ≤ (c : Int) := by omega
  have hkn : k + 1 ≤ n := by omega
  have hkb : ((k : Int) == (k : Int) + 1) = false := beq_eq_false_iff_ne.mpr (by omega)
  have HO' := Aside0.mk HO
  have HI := Aside0.mk (And.intro hin hone)
  clear HO hin hone
  go_enter Tryz.func79, Tryz.ntmps79
  go_wp2_with fail
  by_cases hck : c = k + 1
  · have hcn : n = k + 1 := by omega
    subst hcn hck
    have hk4 : (k : Int) ≤ (k : Int) + 1 := by omega
    have hk5 : k ≤ k + 1 := by omega
    have HO1 := Aside0.mk (HO'.out.head (k * 3) (by rw [HI.out.1]; omega))
    have hclr : (Builtin.clear_ #[27] 0 #[.slice (some ⟨g, k * 3, none⟩) 1 1]).run Tryz.prog W.drew = .ok (.tuple #[]) (W.drew.setCells g (k * 3) [.int .i64 0, .int .i64 0, .int .i64 0]) :=
      wo_clear g (k * 3) 1 1 W.drew rfl HO'.out (by omega)
    go_region_held3 (fun _ => True) (exact trivial) (fail)
    all_goals
      go_wp2_with fail
      go_ret
      have hel : inner.take (k * 3) ++ inner.drop ((k + 1) * 3) = inner.take (k * 3) := by rw [List.drop_eq_nil_of_le (by rw [HI.out.1]; exact Nat.le_refl _), List.append_nil]
      rw [hel]
      exact ⟨rfl, HO1.out.tail (w := W.drew) _ _ (by rw [List.length_take, HI.out.1]; omega) (by simp only [List.length_cons, List.length_nil]; omega), (SameBut.refl g W).drew.trans (setCells_same g _ _ _)⟩
  · go_region_held3 (fun _ => True) (exact trivial) (first | (refine del_step (by rfl) (.tmp 22) (.tmp 25) rfl (g := g) (n := n) (c := c) (k := k) (m := n - (k + 1)) rfl rfl ?hA rfl HO'.out HI.out.1 HI.out.2 hk hnc ?_; (case hA => (first | (rw [if_neg hck]; done) | (rw [if_neg hck]; simp [Addr.add]; done) | (rw [if_neg hck]; simp [Addr.add]; rfl))); intro w1 ho hb; have HO1 := Aside0.mk ho; have HB1 := Aside0.mk hb; have hclr := wo_clear g ((n - 1) * 3) (n - (n - 1)) (c - (n - 1)) w1 (by omega) HO1.out (by omega); clear ho hb))
    all_goals
      go_wp2_with fail
      go_ret
      exact ⟨rfl, HO1.out.tail (w := w1) _ _ (by rw [List.length_append, List.length_take, List.length_drop, HI.out.1]; omega) (by simp only [List.length_cons, List.length_nil]; omega), HB1.out.undrew.trans (setCells_same g _ _ _)⟩
theorem rc_erase {S : Nat → Prop} {w : World} {e : Ty} : ∀ {xs : List e.den} {cs : List Value}, RowCells S w e xs cs → ∀ k, RowCells S w e (xs.eraseIdx k) (cs.take (k * e.size) ++ cs.drop ((k + 1) * e.size))
  | [], _, h, k => by simp only [RowCells] at h; subst h; simp [RowCells]
  | x :: xs, _, ⟨c1, c2, h0, h1, h2⟩, 0 => by
    subst h0
    have hl := h1.length
    rw [Nat.zero_mul, Nat.zero_add, Nat.one_mul, ← hl, List.take_zero, List.nil_append, List.drop_left]
    exact h2
  | x :: xs, _, ⟨c1, c2, h0, h1, h2⟩, k + 1 => by
    subst h0
    have hl := h1.length
    have e1 : (k + 1) * e.size = c1.length + k * e.size := by rw [hl, Nat.add_mul]; omega
    have e2 : (k + 1 + 1) * e.size = c1.length + (k + 1) * e.size := by rw [hl, Nat.add_mul (k + 1)]; omega
    rw [List.eraseIdx_cons_succ, e2]
    conv => arg 5; arg 1; rw [e1]
    rw [List.take_length_add_append, List.drop_length_add_append, List.append_assoc]
    exact ⟨c1, _, rfl, h1, rc_erase h2 k⟩
set_option maxHeartbeats 4000000 in
theorem impl_without.ok : SpecOk Tryz.prog I 54 impl_without.sp := spec2_ok ⟨_, Tryz.func54, by kernel_rfl, by kernel_rfl⟩ (by
  intro S w (l : List (Int × Int × Int)) (a : Int) u v r hI hlt hu hv hr
  rw [ValR.int] at hv
  subst hv
  unfold impl_without.f at hr
  split at hr
  · rename_i hp
    obtain rfl := Option.some.inj hr
    obtain ⟨k, rfl⟩ : ∃ k : Nat, a = (k : Int) := ⟨a.toNat, by omega⟩
    rw [Int.toNat_natCast]
    have hkn : k < l.length := by omega
    have hnm : l.length ≤ 1048576 := hp.2.2
    have hf : slices_Clone_53.f l = some l := by
      rw [slices_Clone_53.f.eq]
      have e : catI (appMax 24) [] l = some l := by
        unfold catI
        rw [if_pos (by rw [List.length_nil, Nat.zero_add]; exact Nat.le_trans hnm (by decide)), List.nil_append]
      rw [e]
      cases l with
      | nil => exact absurd hkn (Nat.not_lt_zero _)
      | cons x t => rfl
    have HC := Aside0.mk (slices_Clone_53.ok.calls S w [.v (.slice (.pair (.int .i64) (.pair (.int .i64) (.int .i64)))) l] [u] [] [] l hI hlt (by simp) (by simp) ⟨u, [], rfl, hu, rfl, rfl, rfl⟩ hf)
    have HS := Aside0.mk hlt
    have hw : wrap64 ((k : Int) + 1) = ((k + 1 : Nat) : Int) := by unfold wrap64; omega
    clear hp hr hf hu hI hlt
    go_enter Tryz.func54, Tryz.ntmps54
    go_wp2_with fail
    refine HC.out.mono ?_
    rintro e w1 ⟨rv, S', B', Bo, rfl, hkept, hres, _, _, _⟩
    obtain ⟨cs, ⟨hlen, hrow⟩, hrc, hob⟩ := hres.comps 0 _ rfl
    replace hrow : _ := hrow
    rcases hrow with ⟨hv0, h00⟩ | ⟨g, c, cur, hv0, _, hh, hle, hcm, hcs, htake⟩
    · omega
    · have hv1 : rv = .slice (some ⟨g, 0, none⟩) l.length c := hv0
      subst hv1
      have hfree := hres.free 0 g hob.symm
      have hgw : w.heap.size ≤ g := by
        rcases hfree.1 with h | h
        · exact h
        · cases h
      have hlen3 : cs.length = l.length * 3 := hlen
      have HR := Aside0.mk (show RowIs w1 g c cs from ⟨cur, hh, hcs, by rw [hlen3]; exact htake⟩)
      have HX := Aside0.mk (And.intro hrc (And.intro hlen3 (And.intro hle (And.intro hcm hgw))))
      have HK := Aside0.mk (show Below w.heap.size w w1 from ⟨hkept.os, hkept.tape, hkept.output, hkept.size, fun k hk => hkept.block k hk (by simp)⟩)
      have HD := Aside0.mk (delete_one w1 g c l.length k cs hkn hnm hle HR.out hlen3 hrc.one)
      clear hkept hres hrc hob hlen hh hle hcm hcs htake hfree hgw hlen3 HC hv0
      go_wp2_with fail
      refine HD.out.mono ?_
      rintro e w2 ⟨rfl, hr2, hs2⟩
      have HR2 := Aside0.mk hr2
      have HS2 := Aside0.mk hs2
      clear hr2 hs2
      go_wp2
      go_ret
      obtain ⟨hrc, hlen3, hle, hcm, hgw⟩ := HX.out
      obtain ⟨cur2, k1, k2, k3⟩ := HR2.out
      have hel : (l.eraseIdx k).length = l.length - 1 := by rw [List.length_eraseIdx_of_lt hkn]
      have hil : (cs.take (k * 3) ++ cs.drop ((k + 1) * 3)).length = (l.eraseIdx k).length * 3 := by rw [List.length_append, List.length_take, List.length_drop, hlen3, hel]; omega
      refine After.own1 (cs := cs.take (k * 3) ++ cs.drop ((k + 1) * 3)) ⟨HS2.out.os.trans HK.out.os, HS2.out.tape.trans HK.out.tape, HS2.out.output.trans HK.out.output, by rw [HS2.out.size]; exact HK.out.size, fun i hi => (HS2.out.far i (by omega)).trans (HK.out.block i hi)⟩ HS.out ?_ ?_
      · refine ⟨hil, .inr ⟨g, c, cur2, by rw [hel]; rfl, hgw, k1, by rw [hel]; omega, hcm, k2, ?_⟩⟩
        show cur2.toList.take ((l.eraseIdx k).length * 3) = _
        rw [← hil]
        exact k3
      · exact RowCells.flat (w := w1) (S := S') rfl (rc_erase hrc k)
  · cases hr)
end
noncomputable def impl_HarderPuzzle.g : Gam := [(17, impl_IsSolved.sp), (53, slices_Clone_53.sp), (54, impl_without.sp), (55, impl_solutions.sp)]
theorem impl_HarderPuzzle.gok : GOkI Tryz.prog I impl_HarderPuzzle.g := ((((GOkI.nil _ _).cons impl_solutions.ok).cons impl_without.ok).cons slices_Clone_53.ok).cons impl_IsSolved.ok
noncomputable def impl_HarderPuzzle.i : FI := ⟨Tryz.f15, body Tryz.f15, (.seq .nil (.seq (.seq .nil (.cut [1, 2, 19] [1, 2] .nil (.cond (.seq .nil .nil) .nil))) (.seq .nil (.seq (.seq .nil (.blk (.loop [1, 2, 6, 7] [1, 2] (.seq (.seq .nil (.cond .nil .nil)) (.blk (.seq .nil (.seq .nil (.cond .nil .nil)))))))) (.seq .nil .nil))))), [6], [], [.res (.cell 2 29) (.v (.pair (.int .i64) (.slice (.pair (.int .i64) (.pair (.int .i64) (.int .i64)))))), .res (.tmp 3) (.v .bool)]⟩
noncomputable def impl_HarderPuzzle.sp : CSpec := mkSpec impl_HarderPuzzle.g T impl_HarderPuzzle.i
theorem impl_HarderPuzzle.ok : SpecOk Tryz.prog I 15 impl_HarderPuzzle.sp := mkSpec_ok hmix hI impl_HarderPuzzle.gok tok impl_HarderPuzzle.i Tryz.func15 (by kernel_rfl) (by kernel_rfl) (by kernel_rfl) (by kernel_rfl)
noncomputable def impl_HarderPuzzle.f (x0 : Int × (List (Int × Int × Int))) : Option ((Int × (List (Int × Int × Int))) × Bool) := run impl_HarderPuzzle.g T impl_HarderPuzzle.i [.v (.pair (.int .i64) (.slice (.pair (.int .i64) (.pair (.int .i64) (.int .i64))))) x0]
noncomputable def impl_HarderPuzzle.j0 (x19 : Bool) (xb1_0 : Int) (xb1_1 : List (Int × Int × Int)) (xb2_0 : Int) (xb2_1 : List (Int × Int × Int)) : Option ((Int × (List (Int × Int × Int))) × Bool) := runJ impl_HarderPuzzle.g T impl_HarderPuzzle.i [true, false, true, true] [(1, .ptr 1 0), (2, .ptr 2 0), (19, .val .bool x19)] [(1, [⟨(.int .i64), xb1_0⟩, ⟨(.slice (.pair (.int .i64) (.pair (.int .i64) (.int .i64)))), xb1_1⟩]), (2, [⟨(.int .i64), xb2_0⟩, ⟨(.slice (.pair (.int .i64) (.pair (.int .i64) (.int .i64)))), xb2_1⟩])]
noncomputable def impl_HarderPuzzle.l0 (x6 : List (Int × Int × Int)) (x7 : Int) (xb1_0 : Int) (xb1_1 : List (Int × Int × Int)) (xb2_0 : Int) (xb2_1 : List (Int × Int × Int)) : Option ((Int × (List (Int × Int × Int))) × Bool) := runAt impl_HarderPuzzle.g T impl_HarderPuzzle.i [true, true, true, false, true, false] [(1, .ptr 1 0), (2, .ptr 2 0), (6, .val (.slice (.pair (.int .i64) (.pair (.int .i64) (.int .i64)))) x6), (7, .val (.int .i64) x7)] [(1, [⟨(.int .i64), xb1_0⟩, ⟨(.slice (.pair (.int .i64) (.pair (.int .i64) (.int .i64)))), xb1_1⟩]), (2, [⟨(.int .i64), xb2_0⟩, ⟨(.slice (.pair (.int .i64) (.pair (.int .i64) (.int .i64)))), xb2_1⟩])]
theorem impl_HarderPuzzle.f.eq (x0 : Int × (List (Int × Int × Int))) : impl_HarderPuzzle.f x0 =
  (impl_IsSolved.f (x0.1, x0.2)).bind fun y1 =>
  if (!y1.2) = true then
    impl_HarderPuzzle.j0 true x0.1 x0.2 0 []
  else
    impl_HarderPuzzle.j0 (if false = true then true else !y1.1) x0.1 x0.2 0 [] := by kernel_rfl
theorem impl_HarderPuzzle.j0.eq (x19 : Bool) (xb1_0 : Int) (xb1_1 : List (Int × Int × Int)) (xb2_0 : Int) (xb2_1 : List (Int × Int × Int)) : impl_HarderPuzzle.j0 x19 xb1_0 xb1_1 xb2_0 xb2_1 =
  if x19 = true then
    some ((0, []), false)
  else
    (slices_Clone_53.f xb1_1).bind fun y1 =>
    impl_HarderPuzzle.l0 y1 0 xb1_0 xb1_1 xb2_0 xb2_1 := (runJ_eq _ _ _ _ _ _).trans (by kernel_rfl)
theorem impl_HarderPuzzle.l0.eq (x6 : List (Int × Int × Int)) (x7 : Int) (xb1_0 : Int) (xb1_1 : List (Int × Int × Int)) (xb2_0 : Int) (xb2_1 : List (Int × Int × Int)) : impl_HarderPuzzle.l0 x6 x7 xb1_0 xb1_1 xb2_0 xb2_1 =
  if (decide (x7 < (x6.length : Int))) = true then
    (impl_without.f x6 x7).bind fun y3 =>
    (impl_solutions.f xb1_0 y3).bind fun y4 =>
    if ((y4.length : Int) == 1) = true then
      impl_HarderPuzzle.l0 y3 x7 xb1_0 xb1_1 xb2_0 xb2_1
    else
      impl_HarderPuzzle.l0 x6 (IntKind.i64.wrap (x7 + 1)) xb1_0 xb1_1 xb2_0 xb2_1
  else
    some ((xb1_0, x6), true) := (runAt_loop _ _ _ _ _ _).trans (by kernel_rfl)
noncomputable def spec_pzClue.g : Gam := [(41, spec_l1In.sp)]
theorem spec_pzClue.gok : GOkI Tryz.prog I spec_pzClue.g := (GOkI.nil _ _).cons spec_l1In.ok
noncomputable def spec_pzClue.i : FI := ⟨Tryz.f63, body Tryz.f63, (.seq .nil (.seq (.seq .nil (.cond (.seq .nil .nil) .nil)) (.seq (.seq .nil (.blk (.cut [0, 3, 10, 11] [3] (.seq .nil (.cond .nil (.seq .nil (.cond .nil .nil)))) (.cond (.seq .nil .nil) (.seq .nil (.cond (.seq .nil .nil) (.cut [0, 3, 10, 25] [3] (.seq .nil (.cond .nil .nil)) (.cond (.seq .nil .nil) (.seq .nil (.cond (.seq .nil .nil) .nil)))))))))) (.seq .nil .nil)))), [], [], [.res (.tmp 4) (.v .bool)]⟩
noncomputable def spec_pzClue.sp : CSpec := mkSpec spec_pzClue.g T spec_pzClue.i
theorem spec_pzClue.ok : SpecOk Tryz.prog I 63 spec_pzClue.sp := mkSpec_ok hmix hI spec_pzClue.gok tok spec_pzClue.i Tryz.func63 (by kernel_rfl) (by kernel_rfl) (by kernel_rfl) (by kernel_rfl)
noncomputable def spec_pzClue.f (x0 : Int) (x1 : Int × Int × Int) : Option (Bool) := run spec_pzClue.g T spec_pzClue.i [.v (.int .i64) x0, .v (.pair (.int .i64) (.pair (.int .i64) (.int .i64))) x1]
noncomputable def spec_pzClue.j0 (x0 : Int) (x10 : Int) (x11 : Bool) (xb3_0 : Int) (xb3_1 : Int) (xb3_2 : Int) : Option (Bool) := runJ spec_pzClue.g T spec_pzClue.i [true, true, false, true, false, true] [(0, .val (.int .i64) x0), (3, .ptr 3 0), (10, .val (.int .i64) x10), (11, .val .bool x11)] [(3, [⟨(.int .i64), xb3_0⟩, ⟨(.int .i64), xb3_1⟩, ⟨(.int .i64), xb3_2⟩])]
noncomputable def spec_pzClue.j1 (x0 : Int) (x10 : Int) (x25 : Bool) (xb3_0 : Int) (xb3_1 : Int) (xb3_2 : Int) : Option (Bool) := runJ spec_pzClue.g T spec_pzClue.i [true, true, false, true, false, true, true, true, true, true] [(0, .val (.int .i64) x0), (3, .ptr 3 0), (10, .val (.int .i64) x10), (25, .val .bool x25)] [(3, [⟨(.int .i64), xb3_0⟩, ⟨(.int .i64), xb3_1⟩, ⟨(.int .i64), xb3_2⟩])]
theorem spec_pzClue.f.eq (x0 : Int) (x1 : Int × Int × Int) : spec_pzClue.f x0 x1 =
  (spec_l1In.f x1.2.2 0 2000).bind fun y1 =>
  if (!y1) = true then
    some false
  else
    if (x1.1 == 0) = true then
      spec_pzClue.j0 x0 x1.1 (x1.1 == 0) x1.1 x1.2.1 x1.2.2
    else
      if (x1.1 == 2) = true then
        spec_pzClue.j0 x0 x1.1 (x1.1 == 2) x1.1 x1.2.1 x1.2.2
      else
        spec_pzClue.j0 x0 x1.1 (x1.1 == 4) x1.1 x1.2.1 x1.2.2 := by kernel_rfl
theorem spec_pzClue.j0.eq (x0 : Int) (x10 : Int) (x11 : Bool) (xb3_0 : Int) (xb3_1 : Int) (xb3_2 : Int) : spec_pzClue.j0 x0 x10 x11 xb3_0 xb3_1 xb3_2 =
  if x11 = true then
    some (xb3_1 == 0)
  else
    if (x10 == 1) = true then
      (spec_l1In.f xb3_1 0 (IntKind.i64.wrap (x0 - 1))).bind fun y3 =>
      some y3
    else
      if (x10 == 3) = true then
        spec_pzClue.j1 x0 x10 (x10 == 3) xb3_0 xb3_1 xb3_2
      else
        spec_pzClue.j1 x0 x10 (x10 == 5) xb3_0 xb3_1 xb3_2 := (runJ_eq _ _ _ _ _ _).trans (by kernel_rfl)
theorem spec_pzClue.j1.eq (x0 : Int) (x10 : Int) (x25 : Bool) (xb3_0 : Int) (xb3_1 : Int) (xb3_2 : Int) : spec_pzClue.j1 x0 x10 x25 xb3_0 xb3_1 xb3_2 =
  if x25 = true then
    (spec_l1In.f xb3_1 0 (IntKind.i64.wrap (x0 - 1))).bind fun y2 =>
    if y2 = true then
      some (if true = true then (decide (xb3_2 < 2)) else false)
    else
      some false
  else
    if (x10 == 6) = true then
      (spec_l1In.f xb3_1 0 9).bind fun y5 =>
      if y5 = true then
        (spec_l1In.f xb3_2 2 9).bind fun y6 =>
        some (if true = true then y6 else false)
      else
        some false
    else
      some false := (runJ_eq _ _ _ _ _ _).trans (by kernel_rfl)
noncomputable def spec_pzGood.g : Gam := [(65, spec_pzPeople.sp), (63, spec_pzClue.sp)]
theorem spec_pzGood.gok : GOkI Tryz.prog I spec_pzGood.g := ((GOkI.nil _ _).cons spec_pzClue.ok).cons spec_pzPeople.ok
noncomputable def spec_pzGood.i : FI := ⟨Tryz.f56, body Tryz.f56, (.seq .nil (.seq (.cut [1, 14] [1] .nil (.cond (.seq .nil .nil) .nil)) (.seq (.seq .nil (.blk (.loop [1, 16, 17, 18] [1] (.seq .nil (.seq (.cond .nil .nil) (.seq (.blk (.seq .nil (.seq .nil (.cond (.seq .nil .nil) .nil)))) .nil)))))) (.seq .nil .nil)))), [], [], [.res (.tmp 2) (.v .bool)]⟩
noncomputable def spec_pzGood.sp : CSpec := mkSpec spec_pzGood.g T spec_pzGood.i
theorem spec_pzGood.ok : SpecOk Tryz.prog I 56 spec_pzGood.sp := mkSpec_ok hmix hI spec_pzGood.gok tok spec_pzGood.i Tryz.func56 (by kernel_rfl) (by kernel_rfl) (by kernel_rfl) (by kernel_rfl)
noncomputable def spec_pzGood.f (x0 : Int × (List (Int × Int × Int))) : Option (Bool) := run spec_pzGood.g T spec_pzGood.i [.v (.pair (.int .i64) (.slice (.pair (.int .i64) (.pair (.int .i64) (.int .i64))))) x0]
noncomputable def spec_pzGood.j0 (x14 : Bool) (xb1_0 : Int) (xb1_1 : List (Int × Int × Int)) : Option (Bool) := runJ spec_pzGood.g T spec_pzGood.i [true, false, true] [(1, .ptr 1 0), (14, .val .bool x14)] [(1, [⟨(.int .i64), xb1_0⟩, ⟨(.slice (.pair (.int .i64) (.pair (.int .i64) (.int .i64)))), xb1_1⟩])]
noncomputable def spec_pzGood.l0 (x16 : List (Int × Int × Int)) (x17 : Int) (x18 : Int) (xb1_0 : Int) (xb1_1 : List (Int × Int × Int)) : Option (Bool) := runAt spec_pzGood.g T spec_pzGood.i [true, true, false, true, false] [(1, .ptr 1 0), (16, .val (.slice (.pair (.int .i64) (.pair (.int .i64) (.int .i64)))) x16), (17, .val (.int .i64) x17), (18, .val (.int .i64) x18)] [(1, [⟨(.int .i64), xb1_0⟩, ⟨(.slice (.pair (.int .i64) (.pair (.int .i64) (.int .i64)))), xb1_1⟩])]
theorem spec_pzGood.f.eq (x0 : Int × (List (Int × Int × Int))) : spec_pzGood.f x0 =
  (spec_pzPeople.f x0.1).bind fun y1 =>
  if (!y1) = true then
    spec_pzGood.j0 true x0.1 x0.2
  else
    spec_pzGood.j0 (if false = true then true else (decide ((x0.2.length : Int) > 6))) x0.1 x0.2 := by kernel_rfl
theorem spec_pzGood.j0.eq (x14 : Bool) (xb1_0 : Int) (xb1_1 : List (Int × Int × Int)) : spec_pzGood.j0 x14 xb1_0 xb1_1 =
  if x14 = true then
    some false
  else
    spec_pzGood.l0 xb1_1 (xb1_1.length : Int) 0 xb1_0 xb1_1 := (runJ_eq _ _ _ _ _ _).trans (by kernel_rfl)
theorem spec_pzGood.l0.eq (x16 : List (Int × Int × Int)) (x17 : Int) (x18 : Int) (xb1_0 : Int) (xb1_1 : List (Int × Int × Int)) : spec_pzGood.l0 x16 x17 x18 xb1_0 xb1_1 =
  if (decide (x18 < x17)) = true then
    (rdI x16 x18).bind fun y2 =>
    (spec_pzClue.f xb1_0 (y2.1, y2.2.1, y2.2.2)).bind fun y3 =>
    if (!y3) = true then
      some false
    else
      spec_pzGood.l0 x16 x17 (IntKind.i64.wrap (x18 + 1)) xb1_0 xb1_1
  else
    some true := (runAt_loop _ _ _ _ _ _).trans (by kernel_rfl)
noncomputable def spec_l1Own.g : Gam := []
theorem spec_l1Own.gok : GOkI Tryz.prog I spec_l1Own.g := GOkI.nil _ _
noncomputable def spec_l1Own.i : FI := ⟨Tryz.f102, body Tryz.f102, (.seq .nil (.seq .nil .nil)), [], [], [.res (.tmp 2) (.own 3 (.int .i64))]⟩
noncomputable def spec_l1Own.sp : CSpec := mkSpec spec_l1Own.g T spec_l1Own.i
theorem spec_l1Own.ok : SpecOk Tryz.prog I 102 spec_l1Own.sp := mkSpec_ok hmix hI spec_l1Own.gok tok spec_l1Own.i Tryz.func102 (by kernel_rfl) (by kernel_rfl) (by kernel_rfl) (by kernel_rfl)
noncomputable def spec_l1Own.f (x0 : List Int) : Option (List Int) := run spec_l1Own.g T spec_l1Own.i [.v (.slice (.int .i64)) x0]
theorem spec_l1Own.f.eq (x0 : List Int) : spec_l1Own.f x0 =
  (catI (appMax 8) [] x0).bind fun y1 =>
  some y1 := by kernel_rfl
noncomputable def spec_pzFits.g : Gam := [(84, spec_agSum.sp), (72, spec_pzValue.sp)]
theorem spec_pzFits.gok : GOkI Tryz.prog I spec_pzFits.g := ((GOkI.nil _ _).cons spec_pzValue.ok).cons spec_agSum.ok
noncomputable def spec_pzFits.i : FI := ⟨Tryz.f64, body Tryz.f64, (.seq .nil (.seq (.seq .nil (.cond (.seq .nil .nil) .nil)) (.seq .nil .nil))), [], [], [.res (.tmp 4) (.v .bool)]⟩
noncomputable def spec_pzFits.sp : CSpec := mkSpec spec_pzFits.g T spec_pzFits.i
theorem spec_pzFits.ok : SpecOk Tryz.prog I 64 spec_pzFits.sp := mkSpec_ok hmix hI spec_pzFits.gok tok spec_pzFits.i Tryz.func64 (by kernel_rfl) (by kernel_rfl) (by kernel_rfl) (by kernel_rfl)
noncomputable def spec_pzFits.f (x0 : Int × Int × Int) (x1 : List Int) : Option (Bool) := run spec_pzFits.g T spec_pzFits.i [.v (.pair (.int .i64) (.pair (.int .i64) (.int .i64))) x0, .v (.slice (.int .i64)) x1]
theorem spec_pzFits.f.eq (x0 : Int × Int × Int) (x1 : List Int) : spec_pzFits.f x0 x1 =
  if (x0.1 == 6) = true then
    (spec_agSum.f x1).bind fun y2 =>
    if x0.2.2 = 0 then
      none
    else
      some (((IntKind.i64.wrap (y2 + (IntKind.i64.wrap (x0.2.1 * (x1.length : Int))))).tmod x0.2.2) == 0)
  else
    (spec_pzValue.f x0.1 x0.2.1 x1).bind fun y7 =>
    some (y7 == x0.2.2) := by kernel_rfl
noncomputable def spec_pzLook.g : Gam := [(102, spec_l1Own.sp), (64, spec_pzFits.sp)]
theorem spec_pzLook.gok : GOkI Tryz.prog I spec_pzLook.g := ((GOkI.nil _ _).cons spec_pzFits.ok).cons spec_l1Own.ok
noncomputable def spec_pzLook.i : FI := ⟨Tryz.f96, body Tryz.f96, (.seq (.seq .nil (.cond (.seq (.seq .nil (.blk (.loop [0, 1, 2, 3, 8] [1000003] (.seq (.seq .nil (.cond .nil .nil)) (.seq (.blk .nil) .nil))))) .nil) .nil)) (.seq (.seq .nil (.blk (.loop [2, 3, 27, 28, 29] [1000003] (.seq .nil (.seq (.cond .nil .nil) (.seq (.blk (.seq .nil (.seq .nil (.cond .nil .nil)))) .nil)))))) .nil)), [], [1000003], [.box 1000003 0 (.own 24 (.slice (.int .i64)))]⟩
noncomputable def spec_pzLook.sp : CSpec := limSpec spec_pzLook.g T spec_pzLook.i 96
theorem spec_pzLook.ok : SpecOk Tryz.prog I 96 spec_pzLook.sp := limSpec_ok hmix hI spec_pzLook.gok tok spec_pzLook.i Tryz.func96 (by kernel_rfl) (by kernel_rfl) (by kernel_rfl) (by kernel_rfl)
noncomputable def spec_pzLook.r (k : Nat) (x0 : Int) (x1 : List (Int × Int × Int)) (x2 : List Int) (x3_0 : List (List Int)) : Option (List (List Int)) := recO spec_pzLook.g T spec_pzLook.i 96 k [.v (.int .i64) x0, .v (.slice (.pair (.int .i64) (.pair (.int .i64) (.int .i64)))) x1, .v (.slice (.int .i64)) x2, .bx [ownV 24 (.slice (.int .i64)) x3_0]]
noncomputable def spec_pzLook.f (x0 : Int) (x1 : List (Int × Int × Int)) (x2 : List Int) (x3_0 : List (List Int)) : Option (List (List Int)) := lim fun k => spec_pzLook.r k x0 x1 x2 x3_0
noncomputable def spec_pzLook.l0 (k : Nat) (x0 : Int) (x1 : List (Int × Int × Int)) (x2 : List Int) (x8 : Int) (x3_0 : List (List Int)) : Option (List (List Int)) := runAt ((96, recSpec spec_pzLook.g T spec_pzLook.i 96 k) :: spec_pzLook.g) T spec_pzLook.i [false, true, false, false, true, false] [(0, .val (.int .i64) x0), (1, .val (.slice (.pair (.int .i64) (.pair (.int .i64) (.int .i64)))) x1), (2, .val (.slice (.int .i64)) x2), (3, .ptr 1000003 0), (8, .val (.int .i64) x8)] [(1000003, [ownV 24 (.slice (.int .i64)) x3_0])]
noncomputable def spec_pzLook.l1 (k : Nat) (x2 : List Int) (x27 : List (Int × Int × Int)) (x28 : Int) (x29 : Int) (x3_0 : List (List Int)) : Option (List (List Int)) := runAt ((96, recSpec spec_pzLook.g T spec_pzLook.i 96 k) :: spec_pzLook.g) T spec_pzLook.i [true, false, true, false] [(2, .val (.slice (.int .i64)) x2), (3, .ptr 1000003 0), (27, .val (.slice (.pair (.int .i64) (.pair (.int .i64) (.int .i64)))) x27), (28, .val (.int .i64) x28), (29, .val (.int .i64) x29)] [(1000003, [ownV 24 (.slice (.int .i64)) x3_0])]
theorem spec_pzLook.r.eq (k : Nat) (x0 : Int) (x1 : List (Int × Int × Int)) (x2 : List Int) (x3_0 : List (List Int)) : spec_pzLook.r (k + 1) x0 x1 x2 x3_0 =
  if (decide (x0 > 0)) = true then
    spec_pzLook.l0 k x0 x1 x2 1 x3_0
  else
    spec_pzLook.l1 k x2 x1 (x1.length : Int) 0 x3_0 := by kernel_rfl
theorem spec_pzLook.l0.eq (k : Nat) (x0 : Int) (x1 : List (Int × Int × Int)) (x2 : List Int) (x8 : Int) (x3_0 : List (List Int)) : spec_pzLook.l0 k x0 x1 x2 x8 x3_0 =
  if (decide (x8 ≤ 12)) = true then
    (spec_l1Own.f x2).bind fun y3 =>
    (catI (appMax 8) y3 [x8]).bind fun y4 =>
    (spec_pzLook.r k (IntKind.i64.wrap (x0 - 1)) x1 y4 x3_0).bind fun y5 =>
    spec_pzLook.l0 k x0 x1 x2 (IntKind.i64.wrap (x8 + 1)) y5
  else
    some x3_0 := (runAt_loop _ _ _ _ _ _).trans (by kernel_rfl)
theorem spec_pzLook.l1.eq (k : Nat) (x2 : List Int) (x27 : List (Int × Int × Int)) (x28 : Int) (x29 : Int) (x3_0 : List (List Int)) : spec_pzLook.l1 k x2 x27 x28 x29 x3_0 =
  if (decide (x29 < x28)) = true then
    (rdI x27 x29).bind fun y2 =>
    (spec_pzFits.f (y2.1, y2.2.1, y2.2.2) x2).bind fun y3 =>
    if (!y3) = true then
      some x3_0
    else
      spec_pzLook.l1 k x2 x27 x28 (IntKind.i64.wrap (x29 + 1)) x3_0
  else
    (catI (appMax 24) x3_0 [x2]).bind fun y5 =>
    some y5 := (runAt_loop _ _ _ _ _ _).trans (by kernel_rfl)
noncomputable def spec_pzLook_v1.r (k : Nat) (x0 : Int) (x1 : List (Int × Int × Int)) (x3_0 : List (List Int)) : Option (List (List Int)) := recO spec_pzLook.g T spec_pzLook.i 96 k [.v (.int .i64) x0, .v (.slice (.pair (.int .i64) (.pair (.int .i64) (.int .i64)))) x1, .nl (.int .i64), .bx [ownV 24 (.slice (.int .i64)) x3_0]]
noncomputable def spec_pzLook_v1.f (x0 : Int) (x1 : List (Int × Int × Int)) (x3_0 : List (List Int)) : Option (List (List Int)) := lim fun k => spec_pzLook_v1.r k x0 x1 x3_0
noncomputable def spec_pzLook_v1.l0 (k : Nat) (x0 : Int) (x1 : List (Int × Int × Int)) (x2 : List Int) (x8 : Int) (x3_0 : List (List Int)) : Option (List (List Int)) := runAt ((96, recSpec spec_pzLook.g T spec_pzLook.i 96 k) :: spec_pzLook.g) T spec_pzLook.i [false, true, false, false, true, false] [(0, .val (.int .i64) x0), (1, .val (.slice (.pair (.int .i64) (.pair (.int .i64) (.int .i64)))) x1), (2, .val (.slice (.int .i64)) x2), (3, .ptr 1000003 0), (8, .val (.int .i64) x8)] [(1000003, [ownV 24 (.slice (.int .i64)) x3_0])]
noncomputable def spec_pzLook_v1.l1 (k : Nat) (x2 : List Int) (x27 : List (Int × Int × Int)) (x28 : Int) (x29 : Int) (x3_0 : List (List Int)) : Option (List (List Int)) := runAt ((96, recSpec spec_pzLook.g T spec_pzLook.i 96 k) :: spec_pzLook.g) T spec_pzLook.i [true, false, true, false] [(2, .val (.slice (.int .i64)) x2), (3, .ptr 1000003 0), (27, .val (.slice (.pair (.int .i64) (.pair (.int .i64) (.int .i64)))) x27), (28, .val (.int .i64) x28), (29, .val (.int .i64) x29)] [(1000003, [ownV 24 (.slice (.int .i64)) x3_0])]
theorem spec_pzLook_v1.r.eq (k : Nat) (x0 : Int) (x1 : List (Int × Int × Int)) (x3_0 : List (List Int)) : spec_pzLook_v1.r (k + 1) x0 x1 x3_0 =
  if (decide (x0 > 0)) = true then
    spec_pzLook_v1.l0 k x0 x1 [] 1 x3_0
  else
    spec_pzLook_v1.l1 k [] x1 (x1.length : Int) 0 x3_0 := by kernel_rfl
theorem spec_pzLook_v1.l0.eq (k : Nat) (x0 : Int) (x1 : List (Int × Int × Int)) (x2 : List Int) (x8 : Int) (x3_0 : List (List Int)) : spec_pzLook_v1.l0 k x0 x1 x2 x8 x3_0 =
  if (decide (x8 ≤ 12)) = true then
    (spec_l1Own.f x2).bind fun y3 =>
    (catI (appMax 8) y3 [x8]).bind fun y4 =>
    (spec_pzLook.r k (IntKind.i64.wrap (x0 - 1)) x1 y4 x3_0).bind fun y5 =>
    spec_pzLook_v1.l0 k x0 x1 x2 (IntKind.i64.wrap (x8 + 1)) y5
  else
    some x3_0 := (runAt_loop _ _ _ _ _ _).trans (by kernel_rfl)
theorem spec_pzLook_v1.l1.eq (k : Nat) (x2 : List Int) (x27 : List (Int × Int × Int)) (x28 : Int) (x29 : Int) (x3_0 : List (List Int)) : spec_pzLook_v1.l1 k x2 x27 x28 x29 x3_0 =
  if (decide (x29 < x28)) = true then
    (rdI x27 x29).bind fun y2 =>
    (spec_pzFits.f (y2.1, y2.2.1, y2.2.2) x2).bind fun y3 =>
    if (!y3) = true then
      some x3_0
    else
      spec_pzLook_v1.l1 k x2 x27 x28 (IntKind.i64.wrap (x29 + 1)) x3_0
  else
    (catI (appMax 24) x3_0 [x2]).bind fun y5 =>
    some y5 := (runAt_loop _ _ _ _ _ _).trans (by kernel_rfl)
noncomputable def spec_pzAll.g : Gam := [(96, spec_pzLook.sp)]
theorem spec_pzAll.gok : GOkI Tryz.prog I spec_pzAll.g := (GOkI.nil _ _).cons spec_pzLook.ok
noncomputable def spec_pzAll.i : FI := ⟨Tryz.f83, body Tryz.f83, (.seq .nil (.seq .nil (.seq .nil (.seq .nil .nil)))), [3000005], [], [.res (.tmp 4) (.own 24 (.slice (.int .i64)))]⟩
noncomputable def spec_pzAll.sp : CSpec := mkSpec spec_pzAll.g T spec_pzAll.i
theorem spec_pzAll.ok : SpecOk Tryz.prog I 83 spec_pzAll.sp := mkSpec_ok hmix hI spec_pzAll.gok tok spec_pzAll.i Tryz.func83 (by kernel_rfl) (by kernel_rfl) (by kernel_rfl) (by kernel_rfl)
noncomputable def spec_pzAll.f (x0 : Int) (x1 : List (Int × Int × Int)) : Option (List (List Int)) := run spec_pzAll.g T spec_pzAll.i [.v (.int .i64) x0, .v (.slice (.pair (.int .i64) (.pair (.int .i64) (.int .i64)))) x1]
theorem spec_pzAll.f.eq (x0 : Int) (x1 : List (Int × Int × Int)) : spec_pzAll.f x0 x1 =
  (spec_pzLook_v1.f x0 x1 []).bind fun y1 =>
  some y1 := by kernel_rfl
noncomputable def spec_pzSolved.g : Gam := [(83, spec_pzAll.sp)]
theorem spec_pzSolved.gok : GOkI Tryz.prog I spec_pzSolved.g := (GOkI.nil _ _).cons spec_pzAll.ok
noncomputable def spec_pzSolved.i : FI := ⟨Tryz.f57, body Tryz.f57, (.seq .nil (.seq .nil .nil)), [], [], [.res (.tmp 4) (.v .bool)]⟩
noncomputable def spec_pzSolved.sp : CSpec := mkSpec spec_pzSolved.g T spec_pzSolved.i
theorem spec_pzSolved.ok : SpecOk Tryz.prog I 57 spec_pzSolved.sp := mkSpec_ok hmix hI spec_pzSolved.gok tok spec_pzSolved.i Tryz.func57 (by kernel_rfl) (by kernel_rfl) (by kernel_rfl) (by kernel_rfl)
noncomputable def spec_pzSolved.f (x0 : Int) (x1 : List (Int × Int × Int)) : Option (Bool) := run spec_pzSolved.g T spec_pzSolved.i [.v (.int .i64) x0, .v (.slice (.pair (.int .i64) (.pair (.int .i64) (.int .i64)))) x1]
theorem spec_pzSolved.f.eq (x0 : Int) (x1 : List (Int × Int × Int)) : spec_pzSolved.f x0 x1 =
  (spec_pzAll.f x0 x1).bind fun y1 =>
  some ((y1.length : Int) == 1) := by kernel_rfl
noncomputable def spec_pzWithout.g : Gam := []
theorem spec_pzWithout.gok : GOkI Tryz.prog I spec_pzWithout.g := GOkI.nil _ _
noncomputable def spec_pzWithout.i : FI := ⟨Tryz.f58, body Tryz.f58, (.seq .nil (.seq .nil .nil)), [], [], [.res (.tmp 4) (.own 38 (.pair (.int .i64) (.pair (.int .i64) (.int .i64))))]⟩
noncomputable def spec_pzWithout.sp : CSpec := mkSpec spec_pzWithout.g T spec_pzWithout.i
theorem spec_pzWithout.ok : SpecOk Tryz.prog I 58 spec_pzWithout.sp := mkSpec_ok hmix hI spec_pzWithout.gok tok spec_pzWithout.i Tryz.func58 (by kernel_rfl) (by kernel_rfl) (by kernel_rfl) (by kernel_rfl)
noncomputable def spec_pzWithout.f (x0 : List (Int × Int × Int)) (x1 : Int) : Option (List (Int × Int × Int)) := run spec_pzWithout.g T spec_pzWithout.i [.v (.slice (.pair (.int .i64) (.pair (.int .i64) (.int .i64)))) x0, .v (.int .i64) x1]
theorem spec_pzWithout.f.eq (x0 : List (Int × Int × Int)) (x1 : Int) : spec_pzWithout.f x0 x1 =
  (subI x0 0 x1).bind fun y1 =>
  (catI (appMax 24) [] y1).bind fun y2 =>
  (subI x0 (IntKind.i64.wrap (x1 + 1)) x0.length).bind fun y4 =>
  (catI (appMax 24) y2 y4).bind fun y5 =>
  some y5 := by kernel_rfl
noncomputable def spec_HarderPuzzle.g : Gam := [(56, spec_pzGood.sp), (58, spec_pzWithout.sp), (57, spec_pzSolved.sp)]
theorem spec_HarderPuzzle.gok : GOkI Tryz.prog I spec_HarderPuzzle.g := (((GOkI.nil _ _).cons spec_pzSolved.ok).cons spec_pzWithout.ok).cons spec_pzGood.ok
noncomputable def spec_HarderPuzzle.i : FI := ⟨Tryz.f16, body Tryz.f16, (.seq .nil (.seq (.cut [1, 2, 17] [1, 2] .nil (.cond (.seq .nil .nil) .nil)) (.seq .nil (.seq (.seq .nil (.blk (.loop [1, 2, 4, 5] [1, 2] (.seq (.seq .nil (.cond .nil .nil)) (.blk (.seq .nil (.seq .nil (.cond .nil .nil)))))))) (.seq .nil .nil))))), [], [], [.res (.cell 2 29) (.v (.pair (.int .i64) (.slice (.pair (.int .i64) (.pair (.int .i64) (.int .i64)))))), .res (.tmp 3) (.v .bool)]⟩
noncomputable def spec_HarderPuzzle.sp : CSpec := mkSpec spec_HarderPuzzle.g T spec_HarderPuzzle.i
theorem spec_HarderPuzzle.ok : SpecOk Tryz.prog I 16 spec_HarderPuzzle.sp := mkSpec_ok hmix hI spec_HarderPuzzle.gok tok spec_HarderPuzzle.i Tryz.func16 (by kernel_rfl) (by kernel_rfl) (by kernel_rfl) (by kernel_rfl)
noncomputable def spec_HarderPuzzle.f (x0 : Int × (List (Int × Int × Int))) : Option ((Int × (List (Int × Int × Int))) × Bool) := run spec_HarderPuzzle.g T spec_HarderPuzzle.i [.v (.pair (.int .i64) (.slice (.pair (.int .i64) (.pair (.int .i64) (.int .i64))))) x0]
noncomputable def spec_HarderPuzzle.j0 (x17 : Bool) (xb1_0 : Int) (xb1_1 : List (Int × Int × Int)) (xb2_0 : Int) (xb2_1 : List (Int × Int × Int)) : Option ((Int × (List (Int × Int × Int))) × Bool) := runJ spec_HarderPuzzle.g T spec_HarderPuzzle.i [true, false, true] [(1, .ptr 1 0), (2, .ptr 2 0), (17, .val .bool x17)] [(1, [⟨(.int .i64), xb1_0⟩, ⟨(.slice (.pair (.int .i64) (.pair (.int .i64) (.int .i64)))), xb1_1⟩]), (2, [⟨(.int .i64), xb2_0⟩, ⟨(.slice (.pair (.int .i64) (.pair (.int .i64) (.int .i64)))), xb2_1⟩])]
noncomputable def spec_HarderPuzzle.l0 (x4 : List (Int × Int × Int)) (x5 : Int) (xb1_0 : Int) (xb1_1 : List (Int × Int × Int)) (xb2_0 : Int) (xb2_1 : List (Int × Int × Int)) : Option ((Int × (List (Int × Int × Int))) × Bool) := runAt spec_HarderPuzzle.g T spec_HarderPuzzle.i [true, true, true, false, true, false] [(1, .ptr 1 0), (2, .ptr 2 0), (4, .own 38 (.pair (.int .i64) (.pair (.int .i64) (.int .i64))) x4), (5, .val (.int .i64) x5)] [(1, [⟨(.int .i64), xb1_0⟩, ⟨(.slice (.pair (.int .i64) (.pair (.int .i64) (.int .i64)))), xb1_1⟩]), (2, [⟨(.int .i64), xb2_0⟩, ⟨(.slice (.pair (.int .i64) (.pair (.int .i64) (.int .i64)))), xb2_1⟩])]
theorem spec_HarderPuzzle.f.eq (x0 : Int × (List (Int × Int × Int))) : spec_HarderPuzzle.f x0 =
  (spec_pzGood.f (x0.1, x0.2)).bind fun y1 =>
  if (!y1) = true then
    spec_HarderPuzzle.j0 true x0.1 x0.2 0 []
  else
    (spec_pzSolved.f x0.1 x0.2).bind fun y6 =>
    spec_HarderPuzzle.j0 (if false = true then true else !y6) x0.1 x0.2 0 [] := by kernel_rfl
theorem spec_HarderPuzzle.j0.eq (x17 : Bool) (xb1_0 : Int) (xb1_1 : List (Int × Int × Int)) (xb2_0 : Int) (xb2_1 : List (Int × Int × Int)) : spec_HarderPuzzle.j0 x17 xb1_0 xb1_1 xb2_0 xb2_1 =
  if x17 = true then
    some ((0, []), false)
  else
    (catI (appMax 24) [] xb1_1).bind fun y1 =>
    spec_HarderPuzzle.l0 y1 0 xb1_0 xb1_1 xb2_0 xb2_1 := (runJ_eq _ _ _ _ _ _).trans (by kernel_rfl)
theorem spec_HarderPuzzle.l0.eq (x4 : List (Int × Int × Int)) (x5 : Int) (xb1_0 : Int) (xb1_1 : List (Int × Int × Int)) (xb2_0 : Int) (xb2_1 : List (Int × Int × Int)) : spec_HarderPuzzle.l0 x4 x5 xb1_0 xb1_1 xb2_0 xb2_1 =
  if (decide (x5 < (x4.length : Int))) = true then
    (spec_pzWithout.f x4 x5).bind fun y3 =>
    (spec_pzSolved.f xb1_0 y3).bind fun y4 =>
    if y4 = true then
      spec_HarderPuzzle.l0 y3 x5 xb1_0 xb1_1 xb2_0 xb2_1
    else
      spec_HarderPuzzle.l0 x4 (IntKind.i64.wrap (x5 + 1)) xb1_0 xb1_1 xb2_0 xb2_1
  else
    some ((xb1_0, x4), true) := (runAt_loop _ _ _ _ _ _).trans (by kernel_rfl)
end Go.Proofs.YtbmbejbhlcadmaaGreat.S
