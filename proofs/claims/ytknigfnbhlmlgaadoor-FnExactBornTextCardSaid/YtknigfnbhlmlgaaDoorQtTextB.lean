/- The walks of joined and BornText, and of the law of BornText. Condition: the library's table of powers of ten lies where the row says. -/
import Derived.Test.YtknigfnbhlmlgaaDoorShelf
import Derived.Lib.AppendIntMem
import Derived.Lib.ItoaLen
import Derived.WalkSmall
import Derived.Test.YtknigfnbhlmlgaaDoorT3
import Derived.Test.YtknigfnbhlmlgaaDoorT4
namespace Go.Proofs.YtknigfnbhlmlgaaDoor.Q
open Go.RowKit Go.Proofs.YtknigfnbhlmlgaaDoor.T Go.Proofs.YtknigfnbhlmlgaaDoorW.PrintWords Go.Proofs.YtknigfnbhlmlgaaDoorW.PrintLast
set_option linter.unusedVariables false

/-- The library's table of powers of ten lies. -/
def Tab (w : World) : Prop := Go.Lib.TabIs Tryd.prog w "internal/strconv.uint64pow10" .u64 Go.Lib.pow10Tab
theorem tab_g : Tryd.prog.globalNamed "internal/strconv.uint64pow10" = some 3 := by kernel_rfl
theorem Tab.lt {w : World} (h : Tab w) : 3 < w.heap.size := World.block_lt_of_cell? w _ (Go.Lib.TabIs.cell h tab_g 0 (by decide))
theorem Tab.below {w w' : World} (h : Tab w) (hb : Below w.heap.size w w') : Tab w' := var?_below hb tab_g h.lt h
theorem tx_info : (Tryd.prog.info? 9).map (fun i => (i.zero, i.size, i.bytes)) = some (some (.string ⟨#[]⟩), 1, 16) := by kernel_rfl
/-- The words of numbers. -/
def wordsOf (l : List Int) : List ByteArray := l.map fun n => (⟨(Go.Lib.itoa n).toArray⟩ : ByteArray)
theorem words_data (l : List Int) : (wordsOf l).map (·.data.toList) = l.map Go.Lib.itoa := by
  unfold wordsOf
  rw [List.map_map]
  exact List.map_congr_left (fun n _ => by simp)
theorem words_snoc (l : List Int) (i : Nat) (h : i < l.length) : wordsOf (l.take i) ++ [(⟨(Go.Lib.itoa (rd l (i : Int))).toArray⟩ : ByteArray)] = wordsOf (l.take (i + 1)) := by
  unfold wordsOf
  rw [List.take_succ_eq_append_getElem h, List.map_append]
  have e : rd l (i : Int) = l[i] := by
    unfold rd
    rw [Int.toNat_natCast, List.getD_eq_getElem?_getD, List.getElem?_eq_getElem h, Option.getD_some]
  rw [e]
  rfl
theorem tx_lens (sep : List UInt8) (l : List Int) (hb : ∀ x ∈ l, 0 ≤ x ∧ x ≤ 2900) (hl : l.length ≤ 10) (hs : sep.length ≤ 10) : (Go.Lib.join ((wordsOf l).map (·.data.toList)) sep).length ≤ 140737488355328 := by
  rw [words_data]
  have hlens : ∀ k : List Int, (∀ x ∈ k, 0 ≤ x ∧ x ≤ 2900) → Go.Lib.lens (k.map Go.Lib.itoa) ≤ k.length * 21 := by
    intro k
    induction k with
    | nil => intro _; simp [Go.Lib.lens]
    | cons n t ih =>
      intro hk
      have h1 := hk n List.mem_cons_self
      have h2 := Go.Lib.itoa_length_le n (by omega) (by omega)
      have h3 := ih (fun x hx => hk x (List.mem_cons_of_mem _ hx))
      simp only [List.map_cons, Go.Lib.lens, List.sum_cons, List.length_cons] at h3 ⊢
      omega
  cases l with
  | nil => simp [Go.Lib.join_nil]
  | cons n t =>
    rw [List.map_cons, Go.Lib.join_length, ← List.map_cons, List.length_map]
    have h1 := hlens (n :: t) hb
    have h2 : sep.length * t.length ≤ 10 * 10 := Nat.mul_le_mul hs (by simp at hl; omega)
    have h3 : (n :: t).length * 21 ≤ 10 * 21 := Nat.mul_le_mul_right _ hl
    omega
set_option maxHeartbeats 2000000 in
set_option maxRecDepth 100000 in
theorem joined_calls (A0 : Option Addr) (c0 : Nat) (l0 : List Int) (sep : ByteArray) (w : World) (hr0 : Kd.C (Kd.int .i64) w A0 l0.length l0) (hc0 : l0.length ≤ c0) (h1 : 1 ≤ l0.length) (h2 : l0.length ≤ 10) (hb : ∀ x ∈ l0, 0 ≤ x ∧ x ≤ 2900) (hs : sep.data.toList.length ≤ 10) (ht : Tab w) :
    Calls Tryd.prog 33 #[.slice A0 l0.length c0, .string sep] w fun e w' => e = .returned (.string ⟨(Go.Lib.join (l0.map Go.Lib.itoa) sep.data.toList).toArray⟩) ∧ Below w.heap.size w w' := by
  have HR := Aside0.mk hr0
  have HT := Aside0.mk ht
  have H1 := Aside0.mk h1
  have H2 := Aside0.mk h2
  have HN := Aside0.mk hb
  have HS := Aside0.mk hs
  clear hr0 hc0 ht h1 h2 hb hs
  go_enter Tryd.func33, Tryd.ntmps33
  go_wp2_with ((with_reducible refine gate_dst (N := 8) rfl ?_); refine Kd.R_lit Kd.string (w0 := w) w.heap.size 9 ?hg (N := 8) ?hd (xs := ([] : List ByteArray)) (inner := []) (ok := fun _ => True) (okp := fun _ => True) ?hr ?hp (fun _ hk => hk) trivial (Below.refl _ _) (Nat.le_refl _) (by simp) ?_; (case hd => rfl); (case hg => rfl); (case hr => first | (go_simp; done) | (go_simp; rfl)); (case hp => exact (Reps.none _ _)); intro v1 w1 ho hb hgr hnew; obtain ⟨A1, c1, ev⟩ := Kd.R_slice ho; subst ev; have HO := Aside0.mk ho; have HB := Aside0.mk hb; clear ho hb hgr hnew)
  go_loopg [5, 11] l0.length (fun gg s5 s11 wr => ∃ (i : Nat) (v : Value), i ≤ l0.length ∧ l0.length - i ≤ gg ∧ v = s5 ∧ s11 = .int .i64 i ∧ Aside0 (Kd.R Kd.string 9 wr w.heap.size (fun _ => True) v (wordsOf (l0.take i))) ∧ Aside0 (Below w.heap.size w wr))
  case atStart => exact ⟨0, _, Nat.zero_le _, by omega, rfl, rfl, HO, HB⟩
  case round =>
    clear HO HB
    obtain ⟨i, v, hi, hgg, rfl, rfl, HO, HB⟩ := hrel
    by_cases hlt : i < l0.length
    · have hltz : (i : Int) < (l0.length : Int) := by omega
      obtain ⟨ad, ea, hcell⟩ := Kd.at_int (Kd.C_below HR.out HB.out) (i : Int) (by omega) hltz
      subst ea
      simp only [Int.toNat_natCast] at hcell
      have HW := Aside0.mk (words_snoc l0 i hlt)
      have hmem : rd l0 (i : Int) ∈ l0 := by
        unfold rd
        rw [Int.toNat_natCast, List.getD_eq_getElem?_getD, List.getElem?_eq_getElem hlt, Option.getD_some]
        exact List.getElem_mem hlt
      have hyb := HN.out _ hmem
      generalize rd l0 (i : Int) = y at hcell HW hyb
      clear hmem
      have HY := Aside0.mk hyb
      clear hyb
      obtain ⟨Av, cv, ev⟩ := Kd.R_slice HO.out
      subst ev
      have HLN := Aside0.mk (show (wordsOf (l0.take i)).length ≤ 10 by have := H2.out; unfold wordsOf; rw [List.length_map, List.length_take]; omega)
      have HL1 := H2.out
      have HTB := Aside0.mk (show Go.Lib.TabIs Tryd.prog wr "internal/strconv.uint64pow10" .u64 Go.Lib.pow10Tab from HT.out.below HB.out)
      go_wp2_with (first | (go_at_call 63; go_loud (with_reducible refine (Tryd.strconv_Itoa y (by have := HY.out; omega) (by have := HY.out; omega) wr HTB.out).mono ?_; rintro e w2 ⟨rfl, kk, os_, hw⟩); have hb2 : Below wr.heap.size wr w2 := (by rw [hw]; exact Go.Lib.below_grow _ _ (Nat.le_refl _) kk os_); have HO2 := Aside0.mk (Kd.R_below HO.out hb2); have HB2 := Aside0.mk (below_step HB.out hb2); clear hw hb2) | ((with_reducible refine gate_builtin (b := .append) (xs := #[.tmp 15, .tmp 18]) rfl ?_); at_builtin; refine Kd.R_append Kd.string (w0 := w) w.heap.size rfl (.tmp 15) (.tmp 18) 61 9 (.string ⟨#[]⟩) 16 rfl Tryd.underlying61 tx_info rfl (by decide) (by omega) (.slice Av (wordsOf (l0.take i)).length cv) (wordsOf (l0.take i)) (⟨(Go.Lib.itoa y).toArray⟩ : ByteArray) [.string (⟨(Go.Lib.itoa y).toArray⟩ : ByteArray)] (fun _ => True) (fun _ => False) rfl rfl rfl (fun _ hk => hk.elim) (fun _ _ => trivial) HO2.out HB2.out (below_size HB2.out) (by have := HLN.out; omega) ?_; intro v3 w3 ho hb hgr hat; rw [HW.out] at ho; have HO3 := Aside0.mk ho; have HB3 := Aside0.mk hb; clear ho hb hgr hat))
      go_roundg (l0.length - (i + 1))
      case measure => omega
      case rel => exact ⟨i + 1, _, by omega, by omega, rfl, by go_num, HO3, HB3⟩
    · have hltz : ¬ (i : Int) < (l0.length : Int) := by omega
      have hie : i = l0.length := by omega
      subst hie
      have HO1 := Aside0.mk (show Kd.R Kd.string 9 wr w.heap.size (fun _ => True) v (wordsOf l0) by have := HO.out; rw [List.take_length] at this; exact this)
      have hwl : (wordsOf l0).length = l0.length := by unfold wordsOf; rw [List.length_map]
      obtain ⟨g, cap, ev, hgb, hgl, _⟩ := Kd.R_form HO1.out (by have := H1.out; omega)
      subst ev
      have hcl := (Kd.R_reads' HO1.out).2.1
      have HJ := Aside0.mk (Tryd.strings_Join g 0 cap (wordsOf l0) sep wr (fun j x hx => by
        have hjl := (List.getElem?_eq_some_iff.mp hx).1
        have hc := (Kd.R_celln ByteArray.empty HO1.out (j : Int) (by omega) (by omega)).1
        rw [Int.toNat_natCast] at hc
        rw [Nat.zero_add, hc]
        unfold rdOf
        rw [Int.toNat_natCast, List.getD_eq_getElem?_getD, hx]
        rfl) hgl (by have := H2.out; omega) hcl (tx_lens sep.data.toList l0 HN.out H2.out HS.out))
      clear hcl hgb hgl hwl HO HO1
      go_wp2_with (go_at_call 39; with_reducible refine HJ.out.mono ?_; rintro e w2 ⟨rfl, hb2⟩; have HB2 := Aside0.mk (below_step HB.out hb2); clear hb2)
      go_ret
      exact ⟨by rw [words_data]; rfl, HB2.out⟩
def bornOut (b : Bool) (l0 : List Int) : ByteArray := if b = true then ⟨(Go.Lib.join (l0.map Go.Lib.itoa) [44]).toArray⟩ else ⟨#[]⟩
set_option maxHeartbeats 2000000 in
set_option maxRecDepth 100000 in
theorem bornText_calls (A0 : Option Addr) (c0 : Nat) (l0 : List Int) (b : Bool) (w : World) (hr0 : Kd.C (Kd.int .i64) w A0 l0.length l0) (hc0 : l0.length ≤ c0) (hb : impl_AreBirths.f l0 = some b) (hg : b = true → 1 ≤ l0.length ∧ l0.length ≤ 10 ∧ ∀ x ∈ l0, 0 ≤ x ∧ x ≤ 2900) (ht : Tab w) :
    Calls Tryd.prog 10 #[.slice A0 l0.length c0] w fun e w' => e = .returned (.tuple #[.string (bornOut b l0), .bool b]) ∧ Below w.heap.size w w' := by
  have HB0 := Aside0.mk (impl_AreBirths.calls A0 c0 l0 b w hr0 hc0 hb)
  have HR := Aside0.mk hr0
  have HC := Aside0.mk hc0
  have HG := Aside0.mk hg
  have HT := Aside0.mk ht
  clear hr0 hc0 hb hg ht
  go_enter Tryd.func10, Tryd.ntmps10
  go_wp2_with fail
  refine HB0.out.mono ?_
  rintro e w1 ⟨rfl, hb1⟩
  have HB1 := Aside0.mk hb1
  clear hb1 HB0
  cases b with
  | false =>
    go_wp2
    go_ret2
    exact ⟨rfl, HB1.out⟩
  | true =>
    obtain ⟨h1, h2, h3⟩ := HG.out rfl
    have HJ := Aside0.mk (joined_calls A0 c0 l0 ⟨#[44]⟩ w1 (Kd.C_below HR.out HB1.out) HC.out h1 h2 h3 (by decide) (HT.out.below HB1.out))
    clear h1 h2 h3
    go_wp2_with fail
    refine HJ.out.mono ?_
    rintro e w2 ⟨rfl, hb2⟩
    have HB2 := Aside0.mk (below_step HB1.out hb2)
    clear hb2
    go_wp2
    go_ret2
    exact ⟨rfl, HB2.out⟩
set_option maxHeartbeats 2000000 in
set_option maxRecDepth 100000 in
theorem lawBornText_calls (k : Nat) (A0 : Option Addr) (c0 : Nat) (l0 : List Int) (b : Bool) (w : World) (hr0 : Kd.C (Kd.int .i64) w A0 l0.length l0) (hc0 : l0.length ≤ c0) (ht : Tab w)
    (h : l0.length ≤ 1048576 → laws_toIntS.f k l0 = some l0 ∧ spec_BornText.f k l0 = some (bornOut b l0, b) ∧ impl_AreBirths.f l0 = some b ∧ (b = true → 1 ≤ l0.length ∧ l0.length ≤ 10 ∧ ∀ x ∈ l0, 0 ≤ x ∧ x ≤ 2900) ∧ laws_eqIntS.f k l0 l0 = some true) :
    Calls Tryd.prog 3 #[.slice A0 l0.length c0] w fun e w' => e = .returned (.bool true) ∧ Below w.heap.size w w' := by
  have HR := Aside0.mk hr0
  have HC := Aside0.mk hc0
  have HT := Aside0.mk ht
  clear hr0 hc0 ht
  by_cases hl : l0.length ≤ 1048576
  · obtain ⟨hP, hW, hA, hG, hE⟩ := h hl
    have HP := Aside0.mk hP
    have HW := Aside0.mk hW
    have HA := Aside0.mk hA
    have HG := Aside0.mk hG
    have HE := Aside0.mk hE
    have ht1 : ¬ (1048576 : Int) < (l0.length : Int) := by omega
    have ht2 : decide ((l0.length : Int) > 1048576) = false := decide_eq_false (by omega)
    have hbne : (b != b) = false := bne_self_eq_false b
    clear hP hW hA hG hE h hl
    go_enter Tryd.func3, Tryd.ntmps3
    go_wp2_with fail
    refine (laws_toIntS.calls k A0 c0 l0 l0 w HR.out HC.out HP.out).mono ?_
    rintro e w1 ⟨v1, rfl, ho1, hb1⟩
    obtain ⟨A1, c1, ev⟩ := Kd.R_slice ho1
    subst ev
    have HO1 := Aside0.mk ho1
    have HB1 := Aside0.mk hb1
    clear ho1 hb1
    go_wp2_with fail
    refine (spec_BornText.calls k A1 c1 l0 (bornOut b l0) b w1 (Kd.R_reads' HO1.out).2.2 (Kd.R_reads' HO1.out).2.1 HW.out).mono ?_
    rintro e w2 ⟨rfl, hb2⟩
    have HB2 := Aside0.mk (below_step HB1.out hb2)
    clear hb2 HO1
    go_wp2_with fail
    refine (laws_toIntS.calls k A0 c0 l0 l0 w2 (Kd.C_below HR.out HB2.out) HC.out HP.out).mono ?_
    rintro e w3 ⟨v3, rfl, ho3, hb3⟩
    obtain ⟨A3, c3, ev⟩ := Kd.R_slice ho3
    subst ev
    have HO3 := Aside0.mk ho3
    have HB3 := Aside0.mk (below_step HB2.out hb3)
    clear ho3 hb3
    go_wp2_with fail
    refine (bornText_calls A3 c3 l0 b w3 (Kd.R_reads' HO3.out).2.2 (Kd.R_reads' HO3.out).2.1 HA.out HG.out (HT.out.below HB3.out)).mono ?_
    rintro e w4 ⟨rfl, hb4⟩
    have HO4 := Aside0.mk (Kd.R_below HO3.out hb4)
    have HB4 := Aside0.mk (below_step HB3.out hb4)
    clear hb4
    go_wp2_with fail
    refine (laws_toIntS.calls k A0 c0 l0 l0 w4 (Kd.C_below HR.out HB4.out) HC.out HP.out).mono ?_
    rintro e w5 ⟨v5, rfl, ho5, hb5⟩
    obtain ⟨A5, c5, ev⟩ := Kd.R_slice ho5
    subst ev
    have HO5 := Aside0.mk ho5
    have HO6 := Aside0.mk (Kd.R_below HO4.out hb5)
    have HB5 := Aside0.mk (below_step HB4.out hb5)
    clear ho5 hb5
    go_wp2_with fail
    refine (laws_eqIntS.calls k A3 c3 l0 A5 c5 l0 true w5 (Kd.R_reads' HO6.out).2.2 (Kd.R_reads' HO6.out).2.1 (Kd.R_reads' HO5.out).2.2 (Kd.R_reads' HO5.out).2.1 HE.out).mono ?_
    rintro e w6 ⟨rfl, hd⟩
    have HB6 := Aside0.mk (below_step HB5.out hd.below)
    clear hd
    go_wp2
    go_ret
    exact ⟨rfl, HB6.out⟩
  · have ht1 : (1048576 : Int) < (l0.length : Int) := by omega
    have ht2 : decide ((l0.length : Int) > 1048576) = true := decide_eq_true (by omega)
    go_enter Tryd.func3, Tryd.ntmps3
    go_wp2
    go_ret
    exact ⟨rfl, Below.refl _ _⟩
end Go.Proofs.YtknigfnbhlmlgaaDoor.Q
