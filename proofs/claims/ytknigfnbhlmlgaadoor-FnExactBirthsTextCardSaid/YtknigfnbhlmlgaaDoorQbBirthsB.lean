/- The walks of a date's text, BirthsText, and of the law of BirthsText. Condition: the library's table of powers of ten lies where the row says. -/
import Derived.Test.YtknigfnbhlmlgaaDoorQbTabB
import Derived.Test.YtknigfnbhlmlgaaDoorR0
import Derived.Test.YtknigfnbhlmlgaaDoorR1
import Derived.Test.YtknigfnbhlmlgaaDoorR4
import Derived.Test.YtknigfnbhlmlgaaDoorR5
namespace Go.Proofs.YtknigfnbhlmlgaaDoor.Q
open Go.RowKit Go.Proofs.YtknigfnbhlmlgaaDoor.R Go.Proofs.YtknigfnbhlmlgaaDoorW.PrintWords Go.Proofs.YtknigfnbhlmlgaaDoorW.PrintLast
set_option linter.unusedVariables false

/-- The texts of dates. -/
def birthsOut (b : Bool) (l0 : List (S58)) : ByteArray := if b = true then ⟨(Go.Lib.join (l0.map fun x => Go.Lib.itoa x.f0 ++ [46] ++ Go.Lib.itoa x.f1) [44]).toArray⟩ else ⟨#[]⟩
/-- The text of a date. -/
def dateText (y d : Int) : ByteArray := ((⟨(Go.Lib.itoa y).toArray⟩ : ByteArray) ++ (⟨#[46]⟩ : ByteArray)) ++ (⟨(Go.Lib.itoa d).toArray⟩ : ByteArray)
set_option maxHeartbeats 2000000 in
set_option maxRecDepth 100000 in
theorem dateText_calls (y d : Int) (w : World) (hy : 0 ≤ y ∧ y ≤ 10000) (hd : 0 ≤ d ∧ d ≤ 10000) (ht : Tab w) :
    Calls Tryd.prog 38 #[.agg #[.int .i64 y, .int .i64 d]] w fun e w' => e = .returned (.string (dateText y d)) ∧ Below w.heap.size w w' := by
  have hu := Tryd.underlying58
  have HT := Aside0.mk ht
  unfold dateText
  obtain ⟨sy, hsy⟩ : ∃ s, s = (⟨(Go.Lib.itoa y).toArray⟩ : ByteArray) := ⟨_, rfl⟩
  obtain ⟨sd, hsd⟩ : ∃ s, s = (⟨(Go.Lib.itoa d).toArray⟩ : ByteArray) := ⟨_, rfl⟩
  rw [← hsy, ← hsd]
  have zy := itoa_size y sy hsy (by omega)
  have zd := itoa_size d sd hsd (by omega)
  have CY := Aside0.mk (fun (w : World) (h : Tab w) => itoa_calls y sy w hsy (by omega) h)
  have CD := Aside0.mk (fun (w : World) (h : Tab w) => itoa_calls d sd w hsd (by omega) h)
  have c1 : (9223372036854775807 < sy.size + 1) = False := eq_false (by omega)
  have c2 : (9223372036854775807 < sy.size + 1 + sd.size) = False := eq_false (by omega)
  clear hy hd ht hsy hsd zy zd
  go_enter Tryd.func38, Tryd.ntmps38
  go_wp2_with fail
  have HB := Aside0.mk (below_alloc (Below.refl w.heap.size w) (Obj.cells #[.int .i64 y, .int .i64 d] 58 (0, 0)))
  have BX := Aside0.mk (heap_alloc_new w (Obj.cells #[.int .i64 y, .int .i64 d] 58 (0, 0)))
  generalize w.alloc (Obj.cells #[.int .i64 y, .int .i64 d] 58 (0, 0)) = wa at HB BX ⊢
  have hz0 : wa.cell? ⟨w.heap.size, 0, none⟩ = some (.int .i64 y) := (blk_cell BX.out 0).trans rfl
  have hz1 : wa.cell? ⟨w.heap.size, 1, none⟩ = some (.int .i64 d) := (blk_cell BX.out 1).trans rfl
  go_region_held3 (fun w' => w'.cell? ⟨w.heap.size, 0, none⟩ = some (.int .i64 y) ∧ w'.cell? ⟨w.heap.size, 1, none⟩ = some (.int .i64 d)) (first | exact ⟨hz0, hz1⟩ | exact ⟨(blk_cell BX.out 0).trans rfl, (blk_cell BX.out 1).trans rfl⟩) (first | (go_at_call 63; (first | refine (CY.out _ ?tab).mono ?_ | refine (CD.out _ ?tab).mono ?_); (case tab => exact HT.out.below (by repeat (first | (with_reducible first | exact HB.out | apply below_alloc | apply pw_below_drewN | apply below_drew1) | exact HB.out))); rintro e w_ ⟨rfl, hb_⟩; (try replace hb_ := law_undrew hb_); have HBn := Aside0.mk (below_step HB.out hb_); have BXn := Aside0.mk (blk_below BX.out hb_); clear HB BX hb_; have HB := HBn; have BX := BXn; clear HBn BXn))
  all_goals
    go_wp2
    go_ret
    exact ⟨rfl, by repeat (first | (with_reducible first | exact HB.out | apply below_alloc | apply pw_below_drewN | apply below_drew1) | exact HB.out)⟩
def dWords (l : List (S58)) : List ByteArray := l.map fun x => dateText x.f0 x.f1
theorem dWords_data (l : List (S58)) : (dWords l).map (·.data.toList) = l.map fun x => Go.Lib.itoa x.f0 ++ [46] ++ Go.Lib.itoa x.f1 := by
  unfold dWords
  rw [List.map_map]
  exact List.map_congr_left (fun n _ => by simp [dateText])
theorem dWords_len (l : List (S58)) : (dWords l).length = l.length := by unfold dWords; rw [List.length_map]
theorem dRd (l : List (S58)) (i : Nat) (h : i < l.length) : rd_T58 l (i : Int) = l[i] := by
  unfold rd_T58
  rw [Int.toNat_natCast, List.getD_eq_getElem?_getD, List.getElem?_eq_getElem h, Option.getD_some]
theorem dWords_snoc (l : List (S58)) (i : Nat) (h : i < l.length) : dWords (l.take i) ++ [dateText (rd_T58 l (i : Int)).f0 (rd_T58 l (i : Int)).f1] = dWords (l.take (i + 1)) := by
  unfold dWords
  rw [List.take_succ_eq_append_getElem h, List.map_append, dRd l i h]
  rfl
theorem dText_size (y d : Int) (hy : 0 ≤ y ∧ y ≤ 10000) (hd : 0 ≤ d ∧ d ≤ 10000) : (Go.Lib.itoa y ++ [46] ++ Go.Lib.itoa d).length ≤ 43 := by
  have h1 := Go.Lib.itoa_length_le y (by omega) (by omega)
  have h2 := Go.Lib.itoa_length_le d (by omega) (by omega)
  simp only [List.length_append, List.length_singleton]
  omega
theorem dWords_join (l : List (S58)) (hb : ∀ x ∈ l, (0 ≤ x.f0 ∧ x.f0 ≤ 10000) ∧ 0 ≤ x.f1 ∧ x.f1 ≤ 10000) (hl : l.length ≤ 10) : (Go.Lib.join ((dWords l).map (·.data.toList)) [44]).length ≤ 140737488355328 := by
  rw [dWords_data]
  have hlens : ∀ k : List (S58), (∀ x ∈ k, (0 ≤ x.f0 ∧ x.f0 ≤ 10000) ∧ 0 ≤ x.f1 ∧ x.f1 ≤ 10000) → Go.Lib.lens (k.map fun x => Go.Lib.itoa x.f0 ++ [46] ++ Go.Lib.itoa x.f1) ≤ k.length * 43 := by
    intro k
    induction k with
    | nil => intro _; simp [Go.Lib.lens]
    | cons n t ih =>
      intro hk
      have h1 := hk n List.mem_cons_self
      have h2 := dText_size n.f0 n.f1 h1.1 h1.2
      have h3 := ih (fun x hx => hk x (List.mem_cons_of_mem _ hx))
      simp only [List.map_cons, Go.Lib.lens, List.sum_cons, List.length_cons] at h3 ⊢
      omega
  cases l with
  | nil => simp [Go.Lib.join_nil]
  | cons n t =>
    rw [List.map_cons, Go.Lib.join_length, ← List.map_cons (f := fun x : S58 => Go.Lib.itoa x.f0 ++ [46] ++ Go.Lib.itoa x.f1), List.length_map]
    have h1 := hlens (n :: t) hb
    have h2 : ([44] : List UInt8).length * t.length ≤ 10 := by simp at hl ⊢; omega
    have h3 : (n :: t).length * 43 ≤ 10 * 43 := Nat.mul_le_mul_right _ hl
    omega
set_option maxHeartbeats 2000000 in
set_option maxRecDepth 100000 in
theorem birthsText_calls (A0 : Option Addr) (c0 : Nat) (l0 : List (S58)) (b : Bool) (w : World) (hr0 : Kd.C k58 w A0 l0.length l0) (hc0 : l0.length ≤ c0) (hb : impl_AreBirthDates.f l0 = some b) (hg : b = true → 1 ≤ l0.length ∧ l0.length ≤ 10 ∧ ∀ x ∈ l0, (0 ≤ x.f0 ∧ x.f0 ≤ 10000) ∧ 0 ≤ x.f1 ∧ x.f1 ≤ 10000) (ht : Tab w) :
    Calls Tryd.prog 15 #[.slice A0 l0.length c0] w fun e w' => e = .returned (.tuple #[.string (birthsOut b l0), .bool b]) ∧ Below w.heap.size w w' := by
  have hu := Tryd.underlying58
  have HB0 := Aside0.mk (impl_AreBirthDates.calls A0 c0 l0 b w hr0 hc0 hb)
  have HR := Aside0.mk hr0
  have HC := Aside0.mk hc0
  have HG := Aside0.mk hg
  have HT := Aside0.mk ht
  clear hr0 hc0 hb hg ht
  go_enter Tryd.func15, Tryd.ntmps15
  go_wp2_with fail
  refine HB0.out.mono ?_
  rintro e w1 ⟨rfl, hb1⟩
  have HB1 := Aside0.mk hb1
  clear hb1 HB0
  cases b with
  | false =>
    go_wp2
    go_ret2
    exact ⟨rfl, HB1.out⟩
  | true =>
    obtain ⟨h1, h2, h3⟩ := HG.out rfl
    have H1 := Aside0.mk h1
    have H2 := Aside0.mk h2
    have HN := Aside0.mk h3
    clear h1 h2 h3 HG
    go_wp2_with ((with_reducible refine gate_dst (N := 10) rfl ?_); refine Kd.R_lit Kd.string (w0 := w) w.heap.size 9 ?hg (N := 10) ?hd (xs := ([] : List ByteArray)) (inner := []) (ok := fun _ => True) (okp := fun _ => True) ?hr ?hp (fun _ hk => hk) trivial HB1.out (below_size HB1.out) (by simp) ?_; (case hd => rfl); (case hg => rfl); (case hr => first | (go_simp; done) | (go_simp; rfl)); (case hp => exact (Reps.none _ _)); intro v1 w2 ho hb hgr hnew; obtain ⟨A1, c1, ev⟩ := Kd.R_slice ho; subst ev; have HO := Aside0.mk ho; have HB := Aside0.mk hb; clear ho hb hgr hnew)
    go_loopg [4, 13] l0.length (fun gg s4 s13 wr => ∃ (i : Nat) (v : Value), i ≤ l0.length ∧ l0.length - i ≤ gg ∧ v = s4 ∧ s13 = .int .i64 i ∧ Aside0 (Kd.R Kd.string 9 wr w.heap.size (fun _ => True) v (dWords (l0.take i))) ∧ Aside0 (Below w.heap.size w wr))
    case atStart => exact ⟨0, _, Nat.zero_le _, by omega, rfl, rfl, HO, HB⟩
    case round =>
      clear HO HB
      obtain ⟨i, v, hi, hgg, rfl, rfl, HO, HB⟩ := hrel
      by_cases hlt : i < l0.length
      · have hltz : (i : Int) < (l0.length : Int) := by omega
        obtain ⟨ad, ea, hx0, hx1⟩ := at_T58 (Kd.C_below HR.out HB.out) (i : Int) (by omega) hltz
        cases ea
        simp only [Int.toNat_natCast] at hx0 hx1
        have HW := Aside0.mk (dWords_snoc l0 i hlt)
        have hmem : rd_T58 l0 (i : Int) ∈ l0 := by
          rw [dRd l0 i hlt]
          exact List.getElem_mem hlt
        have hyb := HN.out _ hmem
        generalize rd_T58 l0 (i : Int) = y at hx0 hx1 HW hyb
        clear hmem
        have HY := Aside0.mk hyb
        clear hyb
        obtain ⟨Av, cv, ev⟩ := Kd.R_slice HO.out
        subst ev
        have HLN := Aside0.mk (show (dWords (l0.take i)).length ≤ 10 by have := H2.out; rw [dWords_len, List.length_take]; omega)
        have HL1 := H2.out
        have HTB := Aside0.mk (HT.out.below HB.out)
        go_upto_region 7 with (first | ((with_reducible refine gate_dst (N := 6) rfl ?_); refine box_event ?hg (N := 6) ?hd (cs := #[.int .i64 0, .int .i64 0]) (t := 58) ?hr ?_; (case hd => rfl); (case hg => rfl); (case hr => first | (go_simp; done) | (go_simp; rfl)); intro gb hg w12 hbox hb; have HBn := Aside0.mk (below_step HB.out hb); have BX := Aside0.mk hbox; have GB := Aside0.mk ((by rw [hg]; exact (below_size HB.out)) : w.heap.size ≤ gb); have HOn := Aside0.mk (Kd.R_below HO.out hb); clear HB HO; have HB := HBn; have HO := HOn; clear HBn HOn; clear hb hbox hg; have hcz0 : w12.cell? ⟨gb, 0, none⟩ = some (.int .i64 0) := (blk_cell BX.out 0).trans rfl; have hcz1 : w12.cell? ⟨gb, 1, none⟩ = some (.int .i64 0) := (blk_cell BX.out 1).trans rfl; have hfz0 := blk_frozen BX.out 0; have hfz1 := blk_frozen BX.out 1))
        have HBn := Aside0.mk (show Below w.heap.size w ((w12.setCell ⟨gb, 0, none⟩ (.int .i64 y.f0)).setCell ⟨gb, 1, none⟩ (.int .i64 y.f1)) from below_set (below_set HB.out GB.out) GB.out)
        have HOn := Aside0.mk (Kd.R_set (Kd.R_set HO.out BX.out (by decide) 0 (.int .i64 y.f0)) (blk_put BX.out 0 (.int .i64 y.f0) rfl) (by decide) 1 (.int .i64 y.f1))
        have BXn := Aside0.mk (blk_put (blk_put BX.out 0 (.int .i64 y.f0) rfl) 1 (.int .i64 y.f1) rfl)
        clear HB HO BX hcz0 hcz1 hfz0 hfz1 hx0 hx1
        generalize (w12.setCell ⟨gb, 0, none⟩ (.int .i64 y.f0)).setCell ⟨gb, 1, none⟩ (.int .i64 y.f1) = w13 at HBn HOn BXn ⊢
        have hz0 : w13.cell? ⟨gb, 0, none⟩ = some (.int .i64 y.f0) := (blk_cell BXn.out 0).trans rfl
        have hz1 : w13.cell? ⟨gb, 1, none⟩ = some (.int .i64 y.f1) := (blk_cell BXn.out 1).trans rfl
        have HTB2 := Aside0.mk (HT.out.below HBn.out)
        have HCT := Aside0.mk (dateText_calls y.f0 y.f1 w13 HY.out.1 HY.out.2 HTB2.out)
        generalize dateText y.f0 y.f1 = ty at HCT HW
        go_wp2_with (first | (go_at_call 38; with_reducible refine HCT.out.mono ?_; rintro e w2 ⟨rfl, hb2⟩; have HO2 := Aside0.mk (Kd.R_below HOn.out hb2); have HB2 := Aside0.mk (below_step HBn.out hb2); clear hb2 HOn HBn BXn hz0 hz1) | ((with_reducible refine gate_builtin (b := .append) (xs := #[.tmp 17, .tmp 20]) rfl ?_); at_builtin; refine Kd.R_append Kd.string (w0 := w) w.heap.size rfl (.tmp 17) (.tmp 20) 61 9 (.string ⟨#[]⟩) 16 rfl Tryd.underlying61 tx_info rfl (by decide) (by omega) (.slice Av (dWords (l0.take i)).length cv) (dWords (l0.take i)) ty [.string ty] (fun _ => True) (fun _ => False) rfl rfl rfl (fun _ hk => hk.elim) (fun _ _ => trivial) HO2.out HB2.out (below_size HB2.out) (by have := HLN.out; omega) ?_; intro v3 w3 ho hb hgr hat; rw [HW.out] at ho; have HO3 := Aside0.mk ho; have HB3 := Aside0.mk hb; clear ho hb hgr hat))
        go_roundg (l0.length - (i + 1))
        case measure => omega
        case rel => exact ⟨i + 1, _, by omega, by omega, rfl, by go_num, HO3, HB3⟩
      · have hltz : ¬ (i : Int) < (l0.length : Int) := by omega
        have hie : i = l0.length := by omega
        subst hie
        have HO1 := Aside0.mk (show Kd.R Kd.string 9 wr w.heap.size (fun _ => True) v (dWords l0) by have := HO.out; rw [List.take_length] at this; exact this)
        have hwl : (dWords l0).length = l0.length := dWords_len l0
        obtain ⟨g, cap, ev, hgb, hgl, _⟩ := Kd.R_form HO1.out (by have := H1.out; omega)
        subst ev
        have hcl := (Kd.R_reads' HO1.out).2.1
        have HJ := Aside0.mk (Tryd.strings_Join g 0 cap (dWords l0) ⟨#[44]⟩ wr (fun j x hx => by
          have hjl := (List.getElem?_eq_some_iff.mp hx).1
          have hc := (Kd.R_celln ByteArray.empty HO1.out (j : Int) (by omega) (by omega)).1
          rw [Int.toNat_natCast] at hc
          rw [Nat.zero_add, hc]
          unfold rdOf
          rw [Int.toNat_natCast, List.getD_eq_getElem?_getD, hx]
          rfl) hgl (by have := H2.out; omega) hcl (dWords_join l0 HN.out H2.out))
        clear hcl hgb hgl hwl HO HO1
        go_wp2_with (go_at_call 39; with_reducible refine HJ.out.mono ?_; rintro e w2 ⟨rfl, hb2⟩; have HB2 := Aside0.mk (below_step HB.out hb2); clear hb2)
        go_ret2
        exact ⟨by rw [dWords_data]; rfl, HB2.out⟩
set_option maxHeartbeats 2000000 in
set_option maxRecDepth 100000 in
theorem lawBirthsText_calls (k : Nat) (A0 : Option Addr) (c0 : Nat) (l0 : List (S60)) (m : List (S58)) (s : Int) (b : Bool) (w : World) (hr0 : Kd.C k60 w A0 l0.length l0) (hc0 : l0.length ≤ c0) (ht : Tab w) (hs : laws_szDateS.f l0 1048576 = some s)
    (h : 0 ≤ s → laws_toDateS.f k l0 = some m ∧ spec_BirthsText.f k m = some (birthsOut b m, b) ∧ impl_AreBirthDates.f m = some b ∧ (b = true → 1 ≤ m.length ∧ m.length ≤ 10 ∧ ∀ x ∈ m, (0 ≤ x.f0 ∧ x.f0 ≤ 10000) ∧ 0 ≤ x.f1 ∧ x.f1 ≤ 10000) ∧ laws_eqDateS.f k m m = some true) :
    Calls Tryd.prog 4 #[.slice A0 l0.length c0] w fun e w' => e = .returned (.bool true) ∧ Below w.heap.size w w' := by
  have HS := Aside0.mk (laws_szDateS.calls A0 c0 l0 1048576 s w hr0 hc0 hs)
  have HR := Aside0.mk hr0
  have HC := Aside0.mk hc0
  have HT := Aside0.mk ht
  clear hr0 hc0 ht hs
  go_enter Tryd.func4, Tryd.ntmps4
  go_wp2_with fail
  refine HS.out.mono ?_
  rintro e w0 ⟨rfl, nd, rfl⟩
  have HB0 := Aside0.mk (show Below w.heap.size w _ from pw_below_drewN (Below.refl _ _) nd)
  generalize w.drewN nd = w0 at HB0 ⊢
  clear HS
  by_cases hl : 0 ≤ s
  · obtain ⟨hP, hW, hA, hG, hE⟩ := h hl
    have HP := Aside0.mk hP
    have HW := Aside0.mk hW
    have HA := Aside0.mk hA
    have HG := Aside0.mk hG
    have HE := Aside0.mk hE
    have ht1 : ¬ s < 0 := by omega
    have ht2 : decide (s < 0) = false := decide_eq_false ht1
    have hbne : (b != b) = false := bne_self_eq_false b
    clear hP hW hA hG hE h hl
    go_wp2_with fail
    refine (laws_toDateS.calls k A0 c0 l0 m w0 (Kd.C_below HR.out HB0.out) HC.out HP.out).mono ?_
    rintro e w1 ⟨v1, rfl, ho1, hb1⟩
    obtain ⟨A1, c1, ev⟩ := Kd.R_slice ho1
    subst ev
    have HO1 := Aside0.mk ho1
    have HB1 := Aside0.mk (below_step HB0.out hb1)
    clear ho1 hb1
    go_wp2_with fail
    refine (spec_BirthsText.calls k A1 c1 m (birthsOut b m) b w1 (Kd.R_reads' HO1.out).2.2 (Kd.R_reads' HO1.out).2.1 HW.out).mono ?_
    rintro e w2 ⟨rfl, hb2⟩
    have HB2 := Aside0.mk (below_step HB1.out hb2)
    clear hb2 HO1
    go_wp2_with fail
    refine (laws_toDateS.calls k A0 c0 l0 m w2 (Kd.C_below HR.out HB2.out) HC.out HP.out).mono ?_
    rintro e w3 ⟨v3, rfl, ho3, hb3⟩
    obtain ⟨A3, c3, ev⟩ := Kd.R_slice ho3
    subst ev
    have HO3 := Aside0.mk ho3
    have HB3 := Aside0.mk (below_step HB2.out hb3)
    clear ho3 hb3
    go_wp2_with fail
    refine (birthsText_calls A3 c3 m b w3 (Kd.R_reads' HO3.out).2.2 (Kd.R_reads' HO3.out).2.1 HA.out HG.out (HT.out.below HB3.out)).mono ?_
    rintro e w4 ⟨rfl, hb4⟩
    have HO4 := Aside0.mk (Kd.R_below HO3.out hb4)
    have HB4 := Aside0.mk (below_step HB3.out hb4)
    clear hb4
    go_wp2_with fail
    refine (laws_toDateS.calls k A0 c0 l0 m w4 (Kd.C_below HR.out HB4.out) HC.out HP.out).mono ?_
    rintro e w5 ⟨v5, rfl, ho5, hb5⟩
    obtain ⟨A5, c5, ev⟩ := Kd.R_slice ho5
    subst ev
    have HO5 := Aside0.mk ho5
    have HO6 := Aside0.mk (Kd.R_below HO4.out hb5)
    have HB5 := Aside0.mk (below_step HB4.out hb5)
    clear ho5 hb5
    go_wp2_with fail
    refine (laws_eqDateS.calls k A3 c3 m A5 c5 m true w5 (Kd.R_reads' HO6.out).2.2 (Kd.R_reads' HO6.out).2.1 (Kd.R_reads' HO5.out).2.2 (Kd.R_reads' HO5.out).2.1 HE.out).mono ?_
    rintro e w6 ⟨rfl, hd⟩
    have HB6 := Aside0.mk (below_step HB5.out hd)
    clear hd
    go_wp2
    go_ret
    exact ⟨rfl, HB6.out⟩
  · have ht1 : s < 0 := by omega
    have ht2 : decide (s < 0) = true := decide_eq_true ht1
    go_wp2
    go_ret
    exact ⟨rfl, HB0.out⟩
end Go.Proofs.YtknigfnbhlmlgaaDoor.Q
