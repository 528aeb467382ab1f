/- Functions of Go's library, and readNumber, by the shelf's contracts, as the engine takes them. Conditions: the library's variables lie. -/
import Derived.Test.YtecdijlfnnminaaGreatDoorE3
import Derived.Test.YtecdijlfnnminaaGreatDoorT
import Derived.Test.YtecdijlfnnminaaGreatDoorShelfP
import Derived.WalkKit
import Derived.WalkSmall
import Derived.Deep.QuietTactic
import Derived.BigQuiet
import Derived.OwnWalk
import Derived.WideLaws
import Derived.Tactics
import Derived.RowKit3
import Derived.ArgAppend
import Derived.Deep.RegionHeld3
import Derived.Lib.SplitLaws
import Derived.Lib.CutLaws
import Derived.Lib.AtoiAllCases
import Derived.Lib.Atoi
import Derived.Lib.ItoaWalk
import Derived.Lib.ItoaLen
import Derived.Lib.SmallJoins
import Derived.Lib.AppendIntMem
namespace Go.Proofs.YtecdijlfnnminaaGreatDoor.S
open Go Go.Proofs.YtecdijlfnnminaaGreatDoor.Eng Go.Proofs Go.RowKit Go.Proofs.YtecdijlfnnminaaGreatDoor
set_option maxRecDepth 100000
set_option linter.unusedVariables false

/-! ### what is known of the world at each call -/
def I : Inv := fun S w => Tab w ∧ S 3 ∧ S 0 ∧ S 1 ∧ S 2
theorem var_heap {w w' : World} {n : String} {g : Nat} (hg : Tryz.prog.globalNamed n = some g) (h : w'.heap[g]? = w.heap[g]?) : w'.var? Tryz.prog n = w.var? Tryz.prog n := by
 unfold World.var?
 rw [hg]
 simp only [Option.bind_some]
 rw [h]
theorem hI : InvOk I := fun S S' w w' hi hk hs => by
 obtain ⟨ht, s1, s2, s3, s4⟩ := hi
 have hl := ht.lt
 obtain ⟨h1, ⟨m, hm⟩, ⟨t1, p1, h3⟩, t2, p2, h4⟩ := ht
 refine ⟨⟨?_, ⟨m, ?_⟩, ⟨t1, p1, ?_⟩, t2, p2, ?_⟩, hs _ s1, hs _ s2, hs _ s3, hs _ s4⟩
 ·unfold Go.Lib.TabIs at h1 ⊢
  rw [var_heap tab_g (hk.block _ s1 hl)]
  exact h1
 ·rw [hk.cell s2 (World.block_lt_of_cell? w _ hm)]
  exact hm
 ·rw [var_heap syn_g (hk.block _ s3 (var_lt syn_g h3))]
  exact h3
 ·rw [var_heap ran_g (hk.block _ s4 (var_lt ran_g h4))]
  exact h4

theorem I_of_tab {w : World} (ht : Tab w) : I (fun b => b < w.heap.size) w := by
 have hl := ht.lt
 have ht' := ht
 obtain ⟨h1, ⟨m, hm⟩, ⟨t1, p1, h3⟩, t2, p2, h4⟩ := ht
 exact ⟨ht', hl, World.block_lt_of_cell? w _ hm, var_lt syn_g h3, var_lt ran_g h4⟩

/-! ### strconv.Itoa -/
noncomputable def strconv_Itoa.f (a : Int) : Option (List UInt8) := if -9223372036854775808 ≤ a ∧ a ≤ 9223372036854775807 then some (Go.Lib.itoa a) else none
noncomputable def strconv_Itoa.sp : CSpec := spec1 (.int .i64) strconv_Itoa.f (fun r => [.val .str r])
theorem strconv_Itoa.ok : SpecOk Tryz.prog I 83 strconv_Itoa.sp := spec1_ok ⟨_, Tryz.func83, by kernel_rfl, by kernel_rfl⟩ (by
 intro S w x u r hI hlt hv hr
 rw [ValR.int] at hv
 subst hv
 unfold strconv_Itoa.f at hr
 split at hr
 ·rename_i hb
  obtain rfl := Option.some.inj hr
  refine (Tryz.strconv_Itoa x hb.1 hb.2 w hI.1.tab).mono ?_
  rintro e w2 ⟨rfl, kk, os_, hw⟩
  exact After.val1 (by rw [hw]; exact Go.Lib.below_grow _ _ (Nat.le_refl _) kk os_) hlt (ValR.str.2 rfl)
 ·cases hr)

/-! ### strings.Join -/
noncomputable def strings_Join.f (l : List (List UInt8)) (a : List UInt8) : Option (List UInt8) := if l.length ≤ 140737488355328 ∧ (Go.Lib.join l a).length ≤ 140737488355328 then some (Go.Lib.join l a) else none
noncomputable def strings_Join.sp : CSpec := spec2 (.slice .str) .str strings_Join.f (fun r => [.val .str r])
theorem Join_nil (ad : Option Addr) (cap : Nat) (s : ByteArray) (w : World) : Calls Tryz.prog 75 #[.slice ad 0 cap, .string s] w fun e w' => e = .returned (.string ⟨#[]⟩) ∧ Below w.heap.size w w' := by
 go_enter Tryz.func75, Tryz.ntmps75
 go_wp2
 go_ret
 exact ⟨rfl, Below.refl _ _⟩
theorem ba_map (l : List (List UInt8)) : (l.map (fun x => (⟨x.toArray⟩ : ByteArray))).map (·.data.toList) = l := by
 rw [List.map_map]
 conv => rhs; rw [← List.map_id l]
 rfl
theorem strings_Join.ok : SpecOk Tryz.prog I 75 strings_Join.sp := spec2_ok ⟨_, Tryz.func75, by kernel_rfl, by kernel_rfl⟩ (by
 intro S w l s u v r hI hlt hu hv hr
 rw [ValR.str] at hv
 subst hv
 rw [ValR.slice] at hu
 unfold strings_Join.f at hr
 split at hr
 ·rename_i hb
  obtain rfl := Option.some.inj hr
  rcases hu with ⟨ad, rfl, rfl⟩ | ⟨b, off, cap, rfl, hc, _, hS, hb2, hcell⟩
  ·refine (Join_nil ad 0 _ w).mono ?_
   rintro e w2 ⟨rfl, hw⟩
   exact After.val1 hw hlt (ValR.str.2 (by simp [Go.Lib.join_nil]))
  ·have hj := Tryz.strings_Join b off cap (l.map (fun x => (⟨x.toArray⟩ : ByteArray))) ⟨s.toArray⟩ w (fun j x hx => ?_) hb2 (by simpa using hb.1) (by simpa using hc) (by rw [ba_map]; simpa using hb.2)
   ·rw [ba_map, List.length_map] at hj
    refine hj.mono ?_
    rintro e w2 ⟨rfl, hw⟩
    exact After.val1 hw hlt (ValR.str.2 (by simp))
   ·rw [List.getElem?_map] at hx
    cases hl : l[j]? with
    | none => rw [hl] at hx; cases hx
    | some y =>
     rw [hl] at hx
     cases hx
     obtain ⟨hj, hy⟩ := List.getElem?_eq_some_iff.1 hl
     obtain ⟨cs, h1, h2⟩ := hcell j hj
     have h1' : cs = [.string ⟨(l[j]).toArray⟩] := h1
     subst h1'
     have h3 := h2 0 _ rfl
     have e1 : Ty.str.size = 1 := rfl
     rw [e1, Nat.mul_one, Nat.add_zero, hy] at h3
     exact h3
 ·cases hr)

/-! ### strings.Split -/
noncomputable def strings_Split.f (a b : List UInt8) : Option (List (List UInt8)) := if a.length < 4294967281 ∧ 1 ≤ b.length then some ((Go.Lib.splitB ⟨b.toArray⟩ 0 (Go.Lib.countB ⟨a.toArray⟩ ⟨b.toArray⟩) ⟨a.toArray⟩).map (·.data.toList)) else none
noncomputable def strings_Split.sp : CSpec := spec2 .str .str strings_Split.f (fun r => [.val (.slice .str) r])
theorem strings_Split.ok : SpecOk Tryz.prog I 59 strings_Split.sp := spec2_ok ⟨_, Tryz.func59, by kernel_rfl, by kernel_rfl⟩ (by
 intro S w a b u v r hI hlt hu hv hr
 rw [ValR.str] at hu hv
 subst hu hv
 unfold strings_Split.f at hr
 split at hr
 ·rename_i hb
  obtain rfl := Option.some.inj hr
  have hs : (⟨a.toArray⟩ : ByteArray).size < 4294967281 := hb.1
  have h1 : 1 ≤ (⟨b.toArray⟩ : ByteArray).size := hb.2
  obtain ⟨m, hm⟩ := hI.1.2.1
  have hl := Go.Lib.splitB_all _ h1 0 _ (⟨a.toArray⟩ : ByteArray) rfl
  have hc := Go.Lib.countB_le _ h1 _ (⟨a.toArray⟩ : ByteArray) (Nat.le_refl _)
  refine (Tryz.strings_Split _ _ m w hs hm h1).mono ?_
  rintro e w' ⟨rfl, rfl⟩
  generalize Go.Lib.splitB ⟨b.toArray⟩ 0 (Go.Lib.countB ⟨a.toArray⟩ ⟨b.toArray⟩) ⟨a.toArray⟩ = xs at hl
  generalize Go.Lib.countB ⟨a.toArray⟩ ⟨b.toArray⟩ = N at hl hc
  refine After.val1 ((Below.refl _ _).alloc (Nat.le_refl _) _) hlt (ValR.slice.2 (.inr ⟨w.heap.size, 0, N + 1, ?_, ?_, ?_, .inr ⟨Nat.le_refl _, ?_⟩, ?_, fun i hi => ?_⟩))
  ·rw [List.length_map, hl]
  ·rw [List.length_map]; omega
  ·unfold maxLen; omega
  ·show w.heap.size < (w.heap.push _).size
   rw [Array.size_push]
   exact Nat.lt_succ_self _
  ·show w.heap.size < (w.heap.push _).size
   rw [Array.size_push]
   exact Nat.lt_succ_self _
  ·rw [List.length_map] at hi
   refine ⟨[.string xs[i]], ?_, fun j t ht => ?_⟩
   ·show [Value.string xs[i]] = [Value.string ⟨((xs.map (fun x : ByteArray => x.data.toList))[i]'(by rw [List.length_map]; exact hi)).toArray⟩]
    rw [List.getElem_map]
   ·have hj : j = 0 := by
     have := (List.getElem?_eq_some_iff.1 ht).1
     simp at this
     omega
    subst hj
    simp only [List.getElem?_cons_zero] at ht
    have e1 : Ty.str.size = 1 := rfl
    rw [e1, Nat.mul_one, Nat.add_zero, Nat.zero_add, ← ht]
    have hp : (w.alloc (.cells (xs.map Value.string).toArray 9)).heap[w.heap.size]? = some (.cells (xs.map Value.string).toArray 9 (0, 0)) := Array.getElem?_push_size
    unfold World.cell?
    rw [hp]
    show (xs.map Value.string).toArray[i]? = _
    rw [List.getElem?_toArray, List.getElem?_map, List.getElem?_eq_getElem hi]
    rfl
 ·cases hr)

/-! ### strings.Cut -/
noncomputable def strings_Cut.f (a b : List UInt8) : Option (List UInt8 × List UInt8 × Bool) := if a.length < 4294967281 then some (Go.Lib.cut a b) else none
noncomputable def strings_Cut.sp : CSpec := spec2 .str .str strings_Cut.f (fun r => [.val .str r.1, .val .str r.2.1, .val .bool r.2.2])
theorem strings_Cut.ok : SpecOk Tryz.prog I 57 strings_Cut.sp := spec2_ok ⟨_, Tryz.func57, by kernel_rfl, by kernel_rfl⟩ (by
 intro S w a b u v r hI hlt hu hv hr
 rw [ValR.str] at hu hv
 subst hu hv
 unfold strings_Cut.f at hr
 split at hr
 ·rename_i hb
  obtain rfl := Option.some.inj hr
  obtain ⟨m, hm⟩ := hI.1.2.1
  refine (Tryz.strings_Cut ⟨a.toArray⟩ ⟨b.toArray⟩ m w hb hm).mono ?_
  rintro e w' ⟨rfl, ⟨n, rfl⟩⟩
  exact After.val3 (show Below w.heap.size w (w.drewN n) from ⟨rfl, rfl, rfl, Nat.le_refl _, fun _ _ => rfl⟩) hlt (ValR.str.2 rfl) (ValR.str.2 rfl) (ValR.bool.2 rfl)
 ·cases hr)

/-! ### impl.readNumber: the library's Atoi, and back by Itoa -/
structure Aside0 (p : Prop) : Prop where mk :: (out : p)
theorem below_then {B : Nat} {w w1 w2 : World} (h : Below B w w1) (hB : B ≤ w1.heap.size) (k : Below w1.heap.size w1 w2) : Below B w w2 :=
 h.trans ⟨k.os, k.tape, k.output, k.size, fun i hi => k.block i (Nat.lt_of_lt_of_le hi hB)⟩
def readWordB (s : ByteArray) : Int × Bool := match Go.Lib.atoiAll s.data.toList with
 | .ok v => (v, (⟨(Go.Lib.itoa v).toArray⟩ : ByteArray).toList == s.toList)
 | .range => (Go.Lib.atoiSat s.data.toList, false)
 | _ => (0, false)
def readWord (s : List UInt8) : Int × Bool := match Go.Lib.atoiAll s with
 | .ok v => (v, Go.Lib.itoa v == s)
 | .range => (Go.Lib.atoiSat s, false)
 | _ => (0, false)
theorem readWordB_eq (s : List UInt8) : readWordB ⟨s.toArray⟩ = readWord s := by
 unfold readWordB readWord
 have e : (⟨s.toArray⟩ : ByteArray).data.toList = s := rfl
 rw [e]
 cases h : Go.Lib.atoiAll s with
 | ok v =>
  simp only
  rw [Go.Lib.toList_data, Go.Lib.toList_data]
 | range => rfl
 | _ => rfl
theorem Itoa_calls (a0 : Int) (h0 : -9223372036854775808 ≤ a0) (h1 : a0 ≤ 9223372036854775807) (w : World) (ht : Tab w) :
  Calls Tryz.prog 83 #[.int .i64 a0] w fun e w' => e = .returned (.string ⟨(Go.Lib.itoa a0).toArray⟩) ∧ Below w.heap.size w w' := by
 refine (Tryz.strconv_Itoa a0 h0 h1 w ht.tab).mono ?_
 rintro e w2 ⟨rfl, kk, os_, hw⟩
 exact ⟨rfl, by rw [hw]; exact Go.Lib.below_grow _ _ (Nat.le_refl _) kk os_⟩
set_option maxHeartbeats 1000000 in
theorem readNumber_calls (a0 : ByteArray) (r1 : Int) (r2 : Bool) (w : World) (hs : a0.size ≤ 281474976710656) (h1 : readWordB a0 = (r1, r2)) (ht : Tab w) :
  Calls Tryz.prog 58 #[.string a0] w fun e w' => e = .returned (.tuple #[.int .i64 r1, .bool r2]) ∧ Below w.heap.size w w' := by
 unfold readWordB at h1
 have HT := Aside0.mk ht
 clear ht
 cases hA : Go.Lib.atoiAll a0.data.toList with
 | ok v =>
  rw [hA] at h1
  injection h1 with e1 e2
  subst e1
  have hb := Go.Lib.atoiAll_bounds hA
  have HC := Aside0.mk (fun w ht => Itoa_calls v hb.1 hb.2 w ht)
  have HA := Aside0.mk (fun w => Tryz.strconv_Atoi_ok a0 (by omega) v hA w)
  clear hA hb hs
  generalize (⟨(Go.Lib.itoa v).toArray⟩ : ByteArray) = t at e2 HC
  subst e2
  go_enter Tryz.func58, Tryz.ntmps58
  go_wp2_with fail
  refine (HA.out _).mono ?_
  rintro e w1 ⟨rfl, hw⟩
  have HB : Aside0 (Below w.heap.size w w1) := Aside0.mk (by
   rcases hw with rfl | ⟨t1, rfl⟩
   ·exact Below.refl _ _
   ·exact Go.Lib.bytesWorld_below w _ t1)
  clear hw
  go_wp2_with fail
  refine (HC.out _ (HT.out.below (by exact HB.out))).mono ?_
  rintro e w2 ⟨rfl, hw2⟩
  have HB2 := Aside0.mk (below_then HB.out HB.out.size hw2)
  clear HB hw2
  go_wp2
  go_ret2
  exact ⟨rfl, by exact HB2.out⟩
 | range =>
  rw [hA] at h1
  injection h1 with e1 e2
  subst e1 e2
  obtain ⟨tp, pp, hv⟩ := HT.out.2.2.2
  have HA := Aside0.mk (Tryz.strconv_Atoi_range_var a0 hs hA tp pp w hv)
  clear hA hs hv
  go_enter Tryz.func58, Tryz.ntmps58
  go_wp2_with fail
  refine HA.out.mono ?_
  rintro e w1 ⟨N, rfl, hN, _, hw⟩
  have HB := Aside0.mk hw
  clear hw
  go_wp2
  go_ret2
  exact ⟨rfl, by exact HB.out⟩
 | _ =>
  rw [hA] at h1
  injection h1 with e1 e2
  subst e1 e2
  obtain ⟨tp, pp, hv⟩ := HT.out.2.2.1
  have HA := Aside0.mk (Tryz.strconv_Atoi_syntax_var a0 hs (fun v e => by rw [hA] at e; cases e) (fun e => by rw [hA] at e; cases e) tp pp w hv)
  clear hA hs hv
  go_enter Tryz.func58, Tryz.ntmps58
  go_wp2_with fail
  refine HA.out.mono ?_
  rintro e w1 ⟨N, rfl, hN, _, hw⟩
  have HB := Aside0.mk hw
  clear hw
  go_wp2
  go_ret2
  exact ⟨rfl, by exact HB.out⟩
noncomputable def impl_readNumber.f (a : List UInt8) : Option (Int × Bool) := if a.length ≤ 281474976710656 then some (readWord a) else none
noncomputable def impl_readNumber.sp : CSpec := spec1 .str impl_readNumber.f (fun r => [.val (.int .i64) r.1, .val .bool r.2])
theorem impl_readNumber.ok : SpecOk Tryz.prog I 58 impl_readNumber.sp := spec1_ok ⟨_, Tryz.func58, by kernel_rfl, by kernel_rfl⟩ (by
 intro S w x u r hI hlt hv hr
 rw [ValR.str] at hv
 subst hv
 unfold impl_readNumber.f at hr
 split at hr
 ·rename_i hb
  obtain rfl := Option.some.inj hr
  refine (readNumber_calls ⟨x.toArray⟩ _ _ w hb (readWordB_eq x) hI.1).mono ?_
  rintro e w2 ⟨rfl, hw⟩
  exact After.val2 hw hlt (ValR.int.2 rfl) (ValR.bool.2 rfl)
 ·cases hr)

end Go.Proofs.YtecdijlfnnminaaGreatDoor.S
