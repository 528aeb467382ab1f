/- The code does what is told of it. -/
import Derived.Test.YtecdijlfnnminaaGreatDoorE2
import Derived.Tactics
import Derived.Orders
import Derived.IntWalk
namespace Go.Proofs.YtecdijlfnnminaaGreatDoor.Eng
open Go Go.RowKit
set_option linter.unusedVariables false
set_option linter.unusedSimpArgs false

section
universe u
variable {R : Type u} {P : Program} {T : Tys} {C : Ctx} {S : Nat → Prop} {B : Loc → Option Nat} {E : Env} {a : Act} {w : World} {r : R}

theorem splitC_some {f : Bool} {cs : List Cmd} {K : List Cmd → Option R} (h : splitC f cs K = some r) : ∃ cs', K cs' = some r ∧ cs' = cs := by
 unfold splitC at h
 cases f
 ·exact ⟨cs, h, rfl⟩
 ·simp only [cond_true] at h
  split at h
  ·rename_i d b
   cases b
   ·exact ⟨_, by simpa using h, rfl⟩
   ·exact ⟨_, by simpa using h, rfl⟩
  ·exact ⟨_, h, rfl⟩

/-- Whether an operation is wanted is told. -/
theorem wants_ok (h : Sim P C S B E a w) {ops : Array Oper} {o : Oper} {b : Bool} (hw : wants ops.toList E o.guard = some b) : Region.wanted o (yielded ops a.tmps) = b := by
 unfold Region.wanted
 cases hg : o.guard with
 | none => rw [hg] at hw; simp only [wants, Option.some.injEq] at hw; exact hw
 | some p =>
  obtain ⟨j, want⟩ := p
  rw [hg] at hw
  simp only [wants] at hw
  split at hw
  ·rename_i o' ho'
   split at hw
   ·rename_i d hd
    have hj : ops[j]? = some o' := by simpa using ho'
    have hsl := h.slots d
    have hy : ∀ {v : Value}, tv a d = v → v ≠ Go.undef → yielded ops a.tmps j = match v with | .bool b => some b | _ => none := by
     intro v hv hne
     simp only [yielded, hj, Option.bind_some, hd]
     have : a.tmps[d]? = some v := by
      unfold tv at hv
      rw [Array.getD_eq_getD_getElem?] at hv
      cases hq : a.tmps[d]? with
      | none => rw [hq] at hv; exact absurd hv.symm hne
      | some u => rw [hq] at hv; simp only [Option.getD_some] at hv; rw [hv]
     rw [this]
     cases v <;> rfl
    split at hw
    ·rename_i t hE
     rw [hE] at hsl
     have hv : tv a d = .bool t := ValR.bool.1 hsl
     have := hy hv (by simp [Go.undef])
     simp only [this]
     simp only [Option.some.injEq] at hw
     rw [← hw]
     cases t <;> cases want <;> rfl
    ·rename_i hE
     rw [hE] at hsl
     obtain ⟨vs, h1, h2, _⟩ := hsl
     simp only [Option.some.injEq] at hw
     subst hw
     have hnb : yielded ops a.tmps j = none := by
      simp only [yielded, hj, Option.bind_some, hd]
      unfold tv at h1
      rw [Array.getD_eq_getD_getElem?] at h1
      cases hq : a.tmps[d]? with
      | none => rfl
      | some u => rw [hq] at h1; simp only [Option.getD_some] at h1; rw [h1]
     show (yielded ops a.tmps j == some want) = false
     rw [hnb]
     rfl
    ·cases hw
   ·cases hw
  ·cases hw

/-- What is not wanted leaves nothing. -/
theorem skipE_ok (h : Sim P C S B E a w) {dst : Option Nat} {K : Env → Option R} (hk : skipE E dst K = some r) : ∃ E' S' B', K E' = some r ∧ Sim P C S' B' E' (a.put dst Go.undef) w := by
 cases dst with
 | none => exact ⟨E, S, B, hk, h⟩
 | some d =>
  simp only [skipE] at hk
  cases hb : Nat.blt d E.nt
  ·rw [hb] at hk; cases hk
  ·rw [hb] at hk
   have hlt : d < E.nt := by simpa [Nat.blt_eq] using hb
   refine ⟨_, S, dropAt B d, hk, h.putPlain hlt (Below.refl _ _) (fun _ hx => hx) (fun _ hx => .inl hx) h.sub ?_⟩
   exact ⟨#[], by rw [tv_put (by rw [h.size]; exact hlt), if_pos rfl]; rfl, rfl, fun i sv hi => by simp at hi⟩

theorem evOps_ok (hT : TOk P T) {G : Gam} (hG : GOk P C G) {sh : List Nat} {ops : Array Oper} {K : Env → Option R} {Q : Exit → Act → World → Prop} (hQ : ∀ S' B' E' a' w', Sim P C S' B' E' a' w' → K E' = some r → Q .normal a' w') :
  ∀ {l : List Oper} {i : Nat} {S : Nat → Prop} {B : Loc → Option Nat} {E : Env} {a : Act} {w : World}, Sim P C S B E a w → evOps G T sh ops.toList i l E K = some r → wpList P ops Q l a w
 | [], i, S, B, E, a, w, h, hk => hQ _ _ _ _ _ h hk
 | o :: l, i, S, B, E, a, w, h, hk => by
  simp only [evOps] at hk
  split at hk
  ·rename_i b hw
   have hwant := wants_ok h hw
   simp only [wpList]
   rw [hwant]
   cases b
   ·simp only [Bool.false_eq_true, if_false] at hk ⊢
    obtain ⟨E', S', B', hk', hs⟩ := skipE_ok h hk
    exact evOps_ok hT hG hQ hs hk'
   ·simp only [if_true] at hk ⊢
    obtain ⟨cs, hk', hgo⟩ := evOp_ok hT hG h hk
    obtain ⟨cs', hk2, rfl⟩ := splitC_some hk'
    exact .inl (hgo _ _ (fun S' B' a' w' hs => evOps_ok hT hG hQ hs hk2))
  ·cases hk

theorem evOpsN_ok (hT : TOk P T) {G : Gam} (hG : GOk P C G) {sh : List Nat} {ops : Array Oper} {K : Env → Option R} {Q : Exit → Act → World → Prop} (hQ : ∀ S' B' E' a' w', Sim P C S' B' E' a' w' → K E' = some r → Q .normal a' w') :
  ∀ {l : List Oper} {i : Nat} {S : Nat → Prop} {B : Loc → Option Nat} {E : Env} {a : Act} {w : World}, Sim P C S B E a w → evOpsN G T sh ops.toList i l E K = some r → wpList P ops Q l a w
 | [], i, S, B, E, a, w, h, hk => hQ _ _ _ _ _ h hk
 | o :: l, i, S, B, E, a, w, h, hk => by
  simp only [evOpsN] at hk
  split at hk
  ·rename_i b hw
   have hwant := wants_ok h hw
   simp only [wpList]
   rw [hwant]
   cases b
   ·simp only [Bool.false_eq_true, if_false] at hk ⊢
    obtain ⟨E', S', B', hk', hs⟩ := skipE_ok h hk
    exact evOpsN_ok hT hG hQ hs hk'
   ·simp only [if_true] at hk ⊢
    obtain ⟨cs, hk', hgo⟩ := evOpN_ok hT hG h hk
    obtain ⟨cs', hk2, rfl⟩ := splitC_some hk'
    exact .inl (hgo _ _ (fun S' B' a' w' hs => evOpsN_ok hT hG hQ hs hk2))
  ·cases hk

theorem inL_iff {n : Nat} : ∀ {l : List Nat}, inL n l = true ↔ n ∈ l
 | [] => by simp [inL]
 | m :: r => by
  simp only [inL, Bool.or_eq_true, List.mem_cons, inL_iff (l := r)]
  constructor
  ·rintro (h | h)
   ·exact .inl (Nat.eq_of_beq_eq_true h)
   ·exact .inr h
  ·rintro (h | h)
   ·subst h; exact .inl (beq_self _)
   ·exact .inr h

/-- A head of a loop, a place where ways meet. -/
theorem Sim.canon (h : Sim P C S B E a w) (L Lb : List Nat) : Sim P C S B (E.canon L Lb) a w := by
 have hgl : ∀ n, (E.canon L Lb).g n = if n ∈ L then (E.g n).still L else .undef := by
  intro n
  have key : ∀ M : List Nat, alook (M.map fun m => (m, (E.g m).still L)) n = if n ∈ M then some ((E.g n).still L) else none := by
   intro M
   induction M with
   | nil => rfl
   | cons m M ih =>
    rw [List.map_cons, alook_cons]
    by_cases hmn : m = n
    ·subst hmn; simp
    ·rw [if_neg hmn, ih]; simp [Ne.symm hmn]
  have hd : (E.canon L Lb).g n = match alook (L.map fun m => (m, (E.g m).still L)) n with | some v => v | none => .undef := rfl
  rw [hd, key L]
  by_cases hn : n ∈ L <;> simp [hn]
 refine ⟨h.size, h.defers, h.kept, h.sub, h.frm, h.sup, h.inj, h.free, fun n => ?_, fun b l hb => ?_, h.inb⟩
 ·rw [hgl]
  split
  ·have hn := h.slots n
   cases hs : E.g n with
   | alias s =>
    rw [hs] at hn
    simp only [SV.still]
    cases hi : inL s L
    ·trivial
    ·refine ⟨hn.1, ?_⟩
     rw [hgl, if_pos (inL_iff.1 hi)]
     have ho := hn.2
     cases hq : E.g s <;> rw [hq] at ho <;> first | rfl | (cases ho; done)
   | eref s i e x => trivial
   | undef => trivial
   | val t x => rw [hs] at hn; exact hn
   | own id e xs => rw [hs] at hn; exact hn
   | full e xs => rw [hs] at hn; exact hn
   | cref t x => rw [hs] at hn; exact hn
   | ptr b off => rw [hs] at hn; exact hn
   | rref b len e => rw [hs] at hn; exact hn
   | rel b i e => rw [hs] at hn; exact hn
   | clo φ => rw [hs] at hn; exact hn
   | tup l => rw [hs] at hn; exact hn
   | agg l => rw [hs] at hn; exact hn
   | lenN k => rw [hs] at hn; exact hn
   | fn ty f c => rw [hs] at hn; exact hn
   | fp ty f c => rw [hs] at hn; exact hn
  ·trivial
 ·have hb' : alook (Env.canon.pick E Lb) b = some l := hb
  have : ∀ Lb : List Nat, alook (Env.canon.pick E Lb) b = some l → alook E.bx b = some l := by
   intro Lb
   induction Lb with
   | nil => intro h; cases h
   | cons c Lb ih =>
    intro h
    simp only [Env.canon.pick] at h
    split at h
    ·rename_i l' hl'
     rw [alook_cons] at h
     by_cases hcb : c = b
     ·subst hcb; rw [if_pos rfl] at h; cases h; exact hl'
     ·rw [if_neg hcb] at h; exact ih h
    ·exact ih h
  exact h.boxes b l (this Lb hb')

/-- The model's way out, for ours. -/
def X.exit' : X → Exit
 | .normal => .normal
 | .exit i => .exit i
 | .ret => .ret

/-- What follows behind a piece of code. -/
def KOk (P : Program) (C : Ctx) (K : X → Env → Option R) (r : R) (Q : Exit → Act → World → Prop) : Prop :=
 ∀ x S' B' E' a' w', Sim P C S' B' E' a' w' → K x E' = some r → Q x.exit' a' w'

theorem loopD_some {α : Type _} {B : (α → Option R) → α → Option R} {x : α} (h : loopD B x = some r) : ∃ n, loopN B n x = some r := by
 unfold loopD at h
 split at h
 ·rename_i hh
  have := Classical.choose_spec (Classical.choose_spec hh)
  refine ⟨Classical.choose hh, ?_⟩
  rw [this]; exact h
 ·cases h

end
end Go.Proofs.YtecdijlfnnminaaGreatDoor.Eng
namespace Go.Proofs.YtecdijlfnnminaaGreatDoor.Eng
open Go Go.RowKit
set_option linter.unusedVariables false
set_option linter.unusedSimpArgs false

theorem cond_bind {α β : Type _} (b : Bool) (x : Option α) (F : α → Option β) : (bif b then x else none).bind F = bif b then x.bind F else none := by cases b <;> rfl
theorem cond_bind' {α β : Type _} (b : Bool) (x y : Option α) (F : α → Option β) : (bif b then x else y).bind F = bif b then x.bind F else y.bind F := by cases b <;> rfl
theorem cond_congr {α : Type _} {b : Bool} {x y x' y' : α} (h1 : x = x') (h2 : y = y') : (bif b then x else y) = (bif b then x' else y') := by rw [h1, h2]
theorem ite_bind {α β : Type _} (c : Prop) [Decidable c] (x y : Option α) (F : α → Option β) : (if c then x else y).bind F = if c then x.bind F else y.bind F := by split <;> rfl
theorem bind_bind {α β γ : Type _} (x : Option α) (f : α → Option β) (F : β → Option γ) : (x.bind f).bind F = x.bind fun a => (f a).bind F := by cases x <;> rfl

section
universe u v
variable {R : Type u} {R' : Type v} (T : Tys) (v : Vw) (J : List Cmd → Option R') (F : R' → Option R)

theorem putC_bind (dst : Option Nat) (cs : List Cmd) (sv : SV) : putC v dst cs sv (fun c => (J c).bind F) = (putC v dst cs sv J).bind F := by
 unfold putC; repeat' (first | rfl | rw [cond_bind] | split)
theorem putM_bind (dst : Option Nat) (sv : SV) : putM v dst sv (fun c => (J c).bind F) = (putM v dst sv J).bind F := by
 unfold putM; simp only [putC_bind]; repeat' (first | rfl | rw [cond_bind'] | split)
theorem evMove_bind (ty : TypeId) (x : Operand) (dst : Option Nat) : evMove T v ty x dst (fun c => (J c).bind F) = (evMove T v ty x dst J).bind F := by
 unfold evMove; simp only [putC_bind, putM_bind]; repeat' (first | rfl | rw [cond_bind'] | split)
theorem evAssign_bind (sh : List Nat) (ty : TypeId) (x : Operand) (dst : Option Nat) : evAssign T v sh ty x dst (fun c => (J c).bind F) = (evAssign T v sh ty x dst J).bind F := by
 unfold evAssign; simp only [putC_bind, evMove_bind]; repeat' (first | rfl | rw [cond_bind'] | split)
theorem evPick_bind (ty : TypeId) (c a b : Operand) (dst : Option Nat) : evPick T v ty c a b dst (fun c => (J c).bind F) = (evPick T v ty c a b dst J).bind F := by
 unfold evPick; simp only [evMove_bind]; repeat' (first | rfl | split)
theorem evPick2_bind (ty : TypeId) (c a b : Operand) (dst : Option Nat) : evPick2 T v ty c a b dst (fun c => (J c).bind F) = (evPick2 T v ty c a b dst J).bind F := by
 unfold evPick2; simp only [putC_bind, evPick_bind]; repeat' (first | rfl | split)
theorem binV_bind (bt : Bool) (op : BinOp) (x y : V) (J : V → Option R') : binV bt op x y (fun c => (J c).bind F) = (binV bt op x y J).bind F := by
 unfold binV; simp only [← bind_bind]; repeat' (first | rfl | rw [cond_bind] | split)
theorem evBin_bind (op : BinOp) (xt : TypeId) (x y : Operand) (yt : TypeId) (dst : Option Nat) : evBin T v op xt x y yt dst (fun c => (J c).bind F) = (evBin T v op xt x y yt dst J).bind F := by
 unfold evBin; simp only [putC_bind, binV_bind]; repeat' (first | rfl | split)
theorem evUn_bind (op : UnOp) (xt : TypeId) (x : Operand) (dst : Option Nat) : evUn T v op xt x dst (fun c => (J c).bind F) = (evUn T v op xt x dst J).bind F := by
 unfold evUn; simp only [putC_bind]; repeat' (first | rfl | split)
theorem evLen_bind (ty : TypeId) (x : Operand) (dst : Option Nat) : evLen T v ty x dst (fun c => (J c).bind F) = (evLen T v ty x dst J).bind F := by
 unfold evLen; simp only [putC_bind]; repeat' (first | rfl | split)
theorem evExtract_bind (sh : List Nat) (ty : TypeId) (x : Operand) (ix : Nat) (dst : Option Nat) : evExtract T v sh ty x ix dst (fun c => (J c).bind F) = (evExtract T v sh ty x ix dst J).bind F := by
 unfold evExtract; simp only [putC_bind]; repeat' (first | rfl | rw [cond_bind'] | refine cond_congr ?_ ?_ | split)
theorem evTake_bind (sh : List Nat) (tt : Ty) (b : Nat) (l : List V) (off : Nat) (dst : Option Nat) : evTake v sh tt b l off dst (fun c => (J c).bind F) = (evTake v sh tt b l off dst J).bind F := by
 unfold evTake; simp only [putC_bind]; repeat' (first | rfl | rw [cond_bind'] | refine cond_congr ?_ ?_ | split)
theorem evLoad0_bind (sh : List Nat) (ty : TypeId) (x : Operand) (dst : Option Nat) : evLoad0 T v sh ty x dst (fun c => (J c).bind F) = (evLoad0 T v sh ty x dst J).bind F := by
 unfold evLoad0; simp only [putC_bind, evTake_bind, ← bind_bind]; repeat' (first | rfl | rw [cond_bind'] | refine cond_congr ?_ ?_ | split)
theorem evLoad_bind (sh : List Nat) (ty : TypeId) (x : Operand) (dst : Option Nat) : evLoad T v sh ty x dst (fun c => (J c).bind F) = (evLoad T v sh ty x dst J).bind F := by
 unfold evLoad; simp only [putC_bind, evLoad0_bind]; repeat' (first | rfl | rw [cond_bind'] | refine cond_congr ?_ ?_ | split)
theorem evGive_bind (ty : TypeId) (x : Operand) (s : Nat) (ls : List V) (dst : Option Nat) : evGive T v ty x s ls dst (fun c => (J c).bind F) = (evGive T v ty x s ls dst J).bind F := by
 unfold evGive; repeat' (first | rfl | rw [cond_bind'] | refine cond_congr ?_ ?_ | split)
theorem evStore_bind (ty : TypeId) (x y : Operand) (dst : Option Nat) : evStore T v ty x y dst (fun c => (J c).bind F) = (evStore T v ty x y dst J).bind F := by
 unfold evStore; simp only [evGive_bind, ← bind_bind]; repeat' (first | rfl | rw [cond_bind'] | refine cond_congr ?_ ?_ | split)
theorem evIndexAddr_bind (ty : TypeId) (x i : Operand) (dst : Option Nat) : evIndexAddr T v ty x i dst (fun c => (J c).bind F) = (evIndexAddr T v ty x i dst J).bind F := by
 unfold evIndexAddr; simp only [putC_bind, putM_bind, ← bind_bind]; repeat' (first | rfl | split)
theorem evIndex_bind (ty : TypeId) (x i : Operand) (dst : Option Nat) : evIndex T v ty x i dst (fun c => (J c).bind F) = (evIndex T v ty x i dst J).bind F := by
 unfold evIndex; simp only [putC_bind, ← bind_bind]; repeat' (first | rfl | split)
theorem evSlice_bind (ty : TypeId) (x : Operand) (lo hi mx : Option Operand) (dst : Option Nat) : evSlice T v ty x lo hi mx dst (fun c => (J c).bind F) = (evSlice T v ty x lo hi mx dst J).bind F := by
 unfold evSlice; simp only [putC_bind, ← bind_bind]; repeat' (first | rfl | split)
theorem evConvert_bind (s d : TypeId) (x : Operand) (dst : Option Nat) : evConvert T v s d x dst (fun c => (J c).bind F) = (evConvert T v s d x dst J).bind F := by
 unfold evConvert; simp only [putC_bind]; repeat' (first | rfl | split)
theorem evBuild_bind (ty : TypeId) (ps : List (Nat × Operand)) (dst : Option Nat) : evBuild T v ty ps dst (fun c => (J c).bind F) = (evBuild T v ty ps dst J).bind F := by
 unfold evBuild; simp only [putC_bind]; repeat' (first | rfl | split)
theorem evBuildN_bind (ty : TypeId) (ps : List (Nat × Operand)) (dst : Option Nat) : evBuildN T v ty ps dst (fun c => (J c).bind F) = (evBuildN T v ty ps dst J).bind F := by
 unfold evBuildN; simp only [putC_bind]; repeat' (first | rfl | split)
theorem evAllocN_bind (ty : TypeId) (dst : Option Nat) : evAllocN T v ty dst (fun c => (J c).bind F) = (evAllocN T v ty dst J).bind F := by
 unfold evAllocN; simp only [putC_bind]; repeat' (first | rfl | rw [cond_bind] | split)
theorem evBuildSlice_bind (ty : TypeId) (n : Nat) (ps : List (Nat × Operand)) (dst : Option Nat) : evBuildSlice T v ty n ps dst (fun c => (J c).bind F) = (evBuildSlice T v ty n ps dst J).bind F := by
 unfold evBuildSlice; simp only [putC_bind]; repeat' (first | rfl | rw [cond_bind] | split)
theorem evAppend_bind (ty : TypeId) (x y : Operand) (dst : Option Nat) : evAppend T v ty x y dst (fun c => (J c).bind F) = (evAppend T v ty x y dst J).bind F := by
 unfold evAppend; simp only [putC_bind, ← bind_bind]; repeat' (first | rfl | split)
theorem evMin_bind (op : Int → Int → Int) (ts : List TypeId) (xs : List Operand) (dst : Option Nat) : evMin T v op ts xs dst (fun c => (J c).bind F) = (evMin T v op ts xs dst J).bind F := by
 unfold evMin; simp only [putC_bind]; repeat' (first | rfl | split)
theorem evBox_bind (ty : TypeId) (x : Operand) (dst : Option Nat) : evBox T v ty x dst (fun c => (J c).bind F) = (evBox T v ty x dst J).bind F := by
 unfold evBox; simp only [putC_bind]; repeat' (first | rfl | rw [cond_bind] | split)
theorem evAlloc_bind (ty : TypeId) (dst : Option Nat) : evAlloc T v ty dst (fun c => (J c).bind F) = (evAlloc T v ty dst J).bind F := by
 unfold evAlloc; simp only [putC_bind]; repeat' (first | rfl | rw [cond_bind] | split)
theorem evFieldAddr_bind (ty : TypeId) (x : Operand) (f : Nat) (dst : Option Nat) : evFieldAddr T v ty x f dst (fun c => (J c).bind F) = (evFieldAddr T v ty x f dst J).bind F := by
 unfold evFieldAddr; simp only [putC_bind]; repeat' (first | rfl | split)
theorem evField_bind (ty : TypeId) (x : Operand) (f : Nat) (dst : Option Nat) : evField T v ty x f dst (fun c => (J c).bind F) = (evField T v ty x f dst J).bind F := by
 unfold evField; simp only [putC_bind]; repeat' (first | rfl | split)
theorem evNilCheck_bind (x : Operand) (dst : Option Nat) : evNilCheck v x dst (fun c => (J c).bind F) = (evNilCheck v x dst J).bind F := by
 unfold evNilCheck; simp only [putC_bind, putM_bind]; repeat' (first | rfl | split)
theorem evMakeSlice_bind (ty : TypeId) (l c : Operand) (dst : Option Nat) : evMakeSlice T v ty l c dst (fun c => (J c).bind F) = (evMakeSlice T v ty l c dst J).bind F := by
 unfold evMakeSlice; simp only [putC_bind, ← bind_bind]; repeat' (first | rfl | split)
theorem callPut_bind (dst : Option Nat) (pre : List Cmd) (sv : SV) : callPut v dst pre sv (fun c => (J c).bind F) = (callPut v dst pre sv J).bind F := by
 unfold callPut; repeat' (first | rfl | rw [cond_bind] | split)
theorem evCall_bind (G : Gam) (f : FuncId) (ts : List TypeId) (xs : List Operand) (dst : Option Nat) : evCall T v G f ts xs dst (fun c => (J c).bind F) = (evCall T v G f ts xs dst J).bind F := by
 unfold evCall; simp only [callPut_bind]
 split
 ·rw [bind_bind]; congr 1; funext r; rw [cond_bind]
 ·rfl
theorem evCallR_bind (G : Gam) (f : FuncId) (ts : List TypeId) (xs : List Operand) (dst : Option Nat) : evCallR T v G f ts xs dst (fun c => (J c).bind F) = (evCallR T v G f ts xs dst J).bind F := by
 unfold evCallR; simp only [callPut_bind]
 repeat' (first | rfl | rw [cond_bind] | (rw [bind_bind]; congr 1; funext r) | refine cond_congr ?_ ?_ | split)
theorem evCallV_bind (t : Nat) (ts : List TypeId) (xs : List Operand) (dst : Option Nat) : evCallV T v t ts xs dst (fun c => (J c).bind F) = (evCallV T v t ts xs dst J).bind F := by
 unfold evCallV; simp only [callPut_bind]
 split
 ·rw [bind_bind]
 ·rfl
theorem evMakeFunc_bind (G : Gam) (fn : Fn) (first caps : List Operand) (dst : Option Nat) : evMakeFunc v G fn first caps dst (fun c => (J c).bind F) = (evMakeFunc v G fn first caps dst J).bind F := by
 unfold evMakeFunc; simp only [putC_bind]; repeat' (first | rfl | rw [cond_bind] | split)

theorem evMakeFn_bind (fn : Fn) (first caps : List Operand) (dst : Option Nat) : evMakeFn v fn first caps dst (fun c => (J c).bind F) = (evMakeFn v fn first caps dst J).bind F := by
 unfold evMakeFn; simp only [putC_bind]; repeat' (first | rfl | split)
theorem evCallF_bind (G : Gam) (ty f : Nat) (caps : List (Option Nat)) (ts : List TypeId) (xs : List Operand) (dst : Option Nat) : evCallF T v G ty f caps ts xs dst (fun c => (J c).bind F) = (evCallF T v G ty f caps ts xs dst J).bind F := by
 unfold evCallF; simp only [callPut_bind]
 split
 ·rw [bind_bind]; congr 1; funext r; rw [cond_bind]
 ·rfl
theorem evCallX_bind (G : Gam) (t : Nat) (ts : List TypeId) (xs : List Operand) (dst : Option Nat) : evCallX T v G t ts xs dst (fun c => (J c).bind F) = (evCallX T v G t ts xs dst J).bind F := by
 unfold evCallX; simp only [evCallF_bind, evCallV_bind]; repeat' (first | rfl | split)

theorem evOp_bind (G : Gam) (sh : List Nat) (o : Oper) : evOp T v G sh o (fun c => (J c).bind F) = (evOp T v G sh o J).bind F := by
 unfold evOp
 simp only [evMove_bind, evAssign_bind, evPick2_bind, evAlloc_bind, evAllocN_bind, evBox_bind, evBuild_bind, evBuildN_bind, evBuildSlice_bind, evLoad_bind, evStore_bind, evNilCheck_bind, evBin_bind, evUn_bind, evConvert_bind, evMakeFunc_bind, evMakeFn_bind, evCallX_bind, evMakeSlice_bind, evSlice_bind, evFieldAddr_bind, evField_bind, evIndexAddr_bind, evIndex_bind, evExtract_bind, evCall_bind, evCallR_bind, evCallV_bind, evAppend_bind, evLen_bind, evMin_bind]
 repeat' (first | rfl | rw [cond_bind] | rw [cond_bind'] | split)
end
end Go.Proofs.YtecdijlfnnminaaGreatDoor.Eng
namespace Go.Proofs.YtecdijlfnnminaaGreatDoor.Eng
open Go Go.RowKit
set_option linter.unusedVariables false
set_option linter.unusedSimpArgs false

/-- Slot t is seen alike. -/
def Same (p : Bool) (v v' : Vw) (t : Nat) : Prop :=
 v'.g t = v.g t ∧ (∀ s, (v.g t = .alias s ∨ ∃ i e x, v.g t = .eref s i e x) → v'.g s = v.g s) ∧ (p = true → ∀ b, (v.g t).atBox b = true → v'.b b = v.b b)
def SameO (p : Bool) (v v' : Vw) : Operand → Prop
 | .tmp t => Same p v v' t
 | _ => True

section
universe u
variable {pb : Bool} {R : Type u} {T : Tys} {v v' : Vw} {K : List Cmd → Option R}

theorem putC_same (hnt : v'.nt = v.nt) : @putC R v' = @putC R v := by funext a b c d; unfold putC; rw [hnt]
theorem putM_same (hnt : v'.nt = v.nt) : @putM R v' = @putM R v := by funext a b d; unfold putM; rw [putC_same hnt]
theorem callPut_same (hnt : v'.nt = v.nt) : @callPut R v' = @callPut R v := by funext a b c d; unfold callPut; rw [hnt]
theorem rd_same {x : Operand} (h : SameO pb v v' x) (ty : TypeId) : rd T v' ty x = rd T v ty x := by
 cases x with
 | tmp t =>
  simp only [rd, h.1]
  cases hg : v.g t with
  | alias s => simp only [h.2.1 s (.inl hg)]
  | _ => rfl
 | _ => rfl
theorem src_same {x : Operand} (h : SameO pb v v' x) : src v' x = src v x := by
 cases x with
 | tmp t => simp only [src, h.1]
 | _ => rfl
theorem src_g {x : Operand} (h : SameO pb v v' x) {s : Nat} (hs : src v x = some s) : v'.g s = v.g s := by
 cases x with
 | tmp t =>
  simp only [src] at hs
  split at hs
  ·rename_i s' hg; cases hs; exact h.2.1 s (.inl hg)
  ·cases hs; exact h.1
  ·cases hs
 | _ => cases hs
theorem rowAt_same {k : Nat} {e : Ty} (h : v'.b k = v.b k) : rowAt v' k e = rowAt v k e := by unfold rowAt; rw [h]
theorem escC_same {x : Operand} (h : SameO pb v v' x) : escC v' x = escC v x := by unfold escC; rw [src_same h]

variable (hnt : v'.nt = v.nt)
include hnt
theorem evMove_same {ty : TypeId} {x : Operand} (h : SameO pb v v' x) {dst : Option Nat} : evMove T v' ty x dst K = evMove T v ty x dst K := by
 unfold evMove
 rw [putC_same hnt, putM_same hnt]
 cases x with
 | tmp t => simp only [h.1]
 | _ => rfl
theorem evAssign_same {sh : List Nat} {ty : TypeId} {x : Operand} (h : SameO pb v v' x) {dst : Option Nat} : evAssign T v' sh ty x dst K = evAssign T v sh ty x dst K := by
 unfold evAssign
 rw [putC_same hnt, src_same h, evMove_same hnt h]
 split
 ·rename_i s d hs; rw [src_g h hs]
 ·rfl
theorem evPick_same {ty : TypeId} {c a b : Operand} (hc : SameO pb v v' c) (ha : SameO pb v v' a) (hb : SameO pb v v' b) {dst : Option Nat} : evPick2 T v' ty c a b dst K = evPick2 T v ty c a b dst K := by
 unfold evPick2 evPick
 rw [putC_same hnt, rd_same hc, rd_same ha, rd_same hb, evMove_same hnt ha, evMove_same hnt hb]
theorem evBin_same {op : BinOp} {xt yt : TypeId} {x y : Operand} (hx : SameO pb v v' x) (hy : SameO pb v v' y) {dst : Option Nat} : evBin T v' op xt x y yt dst K = evBin T v op xt x y yt dst K := by
 unfold evBin; rw [putC_same hnt, rd_same hx, rd_same hy]
theorem evUn_same {op : UnOp} {xt : TypeId} {x : Operand} (hx : SameO pb v v' x) {dst : Option Nat} : evUn T v' op xt x dst K = evUn T v op xt x dst K := by
 unfold evUn; rw [putC_same hnt, rd_same hx]
theorem evLen_same {xt : TypeId} {x : Operand} (hx : SameO pb v v' x) {dst : Option Nat} : evLen T v' xt x dst K = evLen T v xt x dst K := by
 have hr : rlen v' x = rlen v x := by
  unfold rlen
  cases x with
  | tmp t => simp only [hx.1]
  | _ => rfl
 unfold evLen; rw [putC_same hnt, rd_same hx, hr]
theorem evExtract_same {sh : List Nat} {ty : TypeId} {ix : Nat} {x : Operand} (hx : SameO pb v v' x) {dst : Option Nat} : evExtract T v' sh ty x ix dst K = evExtract T v sh ty x ix dst K := by
 unfold evExtract; rw [putC_same hnt]
 cases x with
 | tmp t => simp only [hx.1]
 | _ => rfl
theorem evTake_same : @evTake R v' = @evTake R v := by
 funext a b c d e f g; unfold evTake; rw [putC_same hnt]
theorem evLoad0_same {sh : List Nat} {ty : TypeId} {x : Operand} (hx : SameO true v v' x) {dst : Option Nat} : evLoad0 T v' sh ty x dst K = evLoad0 T v sh ty x dst K := by
 unfold evLoad0; rw [putC_same hnt, evTake_same hnt]
 cases x with
 | tmp t =>
  cases T.ty ty with
  | none => rfl
  | some tt =>
   simp only [hx.1]
   cases hg : v.g t with
   | eref s i e y => cases y with
    | none => simp only [hx.2.1 s (.inr ⟨i, e, none, hg⟩)]
    | some y => rfl
   | ptr b off => simp only [hx.2.2 rfl b (by rw [hg]; exact beq_self b)]
   | rel k i e => simp only [rowAt_same (hx.2.2 rfl k (by rw [hg]; exact beq_self k))]
   | _ => rfl
 | _ => rfl
theorem evLoad_same {sh : List Nat} {ty : TypeId} {x : Operand} (hx : SameO true v v' x) {dst : Option Nat} : evLoad T v' sh ty x dst K = evLoad T v sh ty x dst K := by
 cases x with
 | tmp t =>
  unfold evLoad
  dsimp only
  rw [putC_same hnt, evLoad0_same hnt hx, hx.1]
 | _ => rfl
omit hnt in
theorem giveOf_same {x y : Operand} (hx : SameO true v v' x) (hy : SameO true v v' y) : giveOf v' x y = giveOf v x y := by
 unfold giveOf
 rw [src_same hy]
 cases x with
 | tmp tx =>
  cases y with
  | tmp t =>
   simp only [hy.1, hx.1]
   cases hs : src v (.tmp t) with
   | none => rfl
   | some s =>
    have h1 := src_g hy hs
    cases hg : v.g tx with
    | ptr b off => simp only [h1, hx.2.2 rfl b (by rw [hg]; exact beq_self b)]
    | _ => rfl
  | _ => rfl
 | _ => rfl
omit hnt in
theorem evGive_same {ty : TypeId} {x : Operand} {s : Nat} {ls : List V} (hx : SameO true v v' x) {dst : Option Nat} : evGive T v' ty x s ls dst K = evGive T v ty x s ls dst K := by
 unfold evGive
 cases x with
 | tmp tx =>
  cases T.ty ty with
  | none => rfl
  | some tt => cases dst with
   | some d => rfl
   | none =>
    simp only [hx.1]
    cases hg : v.g tx with
    | ptr b off => simp only [hx.2.2 rfl b (by rw [hg]; exact beq_self b)]
    | _ => rfl
 | _ => rfl
omit hnt in
theorem evStore_same {ty : TypeId} {x y : Operand} (hx : SameO true v v' x) (hy : SameO true v v' y) {dst : Option Nat} : evStore T v' ty x y dst K = evStore T v ty x y dst K := by
 unfold evStore; rw [giveOf_same hx hy]; simp only [evGive_same hx, rd_same hy, src_same hy, escC_same hy]
 cases giveOf v x y with
 | some q => rfl
 | none =>
 dsimp only
 cases x with
 | tmp t =>
  cases T.ty ty with
  | none => rfl
  | some tt =>
   cases rd T v ty y with
   | none => rfl
   | some p =>
    cases dst with
    | some d => rfl
    | none =>
     dsimp only
     cases p.as tt with
     | none => rfl
     | some z =>
      simp only [hx.1]
      cases hg : v.g t with
      | eref s i e y => simp only [hx.2.1 s (.inr ⟨i, e, y, hg⟩)]
      | ptr b off => simp only [hx.2.2 rfl b (by rw [hg]; exact beq_self b)]
      | rel k i e => simp only [rowAt_same (hx.2.2 rfl k (by rw [hg]; exact beq_self k))]
      | _ => rfl
 | _ => rfl
theorem evIndexAddr_same {ty : TypeId} {x i : Operand} (hx : SameO pb v v' x) (hi : SameO pb v v' i) {dst : Option Nat} : evIndexAddr T v' ty x i dst K = evIndexAddr T v ty x i dst K := by
 unfold evIndexAddr; rw [putC_same hnt, putM_same hnt, rd_same hi]
 cases x with
 | tmp t =>
  rw [src_same hx]
  split
  ·rename_i t' _ _ _ hx' _ _
   cases hx'
   split
   ·rename_i s hs; rw [src_g hx hs]
   ·rw [hx.1]
  ·rfl
 | _ => rfl
theorem evIndex_same {ty : TypeId} {x i : Operand} (hx : SameO pb v v' x) (hi : SameO pb v v' i) {dst : Option Nat} : evIndex T v' ty x i dst K = evIndex T v ty x i dst K := by
 unfold evIndex; rw [putC_same hnt, rd_same hi, rd_same hx]
omit hnt in
theorem rdOr_same {x : Option Operand} (h : ∀ y, x = some y → SameO pb v v' y) (d : Int) : rdOr T v' x d = rdOr T v x d := by
 cases x with
 | none => rfl
 | some o => simp only [rdOr, rd_same (h o rfl)]
theorem evSlice_same {ty : TypeId} {x : Operand} {lo hi mx : Option Operand} (hx : SameO pb v v' x) (h1 : ∀ y, lo = some y → SameO pb v v' y) (h2 : ∀ y, hi = some y → SameO pb v v' y) (h3 : ∀ y, mx = some y → SameO pb v v' y) {dst : Option Nat} :
  evSlice T v' ty x lo hi mx dst K = evSlice T v ty x lo hi mx dst K := by
 unfold evSlice; rw [putC_same hnt, rd_same hx, escC_same hx]
 simp only [rdOr_same h1, rdOr_same h2]
 split
 ·rfl
 ·rfl
 ·simp only [rdOr_same h3]
 ·rfl
theorem evConvert_same {s d : TypeId} {x : Operand} (hx : SameO pb v v' x) {dst : Option Nat} : evConvert T v' s d x dst K = evConvert T v s d x dst K := by
 unfold evConvert; rw [putC_same hnt, rd_same hx]
omit hnt in
theorem buildV_same {fl : List (TypeId × Nat)} : ∀ {ps : List (Nat × Operand)} {acc : List V}, (∀ p ∈ ps, SameO pb v v' p.2) → buildV T v' fl ps acc = buildV T v fl ps acc
 | [], _, _ => rfl
 | (i, x) :: r, acc, h => by
  simp only [buildV, rd_same (h (i, x) (by simp))]
  have hr : ∀ acc, buildV T v' fl r acc = buildV T v fl r acc := fun acc => buildV_same (fun p hp => h p (by simp [hp]))
  simp only [hr]
omit hnt in
theorem escs_same : ∀ {ps : List (Nat × Operand)}, (∀ p ∈ ps, SameO pb v v' p.2) → escs v' ps = escs v ps
 | [], _ => rfl
 | p :: r, h => by simp only [escs, escC_same (h p (by simp)), escs_same (ps := r) (fun q hq => h q (by simp [hq]))]
theorem evBuild_same {ty : TypeId} {ps : List (Nat × Operand)} (h : ∀ p ∈ ps, SameO pb v v' p.2) {dst : Option Nat} : evBuild T v' ty ps dst K = evBuild T v ty ps dst K := by
 unfold evBuild; rw [putC_same hnt, escs_same h]; simp only [buildV_same h]
omit hnt in
theorem elemsOf_same {id : TypeId} {e : Ty} : ∀ {ps : List (Nat × Operand)} {i : Nat}, (∀ p ∈ ps, SameO pb v v' p.2) → elemsOf T v' id e i ps = elemsOf T v id e i ps
 | [], _, _ => rfl
 | p :: r, i, h => by simp only [elemsOf, rd_same (h p (by simp)), elemsOf_same (ps := r) (fun q hq => h q (by simp [hq]))]
theorem evBuildSlice_same {ty : TypeId} {n : Nat} {ps : List (Nat × Operand)} (h : ∀ p ∈ ps, SameO pb v v' p.2) {dst : Option Nat} : evBuildSlice T v' ty n ps dst K = evBuildSlice T v ty n ps dst K := by
 unfold evBuildSlice; rw [putC_same hnt, escs_same h]; simp only [elemsOf_same h]
theorem evAppend_same {ty : TypeId} {x y : Operand} (hx : SameO pb v v' x) (hy : SameO pb v v' y) {dst : Option Nat} : evAppend T v' ty x y dst K = evAppend T v ty x y dst K := by
 unfold evAppend; rw [putC_same hnt, rd_same hy, rd_same hx]
 split
 ·split
  ·rfl
  ·rw [src_same hx]
   split
   ·rename_i s hs; rw [src_g hx hs]
   ·cases x with
    | tmp t => simp only [hx.1]
    | _ => rfl
 ·rfl
omit hnt in
theorem rds_same : ∀ {xs : List Operand} {ts : List TypeId}, (∀ x ∈ xs, SameO pb v v' x) → rds T v' ts xs = rds T v ts xs
 | [], _, _ => rfl
 | x :: r, ts, h => by simp only [rds, rd_same (h x (by simp)), rds_same (xs := r) (fun q hq => h q (by simp [hq]))]
theorem evMin_same {op : Int → Int → Int} {ts : List TypeId} {xs : List Operand} (h : ∀ x ∈ xs, SameO pb v v' x) {dst : Option Nat} : evMin T v' op ts xs dst K = evMin T v op ts xs dst K := by
 unfold evMin; rw [putC_same hnt, rds_same h]
theorem evBox_same {ty : TypeId} {x : Operand} (hx : SameO pb v v' x) {dst : Option Nat} : evBox T v' ty x dst K = evBox T v ty x dst K := by
 unfold evBox; rw [putC_same hnt, rd_same hx, escC_same hx]
theorem evAllocN_same {ty : TypeId} {dst : Option Nat} : evAllocN T v' ty dst K = evAllocN T v ty dst K := by
 unfold evAllocN; rw [putC_same hnt]
theorem evBuildN_same {ty : TypeId} {ps : List (Nat × Operand)} (h : ∀ p ∈ ps, SameO pb v v' p.2) {dst : Option Nat} : evBuildN T v' ty ps dst K = evBuildN T v ty ps dst K := by
 unfold evBuildN; rw [putC_same hnt]
 cases ps with
 | nil => rfl
 | cons p ps =>
  obtain ⟨i, x⟩ := p
  have hx : SameO pb v v' x := h (i, x) (by simp)
  cases i with
  | zero => cases ps with
   | nil => simp only [rd_same hx]
   | cons _ _ => rfl
  | succ _ => rfl
theorem evAlloc_same {ty : TypeId} {dst : Option Nat} : evAlloc T v' ty dst K = evAlloc T v ty dst K := by
 unfold evAlloc; rw [putC_same hnt]
theorem evFieldAddr_same {ty : TypeId} {x : Operand} (hx : SameO pb v v' x) {f : Nat} {dst : Option Nat} : evFieldAddr T v' ty x f dst K = evFieldAddr T v ty x f dst K := by
 unfold evFieldAddr; rw [putC_same hnt]
 cases x with
 | tmp t => simp only [hx.1]
 | _ => rfl
theorem evField_same {ty : TypeId} {x : Operand} (hx : SameO pb v v' x) {f : Nat} {dst : Option Nat} : evField T v' ty x f dst K = evField T v ty x f dst K := by
 unfold evField; rw [putC_same hnt, rd_same hx]
theorem evNilCheck_same {x : Operand} (hx : SameO pb v v' x) {dst : Option Nat} : evNilCheck v' x dst K = evNilCheck v x dst K := by
 unfold evNilCheck; rw [putC_same hnt, putM_same hnt]
 cases x with
 | tmp t => simp only [hx.1]
 | _ => rfl
theorem evMakeSlice_same {ty : TypeId} {x y : Operand} (hx : SameO pb v v' x) (hy : SameO pb v v' y) {dst : Option Nat} : evMakeSlice T v' ty x y dst K = evMakeSlice T v ty x y dst K := by
 unfold evMakeSlice; rw [putC_same hnt, rd_same hy, rd_same hx]
omit hnt in
theorem argOf_same {G : Gam} {ty : TypeId} {x : Operand} (h : SameO true v v' x) : argOf T v' G ty x = argOf T v G ty x := by
 unfold argOf
 rw [rd_same h]
 cases x with
 | tmp t =>
  simp only [h.1]
  cases hg : v.g t with
  | ptr b off => cases off with
   | zero => simp only [h.2.2 rfl b (by rw [hg]; exact beq_self b)]
   | succ n => rfl
  | _ => rfl
 | const c =>
  cases c with
  | slice a n m => rcases a with _ | a <;> rcases n with _ | n <;> rcases m with _ | m <;> rfl
  | _ => rfl
 | _ => rfl
omit hnt in
theorem argsOf_same {G : Gam} : ∀ {xs : List Operand} {ts : List TypeId}, (∀ x ∈ xs, SameO true v v' x) → argsOf T v' G ts xs = argsOf T v G ts xs
 | [], _, _ => rfl
 | x :: r, ts, h => by simp only [argsOf, argOf_same (h x (by simp)), argsOf_same (xs := r) (fun q hq => h q (by simp [hq]))]
omit hnt in
theorem boxesOf_same : ∀ {xs : List Operand}, (∀ x ∈ xs, SameO pb v v' x) → boxesOf v' xs = boxesOf v xs
 | [], _ => rfl
 | x :: r, h => by
  have ih := boxesOf_same (xs := r) (fun q hq => h q (by simp [hq]))
  cases x with
  | tmp t => have hs : Same pb v v' t := h (.tmp t) (by simp); simp only [boxesOf, hs.1, ih]
  | const c => exact ih
  | global c => exact ih
  | func c => exact ih
omit hnt in
theorem lentOf_same : ∀ {xs : List Operand}, (∀ x ∈ xs, SameO pb v v' x) → lentOf v' xs = lentOf v xs
 | [], _ => rfl
 | x :: r, h => by simp only [lentOf, src_same (h x (by simp)), lentOf_same (xs := r) (fun q hq => h q (by simp [hq]))]
theorem evCall_same {G : Gam} {f : FuncId} {ts : List TypeId} {xs : List Operand} (h : ∀ x ∈ xs, SameO true v v' x) {dst : Option Nat} : evCall T v' G f ts xs dst K = evCall T v G f ts xs dst K := by
 unfold evCall; rw [callPut_same hnt, argsOf_same h, boxesOf_same h, lentOf_same h]
theorem evCallR_same {G : Gam} {f : FuncId} {ts : List TypeId} {xs : List Operand} (h : ∀ x ∈ xs, SameO true v v' x) {dst : Option Nat} : evCallR T v' G f ts xs dst K = evCallR T v G f ts xs dst K := by
 unfold evCallR
 cases xs with
 | nil => rfl
 | cons x rest =>
  cases x with
  | tmp t =>
   have hs : Same true v v' t := h (.tmp t) (by simp)
   have hr : ∀ x ∈ rest, SameO true v v' x := fun x hx => h x (by simp [hx])
   dsimp only
   rw [callPut_same hnt, argsOf_same hr, boxesOf_same hr, lentOf_same hr]
   have e1 : src v' (.tmp t) = src v (.tmp t) := src_same (x := .tmp t) hs
   cases hg : v.g t with
   | rref k len e =>
    rw [hs.1, hg]
    dsimp only
    rw [rowAt_same (hs.2.2 rfl k (by rw [hg]; exact beq_self k))]
   | _ =>
    rw [hs.1, hg, e1]
    dsimp only
    cases hsrc : src v (.tmp t) with
    | none => rfl
    | some s => dsimp only; rw [src_g (x := .tmp t) hs hsrc]
  | _ => rfl
theorem evCallV_same {t : Nat} {ts : List TypeId} {xs : List Operand} (ht : Same pb v v' t) (h : ∀ x ∈ xs, SameO pb v v' x) {dst : Option Nat} : evCallV T v' t ts xs dst K = evCallV T v t ts xs dst K := by
 unfold evCallV; rw [callPut_same hnt, rds_same h, lentOf_same h, ht.1]
omit hnt in
theorem capsOf_same : ∀ {xs : List Operand}, (∀ x ∈ xs, SameO true v v' x) → capsOf v' xs = capsOf v xs
 | [], _ => rfl
 | x :: r, h => by
  have ih := capsOf_same (xs := r) (fun q hq => h q (by simp [hq]))
  cases x with
  | tmp t =>
   have hs : Same true v v' t := h (.tmp t) (by simp)
   simp only [capsOf, hs.1, ih]
   cases capsOf v r with
   | none => cases hg : v.g t with
    | ptr b off => cases off <;> rfl
    | _ => rfl
   | some l =>
    cases hg : v.g t with
    | ptr b off => cases off with
     | zero => simp only [hs.2.2 rfl b (by rw [hg]; exact beq_self b)]
     | succ n => rfl
    | _ => rfl
  | _ => rfl
theorem evMakeFunc_same {G : Gam} {fn : Fn} {first caps : List Operand} (h : ∀ x ∈ caps, SameO true v v' x) {dst : Option Nat} : evMakeFunc v' G fn first caps dst K = evMakeFunc v G fn first caps dst K := by
 unfold evMakeFunc; rw [putC_same hnt, capsOf_same h, boxesOf_same h]

omit hnt in
theorem fnCaps_same : ∀ {xs : List Operand}, (∀ x ∈ xs, SameO pb v v' x) → fnCaps v' xs = fnCaps v xs
 | [], _ => rfl
 | x :: r, h => by
  have ih := fnCaps_same (xs := r) (fun q hq => h q (by simp [hq]))
  cases x with
  | tmp t =>
   have hs : Same pb v v' t := h (.tmp t) (by simp)
   simp only [fnCaps, hs.1, ih]
  | _ => rfl
theorem evMakeFn_same {fn : Fn} {first caps : List Operand} (h : ∀ x ∈ caps, SameO pb v v' x) {dst : Option Nat} : evMakeFn v' fn first caps dst K = evMakeFn v fn first caps dst K := by
 unfold evMakeFn; rw [putC_same hnt, fnCaps_same h]
omit hnt in
theorem capArgs_same {ty f : Nat} {tot : List (Option Nat)} : ∀ {c : List (Option Nat)}, (∀ b, capsAt c b = true → v'.b b = v.b b) → capArgs v' ty f tot c = capArgs v ty f tot c
 | [], _ => rfl
 | none :: c, h => by simp only [capArgs, capArgs_same (c := c) h]
 | some b :: c, h => by
  have h1 := h b (by simp [capsAt, beq_self])
  have ih := capArgs_same (ty := ty) (f := f) (tot := tot) (c := c) (fun b' hb' => h b' (by simp [capsAt, hb']))
  simp only [capArgs, h1, ih]
theorem evCallX_same {G : Gam} {t : Nat} {ts : List TypeId} {xs : List Operand} (ht : Same true v v' t) (h : ∀ x ∈ xs, SameO true v v' x) {dst : Option Nat} : evCallX T v' G t ts xs dst K = evCallX T v G t ts xs dst K := by
 unfold evCallX
 rw [ht.1, evCallV_same hnt ht h]
 cases hg : v.g t with
 | fn ty f c =>
  dsimp only
  unfold evCallF
  rw [callPut_same hnt, argsOf_same h, boxesOf_same h, lentOf_same h, capArgs_same (fun b hb => ht.2.2 rfl b (by rw [hg]; exact hb))]
 | _ => rfl

/-- What an operation comes to hangs on what its operands name. -/
theorem evOp_same {G : Gam} {sh : List Nat} {o : Oper} (h : ∀ t, Operand.tmp t ∈ o.op.operands.toList → Same o.op.peeks v v' t) : evOp T v' G sh o K = evOp T v G sh o K := by
 have so : ∀ x, x ∈ o.op.operands.toList → SameO o.op.peeks v v' x := fun x hx => by
  cases x with
  | tmp t => exact h t hx
  | _ => trivial
 unfold evOp
 have pk0 : ∀ {q : Bool} {x : Operand}, q = true → SameO q v v' x → SameO true v v' x := fun hq h => by subst hq; exact h
 cases ho : o.op with
 | move x => exact evMove_same hnt (so x (by rw [ho]; simp [Op.operands]))
 | assign x => exact evAssign_same hnt (so x (by rw [ho]; simp [Op.operands]))
 | pick c a b => exact evPick_same hnt (so c (by rw [ho]; simp [Op.operands])) (so a (by rw [ho]; simp [Op.operands])) (so b (by rw [ho]; simp [Op.operands]))
 | alloc t => dsimp only; rw [evAlloc_same hnt, evAllocN_same hnt]
 | box t x => exact evBox_same hnt (so x (by rw [ho]; simp [Op.operands]))
 | build t ps =>
  dsimp only
  rw [evBuild_same hnt (fun p hp => so p.2 (by rw [ho]; simp only [Op.operands]; simpa using ⟨p.1, by simpa using hp⟩)), evBuildN_same hnt (fun p hp => so p.2 (by rw [ho]; simp only [Op.operands]; simpa using ⟨p.1, by simpa using hp⟩))]
 | buildSlice t n ps => exact evBuildSlice_same hnt (fun p hp => so p.2 (by rw [ho]; simp only [Op.operands]; simpa using ⟨p.1, by simpa using hp⟩))
 | load t x => exact evLoad_same hnt (pk0 (by rw [ho]; rfl) <| so x (by rw [ho]; simp [Op.operands]))
 | store t x y => exact evStore_same (pk0 (by rw [ho]; rfl) <| so x (by rw [ho]; simp [Op.operands])) (pk0 (by rw [ho]; rfl) <| so y (by rw [ho]; simp [Op.operands]))
 | nilCheck x => exact evNilCheck_same hnt (so x (by rw [ho]; simp [Op.operands]))
 | binOp op xt x y yt => exact evBin_same hnt (so x (by rw [ho]; simp [Op.operands])) (so y (by rw [ho]; simp [Op.operands]))
 | unOp op xt x => exact evUn_same hnt (so x (by rw [ho]; simp [Op.operands]))
 | convert s d x => exact evConvert_same hnt (so x (by rw [ho]; simp [Op.operands]))
 | makeFunc fn first caps =>
  dsimp only
  rw [evMakeFunc_same hnt (fun x hx => pk0 (by rw [ho]; rfl) <| so x (by rw [ho]; simp only [Op.operands]; simp [hx])), evMakeFn_same hnt (fun x hx => so x (by rw [ho]; simp only [Op.operands]; simp [hx]))]
 | makeSlice t l c => exact evMakeSlice_same hnt (so l (by rw [ho]; simp [Op.operands])) (so c (by rw [ho]; simp [Op.operands]))
 | slice t x lo hi mx => exact evSlice_same hnt (so x (by rw [ho]; simp [Op.operands])) (fun y hy => so y (by rw [ho, hy]; simp [Op.operands])) (fun y hy => so y (by rw [ho, hy]; simp [Op.operands])) (fun y hy => so y (by rw [ho, hy]; simp [Op.operands]))
 | fieldAddr t x f => exact evFieldAddr_same hnt (so x (by rw [ho]; simp [Op.operands]))
 | field t x f => exact evField_same hnt (so x (by rw [ho]; simp [Op.operands]))
 | indexAddr t x i => exact evIndexAddr_same hnt (so x (by rw [ho]; simp [Op.operands])) (so i (by rw [ho]; simp [Op.operands]))
 | index t x i => exact evIndex_same hnt (so x (by rw [ho]; simp [Op.operands])) (so i (by rw [ho]; simp [Op.operands]))
 | extract x i => exact evExtract_same hnt (so x (by rw [ho]; simp [Op.operands]))
 | call c =>
  have sa : ∀ x ∈ c.args.toList, SameO true v v' x := fun x hx => pk0 (by rw [ho]; rfl) (so x (by rw [ho]; simp only [Op.operands, Call.operands]; simp only [Array.toList_append, List.mem_append]; exact .inr hx))
  dsimp only
  cases hc : c.callee with
  | value x =>
   cases x with
   | func f =>
    dsimp only
    rw [evCall_same hnt sa, evCallR_same hnt sa]
   | tmp t => exact evCallX_same hnt (pk0 (by rw [ho]; rfl) <| so (.tmp t) (by rw [ho]; simp [Op.operands, Call.operands, hc])) sa
   | _ => rfl
  | builtin b =>
   cases b with
   | append =>
    dsimp only
    split
    ·rename_i x y t t' hxs _
     rw [hxs] at sa
     rw [evAppend_same hnt (sa x (by simp)) (sa y (by simp))]
    ·rfl
   | len =>
    dsimp only
    split
    ·rename_i x t hxs _
     rw [hxs] at sa
     exact evLen_same hnt (sa x (by simp))
    ·rfl
   | min => exact evMin_same hnt sa
   | max => exact evMin_same hnt sa
   | _ => rfl
  | _ => rfl
 | _ => rfl

end
end Go.Proofs.YtecdijlfnnminaaGreatDoor.Eng
namespace Go.Proofs.YtecdijlfnnminaaGreatDoor.Eng
open Go Go.RowKit
set_option linter.unusedVariables false
set_option linter.unusedSimpArgs false

theorem beq_iff' {a b : Nat} : Nat.beq a b = true ↔ b = a := ⟨fun h => (Nat.eq_of_beq_eq_true h).symm, fun h => by subst h; exact beq_self _⟩
theorem refs_tgts {sv : SV} {s : Nat} : sv.refs s = true ↔ s ∈ sv.tgts := by
 cases sv <;> simp only [SV.refs, SV.tgts, List.mem_singleton, List.not_mem_nil, Bool.false_eq_true] <;> exact beq_iff'
theorem capsAt_iff {s : Nat} : ∀ {c : List (Option Nat)}, capsAt c s = true ↔ s ∈ capBoxes c
 | [] => by simp [capsAt, capBoxes]
 | none :: c => by simp only [capsAt, capBoxes]; exact capsAt_iff
 | some b :: c => by simp only [capsAt, capBoxes, Bool.or_eq_true, List.mem_cons, beq_iff', capsAt_iff (c := c)]
theorem atBox_tgtB {sv : SV} {s : Nat} : sv.atBox s = true ↔ s ∈ sv.tgtB := by
 cases sv <;> simp only [SV.atBox, SV.tgtB, List.mem_singleton, List.not_mem_nil, Bool.false_eq_true] <;> first | exact beq_iff' | exact capsAt_iff
theorem plain_own {sv : SV} (h : sv.bare = true) : sv.isOwn = false := by cases sv <;> simp_all [SV.bare, SV.isOwn]
theorem plain_refs {sv : SV} (h : sv.bare = true) (s : Nat) : sv.refs s = false := by cases sv <;> simp_all [SV.bare, SV.refs]
theorem plain_atBox {sv : SV} (h : sv.bare = true) (s : Nat) : sv.atBox s = false := by cases sv <;> simp_all [SV.bare, SV.atBox]

theorem refsIn_mem {s n : Nat} {u : SV} : ∀ {l : List (Nat × SV)}, alook l n = some u → u.refs s = true → n ∈ refsIn s l
 | [], h, _ => by cases h
 | (k, u') :: r, h, hr => by
  rw [alook_cons] at h
  simp only [refsIn]
  split at h
  ·rename_i e; subst e; cases h; rw [hr]; simp
  ·have := refsIn_mem h hr
   cases u'.refs s <;> simp [this]
theorem atIn_mem {s n : Nat} {u : SV} : ∀ {l : List (Nat × SV)}, alook l n = some u → u.atBox s = true → n ∈ atIn s l
 | [], h, _ => by cases h
 | (k, u') :: r, h, hr => by
  rw [alook_cons] at h
  simp only [atIn]
  split at h
  ·rename_i e; subst e; cases h; rw [hr]; simp
  ·have := atIn_mem h hr
   cases u'.atBox s <;> simp [this]
theorem refsIn_aset {s d : Nat} {sv : SV} (h : sv.refs s = false) : ∀ {l : List (Nat × SV)}, (∀ u, alook l d = some u → u.refs s = false) → refsIn s (aset l d sv) = refsIn s l
 | [], _ => by simp [aset, refsIn, h]
 | (k, u) :: r, h0 => by
  simp only [aset]
  by_cases hk : k = d
  ·subst hk
   have := h0 u (by rw [alook_cons, if_pos rfl])
   simp [beq_self, refsIn, h, this]
  ·rw [beq_false hk]
   have h1 : ∀ u, alook r d = some u → u.refs s = false := fun u hu => h0 u (by rw [alook_cons, if_neg hk]; exact hu)
   cases Nat.blt d k
   ·simp [refsIn, refsIn_aset h h1]
   ·simp [refsIn, h]
theorem atIn_aset {s d : Nat} {sv : SV} (h : sv.atBox s = false) : ∀ {l : List (Nat × SV)}, (∀ u, alook l d = some u → u.atBox s = false) → atIn s (aset l d sv) = atIn s l
 | [], _ => by simp [aset, atIn, h]
 | (k, u) :: r, h0 => by
  simp only [aset]
  by_cases hk : k = d
  ·subst hk
   have := h0 u (by rw [alook_cons, if_pos rfl])
   simp [beq_self, atIn, h, this]
  ·rw [beq_false hk]
   have h1 : ∀ u, alook r d = some u → u.atBox s = false := fun u hu => h0 u (by rw [alook_cons, if_neg hk]; exact hu)
   cases Nat.blt d k
   ·simp [atIn, atIn_aset h h1]
   ·simp [atIn, h]

section
variable {E : Env}

theorem do1_nt (c : Cmd) : (E.do1 c).nt = E.nt := by
 cases c with
 | set d sv => rfl
 | fz s => simp only [Env.do1, Env.fz]; split <;> rfl
 | box b l => rfl
 | newbox b l => rfl
 | fzbox b => simp only [Env.do1]; split <;> rfl

theorem g_none {n : Nat} (h : alook E.sl n = none) : E.g n = .undef := by unfold Env.g; rw [h]
theorem g_some {n : Nat} {u : SV} (h : alook E.sl n = some u) : E.g n = u := by unfold Env.g; rw [h]

theorem refsIn_g {s n : Nat} (h : (E.g n).refs s = true) : n ∈ refsIn s E.sl := by
 cases hq : alook E.sl n with
 | none => rw [g_none hq] at h; cases h
 | some u => rw [g_some hq] at h; exact refsIn_mem hq h
theorem atIn_g {s n : Nat} (h : (E.g n).atBox s = true) : n ∈ atIn s E.sl := by
 cases hq : alook E.sl n with
 | none => rw [g_none hq] at h; cases h
 | some u => rw [g_some hq] at h; exact atIn_mem hq h

theorem fzF_same {s : Nat} {v u : SV} (h : u.refs s = false) : fzF s v u = u := by
 cases u <;> simp_all [fzF, SV.refs]
theorem dropBox_same {b : Nat} {u : SV} (h : u.atBox b = false) : dropBox b u = u := by
 cases u <;> simp_all [dropBox, dropFn, SV.atBox]
theorem refBox_same {b : Nat} {l : List V} {u : SV} (h : u.atBox b = false) : refBox b l u = u := by
 cases u <;> simp_all [refBox, dropFn, SV.atBox]

theorem g_amap (f : SV → SV) (hf : f .undef = .undef) (nt : Nat) (sl : List (Nat × SV)) (bx bx' : List (Nat × List V)) (n : Nat) : (⟨nt, amap f sl, bx⟩ : Env).g n = f ((⟨nt, sl, bx'⟩ : Env).g n) := by
 simp only [Env.g, alook_amap]
 cases alook sl n
 ·exact hf.symm
 ·rfl

/-- What is not hit stays. -/
theorem do1_g {c : Cmd} {n : Nat} (h : n ∉ c.hits E) : (E.do1 c).g n = E.g n := by
 cases c with
 | set d sv =>
  simp only [Cmd.hits, List.mem_cons, not_or] at h
  show (E.set d sv).g n = E.g n
  rw [Env.g_set, if_neg (Ne.symm h.1), if_neg]
  rintro ⟨h1, h2⟩
  rw [h1] at h
  exact h.2 (refsIn_g h2)
 | fz s =>
  simp only [Cmd.hits, List.mem_cons, not_or] at h
  simp only [Env.do1, Env.fz]
  split
  ·rename_i id e xs hs
   have : (⟨E.nt, aset (amap (fzF s (.val (.slice e) xs)) E.sl) s (.val (.slice e) xs), E.bx⟩ : Env).g n = fzF s (.val (.slice e) xs) (E.g n) := by
    simp only [Env.g, alook_aset, alook_amap, Ne.symm h.1, if_false]
    cases alook E.sl n <;> rfl
   rw [this, fzF_same]
   cases hr : (E.g n).refs s
   ·rfl
   ·exact absurd (refsIn_g hr) h.2
  ·rfl
 | box b l => rfl
 | newbox b l =>
  rw [g_newbox, dropBox_same]
  cases hr : (E.g n).atBox b
  ·rfl
  ·exact absurd (atIn_g hr) h
 | fzbox b =>
  simp only [Env.do1]
  split
  ·rename_i l hl
   rw [g_amap (refBox b l) rfl E.nt E.sl _ E.bx n]
   show refBox b l (E.g n) = E.g n
   rw [refBox_same]
   cases hr : (E.g n).atBox b
   ·rfl
   ·exact absurd (atIn_g hr) h
  ·rfl
theorem do1_b {c : Cmd} {b : Nat} (h : b ∉ c.bxs) : alook (E.do1 c).bx b = alook E.bx b := by
 cases c with
 | set d sv => rfl
 | fz s => simp only [Env.do1, Env.fz]; split <;> rfl
 | box c l => simp only [Cmd.bxs, List.mem_singleton] at h; simp only [Env.do1, alook_aset]; rw [if_neg (Ne.symm h)]
 | newbox c l => simp only [Cmd.bxs, List.mem_singleton] at h; simp only [Env.do1, alook_aset]; rw [if_neg (Ne.symm h)]
 | fzbox c =>
  simp only [Cmd.bxs, List.mem_singleton] at h
  simp only [Env.do1]
  split
  ·dsimp only; rw [alook_boxOut, if_neg (Ne.symm h)]
  ·rfl
theorem run_nt : ∀ (cs : List Cmd) (E : Env), (E.run cs).nt = E.nt
 | [], E => rfl
 | c :: cs, E => (run_nt cs (E.do1 c)).trans (do1_nt c)
theorem run_g {n : Nat} : ∀ {cs : List Cmd} {E : Env}, n ∉ hitsL E cs → (E.run cs).g n = E.g n
 | [], E, _ => rfl
 | c :: cs, E, h => by
  simp only [hitsL, List.mem_append, not_or] at h
  exact (run_g (cs := cs) (E := E.do1 c) h.2).trans (do1_g h.1)
theorem run_b {b : Nat} : ∀ {cs : List Cmd} {E : Env}, b ∉ bxsL cs → alook (E.run cs).bx b = alook E.bx b
 | [], E, _ => rfl
 | c :: cs, E, h => by
  simp only [bxsL, List.mem_append, not_or] at h
  exact (run_b (cs := cs) (E := E.do1 c) h.2).trans (do1_b h.1)

/-- A content put into a plain slot. -/
theorem set_plain {d : Nat} (hd : (E.g d).bare = true) (sv : SV) : E.set d sv = ⟨E.nt, aset E.sl d sv, E.bx⟩ := by
 unfold Env.set; rw [plain_own hd]; rfl
theorem set_g {d n : Nat} (hd : (E.g d).bare = true) (sv : SV) (hn : d ≠ n) : (E.set d sv).g n = E.g n := by
 rw [Env.g_set, if_neg hn, if_neg]; rw [plain_own hd]; simp

/-- Putting commutes with an order that leaves it alone. -/
theorem set_do1 {d : Nat} {sv : SV} {c : Cmd} (hd : (E.g d).bare = true) (hk : d ∉ c.keys) (ht : ∀ s ∈ c.keys, sv.refs s = false) (hb : ∀ b ∈ c.nbs, sv.atBox b = false) :
  (E.set d sv).do1 c = (E.do1 c).set d sv ∧ ((E.do1 c).g d).bare = true := by
 cases c with
 | set d' sv' =>
  simp only [Cmd.keys, List.mem_singleton] at hk
  have hr := ht d' (by simp [Cmd.keys])
  have hp : ((E.do1 (.set d' sv')).g d).bare = true := by
   show ((E.set d' sv').g d).bare = true
   rw [Env.g_set, if_neg (Ne.symm hk)]
   split
   ·rfl
   ·exact hd
  refine ⟨?_, hp⟩
  rw [set_plain hp]
  show (E.set d sv).set d' sv' = _
  have hg : (E.set d sv).g d' = E.g d' := set_g hd sv hk
  unfold Env.set at hg ⊢
  simp only [Env.do1, Env.set]
  rw [plain_own hd] at hg ⊢
  simp only [cond_false] at hg ⊢
  rw [hg]
  cases (E.g d').isOwn
  ·simp only [cond_false]
   rw [aset_comm _ _ hk]
  ·simp only [cond_true]
   rw [amap_aset]
   simp only [hr, cond_false]
   rw [aset_comm _ _ hk]
 | fz s =>
  simp only [Cmd.keys, List.mem_singleton] at hk
  have hr := ht s (by simp [Cmd.keys])
  have hg : (E.set d sv).g s = E.g s := set_g hd sv hk
  simp only [Env.do1, Env.fz, hg]
  split
  ·rename_i id e xs hs
   have hp : ((⟨E.nt, aset (amap (fzF s (.val (.slice e) xs)) E.sl) s (.val (.slice e) xs), E.bx⟩ : Env).g d).bare = true := by
    have : (⟨E.nt, aset (amap (fzF s (.val (.slice e) xs)) E.sl) s (.val (.slice e) xs), E.bx⟩ : Env).g d = fzF s (.val (.slice e) xs) (E.g d) := by
     simp only [Env.g, alook_aset, alook_amap, Ne.symm hk, if_false]
     cases alook E.sl d <;> rfl
    rw [this, fzF_same (plain_refs hd s)]; exact hd
   refine ⟨?_, hp⟩
   rw [set_plain hp, set_plain hd]
   dsimp only
   rw [amap_aset, fzF_same hr, aset_comm _ _ hk]
  ·exact ⟨rfl, hd⟩
 | box b l =>
  refine ⟨?_, hd⟩
  rw [set_plain hd, set_plain (show ((E.do1 (.box b l)).g d).bare = true from hd)]
  rfl
 | newbox b l =>
  have hp : ((E.do1 (.newbox b l)).g d).bare = true := by rw [g_newbox, dropBox_same (plain_atBox hd b)]; exact hd
  refine ⟨?_, hp⟩
  rw [set_plain hp, set_plain hd]
  simp only [Env.do1]
  rw [amap_aset, dropBox_same (hb b (by simp [Cmd.nbs]))]
 | fzbox b =>
  rw [set_plain hd]
  simp only [Env.do1]
  split
  ·rename_i l hl
   have hp : ((⟨E.nt, amap (refBox b l) E.sl, boxOut E.bx b⟩ : Env).g d).bare = true := by
    rw [g_amap (refBox b l) rfl E.nt E.sl _ E.bx d]
    show (refBox b l (E.g d)).bare = true
    rw [refBox_same (plain_atBox hd b)]; exact hd
   refine ⟨?_, hp⟩
   rw [set_plain hp]
   dsimp only
   rw [amap_aset, refBox_same (hb b (by simp [Cmd.nbs]))]
  ·exact ⟨(set_plain hd sv).symm, hd⟩

theorem set_run {d : Nat} {sv : SV} : ∀ {cs : List Cmd} {E : Env}, (E.g d).bare = true → d ∉ keysL cs → (∀ s ∈ keysL cs, sv.refs s = false) → (∀ b ∈ nbsL cs, sv.atBox b = false) →
  (E.set d sv).run cs = (E.run cs).set d sv ∧ ((E.run cs).g d).bare = true ∧ hitsL (E.set d sv) cs = hitsL E cs
 | [], E, hd, _, _, _ => ⟨rfl, hd, rfl⟩
 | c :: cs, E, hd, hk, ht, hb => by
  simp only [keysL, List.mem_append, not_or] at hk
  have ht1 : ∀ s ∈ c.keys, sv.refs s = false := fun s hs => ht s (by simp [keysL, hs])
  have hb1 : ∀ s ∈ c.nbs, sv.atBox s = false := fun s hs => hb s (by simp [nbsL, hs])
  obtain ⟨h1, h2⟩ := set_do1 (E := E) (c := c) hd hk.1 ht1 hb1
  obtain ⟨h3, h4, h5⟩ := set_run (cs := cs) (E := E.do1 c) h2 hk.2 (fun s hs => ht s (by simp [keysL, hs])) (fun s hs => hb s (by simp [nbsL, hs]))
  have old : ∀ u, alook E.sl d = some u → ∀ s, u.refs s = false := fun u hu s => by rw [← g_some hu]; exact plain_refs hd s
  have oldb : ∀ u, alook E.sl d = some u → ∀ s, u.atBox s = false := fun u hu s => by rw [← g_some hu]; exact plain_atBox hd s
  have h6 : c.hits (E.set d sv) = c.hits E := by
   have hsl : (E.set d sv).sl = aset E.sl d sv := by rw [set_plain hd]
   cases c with
   | set d' sv' =>
    simp only [Cmd.keys, List.mem_singleton] at hk
    simp only [Cmd.hits, set_g hd sv hk.1, hsl, refsIn_aset (ht1 d' (by simp [Cmd.keys])) (fun u hu => old u hu d')]
   | fz s => simp only [Cmd.hits, hsl, refsIn_aset (ht1 s (by simp [Cmd.keys])) (fun u hu => old u hu s)]
   | box b l => rfl
   | newbox b l => simp only [Cmd.hits, hsl, atIn_aset (hb1 b (by simp [Cmd.nbs])) (fun u hu => oldb u hu b)]
   | fzbox b => simp only [Cmd.hits, hsl, atIn_aset (hb1 b (by simp [Cmd.nbs])) (fun u hu => oldb u hu b)]
  refine ⟨?_, h4, ?_⟩
  ·show ((E.set d sv).do1 c).run cs = _
   rw [h1]; exact h3
  ·simp only [hitsL, h6, h1, h5]

end
end Go.Proofs.YtecdijlfnnminaaGreatDoor.Eng
namespace Go.Proofs.YtecdijlfnnminaaGreatDoor.Eng
open Go Go.RowKit
set_option linter.unusedVariables false
set_option linter.unusedSimpArgs false

section
universe u
variable {R : Type u} (G : Gam) (T : Tys) (sh : List Nat)

/-- The orders of one operation. -/
def stepC (all : List Oper) (o : Oper) (E : Env) : Option (List Cmd) :=
 match wants all E o.guard with
 | some b => if b = true then evOp T E.vw G sh o some else (match o.dst with
  | some d => bif Nat.blt d E.nt then some [.set d (.tup [])] else none
  | none => some [])
 | none => none
end

theorem hasN_iff {n : Nat} : ∀ {l : List Nat}, hasN n l = true ↔ n ∈ l
 | [] => by simp [hasN]
 | m :: r => by
  simp only [hasN, Bool.or_eq_true, List.mem_cons, hasN_iff (l := r)]
  constructor
  ·rintro (h | h)
   ·exact .inl (Nat.eq_of_beq_eq_true h)
   ·exact .inr h
  ·rintro (h | h)
   ·subst h; exact .inl (beq_self _)
   ·exact .inr h
theorem disj_out {l r : List Nat} (h : disj l r = true) : ∀ n ∈ l, n ∉ r := by
 induction l with
 | nil => simp
 | cons m l ih =>
  simp only [disj, Bool.and_eq_true, Bool.not_eq_true'] at h
  intro n hn hr
  rcases List.mem_cons.1 hn with rfl | hn
  ·rw [hasN_iff.2 hr] at h; cases h.1
  ·exact ih h.2 n hn hr

theorem rsOf_self {E : Env} {t : Nat} : ∀ {ts : List Nat}, t ∈ ts → t ∈ rsOf E ts ∧ (∀ s ∈ (E.g t).tgts, s ∈ rsOf E ts) ∧ (∀ b ∈ (E.g t).tgtB, b ∈ rbOf E ts)
 | [], h => by simp at h
 | u :: r, h => by
  rcases List.mem_cons.1 h with rfl | h
  ·exact ⟨by simp [rsOf], fun s hs => by simp [rsOf, hs], fun b hb => by simp [rbOf, hb]⟩
  ·obtain ⟨h1, h2, h3⟩ := rsOf_self (E := E) h
   exact ⟨by simp [rsOf, h1], fun s hs => by simp [rsOf, h2 s hs], fun b hb => by simp [rbOf, h3 b hb]⟩
theorem rs_same {E E' : Env} : ∀ {ts : List Nat}, (∀ t ∈ ts, E'.g t = E.g t) → rsOf E' ts = rsOf E ts ∧ rbOf E' ts = rbOf E ts
 | [], _ => ⟨rfl, rfl⟩
 | t :: r, h => by
  obtain ⟨h1, h2⟩ := rs_same (ts := r) (fun t' ht => h t' (by simp [ht]))
  simp only [rsOf, rbOf, h t (by simp), h1, h2, and_self]

theorem same_of {p : Bool} {E E' : Env} {ts : List Nat} (h : ∀ n ∈ rsOf E ts, E'.g n = E.g n) (hb : p = true → ∀ b ∈ rbOf E ts, alook E'.bx b = alook E.bx b) : ∀ t ∈ ts, Same p E.vw E'.vw t := by
 intro t ht
 obtain ⟨h1, h2, h3⟩ := rsOf_self (E := E) ht
 refine ⟨h t h1, fun s hs => h s (h2 s ?_), fun hp b hg => hb hp b (h3 b (atBox_tgtB.1 hg))⟩
 ·have hg : (E.g t).tgts = [s] := by
   rcases hs with hs | ⟨i, e, x, hs⟩
   ·have hs' : E.g t = .alias s := hs
    rw [hs']; rfl
   ·have hs' : E.g t = .eref s i e x := hs
    rw [hs']; rfl
  rw [hg]; simp

theorem tmpsOf_mem {t : Nat} : ∀ {l : List Operand}, Operand.tmp t ∈ l → t ∈ tmpsOf l
 | [], h => by simp at h
 | x :: r, h => by
  rcases List.mem_cons.1 h with rfl | h
  ·simp [tmpsOf]
  ·have := tmpsOf_mem h
   cases x <;> simp [tmpsOf, this]

section
variable {G : Gam} {T : Tys} {sh : List Nat} {all : List Oper}

theorem wants_same {E E' : Env} {g : Option (Nat × Bool)} (h : ∀ t ∈ gtmp all g, E'.g t = E.g t) : wants all E' g = wants all E g := by
 unfold wants
 cases g with
 | none => rfl
 | some p =>
  obtain ⟨j, want⟩ := p
  simp only [gtmp] at h
  dsimp only
  cases ho : all[j]? with
  | none => rfl
  | some o =>
   rw [ho] at h
   dsimp only at h ⊢
   cases hd : o.dst with
   | none => rfl
   | some d =>
    rw [hd] at h
    dsimp only at h ⊢
    rw [h d (by simp)]

theorem stepC_same {E E' : Env} {o : Oper} (hnt : E'.nt = E.nt) (h : ∀ t ∈ seen all o, Same o.op.peeks E.vw E'.vw t) : stepC G T sh all o E' = stepC G T sh all o E := by
 unfold stepC
 rw [wants_same (E := E) (E' := E') (fun t ht => (h t (by simp [seen, ht])).1), hnt, evOp_same (v := E.vw) (v' := E'.vw) hnt (fun t ht => h t (by simp [seen, tmpsOf_mem ht]))]

theorem quiet_some {E : Env} {cs : List Cmd} {q : Nat × List Nat × List Nat} (h : quietOf E cs = some q) : ∃ sv, cs = [.set q.1 sv] ∧ (E.g q.1).bare = true ∧ q.2.1 = sv.tgts ∧ q.2.2 = sv.tgtB := by
 unfold quietOf at h
 split at h
 ·rename_i d sv
  cases hb : (E.g d).bare
  ·rw [hb] at h; cases h
  ·rw [hb] at h; cases h; exact ⟨sv, rfl, hb, rfl, rfl⟩
 ·cases h

theorem quiet_same {E E' : Env} {cs : List Cmd} (h : ∀ d ∈ keysL cs, E'.g d = E.g d) : quietOf E' cs = quietOf E cs := by
 unfold quietOf
 split
 ·rename_i d sv; rw [h d (by simp [keysL, Cmd.keys])]
 ·rfl

theorem half_out {q : Nat × List Nat × List Nat} {f g : Foot} (h : half q f g = true) : q.1 ∉ g.rs ∧ q.1 ∉ g.ks ∧ q.1 ∉ g.hs ∧ (∀ n ∈ f.rs, n ∉ g.hs) ∧ (∀ n ∈ q.2.1, n ∉ g.ks) ∧ (∀ n ∈ f.rb, n ∉ g.bs) ∧ (∀ n ∈ q.2.2, n ∉ g.ns) := by
 simp only [half, Bool.and_eq_true, Bool.not_eq_true'] at h
 obtain ⟨⟨⟨⟨⟨⟨h1, h2⟩, h3⟩, h4⟩, h5⟩, h6⟩, h7⟩ := h
 have no : ∀ {n : Nat} {l : List Nat}, hasN n l = false → n ∉ l := fun hn hm => by rw [hasN_iff.2 hm] at hn; cases hn
 exact ⟨no h1, no h2, no h3, disj_out h4, disj_out h5, disj_out h6, disj_out h7⟩

theorem al_run {E : Env} {cs : List Cmd} {d : Nat} (h : alOf E cs = some d) : (∃ l, cs = [.newbox d l, .set d (.ptr d 0)] ∧ E.run cs = ⟨E.nt, aset E.sl d (.ptr d 0), aset E.bx d l⟩) ∧ (E.g d).bare = true ∧ atIn d E.sl = [] := by
 unfold alOf at h
 split at h
 ·rename_i b l d' c
  cases hc : (Nat.beq b d' && Nat.beq c d' && (E.g d').bare && (atIn d' E.sl).isEmpty)
  ·rw [hc] at h; cases h
  ·rw [hc] at h
   cases h
   simp only [Bool.and_eq_true] at hc
   obtain ⟨⟨⟨h1, h2⟩, h3⟩, h4⟩ := hc
   have e1 := Nat.eq_of_beq_eq_true h1
   have e2 := Nat.eq_of_beq_eq_true h2
   subst e1
   subst e2
   have hat : atIn c E.sl = [] := List.isEmpty_iff.1 h4
   refine ⟨⟨l, rfl, ?_⟩, h3, hat⟩
   have hid : ∀ L : List (Nat × SV), atIn c L = [] → amap (dropBox c) L = L := by
    intro L
    induction L with
    | nil => intro _; rfl
    | cons x L ih =>
     obtain ⟨k, u⟩ := x
     intro hL
     simp only [atIn] at hL
     cases hu : u.atBox c
     ·rw [hu] at hL
      simp only [amap, dropBox_same hu, ih hL]
     ·rw [hu] at hL; cases hL
   have hnb : E.do1 (.newbox c l) = ⟨E.nt, E.sl, aset E.bx c l⟩ := by simp only [Env.do1, hid _ hat]
   show (E.do1 (.newbox c l)).set c (.ptr c 0) = _
   rw [hnb]
   exact set_plain (E := ⟨E.nt, E.sl, aset E.bx c l⟩) (show ((⟨E.nt, E.sl, aset E.bx c l⟩ : Env).g c).bare = true from h3) _
 ·cases h

theorem tame_same {E E' : Env} : ∀ {cs : List Cmd}, (∀ d ∈ keysL cs, E'.g d = E.g d) → tameOf E' cs = tameOf E cs
 | [], _ => rfl
 | .set d sv :: r, h => by
  simp only [tameOf, h d (by simp [keysL, Cmd.keys]), tame_same (cs := r) (fun e he => h e (by simp [keysL, he]))]
 | .box b l :: r, h => by
  simp only [tameOf, tame_same (cs := r) (fun e he => h e (by simp [keysL, he]))]
 | .fz _ :: _, _ => rfl
 | .newbox _ _ :: _, _ => rfl
 | .fzbox _ :: _, _ => rfl
def upd : List Cmd → Env → Env
 | [], E => E
 | .set d sv :: r, E => upd r ⟨E.nt, aset E.sl d sv, E.bx⟩
 | .box b l :: r, E => upd r ⟨E.nt, E.sl, aset E.bx b l⟩
 | _ :: r, E => upd r E
theorem hasN_false {n : Nat} {l : List Nat} (h : hasN n l = false) : n ∉ l := fun hn => by rw [hasN_iff.2 hn] at h; cases h
theorem tame_run : ∀ {cs : List Cmd} {E : Env}, tameOf E cs = true → E.run cs = upd cs E ∧ hitsL E cs = keysL cs
 | [], _, _ => ⟨rfl, rfl⟩
 | .set d sv :: r, E, h => by
  simp only [tameOf, Bool.and_eq_true, Bool.not_eq_true'] at h
  obtain ⟨h1, h2, h3⟩ := h
  have e : E.do1 (.set d sv) = ⟨E.nt, aset E.sl d sv, E.bx⟩ := set_plain h1 sv
  have h4 : tameOf (E.do1 (.set d sv)) r = true := (tame_same (E := E) (E' := E.do1 (.set d sv)) (fun k hk => set_g h1 sv (by rintro rfl; exact hasN_false h2 hk))).trans h3
  obtain ⟨k1, k2⟩ := tame_run h4
  refine ⟨?_, ?_⟩
  ·show (E.do1 (.set d sv)).run r = _
   rw [k1, e]
   rfl
  ·simp only [hitsL, Cmd.hits, keysL, Cmd.keys, plain_own h1, cond_false]
   rw [k2]
 | .box b l :: r, E, h => by
  have h4 : tameOf (E.do1 (.box b l)) r = true := (tame_same (E := E) (E' := E.do1 (.box b l)) (fun k hk => rfl)).trans h
  obtain ⟨k1, k2⟩ := tame_run h4
  refine ⟨?_, ?_⟩
  ·show (E.do1 (.box b l)).run r = _
   rw [k1]
   rfl
  ·simp only [hitsL, Cmd.hits, keysL, Cmd.keys, List.nil_append]
   rw [k2]
 | .fz _ :: _, _, h => by cases h
 | .newbox _ _ :: _, _, h => by cases h
 | .fzbox _ :: _, _, h => by cases h
theorem upd_set {d : Nat} {sv : SV} : ∀ {cs : List Cmd} {E : Env}, d ∉ keysL cs → upd cs ⟨E.nt, aset E.sl d sv, E.bx⟩ = ⟨(upd cs E).nt, aset (upd cs E).sl d sv, (upd cs E).bx⟩
 | [], _, _ => rfl
 | .set e sv' :: r, E, h => by
  have h1 : d ≠ e := by rintro rfl; exact h (by simp [keysL, Cmd.keys])
  simp only [upd]
  rw [aset_comm _ _ h1 E.sl]
  exact upd_set (cs := r) (E := ⟨E.nt, aset E.sl e sv', E.bx⟩) (fun hh => h (by simp [keysL, hh]))
 | .box b l :: r, E, h => upd_set (cs := r) (E := ⟨E.nt, E.sl, aset E.bx b l⟩) (fun hh => h (by simp [keysL, hh]))
 | .fz _ :: r, E, h => upd_set (cs := r) (E := E) (fun hh => h (by simp [keysL, hh]))
 | .newbox _ _ :: r, E, h => upd_set (cs := r) (E := E) (fun hh => h (by simp [keysL, hh]))
 | .fzbox _ :: r, E, h => upd_set (cs := r) (E := E) (fun hh => h (by simp [keysL, hh]))
theorem upd_box {b : Nat} {l : List V} : ∀ {cs : List Cmd} {E : Env}, b ∉ bxsL cs → upd cs ⟨E.nt, E.sl, aset E.bx b l⟩ = ⟨(upd cs E).nt, (upd cs E).sl, aset (upd cs E).bx b l⟩
 | [], _, _ => rfl
 | .set e sv' :: r, E, h => upd_box (cs := r) (E := ⟨E.nt, aset E.sl e sv', E.bx⟩) (fun hh => h (by simp [bxsL, hh]))
 | .box c l' :: r, E, h => by
  have h1 : b ≠ c := by rintro rfl; exact h (by simp [bxsL, Cmd.bxs])
  simp only [upd]
  rw [aset_comm _ _ h1 E.bx]
  exact upd_box (cs := r) (E := ⟨E.nt, E.sl, aset E.bx c l'⟩) (fun hh => h (by simp [bxsL, hh]))
 | .fz _ :: r, E, h => upd_box (cs := r) (E := E) (fun hh => h (by simp [bxsL, hh]))
 | .newbox _ _ :: r, E, h => upd_box (cs := r) (E := E) (fun hh => h (by simp [bxsL, hh]))
 | .fzbox _ :: r, E, h => upd_box (cs := r) (E := E) (fun hh => h (by simp [bxsL, hh]))
theorem upd_comm : ∀ {cj ci : List Cmd} {E : Env}, (∀ n ∈ keysL cj, n ∉ keysL ci) → (∀ n ∈ bxsL cj, n ∉ bxsL ci) → upd ci (upd cj E) = upd cj (upd ci E)
 | [], _, _, _, _ => rfl
 | .set d sv :: r, ci, E, h1, h2 => by
  show upd ci (upd r ⟨E.nt, aset E.sl d sv, E.bx⟩) = upd r ⟨(upd ci E).nt, aset (upd ci E).sl d sv, (upd ci E).bx⟩
  rw [← upd_set (h1 d (by simp [keysL, Cmd.keys]))]
  exact upd_comm (fun n hn => h1 n (by simp [keysL, hn])) (fun n hn => h2 n (by simp [bxsL, hn]))
 | .box b l :: r, ci, E, h1, h2 => by
  show upd ci (upd r ⟨E.nt, E.sl, aset E.bx b l⟩) = upd r ⟨(upd ci E).nt, (upd ci E).sl, aset (upd ci E).bx b l⟩
  rw [← upd_box (h2 b (by simp [bxsL, Cmd.bxs]))]
  exact upd_comm (fun n hn => h1 n (by simp [keysL, hn])) (fun n hn => h2 n (by simp [bxsL, hn]))
 | .fz _ :: r, _, _, h1, h2 => upd_comm (cj := r) (fun n hn => h1 n (by simp [keysL, hn])) (fun n hn => h2 n (by simp [bxsL, hn]))
 | .newbox _ _ :: r, _, _, h1, h2 => upd_comm (cj := r) (fun n hn => h1 n (by simp [keysL, hn])) (fun n hn => h2 n (by simp [bxsL, hn]))
 | .fzbox _ :: r, _, _, h1, h2 => upd_comm (cj := r) (fun n hn => h1 n (by simp [keysL, hn])) (fun n hn => h2 n (by simp [bxsL, hn]))
theorem tame_al {E : Env} : ∀ {cs : List Cmd}, tameOf E cs = true → alOf E cs = none
 | [], _ => rfl
 | .set _ _ :: _, _ => rfl
 | .box _ _ :: _, _ => rfl
 | .fz _ :: _, h => by cases h
 | .newbox _ _ :: _, h => by cases h
 | .fzbox _ :: _, h => by cases h

/-- Two that fill slots and boxes of their own change places. -/
theorem swap_tame {E : Env} {p o : Oper} {cj ci : List Cmd} (hj : stepC G T sh all p E = some cj) (hi : stepC G T sh all o (E.run cj) = some ci) (tj : tameOf E cj = true) (ti : tameOf (E.run cj) ci = true)
  (h1 : ∀ n ∈ keysL cj, n ∉ keysL ci) (h2 : ∀ n ∈ bxsL cj, n ∉ bxsL ci) (h3 : ∀ n ∈ (foot all o (E.run cj) ci).rs, n ∉ keysL cj) (h4 : ∀ n ∈ (foot all p E cj).rs, n ∉ keysL ci)
  (h5 : ∀ n ∈ (foot all o (E.run cj) ci).rb, n ∉ bxsL cj) (h6 : ∀ n ∈ (foot all p E cj).rb, n ∉ bxsL ci) :
  stepC G T sh all o E = some ci ∧ foot all o E ci = foot all o (E.run cj) ci ∧ stepC G T sh all p (E.run ci) = some cj ∧ foot all p (E.run ci) cj = foot all p E cj ∧ (E.run ci).run cj = (E.run cj).run ci := by
 obtain ⟨uj, kj⟩ := tame_run tj
 obtain ⟨_, ki⟩ := tame_run ti
 have gj : ∀ n, n ∉ keysL cj → (E.run cj).g n = E.g n := fun n hn => run_g (by rw [kj]; exact hn)
 have ti0 : tameOf E ci = true := by
  rw [tame_same (E := E.run cj) (E' := E) (fun d hd => (gj d (fun hh => h1 d hh hd)).symm)]; exact ti
 obtain ⟨ui, ki0⟩ := tame_run ti0
 have gi : ∀ n, n ∉ keysL ci → (E.run ci).g n = E.g n := fun n hn => run_g (by rw [ki0]; exact hn)
 have tj1 : tameOf (E.run ci) cj = true := by
  rw [tame_same (E := E) (E' := E.run ci) (fun d hd => gi d (h1 d hd))]; exact tj
 obtain ⟨uj1, kj1⟩ := tame_run tj1
 obtain ⟨ui1, _⟩ := tame_run ti
 have s1 : ∀ n ∈ rsOf (E.run cj) (seen all o), E.g n = (E.run cj).g n := fun n hn => (gj n (h3 n hn)).symm
 have si : stepC G T sh all o E = some ci := by
  rw [stepC_same (E := E.run cj) (E' := E) (run_nt cj E).symm (same_of s1 (fun hp b hb => (run_b (h5 b (by unfold foot; dsimp only; rw [hp]; exact hb))).symm))]; exact hi
 obtain ⟨r1, r2⟩ := rs_same (E := E.run cj) (E' := E) (fun t ht => s1 t (rsOf_self ht).1)
 have fi : foot all o E ci = foot all o (E.run cj) ci := by
  unfold foot
  rw [r1, r2, ki, ki0, quiet_same (E := E.run cj) (E' := E) (fun d hd => (gj d (fun hh => h1 d hh hd)).symm), tame_al ti, tame_al ti0, ti, ti0]
 have s2 : ∀ n ∈ rsOf E (seen all p), (E.run ci).g n = E.g n := fun n hn => gi n (h4 n hn)
 have sj : stepC G T sh all p (E.run ci) = some cj := by
  rw [stepC_same (E := E) (E' := E.run ci) (run_nt ci E) (same_of s2 (fun hp b hb => run_b (h6 b (by unfold foot; dsimp only; rw [hp]; exact hb))))]; exact hj
 obtain ⟨r3, r4⟩ := rs_same (E := E) (E' := E.run ci) (fun t ht => s2 t (rsOf_self ht).1)
 have fj : foot all p (E.run ci) cj = foot all p E cj := by
  unfold foot
  rw [r3, r4, kj, kj1, quiet_same (E := E) (E' := E.run ci) (fun d hd => gi d (h1 d hd)), tame_al tj, tame_al tj1, tj, tj1]
 refine ⟨si, fi, sj, fj, ?_⟩
 rw [uj1, ui1, ui, uj]
 exact (upd_comm h1 h2).symm

/-- Two boxes made anew change places. -/
theorem swap_al {E : Env} {p o : Oper} {cj ci : List Cmd} (hj : stepC G T sh all p E = some cj) (hi : stepC G T sh all o (E.run cj) = some ci) {d e : Nat} (hd : (foot all p E cj).al = some d) (he : (foot all o (E.run cj) ci).al = some e)
  (h1 : d ≠ e) (h2 : d ∉ (foot all o (E.run cj) ci).rs) (h3 : e ∉ (foot all p E cj).rs) (h4 : d ∉ (foot all o (E.run cj) ci).rb) (h5 : e ∉ (foot all p E cj).rb) :
  stepC G T sh all o E = some ci ∧ foot all o E ci = foot all o (E.run cj) ci ∧ stepC G T sh all p (E.run ci) = some cj ∧ foot all p (E.run ci) cj = foot all p E cj ∧ (E.run ci).run cj = (E.run cj).run ci := by
 have hd' : alOf E cj = some d := hd
 have he' : alOf (E.run cj) ci = some e := he
 obtain ⟨⟨lj, cj1, rj⟩, bj, aj⟩ := al_run hd'
 obtain ⟨⟨li, ci1, ri⟩, bi, ai⟩ := al_run he'
 -- what each leaves alone
 have gj : ∀ n, n ≠ d → (E.run cj).g n = E.g n := fun n hn => by
  rw [rj]; unfold Env.g; simp only [alook_aset]; rw [if_neg (Ne.symm hn)]
 have bxj : ∀ b, b ≠ d → alook (E.run cj).bx b = alook E.bx b := fun b hb => by
  rw [rj]; simp only [alook_aset]; rw [if_neg (Ne.symm hb)]
 have bi0 : (E.g e).bare = true := by rw [← gj e (Ne.symm h1)]; exact bi
 have old : ∀ {x : Nat}, (E.g x).bare = true → ∀ u, alook E.sl x = some u → ∀ s, u.atBox s = false := fun {x} hx u hu s => by
  rw [← g_some hu]; exact plain_atBox hx s
 have pne : ∀ {x y : Nat}, x ≠ y → (SV.ptr x 0).atBox y = false := fun h => beq_false h
 have ai0 : atIn e E.sl = [] := by
  have : atIn e (E.run cj).sl = atIn e E.sl := by rw [rj]; exact atIn_aset (pne h1) (fun u hu => old bj u hu e)
  rw [← this]; exact ai
 have hie : alOf E ci = some e := by
  rw [ci1]; unfold alOf; simp [beq_self, bi0, ai0]
 obtain ⟨⟨li', ci1', ri0⟩, _, _⟩ := al_run hie
 have hl : li' = li := by rw [ci1] at ci1'; simp only [List.cons.injEq, Cmd.newbox.injEq] at ci1'; exact ci1'.1.2.symm
 subst hl
 have gi : ∀ n, n ≠ e → (E.run ci).g n = E.g n := fun n hn => by
  rw [ri0]; unfold Env.g; simp only [alook_aset]; rw [if_neg (Ne.symm hn)]
 have bxi : ∀ b, b ≠ e → alook (E.run ci).bx b = alook E.bx b := fun b hb => by
  rw [ri0]; simp only [alook_aset]; rw [if_neg (Ne.symm hb)]
 have aj1 : atIn d (E.run ci).sl = [] := by
  have : atIn d (E.run ci).sl = atIn d E.sl := by rw [ri0]; exact atIn_aset (pne (Ne.symm h1)) (fun u hu => old bi0 u hu d)
  rw [this]; exact aj
 have bj1 : ((E.run ci).g d).bare = true := by rw [gi d h1]; exact bj
 have hjd : alOf (E.run ci) cj = some d := by
  rw [cj1]; unfold alOf; simp [beq_self, bj1, aj1]
 -- what the later one sees
 have s1 : ∀ n ∈ rsOf (E.run cj) (seen all o), E.g n = (E.run cj).g n := fun n hn => (gj n (by rintro rfl; exact h2 hn)).symm
 have si : stepC G T sh all o E = some ci := by
  rw [stepC_same (E := E.run cj) (E' := E) (by rw [rj]) (same_of s1 (fun hp b hb => (bxj b (by
   rintro rfl
   refine h4 ?_
   unfold foot; dsimp only; rw [hp]; exact hb)).symm))]; exact hi
 have ts : ∀ t ∈ seen all o, E.g t = (E.run cj).g t := fun t ht => s1 t (rsOf_self ht).1
 obtain ⟨r1, r2⟩ := rs_same ts
 have hits : ∀ {E' : Env} {x : Nat} {l : List V}, (E'.g x).bare = true → atIn x E'.sl = [] → hitsL E' [.newbox x l, .set x (.ptr x 0)] = [x] := by
  intro E' x l hb ha
  have hg : ((E'.do1 (.newbox x l)).g x).isOwn = false := by
   rw [g_newbox, dropBox_same (plain_atBox hb x)]; exact plain_own hb
  simp only [hitsL, Cmd.hits, ha, hg, cond_false, List.nil_append, List.append_nil]
 have fi : foot all o E ci = foot all o (E.run cj) ci := by
  unfold foot
  rw [r1, r2, hie, he']
  have : hitsL E ci = hitsL (E.run cj) ci := by rw [ci1, hits bi0 ai0, hits bi ai]
  rw [this]
  rw [ci1]
  rfl
 -- what the earlier one sees
 have s2 : ∀ n ∈ rsOf E (seen all p), (E.run ci).g n = E.g n := fun n hn => gi n (by rintro rfl; exact h3 hn)
 have sj : stepC G T sh all p (E.run ci) = some cj := by
  rw [stepC_same (E := E) (E' := E.run ci) (by rw [ri0]) (same_of s2 (fun hp b hb => bxi b (by
   rintro rfl
   refine h5 ?_
   unfold foot; dsimp only; rw [hp]; exact hb)))]; exact hj
 have ts2 : ∀ t ∈ seen all p, (E.run ci).g t = E.g t := fun t ht => s2 t (rsOf_self ht).1
 obtain ⟨r3, r4⟩ := rs_same ts2
 have fj : foot all p (E.run ci) cj = foot all p E cj := by
  unfold foot
  rw [r3, r4, hjd, hd']
  have : hitsL (E.run ci) cj = hitsL E cj := by rw [cj1, hits bj1 aj1, hits bj aj]
  rw [this]
  rw [cj1]
  rfl
 obtain ⟨⟨lj', cj1', rji⟩, _, _⟩ := al_run hjd
 have hl2 : lj' = lj := by rw [cj1] at cj1'; simp only [List.cons.injEq, Cmd.newbox.injEq] at cj1'; exact cj1'.1.2.symm
 subst hl2
 refine ⟨si, fi, sj, fj, ?_⟩
 rw [rji, ri, ri0, rj]
 simp only [Env.mk.injEq, true_and]
 exact ⟨aset_comm _ _ (Ne.symm h1) _, aset_comm _ _ (Ne.symm h1) _⟩

theorem al_same {E : Env} {d : Nat} {sv : SV} {cs : List Cmd} (hd : (E.g d).bare = true) (hk : d ∉ keysL cs) (hb : ∀ b ∈ nbsL cs, sv.atBox b = false) : alOf (E.set d sv) cs = alOf E cs := by
 unfold alOf
 split
 ·rename_i b l d' c
  have hne : d ≠ d' := by rintro rfl; exact hk (by simp [keysL, Cmd.keys])
  have hg : (E.set d sv).g d' = E.g d' := set_g hd sv hne
  have hsb : sv.atBox b = false := hb b (by simp [nbsL, Cmd.nbs])
  rw [hg]
  cases hbd : Nat.beq b d'
  ·rfl
  ·have e := Nat.eq_of_beq_eq_true hbd
   subst e
   have ha : atIn b (E.set d sv).sl = atIn b E.sl := by
    rw [set_plain hd]
    exact atIn_aset hsb (fun u hu => by rw [← g_some hu]; exact plain_atBox hd b)
   rw [ha]
 ·rfl

/-- Two neighbours that are apart change places. -/
theorem swap {E : Env} {p o : Oper} {cj ci : List Cmd} (hj : stepC G T sh all p E = some cj) (hi : stepC G T sh all o (E.run cj) = some ci) (hap : apart (foot all p E cj) (foot all o (E.run cj) ci) = true) :
  stepC G T sh all o E = some ci ∧ foot all o E ci = foot all o (E.run cj) ci ∧ stepC G T sh all p (E.run ci) = some cj ∧ foot all p (E.run ci) cj = foot all p E cj ∧ (E.run ci).run cj = (E.run cj).run ci := by
 simp only [apart, Bool.or_eq_true] at hap
 have noN : ∀ {n : Nat} {l : List Nat}, hasN n l = false → n ∉ l := fun hn hm => by rw [hasN_iff.2 hm] at hn; cases hn
 rcases hap with ((hap | hap) | hap) | hap
 ·-- the earlier one is quiet
  split at hap
  ·rename_i q hq
   obtain ⟨d, tg, tb⟩ := q
   obtain ⟨sv, rfl, hbare, e1, e2⟩ := quiet_some hq
   obtain ⟨h1, h2, h3, h4, h5, h6, h7⟩ := half_out hap
   dsimp only at h1 h2 h3 h5 h7 hbare e1 e2
   subst e1 e2
   have hE1 : E.run [.set d sv] = E.set d sv := rfl
   rw [hE1] at hi h1 h3 h4 ⊢
   have hr1 : ∀ s ∈ keysL ci, sv.refs s = false := fun s hs => by
    cases hr : sv.refs s
    ·rfl
    ·exact absurd hs (h5 s (refs_tgts.1 hr))
   have hr2 : ∀ s ∈ nbsL ci, sv.atBox s = false := fun s hs => by
    cases hr : sv.atBox s
    ·rfl
    ·exact absurd hs (h7 s (atBox_tgtB.1 hr))
   obtain ⟨c1, c2, c3⟩ := set_run (cs := ci) (E := E) (d := d) (sv := sv) hbare h2 hr1 hr2
   -- what the later one sees
   have gs : ∀ n, d ≠ n → E.g n = (E.set d sv).g n := fun n hn => (set_g hbare sv hn).symm
   have s1 : ∀ n ∈ rsOf (E.set d sv) (seen all o), E.g n = (E.set d sv).g n := fun n hn => gs n (by rintro rfl; exact h1 hn)
   have si : stepC G T sh all o E = some ci := by
    rw [stepC_same (E := E.set d sv) (E' := E) rfl (same_of s1 (fun _ b _ => rfl))]; exact hi
   have ts : ∀ t ∈ seen all o, E.g t = (E.set d sv).g t := fun t ht => s1 t (rsOf_self ht).1
   obtain ⟨r1, r2⟩ := rs_same ts
   have fi : foot all o E ci = foot all o (E.set d sv) ci := by
    unfold foot
    rw [r1, r2, c3, quiet_same (E := E.set d sv) (E' := E) (fun k hk => gs k (by rintro rfl; exact h2 hk)), al_same hbare h2 (fun b hb => hr2 b hb), tame_same (E := E.set d sv) (E' := E) (fun k hk => gs k (by rintro rfl; exact h2 hk))]
   -- what the earlier one sees
   have h4' : ∀ n ∈ rsOf E (seen all p), n ∉ hitsL E ci := fun n hn => by rw [← c3]; exact h4 n hn
   have s2 : ∀ n ∈ rsOf E (seen all p), (E.run ci).g n = E.g n := fun n hn => run_g (h4' n hn)
   have sj : stepC G T sh all p (E.run ci) = some [.set d sv] := by
    rw [stepC_same (E := E) (E' := E.run ci) (run_nt ci E) (same_of s2 (fun hp b hb => run_b (h6 b (by unfold foot; dsimp only; rw [hp]; exact hb))))]; exact hj
   have ts2 : ∀ t ∈ seen all p, (E.run ci).g t = E.g t := fun t ht => s2 t (rsOf_self ht).1
   obtain ⟨r3, r4⟩ := rs_same ts2
   have fj : foot all p (E.run ci) [.set d sv] = foot all p E [.set d sv] := by
    unfold foot
    rw [r3, r4]
    simp only [hitsL, Cmd.hits, quietOf, tameOf, plain_own hbare, plain_own c2, hbare, c2]
    rfl
   exact ⟨si, fi, sj, fj, c1.symm⟩
  ·cases hap
 ·-- the later one is quiet
  split at hap
  ·rename_i q hq
   obtain ⟨d, tg, tb⟩ := q
   obtain ⟨sv, rfl, hbare, e1, e2⟩ := quiet_some hq
   obtain ⟨h1, h2, h3, h4, h5, h6, h7⟩ := half_out hap
   dsimp only at h1 h2 h3 h5 h7 hbare e1 e2
   subst e1 e2
   have hbare0 : (E.g d).bare = true := by rw [← run_g (cs := cj) h3]; exact hbare
   have hr1 : ∀ s ∈ keysL cj, sv.refs s = false := fun s hs => by
    cases hr : sv.refs s
    ·rfl
    ·exact absurd hs (h5 s (refs_tgts.1 hr))
   have hr2 : ∀ s ∈ nbsL cj, sv.atBox s = false := fun s hs => by
    cases hr : sv.atBox s
    ·rfl
    ·exact absurd hs (h7 s (atBox_tgtB.1 hr))
   obtain ⟨c1, c2, c3⟩ := set_run (cs := cj) (E := E) (d := d) (sv := sv) hbare0 h2 hr1 hr2
   have s1 : ∀ n ∈ rsOf (E.run cj) (seen all o), E.g n = (E.run cj).g n := fun n hn => (run_g (h4 n hn)).symm
   have si : stepC G T sh all o E = some [.set d sv] := by
    rw [stepC_same (E := E.run cj) (E' := E) (run_nt cj E).symm (same_of s1 (fun hp b hb => (run_b (h6 b (by unfold foot; dsimp only; rw [hp]; exact hb))).symm))]; exact hi
   have ts : ∀ t ∈ seen all o, E.g t = (E.run cj).g t := fun t ht => s1 t (rsOf_self ht).1
   obtain ⟨r1, r2⟩ := rs_same ts
   have fi : foot all o E [.set d sv] = foot all o (E.run cj) [.set d sv] := by
    unfold foot
    rw [r1, r2]
    simp only [hitsL, Cmd.hits, quietOf, tameOf, plain_own hbare, plain_own hbare0, hbare, hbare0]
    rfl
   have hE1 : E.run [.set d sv] = E.set d sv := rfl
   rw [hE1]
   have gs : ∀ n, d ≠ n → (E.set d sv).g n = E.g n := fun n hn => set_g hbare0 sv hn
   have s2 : ∀ n ∈ rsOf E (seen all p), (E.set d sv).g n = E.g n := fun n hn => gs n (by rintro rfl; exact h1 hn)
   have sj : stepC G T sh all p (E.set d sv) = some cj := by
    rw [stepC_same (E := E) (E' := E.set d sv) rfl (same_of s2 (fun _ b _ => rfl))]; exact hj
   have ts2 : ∀ t ∈ seen all p, (E.set d sv).g t = E.g t := fun t ht => s2 t (rsOf_self ht).1
   obtain ⟨r3, r4⟩ := rs_same ts2
   have fj : foot all p (E.set d sv) cj = foot all p E cj := by
    unfold foot
    rw [r3, r4, c3, quiet_same (E := E) (E' := E.set d sv) (fun k hk => gs k (by rintro rfl; exact h2 hk)), al_same hbare0 h2 (fun b hb => hr2 b hb), tame_same (E := E) (E' := E.set d sv) (fun k hk => gs k (by rintro rfl; exact h2 hk))]
   exact ⟨si, fi, sj, fj, c1⟩
  ·cases hap
 ·split at hap
  ·rename_i d e hd he
   simp only [Bool.and_eq_true, Bool.not_eq_true'] at hap
   obtain ⟨⟨⟨⟨h1, h2⟩, h3⟩, h4⟩, h5⟩ := hap
   exact swap_al hj hi hd he (by rintro rfl; rw [beq_self] at h1; cases h1) (noN h2) (noN h3) (noN h4) (noN h5)
  ·cases hap
 ·simp only [Bool.and_eq_true] at hap
  obtain ⟨t1, t2, h1, h2, h3, h4, h5, h6⟩ := hap
  exact swap_tame hj hi t1 t2 (disj_out h1) (disj_out h2) (disj_out h3) (disj_out h4) (disj_out h5) (disj_out h6)

def canO (c : Option (List Nat × List Nat)) (E : Env) : Env := match c with | some q => E.canon q.1 q.2 | none => E
theorem cutK_canO {R : Type _} {c : Option (List Nat × List Nat)} {f : Env → Option R} {E : Env} : cutK c f E = f (canO c E) := by
 cases c with
 | none => rfl
 | some q => exact bar_eq _ _
theorem Sim.canO {P : Program} {C : Ctx} {S : Nat → Prop} {B : Loc → Option Nat} {E : Env} {a : Act} {w : World} (h : Sim P C S B E a w) (c : Option (List Nat × List Nat)) : Sim P C S B (canO c E) a w := by
 cases c with
 | none => exact h
 | some q => exact h.canon q.1 q.2
/-- The operations that are left, in their written order, from an environment on. -/
def Runs (G : Gam) (T : Tys) (sh : List Nat) (pts : List (Nat × List Nat × List Nat)) (all : List Oper) (Q : Env → Prop) : List (Nat × Oper × Foot) → Env → Prop
 | [], E => Q E
 | (i, o, f) :: L, E => ∃ cs, stepC G T sh all o E = some cs ∧ foot all o E cs = f ∧ Runs G T sh pts all Q L (canO (cutAt pts (i + 1)) (E.run cs))

/-- One that stands free comes first. -/
theorem bubble {pts : List (Nat × List Nat × List Nat)} {Q : Env → Prop} {i : Nat} {o : Oper} {f : Foot} {Bs : List (Nat × Oper × Foot)} : ∀ {A : List (Nat × Oper × Foot)} {E : Env}, Runs G T sh pts all Q (A ++ (i, o, f) :: Bs) E → (∀ x ∈ A, apart x.2.2 f = true ∧ cutAt pts (x.1 + 1) = none ∧ cutAt pts (i + 1) = none) →
  ∃ cs, stepC G T sh all o E = some cs ∧ foot all o E cs = f ∧ Runs G T sh pts all Q (A ++ Bs) (canO (cutAt pts (i + 1)) (E.run cs))
 | [], E, h, _ => h
 | (j, p, g) :: A, E, ⟨cj, h1, h2, h3⟩, hA => by
  obtain ⟨a1, a2, a3⟩ := hA (j, p, g) (by simp)
  dsimp only at a2
  rw [a2] at h3
  obtain ⟨ci, k1, k2, k3⟩ := bubble (E := E.run cj) h3 (fun x hx => hA x (by simp [hx]))
  subst h2 k2
  obtain ⟨s1, s2, s3, s4, s5⟩ := swap h1 k1 a1
  rw [a3] at k3 ⊢
  refine ⟨ci, s1, s2, cj, s3, s4, ?_⟩
  rw [a2]
  show Runs G T sh pts all Q (A ++ Bs) ((E.run ci).run cj)
  rw [s5]; exact k3

/-! ### the written order, told in steps -/
def Num : Nat → List Oper → List (Nat × Oper × Foot) → Prop
 | _, [], L => L = []
 | i, o :: r, L => ∃ f L', L = (i, o, f) :: L' ∧ Num (i + 1) r L'

def Apart2 (pts : List (Nat × List Nat × List Nat)) (all : List Oper) (x y : Nat × Oper × Foot) : Prop := (∃ n, pathTo all x.1 n y.2.1.after.toList = true) ∨ (apart x.2.2 y.2.2 = true ∧ cutAt pts (x.1 + 1) = none ∧ cutAt pts (y.1 + 1) = none)

theorem clash_out {all : List Oper} {o : Oper} {f : Foot} : ∀ {done : List (Nat × Foot)}, clash all o f done = true → ∀ x ∈ done, (∃ n, pathTo all x.1 n o.after.toList = true) ∨ apart x.2 f = true
 | [], _, x, hx => by simp at hx
 | (j, g) :: r, h, x, hx => by
  simp only [clash, Bool.and_eq_true, Bool.or_eq_true] at h
  rcases List.mem_cons.1 hx with rfl | hx
  ·rcases h.1 with h1 | h1 | h1
   ·exact .inl ⟨1, by simp only [pathTo, h1, Bool.true_or]⟩
   ·exact .inr h1
   ·exact .inl ⟨3, h1⟩
  ·exact clash_out h.2 x hx

universe u
theorem evDraw_runs {R : Type u} {r : R} {K : Env → Option R} : ∀ {l : List Oper} {i : Nat} {done : List (Nat × Foot)} {E : Env}, evDraw G T sh all i l done E K = some r →
  ∃ L, Num i l L ∧ Runs G T sh [] all (fun E' => K E' = some r) L E ∧ L.Pairwise (Apart2 [] all) ∧ (∀ x ∈ L, edgesBelow x.1 x.2.1.after.toList = true) ∧ ∀ d ∈ done, ∀ x ∈ L, (∃ n, pathTo all d.1 n x.2.1.after.toList = true) ∨ apart d.2 x.2.2 = true
 | [], i, done, E, h => ⟨[], rfl, h, .nil, (by simp), (by simp)⟩
 | o :: l, i, done, E, h => by
  have main : ∀ {cs : List Cmd}, stepC G T sh all o E = some cs → (edgesBelow i o.after.toList && clash all o (foot all o E cs) done) = true → evDraw G T sh all (i + 1) l ((i, foot all o E cs) :: done) (E.run cs) K = some r →
    ∃ L, Num i (o :: l) L ∧ Runs G T sh [] all (fun E' => K E' = some r) L E ∧ L.Pairwise (Apart2 [] all) ∧ (∀ x ∈ L, edgesBelow x.1 x.2.1.after.toList = true) ∧ ∀ d ∈ done, ∀ x ∈ L, (∃ n, pathTo all d.1 n x.2.1.after.toList = true) ∨ apart d.2 x.2.2 = true := by
   intro cs h1 h2 h3
   simp only [Bool.and_eq_true] at h2
   obtain ⟨L, k1, k2, k3, k4, k5⟩ := evDraw_runs h3
   refine ⟨(i, o, foot all o E cs) :: L, ⟨_, _, rfl, k1⟩, ⟨cs, h1, rfl, k2⟩, ?_, ?_, ?_⟩
   ·exact List.pairwise_cons.2 ⟨fun y hy => (k5 (i, foot all o E cs) (by simp) y hy).imp id (fun h => ⟨h, rfl, rfl⟩), k3⟩
   ·intro x hx
    rcases List.mem_cons.1 hx with rfl | hx
    ·exact h2.1
    ·exact k4 x hx
   ·intro d hd x hx
    rcases List.mem_cons.1 hx with rfl | hx
    ·exact clash_out h2.2 d hd
    ·exact k5 d (by simp [hd]) x hx
  simp only [evDraw] at h
  have hst : stepC G T sh all o E = (match wants all E o.guard with
   | some b => if b = true then evOp T E.vw G sh o some else (match o.dst with | some d => bif Nat.blt d E.nt then some [.set d (.tup [])] else none | none => some [])
   | none => none) := rfl
  split at h
  ·rename_i b hw
   rw [hw] at hst
   cases b
   ·simp only [Bool.false_eq_true, if_false] at h hst
    split at h
    ·rename_i d hd
     rw [hd] at hst
     cases hc : (Nat.blt d E.nt && (edgesBelow i o.after.toList && clash all o (foot all o E [.set d (.tup [])]) done))
     ·rw [hc] at h; cases h
     ·rw [hc, cond_true] at h
      simp only [Bool.and_eq_true] at hc
      simp only [hc.1, cond_true] at hst
      exact main hst (by simp [hc.2]) h
    ·rename_i hd
     rw [hd] at hst
     cases hc : (edgesBelow i o.after.toList && clash all o (foot all o E []) done)
     ·rw [hc] at h; cases h
     ·rw [hc, cond_true] at h
      exact main hst hc h
   ·simp only [if_true] at h hst
    rw [show evOp T E.vw G sh o (fun cs => splitC (isGuard all i) cs fun cs' => bif edgesBelow i o.after.toList && clash all o (foot all o E cs') done then evDraw G T sh all (i + 1) l ((i, foot all o E cs') :: done) (E.run cs') K else none) =
     (evOp T E.vw G sh o some).bind (fun cs => splitC (isGuard all i) cs fun cs' => bif edgesBelow i o.after.toList && clash all o (foot all o E cs') done then evDraw G T sh all (i + 1) l ((i, foot all o E cs') :: done) (E.run cs') K else none) from evOp_bind T E.vw some _ G sh o] at h
    cases hop : evOp T E.vw G sh o some with
    | none => rw [hop] at h; cases h
    | some cs =>
     rw [hop] at h hst
     simp only [Option.bind_some] at h
     obtain ⟨cs', h', rfl⟩ := splitC_some h
     cases hc : (edgesBelow i o.after.toList && clash all o (foot all o E cs') done)
     ·rw [hc] at h'; cases h'
     ·rw [hc, cond_true] at h'
      exact main hst hc h'
  ·cases h

theorem path_trans {all : List Oper} {i d m : Nat} {o : Oper} (ho : all[i]? = some o) (hd : pathTo all d m o.after.toList = true) : ∀ (n : Nat) (es : List Edge), pathTo all i n es = true → ∃ k, pathTo all d k es = true
 | 0, es, h => by cases h
 | n + 1, es, h => by
  simp only [pathTo, Bool.or_eq_true] at h
  rcases h with h | h
  ·have : ∃ e ∈ es, bindsAny e = true ∧ e.on = i := by
    clear hd
    induction es with
    | nil => cases h
    | cons e r ih =>
     simp only [edgeOn, Bool.or_eq_true, Bool.and_eq_true] at h
     rcases h with h | h
     ·exact ⟨e, by simp, h.1, Nat.eq_of_beq_eq_true h.2⟩
     ·obtain ⟨e', h1, h2⟩ := ih h
      exact ⟨e', by simp [h1], h2⟩
   obtain ⟨e, he, hb, hon⟩ := this
   refine ⟨m + 1, ?_⟩
   simp only [pathTo, Bool.or_eq_true, List.any_eq_true, Bool.and_eq_true]
   refine .inr ⟨e, he, hb, ?_⟩
   rw [hon, ho]
   exact hd
  ·simp only [List.any_eq_true, Bool.and_eq_true] at h
   obtain ⟨e, he, hb, hp⟩ := h
   split at hp
   ·rename_i p hpp
    obtain ⟨k, hk⟩ := path_trans ho hd n _ hp
    refine ⟨k + 1, ?_⟩
    simp only [pathTo, Bool.or_eq_true, List.any_eq_true, Bool.and_eq_true]
    refine .inr ⟨e, he, hb, ?_⟩
    rw [hpp]
    exact hk
   ·cases hp
theorem pathQ_to {all : List Oper} {j : Nat} : ∀ (n : Nat) (es : List Edge), pathQ all j n es = true → pathTo all j n es = true
 | 0, es, h => by cases h
 | n + 1, es, h => by
  simp only [pathQ, Bool.or_eq_true, List.any_eq_true, Bool.and_eq_true] at h
  simp only [pathTo, Bool.or_eq_true, List.any_eq_true, Bool.and_eq_true]
  rcases h with h | ⟨e, he, hb, _, hp⟩
  ·exact .inl h
  ·refine .inr ⟨e, he, hb, ?_⟩
   split at hp
   ·rename_i p hpp
    exact pathQ_to n _ hp
   ·cases hp
theorem clashP_out {all : List Oper} {o : Oper} {f : Foot} : ∀ {done : List (Nat × Foot)}, clashP all o f done = true → ∀ x ∈ done, (∃ n, pathTo all x.1 n o.after.toList = true) ∨ apart x.2 f = true
 | [], _, x, hx => by simp at hx
 | (j, g) :: r, h, x, hx => by
  simp only [clashP, Bool.and_eq_true, Bool.or_eq_true] at h
  rcases List.mem_cons.1 hx with rfl | hx
  ·rcases h.1 with h1 | h1
   ·exact .inl ⟨8, pathQ_to _ _ h1⟩
   ·exact .inr h1
  ·exact clashP_out h.2 x hx
theorem evDrawB_runs {R : Type u} {pts : List (Nat × List Nat × List Nat)} {r : R} {K : Env → Option R} : ∀ {l : List Oper} {i : Nat} {b : Option Nat} {done : List (Nat × Foot)} {E : Env}, (∀ k, l[k]? = all[i + k]?) → evDrawB G T sh pts all i l b done E K = some r →
  ∃ L, Num i l L ∧ Runs G T sh pts all (fun E' => K E' = some r) L E ∧ L.Pairwise (Apart2 pts all) ∧ (∀ x ∈ L, edgesBelow x.1 x.2.1.after.toList = true) ∧ (∀ d ∈ done, ∀ x ∈ L, (∃ n, pathTo all d.1 n x.2.1.after.toList = true) ∨ apart d.2 x.2.2 = true ∧ cutAt pts (x.1 + 1) = none) ∧ ∀ j, b = some j → ∀ x ∈ L, ∃ n, pathTo all j n x.2.1.after.toList = true
 | [], i, b, done, E, _, h => ⟨[], rfl, h, .nil, (by simp), (by simp), (by simp)⟩
 | o :: l, i, b, done, E, hall, h => by
  have hall' : ∀ k, l[k]? = all[i + 1 + k]? := fun k => by
   have := hall (k + 1)
   rw [show i + 1 + k = i + (k + 1) by omega]
   simpa using this
  have hio : all[i]? = some o := by
   have := hall 0
   simpa using this.symm
  have okOut : ∀ {f : Foot}, okB all i o f b done = true → edgesBelow i o.after.toList = true ∧ (∀ x ∈ done, (∃ n, pathTo all x.1 n o.after.toList = true) ∨ apart x.2 f = true) ∧ ∀ j, b = some j → pathTo all j 8 o.after.toList = true := fun {f} hf => by
   simp only [okB, Bool.and_eq_true] at hf
   refine ⟨hf.1, clashP_out hf.2.1, fun j hj => ?_⟩
   subst hj
   exact pathQ_to _ _ hf.2.2
  -- no bar here
  have main : ∀ {cs : List Cmd}, stepC G T sh all o E = some cs → okB all i o (foot all o E cs) b done = true → (cutAt pts (i + 1)).isNone = true → evDrawB G T sh pts all (i + 1) l b ((i, foot all o E cs) :: done) (E.run cs) K = some r →
    ∃ L, Num i (o :: l) L ∧ Runs G T sh pts all (fun E' => K E' = some r) L E ∧ L.Pairwise (Apart2 pts all) ∧ (∀ x ∈ L, edgesBelow x.1 x.2.1.after.toList = true) ∧ (∀ d ∈ done, ∀ x ∈ L, (∃ n, pathTo all d.1 n x.2.1.after.toList = true) ∨ apart d.2 x.2.2 = true ∧ cutAt pts (x.1 + 1) = none) ∧ ∀ j, b = some j → ∀ x ∈ L, ∃ n, pathTo all j n x.2.1.after.toList = true := by
   intro cs h1 h2 hn h3
   rw [Option.isNone_iff_eq_none] at hn
   obtain ⟨o1, o2, o3⟩ := okOut h2
   obtain ⟨L, k1, k2, k3, k4, k5, k6⟩ := evDrawB_runs hall' h3
   refine ⟨(i, o, foot all o E cs) :: L, ⟨_, _, rfl, k1⟩, ⟨cs, h1, rfl, by rw [hn]; exact k2⟩, ?_, ?_, ?_, ?_⟩
   ·exact List.pairwise_cons.2 ⟨fun y hy => (k5 (i, foot all o E cs) (by simp) y hy).imp id (fun h => ⟨h.1, hn, h.2⟩), k3⟩
   ·intro x hx
    rcases List.mem_cons.1 hx with rfl | hx
    ·exact o1
    ·exact k4 x hx
   ·intro d hd x hx
    rcases List.mem_cons.1 hx with rfl | hx
    ·exact (o2 d hd).imp id (fun h => ⟨h, hn⟩)
    ·exact k5 d (by simp [hd]) x hx
   ·intro j hj x hx
    rcases List.mem_cons.1 hx with rfl | hx
    ·exact ⟨8, o3 j hj⟩
    ·exact k6 j hj x hx
  -- a bar here
  have mainB : ∀ {cs : List Cmd}, stepC G T sh all o E = some cs → okB all i o (foot all o E cs) b done = true → barAt all i o done = true → cutK (cutAt pts (i + 1)) (fun E2 => evDrawB G T sh pts all (i + 1) l (some i) [] E2 K) (E.run cs) = some r →
    ∃ L, Num i (o :: l) L ∧ Runs G T sh pts all (fun E' => K E' = some r) L E ∧ L.Pairwise (Apart2 pts all) ∧ (∀ x ∈ L, edgesBelow x.1 x.2.1.after.toList = true) ∧ (∀ d ∈ done, ∀ x ∈ L, (∃ n, pathTo all d.1 n x.2.1.after.toList = true) ∨ apart d.2 x.2.2 = true ∧ cutAt pts (x.1 + 1) = none) ∧ ∀ j, b = some j → ∀ x ∈ L, ∃ n, pathTo all j n x.2.1.after.toList = true := by
   intro cs h1 h2 hb h3
   obtain ⟨o1, o2, o3⟩ := okOut h2
   simp only [barAt, Bool.and_eq_true, List.all_eq_true] at hb
   rw [cutK_canO] at h3
   obtain ⟨L, k1, k2, k3, k4, k5, k6⟩ := evDrawB_runs hall' h3
   refine ⟨(i, o, foot all o E cs) :: L, ⟨_, _, rfl, k1⟩, ⟨cs, h1, rfl, k2⟩, ?_, ?_, ?_, ?_⟩
   ·exact List.pairwise_cons.2 ⟨fun y hy => .inl (k6 i rfl y hy), k3⟩
   ·intro x hx
    rcases List.mem_cons.1 hx with rfl | hx
    ·exact o1
    ·exact k4 x hx
   ·intro d hd x hx
    rcases List.mem_cons.1 hx with rfl | hx
    ·exact .inl ⟨8, pathQ_to _ _ (hb.2 d hd)⟩
    ·obtain ⟨n, hn⟩ := k6 i rfl x hx
     exact .inl (path_trans hio (pathQ_to _ _ (hb.2 d hd)) n _ hn)
   ·intro j hj x hx
    rcases List.mem_cons.1 hx with rfl | hx
    ·exact ⟨8, o3 j hj⟩
    ·obtain ⟨n, hn⟩ := k6 i rfl x hx
     exact path_trans hio (o3 j hj) n _ hn
  simp only [evDrawB] at h
  have hst : stepC G T sh all o E = (match wants all E o.guard with
   | some b => if b = true then evOp T E.vw G sh o some else (match o.dst with | some d => bif Nat.blt d E.nt then some [.set d (.tup [])] else none | none => some [])
   | none => none) := rfl
  split at h
  ·rename_i t hw
   rw [hw] at hst
   cases t
   ·simp only [Bool.false_eq_true, if_false] at h hst
    split at h
    ·rename_i d hd
     rw [hd] at hst
     cases hc : (Nat.blt d E.nt && (okB all i o (foot all o E [.set d (.tup [])]) b done && (cutAt pts (i + 1)).isNone))
     ·rw [hc] at h; cases h
     ·rw [hc, cond_true] at h
      simp only [Bool.and_eq_true] at hc
      simp only [hc.1, cond_true] at hst
      exact main hst hc.2.1 hc.2.2 h
    ·rename_i hd
     rw [hd] at hst
     cases hc : (okB all i o (foot all o E []) b done && (cutAt pts (i + 1)).isNone)
     ·rw [hc] at h; cases h
     ·rw [hc, cond_true] at h
      simp only [Bool.and_eq_true] at hc
      exact main hst hc.1 hc.2 h
   ·simp only [if_true] at h hst
    rw [show evOp T E.vw G sh o (fun cs => splitC (isGuard all i) cs fun cs' => bif okB all i o (foot all o E cs') b done then (bif barAt all i o done then cutK (cutAt pts (i + 1)) (fun E2 => evDrawB G T sh pts all (i + 1) l (some i) [] E2 K) (E.run cs') else bif (cutAt pts (i + 1)).isNone then evDrawB G T sh pts all (i + 1) l b ((i, foot all o E cs') :: done) (E.run cs') K else none) else none) =
     (evOp T E.vw G sh o some).bind (fun cs => splitC (isGuard all i) cs fun cs' => bif okB all i o (foot all o E cs') b done then (bif barAt all i o done then cutK (cutAt pts (i + 1)) (fun E2 => evDrawB G T sh pts all (i + 1) l (some i) [] E2 K) (E.run cs') else bif (cutAt pts (i + 1)).isNone then evDrawB G T sh pts all (i + 1) l b ((i, foot all o E cs') :: done) (E.run cs') K else none) else none) from evOp_bind T E.vw some _ G sh o] at h
    cases hop : evOp T E.vw G sh o some with
    | none => rw [hop] at h; cases h
    | some cs =>
     rw [hop] at h hst
     simp only [Option.bind_some] at h
     obtain ⟨cs', h', rfl⟩ := splitC_some h
     cases hc : okB all i o (foot all o E cs') b done
     ·rw [hc] at h'; cases h'
     ·rw [hc, cond_true] at h'
      cases hba : barAt all i o done
      ·rw [hba, cond_false] at h'
       cases hn : (cutAt pts (i + 1)).isNone
       ·rw [hn] at h'; cases h'
       ·rw [hn, cond_true] at h'
        exact main hst hc hn h'
      ·rw [hba, cond_true] at h'
       exact mainB hst hc hba h'
  ·cases h

theorem Num.get : ∀ {l : List Oper} {i : Nat} {L : List (Nat × Oper × Foot)}, Num i l L → (∀ x ∈ L, i ≤ x.1 ∧ l[x.1 - i]? = some x.2.1) ∧ (L.Pairwise fun x y => x.1 < y.1) ∧ (∀ k, k < l.length → ∃ x ∈ L, x.1 = i + k) ∧ L.length = l.length
 | [], i, L, h => by cases h; exact ⟨by simp, .nil, by simp, rfl⟩
 | o :: l, i, L, h => by
  obtain ⟨f, L', rfl, h'⟩ := h
  obtain ⟨h1, h2, h3, h4⟩ := Num.get h'
  refine ⟨?_, ?_, ?_, by simp [h4]⟩
  ·intro x hx
   rcases List.mem_cons.1 hx with rfl | hx
   ·exact ⟨Nat.le_refl _, by simp⟩
   ·obtain ⟨k1, k2⟩ := h1 x hx
    refine ⟨by omega, ?_⟩
    rw [show x.1 - i = (x.1 - (i + 1)) + 1 by omega, List.getElem?_cons_succ]
    exact k2
  ·exact List.pairwise_cons.2 ⟨fun y hy => by have := (h1 y hy).1; show i < y.1; omega, h2⟩
  ·intro k hk
   cases k with
   | zero => exact ⟨_, List.mem_cons_self, rfl⟩
   | succ k =>
    obtain ⟨x, hx, hxe⟩ := h3 k (by simpa using hk)
    exact ⟨x, by simp [hx], by omega⟩

theorem edgeOn_out {j : Nat} : ∀ {l : List Edge}, edgeOn j l = true → ∃ e ∈ l, Region.binds .any e = true ∧ e.on = j
 | [], h => by cases h
 | e :: r, h => by
  simp only [edgeOn, Bool.or_eq_true, Bool.and_eq_true] at h
  rcases h with ⟨h1, h2⟩ | h
  ·refine ⟨e, by simp, ?_, Nat.eq_of_beq_eq_true h2⟩
   unfold bindsAny at h1
   unfold Region.binds
   cases hg : e.ground <;> rw [hg] at h1 <;> first | rfl | cases h1
  ·obtain ⟨e', h1, h2, h3⟩ := edgeOn_out h
   exact ⟨e', by simp [h1], h2, h3⟩
theorem bindsAny_eq (e : Edge) : bindsAny e = Region.binds .any e := by
 unfold bindsAny Region.binds
 cases e.ground <;> rfl
theorem edgesBelow_out {i : Nat} : ∀ {l : List Edge}, edgesBelow i l = true → ∀ e ∈ l, Region.binds .any e = true → e.on < i
 | [], _, e, he, _ => by simp at he
 | x :: r, h, e, he, hb => by
  simp only [edgesBelow, Bool.and_eq_true, Bool.or_eq_true, Bool.not_eq_true'] at h
  rcases List.mem_cons.1 he with rfl | he
  ·rcases h.1 with h1 | h1
   ·rw [bindsAny_eq, hb] at h1; cases h1
   ·simpa [Nat.blt_eq] using h1
  ·exact edgesBelow_out h.2 e he hb

theorem Sim.drawn {P : Program} {C : Ctx} {S : Nat → Prop} {B : Loc → Option Nat} {E : Env} {a : Act} {w : World} (h : Sim P C S B E a w) (n : Nat) : Sim P C S B E a { w with drawn := n } := by
 have hk : Keep S w { w with drawn := n } := ⟨Nat.le_refl _, fun _ _ _ => rfl⟩
 refine ⟨h.size, h.defers, ⟨h.kept.os, h.kept.tape, h.kept.output, h.kept.size, h.kept.block⟩, h.sub, h.frm, h.sup, h.inj, h.free, ?_, ?_, h.inb⟩
 ·intro m
  exact (h.slots m).move hk (fun _ hx => hx) rfl (fun _ _ => rfl) (fun _ _ _ _ => rfl) (fun _ _ => rfl) (fun _ _ => ⟨rfl, rfl, rfl⟩)
 ·intro b l hb
  obtain ⟨g, h1, h2⟩ := h.boxes b l hb
  exact ⟨g, h1, h2.move hk (fun _ hx => hx) rfl (fun _ => ⟨rfl, fun _ _ => rfl⟩)⟩

/-- One operation, taken. -/
theorem step_ok {P : Program} {C : Ctx} {S : Nat → Prop} {B : Loc → Option Nat} {E : Env} {a : Act} {w : World} (hT : TOk P T) (hG : GOk P C G) (h : Sim P C S B E a w) {ops : Array Oper} {i : Nat} {o : Oper} {cs : List Cmd} (ho : ops[i]? = some o)
  (hs : stepC G T sh ops.toList o E = some cs) {Q : Exit → Act → World → Prop} {K : Act → World → Prop} (hK : ∀ S' B' a' w', Sim P C S' B' (E.run cs) a' w' → K a' w') : wpOp P ops Q i K a w := by
 unfold wpOp
 rw [ho]
 dsimp only
 simp only [stepC] at hs
 split at hs
 ·rename_i b hw
  rw [wants_ok h hw]
  cases b
  ·simp only [Bool.false_eq_true, if_false] at hs ⊢
   have : ∃ E', skipE E o.dst (some : Env → Option Env) = some E' ∧ E' = E.run cs := by
    cases hd : o.dst with
    | none => rw [hd] at hs; cases hs; exact ⟨E, rfl, rfl⟩
    | some d =>
     rw [hd] at hs
     dsimp only at hs
     cases hb : Nat.blt d E.nt
     ·rw [hb] at hs; cases hs
     ·rw [hb] at hs; cases hs
      exact ⟨_, by simp only [skipE, hb, cond_true]; rfl, rfl⟩
   obtain ⟨E', h1, h2⟩ := this
   obtain ⟨E2, S', B', h3, h4⟩ := skipE_ok h h1
   cases h3
   rw [h2] at h4
   exact hK _ _ _ _ h4
  ·simp only [if_true] at hs ⊢
   obtain ⟨cs', hk', hgo⟩ := evOp_ok hT hG h hs
   cases hk'
   exact .inl (hgo _ _ (fun S' B' a' w' hs => hK _ _ _ _ hs))
 ·cases hs

theorem path_listed {ops : Array Oper} {listed : Array Bool} {j : Nat} (hcl : ∀ (k : Nat) (o : Oper), ops[k]? = some o → listed.getD k false = true → ∀ e ∈ o.after.toList, Region.binds .any e = true → listed.getD e.on false = true) :
  ∀ (n : Nat) (es : List Edge), (∀ e ∈ es, Region.binds .any e = true → listed.getD e.on false = true) → pathTo ops.toList j n es = true → listed.getD j false = true
 | 0, _, _, h => by cases h
 | n + 1, es, he, h => by
  simp only [pathTo, Bool.or_eq_true, List.any_eq_true, Bool.and_eq_true] at h
  rcases h with h | ⟨e, h1, h2, h3⟩
  ·obtain ⟨e, h1, h2, h3⟩ := edgeOn_out h
   rw [← h3]; exact he e h1 h2
  ·split at h3
   ·rename_i p hp
    rw [bindsAny_eq] at h2
    exact path_listed hcl n _ (hcl e.on p (by simpa using hp) (he e h1 h2)) h3
   ·cases h3

theorem any_ok {P : Program} {pts : List (Nat × List Nat × List Nat)} {C : Ctx} (hT : TOk P T) (hG : GOk P C G) {ops : Array Oper} {Q : Exit → Act → World → Prop} {Qe : Env → Prop} (hQ : ∀ S' B' E' a' w', Sim P C S' B' E' a' w' → Qe E' → Q .normal a' w') :
  ∀ (fuel : Nat) {listed : Array Bool} {L : List (Nat × Oper × Foot)} {S : Nat → Prop} {B : Loc → Option Nat} {E : Env} {a : Act} {w : World}, Sim P C S B E a w → Runs G T sh pts ops.toList Qe L E → L.Pairwise (Apart2 pts ops.toList) →
   (∀ x ∈ L, ops[x.1]? = some x.2.1 ∧ edgesBelow x.1 x.2.1.after.toList = true) → (L.Pairwise fun x y => x.1 < y.1) → (∀ i, i < ops.size → (listed.getD i true = false ↔ ∃ x ∈ L, x.1 = i)) → listed.size = ops.size → L.length ≤ fuel →
   (∀ (k : Nat) (o : Oper), ops[k]? = some o → listed.getD k false = true → ∀ e ∈ o.after.toList, Region.binds .any e = true → listed.getD e.on false = true) →
   wpAny P .any ops Q fuel listed a w := by
 have readyIff : ∀ {listed : Array Bool} {i : Nat}, i ∈ Region.ready .any ops listed ↔ i < ops.size ∧ listed.getD i true = false ∧ ∃ o, ops[i]? = some o ∧ ∀ e ∈ o.after.toList, Region.binds .any e = true → listed.getD e.on false = true := by
  intro listed i
  unfold Region.ready
  simp only [List.mem_filter, List.mem_range, Bool.and_eq_true, Bool.not_eq_true']
  constructor
  ·rintro ⟨h1, h2, h3⟩
   refine ⟨h1, h2, ops[i], by simp [h1], ?_⟩
   simp only [h1, Array.getElem?_eq_getElem, Option.map_some, Option.getD_some, Array.all_eq_true'] at h3
   intro e he hb
   have := h3 e (by simpa using he)
   simpa [hb] using this
  ·rintro ⟨h1, h2, o, h3, h4⟩
   refine ⟨h1, h2, ?_⟩
   rw [h3]
   simp only [Option.map_some, Option.getD_some, Array.all_eq_true']
   intro e he
   cases hb : Region.binds .any e
   ·simp
   ·simpa using h4 e (by simpa using he) hb
 have unl : ∀ {listed : Array Bool} {i : Nat}, listed.size = ops.size → i < ops.size → listed.getD i false = listed.getD i true := by
  intro listed i h1 h2
  simp [Array.getD, h1, h2]
 have noReady : ∀ {listed : Array Bool} {L : List (Nat × Oper × Foot)}, (∀ x ∈ L, ops[x.1]? = some x.2.1 ∧ edgesBelow x.1 x.2.1.after.toList = true) → (L.Pairwise fun x y => x.1 < y.1) → (∀ i, i < ops.size → (listed.getD i true = false ↔ ∃ x ∈ L, x.1 = i)) → listed.size = ops.size →
   Region.ready .any ops listed = [] → L = [] := by
  intro listed L h1 h2 h3 h4 h5
  cases L with
  | nil => rfl
  | cons x L =>
   exfalso
   obtain ⟨k1, k2⟩ := h1 x (by simp)
   have hlt : x.1 < ops.size := (Array.getElem?_eq_some_iff.1 k1).1
   have hm : x.1 ∈ Region.ready .any ops listed := by
    refine readyIff.2 ⟨hlt, (h3 x.1 hlt).2 ⟨x, by simp, rfl⟩, x.2.1, k1, fun e he hb => ?_⟩
    have hon := edgesBelow_out k2 e he hb
    rw [unl h4 (by omega)]
    cases hq : listed.getD e.on true
    ·exfalso
     obtain ⟨y, hy, hye⟩ := (h3 e.on (by omega)).1 hq
     rcases List.mem_cons.1 hy with rfl | hy
     ·omega
     ·have := (List.pairwise_cons.1 h2).1 y hy
      omega
    ·rfl
   rw [h5] at hm; simp at hm
 intro fuel
 induction fuel with
 | zero =>
  intro listed L S B E a w h hr hp hx hs hu hz hl hcl
  have hL : L = [] := List.eq_nil_of_length_eq_zero (by omega)
  subst hL
  refine ⟨?_, hQ _ _ _ _ _ h hr⟩
  apply List.eq_nil_iff_forall_not_mem.2
  intro i hi
  obtain ⟨h1, h2, _⟩ := readyIff.1 hi
  obtain ⟨x, hx, _⟩ := (hu i h1).1 h2
  simp at hx
 | succ fuel ih =>
  intro listed L S B E a w h hr hp hx hs hu hz hl hcl
  refine ⟨fun hn => ?_, fun i hi => ?_⟩
  ·have hL := noReady hx hs hu hz hn
   subst hL
   exact hQ _ _ _ _ _ h hr
  ·obtain ⟨h1, h2, o, h3, h4⟩ := readyIff.1 hi
   obtain ⟨x, hxm, hxi⟩ := (hu i h1).1 h2
   obtain ⟨A, Bs, rfl⟩ := List.append_of_mem hxm
   obtain ⟨xi, xo, xf⟩ := x
   dsimp only at hxi
   subst hxi
   have hxo : xo = o := by
    have := (hx (xi, xo, xf) (by simp)).1
    rw [h3] at this; exact (Option.some.inj this).symm
   subst hxo
   obtain ⟨pA, pB, pAB⟩ := List.pairwise_append.1 hp
   have hA : ∀ y ∈ A, apart y.2.2 xf = true ∧ cutAt pts (y.1 + 1) = none ∧ cutAt pts (xi + 1) = none := by
    intro y hy
    rcases pAB y hy (xi, xo, xf) (by simp) with he | he
    ·exfalso
     obtain ⟨n, he⟩ := he
     have := path_listed hcl n _ h4 he
     have hyo := (hx y (by simp [hy])).1
     have hyl : y.1 < ops.size := (Array.getElem?_eq_some_iff.1 hyo).1
     rw [unl hz hyl, (hu y.1 hyl).2 ⟨y, by simp [hy], rfl⟩] at this
     cases this
    ·exact he
   obtain ⟨cs, c1, c2, c3⟩ := bubble hr hA
   have hsub : (A ++ Bs).Sublist (A ++ (xi, xo, xf) :: Bs) := List.Sublist.append (List.Sublist.refl _) (List.sublist_cons_self _ _)
   refine step_ok hT hG h h3 c1 (fun S' B' a' w' hs' => ih (hs'.canO _) c3 (hp.sublist hsub) (fun y hy => hx y (hsub.subset hy)) (hs.sublist hsub) ?_ (by simp [hz]) (by simp at hl ⊢; omega) ?_)
   case refine_2 =>
    intro k o' hk' hlk e he hb
    have mono : ∀ j, listed.getD j false = true → (listed.setIfInBounds xi true).getD j false = true := by
     intro j hj
     by_cases hji : j = xi
     ·subst hji; simp [Array.getD, hz, h1]
     ·rw [Array.getD_eq_getD_getElem?, Array.getElem?_setIfInBounds_ne (Ne.symm hji), ← Array.getD_eq_getD_getElem?]; exact hj
    by_cases hki : k = xi
    ·subst hki
     rw [h3] at hk'
     cases hk'
     exact mono _ (h4 e he hb)
    ·refine mono _ (hcl k o' hk' ?_ e he hb)
     rw [Array.getD_eq_getD_getElem?, Array.getElem?_setIfInBounds_ne (Ne.symm hki), ← Array.getD_eq_getD_getElem?] at hlk; exact hlk
   intro k hk
   by_cases hki : k = xi
   ·subst hki
    have e1 : (listed.setIfInBounds k true).getD k true = true := by simp [Array.getD, hz, hk]
    rw [e1]
    constructor
    ·intro hf; cases hf
    ·rintro ⟨y, hy, hye⟩
     exfalso
     obtain ⟨sA, sB, sAB⟩ := List.pairwise_append.1 hs
     rcases List.mem_append.1 hy with hy | hy
     ·have := sAB y hy (k, xo, xf) (by simp); dsimp only at this; omega
     ·have := (List.pairwise_cons.1 sB).1 y hy; dsimp only at this; omega
   ·have e1 : (listed.setIfInBounds xi true).getD k true = listed.getD k true := by
     rw [Array.getD_eq_getD_getElem?, Array.getD_eq_getD_getElem?, Array.getElem?_setIfInBounds_ne (Ne.symm hki)]
    rw [e1, hu k hk]
    constructor
    ·rintro ⟨y, hy, hye⟩
     refine ⟨y, ?_, hye⟩
     rcases List.mem_append.1 hy with hy | hy
     ·simp [hy]
     ·rcases List.mem_cons.1 hy with rfl | hy
      ·exact absurd hye.symm hki
      ·simp [hy]
    ·rintro ⟨y, hy, hye⟩
     exact ⟨y, hsub.subset hy, hye⟩

/-- A region that draws. -/
theorem draw_ok {P : Program} {C : Ctx} {S : Nat → Prop} {B : Loc → Option Nat} {E : Env} {a : Act} {w : World} {R : Type u} {r : R} {K : Env → Option R} {id : Nat} {ops : Array Oper} (hm : P.follows .mixedOrders = true) (hT : TOk P T) (hG : GOk P C G) {Q : Exit → Act → World → Prop}
  (hQ : ∀ S' B' E' a' w', Sim P C S' B' E' a' w' → K E' = some r → Q .normal a' w') (h : Sim P C S B E a w) (hk : evDraw G T sh ops.toList 0 ops.toList [] E K = some r) : (Code.region id ops true).wp P Q a w := by
 refine wp_region_any hm ?_
 obtain ⟨L, h1, h2, h3, h4, _⟩ := evDraw_runs hk
 obtain ⟨n1, n2, n3, n4⟩ := Num.get h1
 refine any_ok hT hG (Qe := fun E' => K E' = some r) hQ ops.size (h.drawn _) h2 h3 (fun x hx => ⟨?_, h4 x hx⟩) n2 ?_ (by simp) (by rw [n4]; simp) ?_
 ·have := (n1 x hx).2
  simpa using this
 ·intro i hi
  constructor
  ·intro _
   obtain ⟨x, hx, hxe⟩ := n3 i (by simpa using hi)
   exact ⟨x, hx, by omega⟩
  ·intro _
   simp [Array.getD, hi]
 ·intro k o hk hl
  simp [Array.getD] at hl
theorem drawB_ok {P : Program} {pts : List (Nat × List Nat × List Nat)} {C : Ctx} {S : Nat → Prop} {B : Loc → Option Nat} {E : Env} {a : Act} {w : World} {R : Type u} {r : R} {K : Env → Option R} {id : Nat} {ops : Array Oper} (hm : P.follows .mixedOrders = true) (hT : TOk P T) (hG : GOk P C G) {Q : Exit → Act → World → Prop}
  (hQ : ∀ S' B' E' a' w', Sim P C S' B' E' a' w' → K E' = some r → Q .normal a' w') (h : Sim P C S B E a w) (hk : evDrawB G T sh pts ops.toList 0 ops.toList none [] E K = some r) : (Code.region id ops true).wp P Q a w := by
 refine wp_region_any hm ?_
 obtain ⟨L, h1, h2, h3, h4, _⟩ := evDrawB_runs (fun k => by rw [Nat.zero_add]) hk
 obtain ⟨n1, n2, n3, n4⟩ := Num.get h1
 refine any_ok hT hG (Qe := fun E' => K E' = some r) hQ ops.size (h.drawn _) h2 h3 (fun x hx => ⟨?_, h4 x hx⟩) n2 ?_ (by simp) (by rw [n4]; simp) ?_
 ·have := (n1 x hx).2
  simpa using this
 ·intro i hi
  constructor
  ·intro _
   obtain ⟨x, hx, hxe⟩ := n3 i (by simpa using hi)
   exact ⟨x, hx, by omega⟩
  ·intro _
   simp [Array.getD, hi]
 ·intro k o hk hl
  simp [Array.getD] at hl
end
end Go.Proofs.YtecdijlfnnminaaGreatDoor.Eng
namespace Go.Proofs.YtecdijlfnnminaaGreatDoor.Eng
open Go Go.RowKit
set_option linter.unusedVariables false
set_option linter.unusedSimpArgs false

section
universe u
variable {R : Type u} {P : Program} {T : Tys} {C : Ctx} {S : Nat → Prop} {B : Loc → Option Nat} {E : Env} {a : Act} {w : World} {r : R}

theorem cutK_some {c : Option (List Nat × List Nat)} {f : Env → Option R} (h : Sim P C S B E a w) (hk : cutK c f E = some r) : ∃ E', f E' = some r ∧ Sim P C S B E' a w := by
 cases c with
 | none => exact ⟨E, hk, h⟩
 | some q =>
  have hk' : bar f (E.canon q.1 q.2) = some r := hk
  rw [bar_eq] at hk'
  exact ⟨_, hk', h.canon q.1 q.2⟩
theorem evOpsP_ok (hT : TOk P T) {G : Gam} (hG : GOk P C G) {sh : List Nat} {pts : List (Nat × List Nat × List Nat)} {ops : Array Oper} {K : Env → Option R} {Q : Exit → Act → World → Prop} (hQ : ∀ S' B' E' a' w', Sim P C S' B' E' a' w' → K E' = some r → Q .normal a' w') :
  ∀ {l : List Oper} {i : Nat} {S : Nat → Prop} {B : Loc → Option Nat} {E : Env} {a : Act} {w : World}, Sim P C S B E a w → evOpsP G T sh pts ops.toList i l E K = some r → wpList P ops Q l a w
 | [], i, S, B, E, a, w, h, hk => hQ _ _ _ _ _ h hk
 | o :: l, i, S, B, E, a, w, h, hk => by
  simp only [evOpsP] at hk
  split at hk
  ·rename_i b hw
   have hwant := wants_ok h hw
   simp only [wpList]
   rw [hwant]
   cases b
   ·simp only [Bool.false_eq_true, if_false] at hk ⊢
    obtain ⟨E', S', B', hk', hs⟩ := skipE_ok h hk
    obtain ⟨E2, hk2, hs2⟩ := cutK_some hs hk'
    exact evOpsP_ok hT hG hQ hs2 hk2
   ·simp only [if_true] at hk ⊢
    obtain ⟨cs, hk', hgo⟩ := evOp_ok hT hG h hk
    obtain ⟨cs', hk2, rfl⟩ := splitC_some hk'
    exact .inl (hgo _ _ (fun S' B' a' w' hs => by
     obtain ⟨E2, hk3, hs2⟩ := cutK_some hs hk2
     exact evOpsP_ok hT hG hQ hs2 hk3))
  ·cases hk
theorem lay_rowV (e : Ty) (xs : List e.den) : [rowV e xs].map V.lay = [rowV e xs] := rfl
theorem Sim.layAll (h : Sim P C S B E a w) : ∃ S' B', Sim P C S' B' E.layAll a w := by
 let S2 : Nat → Prop := fun x => S x ∨ ∃ b i, B (.l b i) = some x
 let B' : Loc → Option Nat := fun k => match k with | .l _ _ => none | k => B k
 have hB' : ∀ k x, B' k = some x → B k = some x ∧ ∀ b i, k ≠ .l b i := fun k x hk => by
  cases k with
  | l c i => cases hk
  | s m => exact ⟨hk, fun _ _ he => by cases he⟩
  | t m i => exact ⟨hk, fun _ _ he => by cases he⟩
  | b m => exact ⟨hk, fun _ _ he => by cases he⟩
 have hs : ∀ x, S x → S2 x := fun _ hx => .inl hx
 refine ⟨S2, B', h.size, h.defers, h.kept, ?_, ?_, fun x hx => hs x (h.sup x hx), ?_, ?_, ?_, ?_, fun b hb => h.inb b hb⟩
 ·rintro x (hx | ⟨b, i, hx⟩)
  ·exact h.sub x hx
  ·exact (h.free _ _ hx).2.1
 ·rintro x (hx | ⟨b, i, hx⟩)
  ·exact h.frm x hx
  ·exact .inr (h.free _ _ hx).2.2
 ·intro k k' x h1 h2
  exact h.inj k k' x (hB' k x h1).1 (hB' k' x h2).1
 ·intro k x hk
  obtain ⟨k1, k2⟩ := hB' k x hk
  obtain ⟨f1, f2, f3⟩ := h.free k x k1
  refine ⟨?_, f2, f3⟩
  rintro (hx | ⟨b, i, hx⟩)
  ·exact f1 hx
  ·exact k2 b i (h.inj _ _ x k1 hx)
 ·intro n
  have hn := h.slots n
  show SlotR P S2 B' E.layAll a w n (E.g n)
  refine hn.move (Keep.refl _ _) hs rfl (fun l hl => ?_) (fun _ _ _ _ => rfl) (fun b _ => rfl) (fun s _ => ⟨rfl, rfl, rfl⟩)
  cases l with
  | l c i => cases hsv : E.g n <;> rw [hsv] at hl <;> simp [SV.needs] at hl
  | s m => rfl
  | t m i => rfl
  | b m => rfl
 ·intro b l' hb
  have hb' : (alook E.bx b).map (fun l => l.map V.lay) = some l' := by rw [← alook_amap]; exact hb
  obtain ⟨l, hl, rfl⟩ := Option.map_eq_some_iff.1 hb'
  obtain ⟨g, h1, cells, id, h2, h3⟩ := h.boxes b l hl
  refine ⟨g, h1, cells, id, h2, ?_⟩
  rcases h3 with ⟨hr, hL⟩ | ⟨e, xs, rfl, hR⟩
  ·exact .inl ⟨rowL_map rowL_lay hr, hL.lay hs (fun j v hj hv g hg => .inr ⟨b, _, hg⟩)⟩
  ·exact .inr ⟨e, xs, lay_rowV e xs, hR.mono (Keep.refl _ _) hs⟩
theorem Sim.preL (h : Sim P C S B E a w) (sh : List Nat) (id : Nat) : ∃ S' B', Sim P C S' B' (E.preL sh id) a w := by
 unfold Env.preL
 cases sh.contains (7000000 + id)
 ·exact ⟨S, B, h⟩
 ·exact h.layAll
theorem den_ok (hm : P.follows .mixedOrders = true) (hT : TOk P T) {G : Gam} (hG : GOk P C G) {sh : List Nat} : ∀ (c : Code) {ann : Ann} {K : X → Env → Option R} {Q : Exit → Act → World → Prop} {S : Nat → Prop} {B : Loc → Option Nat} {E : Env} {a : Act} {w : World},
  KOk P C K r Q → Sim P C S B E a w → den G T sh c ann E K = some r → c.wp P Q a w := by
 intro c
 induction c with
 | skip => intro ann K Q S B E a w hK h hk; simp only [den] at hk; exact wp_skip (hK .normal _ _ _ _ _ h hk)
 | region id ops draw =>
  intro ann K Q S B E a w hK h hk
  cases draw
  ·cases ann with
   | rg pts =>
    simp only [den] at hk
    exact wp_region_list (evOpsP_ok hT hG (fun S' B' E' a' w' hs hk' => hK .normal _ _ _ _ _ hs hk') h hk)
   | _ =>
    simp only [den] at hk
    exact wp_region_list (evOps_ok hT hG (fun S' B' E' a' w' hs hk' => hK .normal _ _ _ _ _ hs hk') h hk)
  ·cases ann with
   | rg pts =>
    simp only [den] at hk
    rw [evDrawC_eq G T sh pts ops.toList (fun E' => K .normal E') ops.toList 0 none [] E rfl] at hk
    exact drawB_ok hm hT hG (fun S' B' E' a' w' hs hk' => hK .normal _ _ _ _ _ hs hk') h hk
   | _ =>
    simp only [den] at hk
    obtain ⟨S2, B2, h2⟩ := h.preL sh id
    exact draw_ok hm hT hG (fun S' B' E' a' w' hs hk' => hK .normal _ _ _ _ _ hs hk') h2 hk
 | seq x y ihx ihy =>
  intro ann K Q S B E a w hK h hk
  have main : ∀ {go : Env → Option R} {an : Ann}, (∀ S' B' E' a' w', Sim P C S' B' E' a' w' → go E' = some r → y.wp P Q a' w') → den G T sh x an E (kSeq go K) = some r → (Code.seq x y).wp P Q a w := by
   intro go an hgo hk
   refine wp_seq (ihx (Q := Exit.then (y.wp P Q) Q) ?_ h hk)
   intro e S' B' E' a' w' hs hk'
   cases e with
   | normal => exact hgo _ _ _ _ _ hs hk'
   | exit i => exact hK (.exit i) _ _ _ _ _ hs hk'
   | ret => exact hK .ret _ _ _ _ _ hs hk'
  cases ann with
  | seq an bn => simp only [den] at hk; exact main (fun S' B' E' a' w' hs hk' => ihy hK hs hk') hk
  | cut L Lb an bn => simp only [den] at hk; exact main (fun S' B' E' a' w' hs hk' => ihy hK (hs.canon L Lb) (by rw [bar_eq] at hk'; exact hk')) hk
  | _ => simp [den] at hk
 | cond co x y ihx ihy =>
  intro ann K Q S B E a w hK h hk
  cases ann with
  | cond an bn =>
   simp only [den] at hk
   split at hk
   ·rename_i t hc
    have hv := rd_bool h hc
    refine wp_cond hv ?_
    cases t
    ·simp only [Bool.false_eq_true, if_false] at hk ⊢; exact ihy hK h hk
    ·simp only [if_true] at hk ⊢; exact ihx hK h hk
   ·cases hk
  | _ => simp [den] at hk
 | block id x ih =>
  intro ann K Q S B E a w hK h hk
  cases ann with
  | blk an =>
   simp only [den] at hk
   refine wp_block (ih (Q := Exit.inBlock id Q) ?_ h hk)
   intro e S' B' E' a' w' hs hk'
   cases e with
   | normal => exact hK .normal _ _ _ _ _ hs hk'
   | ret => exact hK .ret _ _ _ _ _ hs hk'
   | exit i =>
    simp only [kBlk] at hk'
    show Exit.inBlock id Q (.exit i) a' w'
    simp only [Exit.inBlock]
    by_cases hi : i = id
    ·subst hi
     simp only [beq_self, cond_true] at hk'
     rw [if_pos rfl]
     exact hK .normal _ _ _ _ _ hs hk'
    ·simp only [beq_false hi, cond_false] at hk'
     rw [if_neg hi]
     exact hK (.exit i) _ _ _ _ _ hs hk'
  | _ => simp [den] at hk
 | loop x ih =>
  intro ann K Q S B E a w hK h hk
  cases ann with
  | loop L Lb an =>
   simp only [den] at hk
   obtain ⟨n, hn⟩ := loopD_some hk
   let Bf := fun (rec : Env → Option R) E' => den G T sh x an E' (kSeq (fun E2 => rec (E2.canon L Lb)) K)
   let I : Act → World → Prop := fun a' w' => ∃ n S' B' E', Sim P C S' B' E' a' w' ∧ loopN Bf n E' = some r
   have hN : ∀ a' w', I a' w' → ∃ n, (∃ S' B' E', Sim P C S' B' E' a' w' ∧ loopN Bf n E' = some r) ∧ ∀ m, (∃ S' B' E', Sim P C S' B' E' a' w' ∧ loopN Bf m E' = some r) → n ≤ m := by
    intro a' w' ⟨n, hI⟩
    induction n using Nat.strongRecOn with
    | ind n ihn =>
     by_cases hm : ∃ m, m < n ∧ ∃ S' B' E', Sim P C S' B' E' a' w' ∧ loopN Bf m E' = some r
     ·obtain ⟨m, hlt, hm⟩ := hm
      exact ihn m hlt hm
     ·refine ⟨n, hI, fun m hm' => ?_⟩
      apply Nat.le_of_not_lt
      intro hlt
      exact hm ⟨m, hlt, hm'⟩
   let μ : Act → World → Nat := fun a' w' => open Classical in if hh : I a' w' then Classical.choose (hN a' w' hh) else 0
   refine wp_loop I μ ⟨n, S, B, _, h.canon L Lb, hn⟩ ?_
   intro a1 w1 hI
   have hspec := Classical.choose_spec (hN a1 w1 hI)
   have hμ : μ a1 w1 = Classical.choose (hN a1 w1 hI) := by simp only [μ]; rw [dif_pos hI]
   rw [← hμ] at hspec
   obtain ⟨⟨S', B', E', hs, hl⟩, _⟩ := hspec
   cases hm : μ a1 w1 with
   | zero => rw [hm] at hl; cases hl
   | succ m =>
    rw [hm] at hl
    have hl' : den G T sh x an E' (kSeq (fun E2 => loopN Bf m (E2.canon L Lb)) K) = some r := hl
    refine ih (Q := Exit.then (fun a' w' => I a' w' ∧ μ a' w' < m + 1) Q) ?_ hs hl'
    intro e S2 B2 E2 a2 w2 hs2 hk2
    cases e with
    | normal =>
     have hI2 : I a2 w2 := ⟨m, S2, B2, _, hs2.canon L Lb, hk2⟩
     refine ⟨hI2, ?_⟩
     have hsp2 := Classical.choose_spec (hN a2 w2 hI2)
     have hμ2 : μ a2 w2 = Classical.choose (hN a2 w2 hI2) := by simp only [μ]; rw [dif_pos hI2]
     rw [← hμ2] at hsp2
     have := hsp2.2 m ⟨S2, B2, _, hs2.canon L Lb, hk2⟩
     omega
    | exit i => exact hK (.exit i) _ _ _ _ _ hs2 hk2
    | ret => exact hK .ret _ _ _ _ _ hs2 hk2
  | _ => simp [den] at hk
 | exit id => intro ann K Q S B E a w hK h hk; simp only [den] at hk; exact wp_exit (hK (.exit id) _ _ _ _ _ h hk)
 | ret => intro ann K Q S B E a w hK h hk; simp only [den] at hk; exact wp_ret (hK .ret _ _ _ _ _ h hk)
 | _ => intro ann K Q S B E a w hK h hk; simp [den] at hk

theorem denN_ok (hT : TOk P T) {G : Gam} (hG : GOk P C G) {sh : List Nat} : ∀ (c : Code) {K : X → Env → Option R} {Q : Exit → Act → World → Prop} {S : Nat → Prop} {B : Loc → Option Nat} {E : Env} {a : Act} {w : World},
  KOk P C K r Q → Sim P C S B E a w → denN G T sh c E K = some r → c.wp P Q a w := by
 intro c
 induction c with
 | skip => intro K Q S B E a w hK h hk; simp only [denN] at hk; exact wp_skip (hK .normal _ _ _ _ _ h hk)
 | region id ops draw =>
  intro K Q S B E a w hK h hk
  cases draw
  ·simp only [denN] at hk
   exact wp_region_list (evOpsN_ok hT hG (fun S' B' E' a' w' hs hk' => hK .normal _ _ _ _ _ hs hk') h hk)
  ·simp [denN] at hk
 | seq x y ihx ihy =>
  intro K Q S B E a w hK h hk
  simp only [denN] at hk
  refine wp_seq (ihx (Q := Exit.then (y.wp P Q) Q) ?_ h hk)
  intro e S' B' E' a' w' hs hk'
  cases e with
  | normal => exact ihy hK hs hk'
  | exit i => exact hK (.exit i) _ _ _ _ _ hs hk'
  | ret => exact hK .ret _ _ _ _ _ hs hk'
 | cond co x y ihx ihy =>
  intro K Q S B E a w hK h hk
  simp only [denN] at hk
  split at hk
  ·rename_i t hc
   have hv := rd_bool h hc
   refine wp_cond hv ?_
   cases t
   ·simp only [Bool.false_eq_true, if_false] at hk ⊢; exact ihy hK h hk
   ·simp only [if_true] at hk ⊢; exact ihx hK h hk
  ·cases hk
 | ret => intro K Q S B E a w hK h hk; simp only [denN] at hk; exact wp_ret (hK .ret _ _ _ _ _ h hk)
 | _ => intro K Q S B E a w hK h hk; simp [denN] at hk

end
end Go.Proofs.YtecdijlfnnminaaGreatDoor.Eng
namespace Go.Proofs.YtecdijlfnnminaaGreatDoor.Eng
open Go Go.RowKit
set_option linter.unusedVariables false
set_option linter.unusedSimpArgs false

/-! ### functions -/
inductive RT where
 | v (t : Ty)
 | own (id : TypeId) (e : Ty)
 | pz (k : IntKind) (id : TypeId) (e : Ty)

def RT.ty : RT → Ty | .v t => t | .own _ e => .slice e | .pz k _ e => .pair (.int k) (.slice e)

@[reducible] def dens : List Ty → Type
 | [] => Unit
 | [t] => t.den
 | t :: u :: r => t.den × dens (u :: r)

def getR (T : Tys) (E : Env) (r : ResultVar) (rt : RT) : Option rt.ty.den :=
 match r, rt with
 | .tmp s, .v t => (match E.g s with
  | .val t' x => (⟨t', x⟩ : V).as t
  | .full e xs => (⟨.slice e, xs⟩ : V).as t
  | .own _ e xs => (⟨.slice e, xs⟩ : V).as t
  | _ => none)
 | .tmp s, .own id e => (match E.g s with
  | .own id' e' xs => if h : e' = e ∧ id' = id then some (h.1 ▸ xs : List e.den) else none
  | _ => none)
 | .cell p ty, .v t => (match E.g p with
  | .ptr b 0 => (match alook E.bx b, T.ty ty with
   | some l, some t' => bif rowL l then none else if t' = t then (match asm t l with | some (x, _) => some x | none => none) else none
   | _, _ => none)
  | _ => none)
 | .cell p ty, .pz k id e => (match E.g p with
  | .ptr b 0 => bif Nat.blt b 1000000 then (match alook E.bx b, T.ty ty with
   | some [⟨.int k', x⟩, ⟨.pair (.int _) (.slice e'), q⟩], some t' => if h : k' = k ∧ e' = e ∧ q.1.toNat = id ∧ t' = .pair (.int k) (.slice e) then some (x, h.2.1 ▸ q.2) else none
   | _, _ => none) else none
  | _ => none)
 | _, _ => none

/-- A leaf of a box: a value, or a row of its own. -/
inductive LT where
 | v (t : Ty)
 | own (id : TypeId) (e : Ty)
def LT.ty : LT → Ty | .v t => t | .own _ e => .slice e
def LT.leaf : (t : LT) → t.ty.den → V
 | .v t, x => ⟨t, x⟩
 | .own id e, x => ownV id e x
def LT.get : (t : LT) → V → Option t.ty.den
 | .v t, y => y.as t
 | .own id e, ⟨.pair (.int k) (.slice e'), q⟩ => if h : k = .u8 ∧ e' = e ∧ q.1 = (id : Int) then some (h.2.1 ▸ q.2) else none
 | .own _ _, _ => none
theorem LT.get_some : ∀ {t : LT} {v : V} {x : t.ty.den}, t.get v = some x → v = t.leaf x
 | .v t, y, x, h => V.as_some h
 | .own id e, ⟨.pair (.int k) (.slice e'), q⟩, x, h => by
  simp only [LT.get] at h
  split at h
  ·rename_i hh
   obtain ⟨rfl, rfl, hid⟩ := hh
   cases h
   obtain ⟨q1, q2⟩ := q
   have : q1 = (id : Int) := hid
   subst this
   rfl
  ·cases h
 | .own _ _, ⟨.int _, _⟩, _, h => by cases h
 | .own _ _, ⟨.bool, _⟩, _, h => by cases h
 | .own _ _, ⟨.str, _⟩, _, h => by cases h
 | .own _ _, ⟨.unit, _⟩, _, h => by cases h
 | .own _ _, ⟨.slice _, _⟩, _, h => by cases h
 | .own _ _, ⟨.pair .bool _, _⟩, _, h => by cases h
 | .own _ _, ⟨.pair .str _, _⟩, _, h => by cases h
 | .own _ _, ⟨.pair .unit _, _⟩, _, h => by cases h
 | .own _ _, ⟨.pair (.slice _) _, _⟩, _, h => by cases h
 | .own _ _, ⟨.pair (.pair _ _) _, _⟩, _, h => by cases h
 | .own _ _, ⟨.pair (.int _) (.int _), _⟩, _, h => by cases h
 | .own _ _, ⟨.pair (.int _) .bool, _⟩, _, h => by cases h
 | .own _ _, ⟨.pair (.int _) .str, _⟩, _, h => by cases h
 | .own _ _, ⟨.pair (.int _) .unit, _⟩, _, h => by cases h
 | .own _ _, ⟨.pair (.int _) (.pair _ _), _⟩, _, h => by cases h
def getB (E : Env) (b i : Nat) (t : LT) : Option t.ty.den :=
 match alook E.bx b with
 | some l => (match l[i]? with | some v => t.get v | none => none)
 | none => none

/-- The answers: the results, and behind them the leaves of the boxes that came in. -/
inductive Out where
 | res (v : ResultVar) (t : RT)
 | box (n i : Nat) (t : LT)
def Out.ty : Out → Ty | .res _ t => t.ty | .box _ _ t => t.ty
def Out.get (T : Tys) (E : Env) : (o : Out) → Option o.ty.den
 | .res v t => getR T E v t
 | .box n i t => getB E n i t

@[reducible] def outs : List Out → Type
 | [] => Unit
 | [o] => o.ty.den
 | o :: p :: r => o.ty.den × outs (p :: r)

def fin (T : Tys) : (l : List Out) → Env → Option (outs l)
 | [], _ => some ()
 | [o], E => o.get T E
 | o :: p :: r, E => match o.get T E, fin T (p :: r) E with
  | some x, some y => some (x, y)
  | _, _ => none

def cntOf (b : Nat) : List Out → Nat
 | [] => 0
 | .box c _ _ :: r => bif Nat.beq c b then cntOf b r + 1 else cntOf b r
 | .res _ _ :: r => cntOf b r

/-- The boxes that came in are told whole. -/
def boxesOk (E : Env) (l : List Out) : List Nat → Bool
 | [] => true
 | b :: r => (match alook E.bx b with | some x => Nat.beq x.length (cntOf b l) | none => false) && boxesOk E l r

def finK (T : Tys) (bs : List Nat) (l : List Out) : X → Env → Option (outs l)
 | .exit _, _ => none
 | _, E => bif boxesOk E l bs then fin T l E else none

def resOf : (l : List Out) → outs l → List SV
 | [], _ => []
 | [.res _ (.v t)], x => [.val t x]
 | [.res _ (.own id e)], x => [.own id e x]
 | [.res _ (.pz k id e)], x => [.agg [⟨.int k, x.1⟩, ownV id e x.2]]
 | [.box _ _ _], _ => []
 | .res _ (.v t) :: p :: r, x => .val t x.1 :: resOf (p :: r) x.2
 | .res _ (.own id e) :: p :: r, x => .own id e x.1 :: resOf (p :: r) x.2
 | .res _ (.pz k id e) :: p :: r, x => .agg [⟨.int k, x.1.1⟩, ownV id e x.1.2] :: resOf (p :: r) x.2
 | .box _ _ _ :: p :: r, x => resOf (p :: r) x.2

/-- The leaves of box b, in order. -/
def leavesOf (b : Nat) : (l : List Out) → outs l → List V
 | [], _ => []
 | [.res _ _], _ => []
 | [.box b' _ t], x => bif Nat.beq b' b then [t.leaf x] else []
 | .res _ _ :: p :: r, x => leavesOf b (p :: r) x.2
 | .box b' _ t :: p :: r, x => bif Nat.beq b' b then t.leaf x.1 :: leavesOf b (p :: r) x.2 else leavesOf b (p :: r) x.2

def sameN : List Nat → List Nat → Bool
 | [], [] => true
 | a :: l, b :: r => Nat.beq a b && sameN l r
 | _, _ => false

def slots0 : Nat → List A → List (Nat × SV)
 | _, [] => []
 | i, .v t x :: r => (i, .val t x) :: slots0 (i + 1) r
 | i, .bx _ :: r => (i, .ptr (1000000 + i) 0) :: slots0 (i + 1) r
 | i, .cr t x :: r => (i, .cref t x) :: slots0 (i + 1) r
 | i, .clo φ :: r => (i, .clo φ) :: slots0 (i + 1) r
 | i, .nl e :: r => (i, .val (.slice e) []) :: slots0 (i + 1) r
 | i, .io len e _ :: r => (i, .rref (1000000 + i) len e) :: slots0 (i + 1) r
 | i, .fp ty f c :: r => (i, .fp ty f c) :: slots0 (i + 1) r
def boxes0 : Nat → List A → List (Nat × List V)
 | _, [] => []
 | i, .bx l :: r => (1000000 + i, l) :: boxes0 (i + 1) r
 | i, .io _ e xs :: r => (1000000 + i, [rowV e xs]) :: boxes0 (i + 1) r
 | i, _ :: r => boxes0 (i + 1) r

def env0 (nt : Nat) (as : List A) : Env := ⟨nt, slots0 0 as, boxes0 0 as⟩

structure FI where
 fn : Func
 body : Code
 ann : Ann
 sh : List Nat
 bs : List Nat
 outs : List Out

noncomputable def run (G : Gam) (T : Tys) (F : FI) (as : List A) : Option (outs F.outs) :=
 bif Nat.ble as.length F.fn.ntmps && sameN (boxIds 0 as) F.bs then den G T F.sh F.body F.ann (env0 F.fn.ntmps as) (finK T F.bs F.outs) else none

noncomputable def runN (G : Gam) (T : Tys) (F : FI) (as : List A) : Option (outs F.outs) :=
 bif Nat.ble as.length F.fn.ntmps && sameN (boxIds 0 as) F.bs then denN G T F.sh F.body (env0 F.fn.ntmps as) (finK T F.bs F.outs) else none
noncomputable def mkSpecN (G : Gam) (T : Tys) (F : FI) : CSpec := fun as =>
 ⟨outs F.outs, runN G T F as, resOf F.outs, fun x => F.bs.map fun b => leavesOf b F.outs x⟩
noncomputable def mkSpec (G : Gam) (T : Tys) (F : FI) : CSpec := fun as =>
 ⟨outs F.outs, run G T F as, resOf F.outs, fun x => F.bs.map fun b => leavesOf b F.outs x⟩

/-! ### a place in the code -/
structure Pos (R : Type) : Type 1 where
 c : Code
 a : Ann
 K : X → Env → Option R

noncomputable def posAt {R : Type} (G : Gam) (T : Tys) (sh : List Nat) : List Bool → Code → Ann → (X → Env → Option R) → Pos R
 | [], c, a, K => ⟨c, a, K⟩
 | false :: p, .seq x y, .seq a b, K => posAt G T sh p x a (kSeq (fun E' => den G T sh y b E' K) K)
 | true :: p, .seq _ y, .seq _ b, K => posAt G T sh p y b K
 | false :: p, .seq x y, .cut L Lb a b, K => posAt G T sh p x a (kSeq (fun E' => bar (fun E2 => den G T sh y b E2 K) (E'.canon L Lb)) K)
 | true :: p, .seq _ y, .cut _ _ _ b, K => posAt G T sh p y b K
 | false :: p, .cond _ x _, .cond a _, K => posAt G T sh p x a K
 | true :: p, .cond _ _ y, .cond _ b, K => posAt G T sh p y b K
 | _ :: p, .block id x, .blk a, K => posAt G T sh p x a (kBlk id K)
 | _ :: p, .loop x, .loop L Lb a, K => posAt G T sh p x a (kSeq (fun E2 => den G T sh (.loop x) (.loop L Lb a) E2 K) K)
 | _, c, a, K => ⟨c, a, K⟩

/-- What a function comes to from a place on. -/
noncomputable def runAt (G : Gam) (T : Tys) (F : FI) (p : List Bool) (sl : List (Nat × SV)) (bx : List (Nat × List V)) : Option (outs F.outs) :=
 let q := posAt G T F.sh p F.body F.ann (finK T F.bs F.outs)
 den G T F.sh q.c q.a ⟨F.fn.ntmps, sl, bx⟩ q.K

/-- The same, at a place where ways meet. -/
noncomputable def runJ (G : Gam) (T : Tys) (F : FI) (p : List Bool) (sl : List (Nat × SV)) (bx : List (Nat × List V)) : Option (outs F.outs) :=
 let q := posAt G T F.sh p F.body F.ann (finK T F.bs F.outs)
 bar (fun E => den G T F.sh q.c q.a E q.K) ⟨F.fn.ntmps, sl, bx⟩
theorem runJ_eq (G : Gam) (T : Tys) (F : FI) (p : List Bool) (sl : List (Nat × SV)) (bx : List (Nat × List V)) : runJ G T F p sl bx = runAt G T F p sl bx := by unfold runJ runAt; dsimp only; rw [bar_eq]

/-- The same, from a marked operation of a region on. -/
noncomputable def runM (G : Gam) (T : Tys) (F : FI) (p : List Bool) (i : Nat) (sl : List (Nat × SV)) (bx : List (Nat × List V)) : Option (outs F.outs) :=
 let q := posAt G T F.sh p F.body F.ann (finK T F.bs F.outs)
 match q.c, q.a with
 | .region _ ops false, .rg pts => bar (fun E => evOpsP G T F.sh pts ops.toList i (ops.toList.drop i) E fun E' => q.K .normal E') ⟨F.fn.ntmps, sl, bx⟩
 | .region _ ops true, .rg pts => cutD G T F.sh pts ops.toList (fun E' => q.K .normal E') i ⟨F.fn.ntmps, sl, bx⟩
 | _, _ => none
noncomputable def runMo (G : Gam) (T : Tys) (F : FI) (p : List Bool) (i : Nat) (sl : List (Nat × SV)) (bx : List (Nat × List V)) : Option (outs F.outs) :=
 let q := posAt G T F.sh p F.body F.ann (finK T F.bs F.outs)
 match q.c, q.a with
 | .region _ ops false, .rg pts => evOpsP G T F.sh pts ops.toList i (ops.toList.drop i) ⟨F.fn.ntmps, sl, bx⟩ fun E' => q.K .normal E'
 | .region _ ops true, .rg pts => evDrawC G T F.sh pts ops.toList (fun E' => q.K .normal E') (cutD G T F.sh pts ops.toList fun E' => q.K .normal E') i (ops.toList.drop i) (some (i - 1)) [] ⟨F.fn.ntmps, sl, bx⟩
 | _, _ => none
theorem runM_eq (G : Gam) (T : Tys) (F : FI) (p : List Bool) (i : Nat) (sl : List (Nat × SV)) (bx : List (Nat × List V)) : runM G T F p i sl bx = runMo G T F p i sl bx := by
 unfold runM runMo
 dsimp only
 split
 ·rw [bar_eq]
 ·rw [cutD_eq, evDrawC_eq _ _ _ _ _ _ _ _ _ _ _ rfl]
 ·rfl

/-- A loop, entered. -/
noncomputable def Pos.inner {R : Type} (G : Gam) (T : Tys) (sh : List Nat) (q : Pos R) : Pos R :=
 match q.c, q.a with
 | .loop x, .loop L Lb a => ⟨x, a, kSeq (fun E2 => den G T sh (.loop x) (.loop L Lb a) E2 q.K) q.K⟩
 | _, _ => q
def Pos.head {R : Type} (q : Pos R) (E : Env) : Env :=
 match q.c, q.a with
 | .loop _, .loop L Lb _ => E.canon L Lb
 | _, _ => E

/-- The same, a loop being entered. -/
noncomputable def loopAt (G : Gam) (T : Tys) (F : FI) (p : List Bool) (sl : List (Nat × SV)) (bx : List (Nat × List V)) : Option (outs F.outs) :=
 let q := posAt G T F.sh p F.body F.ann (finK T F.bs F.outs)
 den G T F.sh (q.inner G T F.sh).c (q.inner G T F.sh).a (q.head ⟨F.fn.ntmps, sl, bx⟩) (q.inner G T F.sh).K

/-! ### what is looked at once -/
def ownsOf : List Out → List (Option Nat)
 | [] => []
 | .res (.tmp s) (.own _ _) :: r => some s :: ownsOf r
 | .res _ _ :: r => none :: ownsOf r
 | .box _ _ _ :: r => ownsOf r
def valsOf : List Out → List Nat
 | [] => []
 | .res (.tmp s) (.v _) :: r => s :: valsOf r
 | _ :: r => valsOf r
def varsOf : List Out → List ResultVar
 | [] => []
 | .res v _ :: r => v :: varsOf r
 | .box _ _ _ :: r => varsOf r
/-- Which results are a number and a row of its own; one at most. -/
def pzsOf : List Out → List Bool
 | [] => []
 | .res _ (.pz _ _ _) :: r => true :: pzsOf r
 | .res _ _ :: r => false :: pzsOf r
 | .box _ _ _ :: r => pzsOf r
def onceB : List Bool → Bool
 | [] => true
 | true :: r => !(r.contains true)
 | false :: r => onceB r
def memO (s : Nat) : List (Option Nat) → Bool
 | [] => false
 | some t :: r => Nat.beq s t || memO s r
 | none :: r => memO s r
def distO : List (Option Nat) → Bool
 | [] => true
 | some s :: r => !(memO s r) && distO r
 | none :: r => distO r
def apartO (os : List (Option Nat)) : List Nat → Bool
 | [] => true
 | s :: r => !(memO s os) && apartO os r
def ordOf (b : Nat) : Nat → List Out → Bool
 | _, [] => true
 | k, .box c i _ :: r => bif Nat.beq c b then Nat.beq i k && ordOf b (k + 1) r else ordOf b k r
 | k, .res _ _ :: r => ordOf b k r
def ordsOf (l : List Out) : List Nat → Bool
 | [] => true
 | b :: r => ordOf b 0 l && ordsOf l r
def FI.fine (F : FI) : Bool := distO (ownsOf F.outs) && apartO (ownsOf F.outs) (valsOf F.outs) && ordsOf F.outs F.bs && onceB (pzsOf F.outs)


end Go.Proofs.YtecdijlfnnminaaGreatDoor.Eng
namespace Go.Proofs.YtecdijlfnnminaaGreatDoor.Eng
open Go Go.RowKit
set_option linter.unusedVariables false
set_option linter.unusedSimpArgs false

section
variable {P : Program} {T : Tys} {C : Ctx} {S : Nat → Prop} {B : Loc → Option Nat} {E : Env} {a : Act} {w : World}

/-! ### the way in -/
theorem zip_keys : ∀ {l : List A} {i : Nat} {X : List Nat} {b g : Nat}, alook ((boxIds i l).zip X) b = some g → 1000000 + i ≤ b
 | [], i, X, b, g, h => by simp [boxIds, alook] at h
 | .v t x :: l, i, X, b, g, h => by have := zip_keys (l := l) h; omega
 | .cr t x :: l, i, X, b, g, h => by have := zip_keys (l := l) h; omega
 | .clo φ :: l, i, X, b, g, h => by have := zip_keys (l := l) h; omega
 | .nl e :: l, i, X, b, g, h => by have := zip_keys (l := l) h; omega
 | .fp _ _ _ :: l, i, X, b, g, h => by have := zip_keys (l := l) h; omega
 | .bx bl :: l, i, [], b, g, h => by simp [boxIds, alook] at h
 | .bx bl :: l, i, x :: X, b, g, h => by
  have h' : alook ((1000000 + i, x) :: (boxIds (i + 1) l).zip X) b = some g := h
  rw [alook_cons] at h'
  split at h'
  ·omega
  ·have := zip_keys (l := l) h'; omega
 | .io _ _ _ :: l, i, [], b, g, h => by simp [boxIds, alook] at h
 | .io _ _ _ :: l, i, x :: X, b, g, h => by
  have h' : alook ((1000000 + i, x) :: (boxIds (i + 1) l).zip X) b = some g := h
  rw [alook_cons] at h'
  split at h'
  ·omega
  ·have := zip_keys (l := l) h'; omega

theorem zip_mem : ∀ {ids X : List Nat} {b g : Nat}, alook (ids.zip X) b = some g → g ∈ X
 | [], X, b, g, h => by simp [alook] at h
 | _ :: _, [], b, g, h => by simp [alook] at h
 | i :: ids, x :: X, b, g, h => by
  have h' : alook ((i, x) :: ids.zip X) b = some g := h
  rw [alook_cons] at h'
  split at h'
  ·cases h'; simp
  ·exact List.mem_cons_of_mem _ (zip_mem h')

theorem zip_inj : ∀ {ids X : List Nat} {b b' g : Nat}, X.Nodup → alook (ids.zip X) b = some g → alook (ids.zip X) b' = some g → b = b'
 | [], X, b, b', g, _, h, _ => by simp [alook] at h
 | _ :: _, [], b, b', g, _, h, _ => by simp [alook] at h
 | i :: ids, x :: X, b, b', g, hn, h, h' => by
  have k : alook ((i, x) :: ids.zip X) b = some g := h
  have k' : alook ((i, x) :: ids.zip X) b' = some g := h'
  rw [alook_cons] at k k'
  obtain ⟨n1, n2⟩ := List.nodup_cons.1 hn
  split at k <;> split at k'
  ·omega
  ·cases k; exact absurd (zip_mem k') n1
  ·cases k'; exact absurd (zip_mem k) n1
  ·exact zip_inj n2 k k'

theorem init_slots {bb : Nat → Option Nat} (hbb : ∀ b g, bb b = some g → B (.b b) = some g) : ∀ {l : List A} {i : Nat} {vs : List Value} {X Y : List Nat}, ArgsT P S w bb l vs X Y → (∀ k v, vs[k]? = some v → tv a (i + k) = v) →
  (∀ b g, alook ((boxIds i l).zip X) b = some g → B (.b b) = some g) → ∀ n sv, alook (slots0 i l) n = some sv → SlotR P S B E a w n sv
 | [], i, vs, X, Y, _, _, _, n, sv, h => by simp [slots0, alook] at h
 | .v t x :: l, i, vs, X, Y, ⟨u, r, e, h1, h2⟩, hv, hb, n, sv, h => by
  have h' : alook ((i, SV.val t x) :: slots0 (i + 1) l) n = some sv := h
  rw [alook_cons] at h'
  split at h'
  ·rename_i hn; subst hn; cases h'
   show ValR S w t x (tv a i)
   rw [show tv a i = u from hv 0 u (by rw [e]; rfl)]; exact h1
  ·exact init_slots hbb h2 (fun k v hk => by have := hv (k + 1) v (by rw [e]; exact hk); rw [← this]; congr 1; omega) hb n sv h'
 | .cr t x :: l, i, vs, X, Y, ⟨u, r, e, h1, h2⟩, hv, hb, n, sv, h => by
  have h' : alook ((i, SV.cref t x) :: slots0 (i + 1) l) n = some sv := h
  rw [alook_cons] at h'
  split at h'
  ·rename_i hn; subst hn; cases h'
   show CrefR S w t x (tv a i)
   rw [show tv a i = u from hv 0 u (by rw [e]; rfl)]; exact h1
  ·exact init_slots hbb h2 (fun k v hk => by have := hv (k + 1) v (by rw [e]; exact hk); rw [← this]; congr 1; omega) hb n sv h'
 | .clo φ :: l, i, vs, X, Y, ⟨u, r, e, h1, h2⟩, hv, hb, n, sv, h => by
  have h' : alook ((i, SV.clo φ) :: slots0 (i + 1) l) n = some sv := h
  rw [alook_cons] at h'
  split at h'
  ·rename_i hn; subst hn; cases h'
   show CloR P S w (tv a i) φ
   rw [show tv a i = u from hv 0 u (by rw [e]; rfl)]; exact h1
  ·exact init_slots hbb h2 (fun k v hk => by have := hv (k + 1) v (by rw [e]; exact hk); rw [← this]; congr 1; omega) hb n sv h'
 | .nl t :: l, i, vs, X, Y, ⟨u, r, e, h1, h2⟩, hv, hb, n, sv, h => by
  have h' : alook ((i, SV.val (.slice t) []) :: slots0 (i + 1) l) n = some sv := h
  rw [alook_cons] at h'
  split at h'
  ·rename_i hn; subst hn; cases h'
   show ValR S w (.slice t) [] (tv a i)
   rw [show tv a i = u from hv 0 u (by rw [e]; rfl), h1, ValR.slice]; exact .inl ⟨none, rfl, rfl⟩
  ·exact init_slots hbb h2 (fun k v hk => by have := hv (k + 1) v (by rw [e]; exact hk); rw [← this]; congr 1; omega) hb n sv h'
 | .bx bl :: l, i, vs, X, Y, ⟨g, r, X', Y', ob, e, e2, e3, h1, h2⟩, hv, hb, n, sv, h => by
  subst e2
  have h' : alook ((i, SV.ptr (1000000 + i) 0) :: slots0 (i + 1) l) n = some sv := h
  have hz : (boxIds i (.bx bl :: l)).zip (g :: X') = (1000000 + i, g) :: (boxIds (i + 1) l).zip X' := rfl
  rw [hz] at hb
  rw [alook_cons] at h'
  split at h'
  ·rename_i hn; subst hn; cases h'
   exact ⟨g, hb _ _ (by rw [alook_cons, if_pos rfl]), hv 0 _ (by rw [e]; rfl)⟩
  ·refine init_slots hbb h2 (fun k v hk => by have := hv (k + 1) v (by rw [e]; exact hk); rw [← this]; congr 1; omega) (fun b g' hg => hb b g' ?_) n sv h'
   have := zip_keys hg
   rw [alook_cons, if_neg (by omega)]; exact hg
 | .io len e0 xs :: l, i, vs, X, Y, ⟨g, cap, r, X', e, e2, h1, h2⟩, hv, hb, n, sv, h => by
  subst e2
  have h' : alook ((i, SV.rref (1000000 + i) len e0) :: slots0 (i + 1) l) n = some sv := h
  have hz : (boxIds i (.io len e0 xs :: l)).zip (g :: X') = (1000000 + i, g) :: (boxIds (i + 1) l).zip X' := rfl
  rw [hz] at hb
  rw [alook_cons] at h'
  split at h'
  ·rename_i hn; subst hn; cases h'
   exact ⟨g, cap, hb _ _ (by rw [alook_cons, if_pos rfl]), hv 0 _ (by rw [e]; rfl)⟩
  ·refine init_slots hbb h2 (fun k v hk => by have := hv (k + 1) v (by rw [e]; exact hk); rw [← this]; congr 1; omega) (fun b g' hg => hb b g' ?_) n sv h'
   have := zip_keys hg
   rw [alook_cons, if_neg (by omega)]; exact hg
 | .fp ty f c :: l, i, vs, X, Y, ⟨g, us, r, e, h0, h1, h2⟩, hv, hb, n, sv, h => by
  have h' : alook ((i, SV.fp ty f c) :: slots0 (i + 1) l) n = some sv := h
  rw [alook_cons] at h'
  split at h'
  ·rename_i hn; subst hn; cases h'
   exact ⟨g, us, hv 0 _ (by rw [e]; rfl), h0.imp hbb, h1⟩
  ·exact init_slots hbb h2 (fun k v hk => by have := hv (k + 1) v (by rw [e]; exact hk); rw [← this]; congr 1; omega) hb n sv h'

theorem blks_inj {ob : Nat → Option Nat} : ∀ {l : List V} {i j j' g : Nat} {u v : V}, (blks ob i l).Nodup → l[j]? = some u → u.isOwn = true → ob (i + j) = some g → l[j']? = some v → v.isOwn = true → ob (i + j') = some g → j = j'
 | [], _, _, _, _, _, _, _, h, _, _, _, _, _ => by simp at h
 | x :: l, i, 0, 0, g, _, _, _, _, _, _, _, _, _ => rfl
 | x :: l, i, 0, j' + 1, g, u, v, hn, h1, h2, h3, h4, h5, h6 => by
  exfalso
  simp only [List.getElem?_cons_zero, Option.some.injEq] at h1
  subst h1
  have hm : g ∈ blks ob (i + 1) l := blks_of (i := i + 1) (j := j') (by simpa using h4) h5 (by rw [← h6]; congr 1; omega)
  simp only [blks, h2, cond_true] at hn
  rw [Nat.add_zero] at h3
  rw [h3] at hn
  exact (List.nodup_append.1 hn).2.2 g (by simp) g hm rfl
 | x :: l, i, j + 1, 0, g, u, v, hn, h1, h2, h3, h4, h5, h6 => by
  exfalso
  simp only [List.getElem?_cons_zero, Option.some.injEq] at h4
  subst h4
  have hm : g ∈ blks ob (i + 1) l := blks_of (i := i + 1) (j := j) (by simpa using h1) h2 (by rw [← h3]; congr 1; omega)
  simp only [blks, h5, cond_true] at hn
  rw [Nat.add_zero] at h6
  rw [h6] at hn
  exact (List.nodup_append.1 hn).2.2 g (by simp) g hm rfl
 | x :: l, i, j + 1, j' + 1, g, u, v, hn, h1, h2, h3, h4, h5, h6 => by
  have := blks_inj (l := l) (i := i + 1) (j := j) (j' := j') (List.nodup_append.1 hn).2.1 (by simpa using h1) h2 (by rw [← h3]; congr 1; omega) (by simpa using h4) h5 (by rw [← h6]; congr 1; omega)
  omega

/-- The boxes that come in, and whose the rows in them are. -/
theorem init_boxes {bb : Nat → Option Nat} : ∀ {l : List A} {i : Nat} {vs : List Value} {X Y : List Nat}, ArgsT P S w bb l vs X Y → Y.Nodup → ∃ OB : Nat → Nat → Option Nat,
  (∀ b bl, alook (boxes0 i l) b = some bl → ∃ g, alook ((boxIds i l).zip X) b = some g ∧ BoxR S w (OB b) bl g) ∧ (∀ b j g, OB b j = some g → g ∈ Y ∧ 1000000 + i ≤ b) ∧ (∀ b j b' j' g, OB b j = some g → OB b' j' = some g → b = b' ∧ j = j')
 | [], i, vs, X, Y, _, _ => by
  refine ⟨fun _ _ => none, ?_, ?_, ?_⟩
  ·intro b bl h; simp [boxes0, alook] at h
  ·intro b j g h; cases h
  ·intro b j b' j' g h; cases h
 | .v t x :: l, i, vs, X, Y, ⟨u, r, e, h1, h2⟩, hn => by
  obtain ⟨OB, a1, a2, a3⟩ := init_boxes (l := l) (i := i + 1) h2 hn
  exact ⟨OB, a1, fun b j g h => by have := a2 b j g h; exact ⟨this.1, by omega⟩, a3⟩
 | .cr t x :: l, i, vs, X, Y, ⟨u, r, e, h1, h2⟩, hn => by
  obtain ⟨OB, a1, a2, a3⟩ := init_boxes (l := l) (i := i + 1) h2 hn
  exact ⟨OB, a1, fun b j g h => by have := a2 b j g h; exact ⟨this.1, by omega⟩, a3⟩
 | .clo φ :: l, i, vs, X, Y, ⟨u, r, e, h1, h2⟩, hn => by
  obtain ⟨OB, a1, a2, a3⟩ := init_boxes (l := l) (i := i + 1) h2 hn
  exact ⟨OB, a1, fun b j g h => by have := a2 b j g h; exact ⟨this.1, by omega⟩, a3⟩
 | .fp _ _ _ :: l, i, vs, X, Y, ⟨_, _, r, e, _, h1, h2⟩, hn => by
  obtain ⟨OB, a1, a2, a3⟩ := init_boxes (l := l) (i := i + 1) h2 hn
  exact ⟨OB, a1, fun b j g h => by have := a2 b j g h; exact ⟨this.1, by omega⟩, a3⟩
 | .nl t :: l, i, vs, X, Y, ⟨u, r, e, h1, h2⟩, hn => by
  obtain ⟨OB, a1, a2, a3⟩ := init_boxes (l := l) (i := i + 1) h2 hn
  exact ⟨OB, a1, fun b j g h => by have := a2 b j g h; exact ⟨this.1, by omega⟩, a3⟩
 | .bx bl0 :: l, i, vs, X, Y, ⟨g, r, X', Y', ob, e, e2, e3, h1, h2⟩, hn => by
  subst e2 e3
  obtain ⟨n1, n2, n3⟩ := List.nodup_append.1 hn
  obtain ⟨OB, a1, a2, a3⟩ := init_boxes (l := l) (i := i + 1) h2 n2
  let o1 : Nat → Option Nat := fun j => match bl0[j]? with | some v => bif v.isOwn then ob j else none | none => none
  have ho1 : ∀ j g', o1 j = some g' → ∃ v, bl0[j]? = some v ∧ v.isOwn = true ∧ ob j = some g' := by
   intro j g' hj
   simp only [o1] at hj
   cases hq : bl0[j]? with
   | none => rw [hq] at hj; cases hj
   | some v =>
    rw [hq] at hj
    cases hv : v.isOwn
    ·simp only [hv, cond_false] at hj; cases hj
    ·simp only [hv, cond_true] at hj; exact ⟨v, rfl, hv, hj⟩
  have hmem : ∀ j g', o1 j = some g' → g' ∈ blks ob 0 bl0 := fun j g' hj => by
   obtain ⟨v, q1, q2, q3⟩ := ho1 j g' hj
   exact blks_of (i := 0) q1 q2 (by rw [Nat.zero_add]; exact q3)
  have hbox : BoxR S w o1 bl0 g := by
   obtain ⟨cells, id, k1, k2⟩ := h1
   refine ⟨cells, id, k1, ?_⟩
   rcases k2 with ⟨k2, k3⟩ | ⟨e0, xs, k2, k3⟩
   ·exact .inl ⟨k2, k3.move (Keep.refl _ _) (fun _ hx => hx) (fun j v hj hv => ⟨by simp [o1, hj, hv], fun _ _ => rfl⟩)⟩
   ·exact .inr ⟨e0, xs, k2, k3⟩
  have hz : (boxIds i (.bx bl0 :: l)).zip (g :: X') = (1000000 + i, g) :: (boxIds (i + 1) l).zip X' := rfl
  refine ⟨fun b => if b = 1000000 + i then o1 else OB b, ?_, ?_, ?_⟩
  ·intro b bl h
   have h' : alook ((1000000 + i, bl0) :: boxes0 (i + 1) l) b = some bl := h
   rw [hz]
   rw [alook_cons] at h'
   split at h'
   ·rename_i hb; subst hb; cases h'
    exact ⟨g, by rw [alook_cons, if_pos rfl], by simpa using hbox⟩
   ·rename_i hb
    obtain ⟨g', k1, k2⟩ := a1 b bl h'
    exact ⟨g', by rw [alook_cons, if_neg hb]; exact k1, by simpa [Ne.symm hb] using k2⟩
  ·intro b j g' h
   by_cases hb : b = 1000000 + i
   ·simp only [hb, if_true] at h
    exact ⟨List.mem_append_left _ (hmem j g' h), by omega⟩
   ·simp only [hb, if_false] at h
    have := a2 b j g' h
    exact ⟨List.mem_append_right _ this.1, by omega⟩
  ·intro b j b' j' g' h h'
   by_cases hb : b = 1000000 + i
   ·by_cases hb' : b' = 1000000 + i
    ·simp only [hb, if_true] at h
     simp only [hb', if_true] at h'
     obtain ⟨v, q1, q2, q3⟩ := ho1 j g' h
     obtain ⟨v', q4, q5, q6⟩ := ho1 j' g' h'
     exact ⟨by omega, blks_inj (i := 0) n1 q1 q2 (by rw [Nat.zero_add]; exact q3) q4 q5 (by rw [Nat.zero_add]; exact q6)⟩
    ·simp only [hb, if_true] at h
     simp only [hb', if_false] at h'
     exact absurd rfl (n3 g' (hmem j g' h) g' (a2 b' j' g' h').1)
   ·by_cases hb' : b' = 1000000 + i
    ·simp only [hb, if_false] at h
     simp only [hb', if_true] at h'
     exact absurd rfl (n3 g' (hmem j' g' h') g' (a2 b j g' h).1)
    ·simp only [hb, if_false] at h
     simp only [hb', if_false] at h'
     exact a3 b j b' j' g' h h'
 | .io len e0 xs :: l, i, vs, X, Y, ⟨g, cap, r, X', e, e2, h1, h2⟩, hn => by
  subst e2
  obtain ⟨OB, a1, a2, a3⟩ := init_boxes (l := l) (i := i + 1) h2 hn
  have hz : (boxIds i (.io len e0 xs :: l)).zip (g :: X') = (1000000 + i, g) :: (boxIds (i + 1) l).zip X' := rfl
  refine ⟨OB, ?_, fun b j g h => by have := a2 b j g h; exact ⟨this.1, by omega⟩, a3⟩
  intro b bl h
  have h' : alook ((1000000 + i, [rowV e0 xs]) :: boxes0 (i + 1) l) b = some bl := h
  rw [hz]
  rw [alook_cons] at h'
  split at h'
  ·rename_i hb; subst hb; cases h'
   exact ⟨g, by rw [alook_cons, if_pos rfl], h1.rowOb (Keep.refl _ _) (fun _ hx => hx) rfl⟩
  ·rename_i hb
   obtain ⟨g', k1, k2⟩ := a1 b bl h'
   exact ⟨g', by rw [alook_cons, if_neg hb]; exact k1, k2⟩

theorem ArgsT.length {bb : Nat → Option Nat} : ∀ {l : List A} {vs : List Value} {X Y : List Nat}, ArgsT P S w bb l vs X Y → vs.length = l.length
 | [], vs, X, Y, h => by rw [h.1]; rfl
 | .v t x :: l, vs, X, Y, ⟨u, r, e, _, h2⟩ => by rw [e]; simp [ArgsT.length h2]
 | .cr t x :: l, vs, X, Y, ⟨u, r, e, _, h2⟩ => by rw [e]; simp [ArgsT.length h2]
 | .clo t :: l, vs, X, Y, ⟨u, r, e, _, h2⟩ => by rw [e]; simp [ArgsT.length h2]
 | .nl t :: l, vs, X, Y, ⟨u, r, e, _, h2⟩ => by rw [e]; simp [ArgsT.length h2]
 | .bx bl :: l, vs, X, Y, ⟨g, r, X', Y', ob, e, _, _, _, h2⟩ => by rw [e]; simp [ArgsT.length h2]
 | .io _ _ _ :: l, vs, X, Y, ⟨g, cap, r, X', e, _, _, h2⟩ => by rw [e]; simp [ArgsT.length h2]
 | .fp _ _ _ :: l, vs, X, Y, ⟨_, _, r, e, _, _, h2⟩ => by rw [e]; simp [ArgsT.length h2]

theorem boxIds_ge : ∀ {l : List A} {i b : Nat}, b ∈ boxIds i l → 1000000 + i ≤ b
 | [], i, b, h => by simp [boxIds] at h
 | .v t x :: l, i, b, h => by have := boxIds_ge (l := l) h; omega
 | .cr t x :: l, i, b, h => by have := boxIds_ge (l := l) h; omega
 | .clo t :: l, i, b, h => by have := boxIds_ge (l := l) h; omega
 | .nl t :: l, i, b, h => by have := boxIds_ge (l := l) h; omega
 | .fp _ _ _ :: l, i, b, h => by have := boxIds_ge (l := l) h; omega
 | .bx t :: l, i, b, h => by
  rcases List.mem_cons.1 h with h | h
  ·omega
  ·have := boxIds_ge (l := l) h; omega
 | .io _ _ _ :: l, i, b, h => by
  rcases List.mem_cons.1 h with h | h
  ·omega
  ·have := boxIds_ge (l := l) h; omega
theorem boxIds_nodup : ∀ {l : List A} {i : Nat}, (boxIds i l).Nodup
 | [], i => List.nodup_nil
 | .v t x :: l, i => boxIds_nodup (l := l)
 | .cr t x :: l, i => boxIds_nodup (l := l)
 | .clo t :: l, i => boxIds_nodup (l := l)
 | .nl t :: l, i => boxIds_nodup (l := l)
 | .fp _ _ _ :: l, i => boxIds_nodup (l := l)
 | .bx t :: l, i => List.nodup_cons.2 ⟨fun h => by have := boxIds_ge h; omega, boxIds_nodup (l := l)⟩
 | .io _ _ _ :: l, i => List.nodup_cons.2 ⟨fun h => by have := boxIds_ge h; omega, boxIds_nodup (l := l)⟩

theorem sameN_eq : ∀ {l r : List Nat}, sameN l r = true → l = r
 | [], [], _ => rfl
 | a :: l, b :: r, h => by
  simp only [sameN, Bool.and_eq_true] at h
  rw [Nat.eq_of_beq_eq_true h.1, sameN_eq h.2]
 | [], _ :: _, h => by cases h
 | _ :: _, [], h => by cases h

/-! ### the way out -/
theorem memO_get {s : Nat} : ∀ {l : List (Option Nat)} {i : Nat}, l[i]? = some (some s) → memO s l = true
 | [], i, h => by simp at h
 | x :: l, 0, h => by simp only [List.getElem?_cons_zero, Option.some.injEq] at h; subst h; simp [memO, beq_self]
 | some t :: l, i + 1, h => by simp only [memO]; rw [memO_get (l := l) (i := i) (by simpa using h)]; simp
 | none :: l, i + 1, h => by simp only [memO]; exact memO_get (l := l) (i := i) (by simpa using h)
theorem distO_inj {s : Nat} : ∀ {l : List (Option Nat)} {i j : Nat}, distO l = true → l[i]? = some (some s) → l[j]? = some (some s) → i = j
 | [], i, j, _, h, _ => by simp at h
 | x :: l, 0, 0, _, _, _ => rfl
 | x :: l, 0, j + 1, hd, h, h' => by
  simp only [List.getElem?_cons_zero, Option.some.injEq] at h; subst h
  simp only [distO, Bool.and_eq_true, Bool.not_eq_true'] at hd
  rw [memO_get (l := l) (i := j) (by simpa using h')] at hd; cases hd.1
 | x :: l, i + 1, 0, hd, h', h => by
  simp only [List.getElem?_cons_zero, Option.some.injEq] at h; subst h
  simp only [distO, Bool.and_eq_true, Bool.not_eq_true'] at hd
  rw [memO_get (l := l) (i := i) (by simpa using h')] at hd; cases hd.1
 | some t :: l, i + 1, j + 1, hd, h, h' => by
  simp only [distO, Bool.and_eq_true] at hd
  rw [distO_inj hd.2 (i := i) (j := j) (by simpa using h) (by simpa using h')]
 | none :: l, i + 1, j + 1, hd, h, h' => by
  simp only [distO] at hd
  rw [distO_inj hd (i := i) (j := j) (by simpa using h) (by simpa using h')]
theorem apartO_mem {s : Nat} {os : List (Option Nat)} : ∀ {l : List Nat}, apartO os l = true → s ∈ l → memO s os = false
 | [], _, h => by simp at h
 | x :: l, hd, h => by
  simp only [apartO, Bool.and_eq_true, Bool.not_eq_true'] at hd
  rcases List.mem_cons.1 h with rfl | h
  ·exact hd.1
  ·exact apartO_mem hd.2 h

def svOf : (rt : RT) → rt.ty.den → SV
 | .v t, x => .val t x
 | .own id e, x => .own id e x
 | .pz k id e, x => .agg [⟨.int k, x.1⟩, ownV id e x.2]
def obOf (B : Loc → Option Nat) (E : Env) : ResultVar → RT → Option Nat
 | .tmp s, .own _ _ => B (.s s)
 | .cell p _, .pz _ _ _ => (match E.g p with | .ptr b 0 => bif Nat.blt b 1000000 then B (.l b 1) else none | _ => none)
 | _, _ => none
def readV (a : Act) : ResultVar → Sem Value
 | .tmp t => pure (a.tmps.getD t Go.undef)
 | .cell p t => do loadVar t (← asAddr (a.tmps.getD p Go.undef))

/-- One result. -/
theorem res_sound (hT : TOk P T) (h : Sim P C S B E a w) {S' : Nat → Prop} (hs : ∀ b, S b → S' b) : ∀ {v : ResultVar} {rt : RT} {x : rt.ty.den}, getR T E v rt = some x →
  (∀ s t, v = .tmp s → rt = .v t → ∀ g, B (.s s) = some g → S' g) → ∃ u, (readV a v).run P w = .ok u w ∧ CompR S' w (svOf rt x) u (obOf B E v rt)
 | .tmp s, .v t, x, hg, hv => by
  refine ⟨tv a s, rfl, ?_⟩
  have hsl := h.slots s
  show ValR S' w t x (tv a s)
  simp only [getR] at hg
  cases hE : E.g s with
  | val t' x' =>
   rw [hE] at hsl hg
   cases V.as_some hg
   exact ValR.mono hsl (Keep.refl _ _) hs
  | full e xs =>
   rw [hE] at hsl hg
   cases V.as_some hg
   exact ValR.mono (ValR.slice.2 hsl.1) (Keep.refl _ _) hs
  | own id e xs =>
   rw [hE] at hsl hg
   cases V.as_some hg
   exact ValR.slice.2 (OwnR.slice (OwnR.move (show OwnR S w id e xs (tv a s) (B (.s s)) from hsl) (Keep.refl _ _) hs (fun _ _ => rfl)) (fun g hgg => hv s _ rfl rfl g hgg))
  | _ => rw [hE] at hg; cases hg
 | .tmp s, .own id e, x, hg, hv => by
  refine ⟨tv a s, rfl, ?_⟩
  have hsl := h.slots s
  show OwnR S' w id e x (tv a s) (B (.s s))
  simp only [getR] at hg
  split at hg
  ·rename_i id' e' xs hE
   rw [hE] at hsl
   split at hg
   ·rename_i hh
    obtain ⟨rfl, rfl⟩ := hh
    cases hg
    exact OwnR.move (show OwnR S w id' e' xs (tv a s) (B (.s s)) from hsl) (Keep.refl _ _) hs (fun _ _ => rfl)
   ·cases hg
  ·cases hg
 | .cell p ty, .own id e, x, hg, hv => by simp [getR] at hg
 | .tmp s, .pz k id e, x, hg, hv => by simp [getR] at hg
 | .cell p ty, .pz k id e, x, hg, hv => by
  simp only [getR] at hg
  split at hg
  ·rename_i b hE
   cases hlt : Nat.blt b 1000000
   ·rw [hlt] at hg; cases hg
   rw [hlt, cond_true] at hg
   split at hg
   ·rename_i k' x' kk e' q t' hl hty
    split at hg
    ·rename_i hh
     obtain ⟨rfl, rfl, hid, rfl⟩ := hh
     cases hg
     have hsl := h.slots p
     rw [hE] at hsl
     obtain ⟨g, h1, h2⟩ := hsl
     obtain ⟨g', hb', cells, id', hgg, hL0⟩ := h.boxes b _ hl
     have hL := hL0.leaves rfl
     have : g' = g := by rw [hb'] at h1; exact Option.some.inj h1
     subst this
     obtain ⟨u, r1, e1, hu, v, r2, e2, hv2, e3⟩ := hL
     subst e2
     simp only [LeavesR] at e3
     subst e3
     have hu' : u = .int k' x' := by
      have : [u] = [Value.int k' x'] := hu
      simpa using this
     subst hu'
     have hown : OwnR S w q.1.toNat e' q.2 v (B (.l b 1)) := hv2
     let S2 : Nat → Prop := fun y => S y ∨ B (.l b 1) = some y
     have hsl2 : SliceR S2 w e'.size (Cells S2 w e') q.2 v := OwnR.slice (OwnR.move hown (Keep.refl _ _) (fun _ hx => .inl hx) (fun _ _ => rfl)) (fun g hgg => .inr hgg)
     have hc : Cells S2 w (.pair (.int k') (.slice e')) (x', q.2) [.int k' x', v] := ⟨[.int k' x'], [v], rfl, rfl, v, rfl, hsl2⟩
     refine ⟨pack (.pair (.int k') (.slice e')) [.int k' x', v], ?_, ?_⟩
     ·have e1' : a.tmps.getD p Go.undef = .pointer (some ⟨g', 0, none⟩) := h2
      simp only [readV, e1', Sem.run_bind]
      have e2' : (asAddr (.pointer (some ⟨g', 0, none⟩))).run P w = .ok ⟨g', 0, none⟩ w := rfl
      rw [e2', Result.andThen_ok]
      refine run_loadVar hT hty hc (fun j u hu => ?_)
      rw [Nat.zero_add, cell_of_row w g' _ cells id' (0, 0) hgg, ← Array.getElem?_toList, e1]
      exact hu
     ·have hob : obOf B E (.cell p ty) (.pz k' id e') = B (.l b 1) := by simp only [obOf, hE, hlt, cond_true]
      rw [hob]
      refine ⟨rfl, #[.int k' x', v], by simp [pack, Ty.agg], .int k' x', [v], rfl, rfl, v, [], rfl, ?_, rfl⟩
      have hfin : OwnR S' w ((id : Nat) : Int).toNat e' q.2 v (B (.l b 1)) := by
       rw [Int.toNat_natCast, ← hid]
       exact OwnR.move hown (Keep.refl _ _) hs (fun _ _ => rfl)
      exact hfin
    ·cases hg
   ·cases hg
  ·cases hg
 | .cell p ty, .v t, x, hg, hv => by
  simp only [getR] at hg
  split at hg
  ·rename_i b hE
   split at hg
   ·rename_i l t' hl hty
    cases hrl : rowL l
    case true => rw [hrl] at hg; cases hg
    rw [hrl, cond_false] at hg
    split at hg
    ·rename_i htt; subst htt
     split at hg
     ·rename_i x' l' hasm
      cases hg
      have hsl := h.slots p
      rw [hE] at hsl
      obtain ⟨g, h1, h2⟩ := hsl
      obtain ⟨g', hb', cells, id, hgg, hL0⟩ := h.boxes b l hl
      have hL := hL0.leaves hrl
      have : g' = g := by rw [hb'] at h1; exact Option.some.inj h1
      subst this
      obtain ⟨c1, c2, _, he, hc, _⟩ := asm_sound hL hasm
      refine ⟨pack t' c1, ?_, ?_⟩
      ·have e1 : a.tmps.getD p Go.undef = .pointer (some ⟨g', 0, none⟩) := h2
       simp only [readV, e1, Sem.run_bind]
       have e2 : (asAddr (.pointer (some ⟨g', 0, none⟩))).run P w = .ok ⟨g', 0, none⟩ w := rfl
       rw [e2, Result.andThen_ok]
       refine run_loadVar hT hty hc (fun j u hu => ?_)
       rw [Nat.zero_add, cell_of_row w g' _ cells id (0, 0) hgg, ← Array.getElem?_toList, he, List.getElem?_append_left (List.getElem?_eq_some_iff.1 hu).1]
       exact hu
      ·exact ValR.mono (show ValR S w t' _ (pack t' c1) from ⟨c1, hc, rfl⟩) (Keep.refl _ _) hs
     ·cases hg
    ·cases hg
   ·cases hg
  ·cases hg

def obsOf (B : Loc → Option Nat) (E : Env) : List Out → List (Option Nat)
 | [] => []
 | .res v t :: r => obOf B E v t :: obsOf B E r
 | .box _ _ _ :: r => obsOf B E r

/-- Whose the block of a result is. -/
theorem obOf_some {v : ResultVar} {t : RT} {g : Nat} (h : obOf B E v t = some g) : (∃ s id e, v = .tmp s ∧ t = .own id e ∧ B (.s s) = some g) ∨ ((∃ k id e, t = .pz k id e) ∧ ∃ b, b < 1000000 ∧ B (.l b 1) = some g) := by
 unfold obOf at h
 split at h
 ·exact .inl ⟨_, _, _, rfl, rfl, h⟩
 ·split at h
  ·rename_i b _
   cases hlt : Nat.blt b 1000000
   ·rw [hlt] at h; cases h
   ·rw [hlt, cond_true] at h
    exact .inr ⟨⟨_, _, _, rfl⟩, b, by simpa [Nat.blt_eq] using hlt, h⟩
  ·cases h
 ·cases h
theorem obsOf_get {g : Nat} : ∀ {l : List Out} {i : Nat}, (obsOf B E l).getD i none = some g → (∃ s, (ownsOf l)[i]? = some (some s) ∧ B (.s s) = some g) ∨ ((pzsOf l)[i]? = some true ∧ ∃ b, b < 1000000 ∧ B (.l b 1) = some g)
 | [], i, h => by simp [obsOf] at h
 | .box _ _ _ :: r, i, h => obsOf_get (l := r) h
 | .res v t :: r, 0, h => by
  have h' : obOf B E v t = some g := h
  rcases obOf_some h' with ⟨s, id, e, rfl, rfl, k⟩ | ⟨⟨k, id, e, rfl⟩, k2⟩
  ·exact .inl ⟨s, rfl, k⟩
  ·exact .inr ⟨rfl, k2⟩
 | .res v t :: r, i + 1, h => by
  have ih := obsOf_get (l := r) (i := i) (by simpa [obsOf] using h)
  have e1 : (ownsOf (.res v t :: r))[i + 1]? = (ownsOf r)[i]? := by cases v <;> cases t <;> simp [ownsOf]
  have e2 : (pzsOf (.res v t :: r))[i + 1]? = (pzsOf r)[i]? := by cases t <;> simp [pzsOf]
  rw [e1, e2]
  exact ih
theorem onceB_inj : ∀ {l : List Bool} {i j : Nat}, onceB l = true → l[i]? = some true → l[j]? = some true → i = j
 | [], i, j, _, h, _ => by simp at h
 | true :: l, 0, 0, _, _, _ => rfl
 | true :: l, 0, j + 1, h, _, h2 => by
  have : true ∈ l := List.mem_of_getElem? (by simpa using h2)
  simp [onceB, this] at h
 | true :: l, i + 1, _, h, h1, _ => by
  have : true ∈ l := List.mem_of_getElem? (by simpa using h1)
  simp [onceB, this] at h
 | false :: l, 0, _, _, h, _ => by simp at h
 | false :: l, i + 1, 0, _, _, h => by simp at h
 | false :: l, i + 1, j + 1, h, h1, h2 => by
  rw [onceB_inj (l := l) (i := i) (j := j) h (by simpa using h1) (by simpa using h2)]

/-- What the first answer adds. -/
def heads : (o : Out) → o.ty.den → List SV
 | .res _ t, x => [svOf t x]
 | .box _ _ _, _ => []

theorem resOf_one : ∀ (o : Out) (x : o.ty.den), resOf [o] x = heads o x
 | .res _ (.v _), _ => rfl
 | .res _ (.own _ _), _ => rfl
 | .res _ (.pz _ _ _), _ => rfl
 | .box _ _ _, _ => rfl
theorem resOf_cons : ∀ (o p : Out) (r : List Out) (x : o.ty.den) (y : outs (p :: r)), resOf (o :: p :: r) (x, y) = heads o x ++ resOf (p :: r) y
 | .res _ (.v _), _, _, _, _ => rfl
 | .res _ (.own _ _), _, _, _, _ => rfl
 | .res _ (.pz _ _ _), _, _, _, _ => rfl
 | .box _ _ _, _, _, _, _ => rfl

/-- All results. -/
theorem resl_sound (hT : TOk P T) (h : Sim P C S B E a w) {S' : Nat → Prop} (hs : ∀ b, S b → S' b) : ∀ {l : List Out} {x : outs l}, fin T l E = some x → (∀ s ∈ valsOf l, ∀ g, B (.s s) = some g → S' g) →
  ∃ us : List Value, ((varsOf l).mapM (readV a)).run P w = .ok us w ∧ us.length = (resOf l x).length ∧ ∀ i sv, (resOf l x)[i]? = some sv → CompR S' w sv (us.getD i Go.undef) ((obsOf B E l).getD i none) := by
 have one : ∀ {o : Out} {x : o.ty.den} {us : List Value} {svs : List SV} {r : List Out}, o.get T E = some x → (∀ s ∈ valsOf (o :: r), ∀ g, B (.s s) = some g → S' g) →
   ((varsOf r).mapM (readV a)).run P w = .ok us w → us.length = svs.length → (∀ i sv, svs[i]? = some sv → CompR S' w sv (us.getD i Go.undef) ((obsOf B E r).getD i none)) →
   ∃ us' : List Value, ((varsOf (o :: r)).mapM (readV a)).run P w = .ok us' w ∧ us'.length = (heads o x ++ svs).length ∧ ∀ i sv, (heads o x ++ svs)[i]? = some sv → CompR S' w sv (us'.getD i Go.undef) ((obsOf B E (o :: r)).getD i none) := by
  intro o x us svs r hx hv hu hl hc
  cases o with
  | box b i t => exact ⟨us, hu, hl, hc⟩
  | res v t =>
   obtain ⟨u, h1, h2⟩ := res_sound hT h hs (show getR T E v t = some x from hx) (fun s t' e1 e2 => hv s (by subst e1 e2; simp [valsOf]))
   refine ⟨u :: us, ?_, by simp [heads, hl], ?_⟩
   ·simp only [varsOf, List.mapM_cons, Sem.run_bind, h1, Result.andThen_ok, hu, Sem.run_pure]
   ·intro i sv hi
    cases i with
    | zero =>
     simp only [heads, List.singleton_append, List.getElem?_cons_zero, Option.some.injEq] at hi
     subst hi
     simpa [obsOf] using h2
    | succ i =>
     have := hc i sv (by simpa [heads] using hi)
     simpa [obsOf] using this
 intro l
 induction l with
 | nil =>
  intro x hf hv
  exact ⟨[], rfl, rfl, fun i sv hi => by simp [resOf] at hi⟩
 | cons o l ih =>
  intro x hf hv
  have hv' : ∀ s ∈ valsOf l, ∀ g, B (.s s) = some g → S' g := fun s hsl => hv s (by cases o with
   | box => exact hsl
   | res v t => cases v <;> cases t <;> simp [valsOf, hsl])
  cases l with
  | nil =>
   rw [resOf_one]
   have := one (o := o) (x := x) (us := []) (svs := []) (r := []) hf hv rfl rfl (fun i sv hi => by simp at hi)
   simpa using this
  | cons p r =>
   simp only [fin] at hf
   split at hf
   ·rename_i x1 y1 h1 h2
    cases hf
    obtain ⟨us, k1, k2, k3⟩ := ih h2 hv'
    rw [resOf_cons]
    exact one h1 hv k1 k2 k3
   ·cases hf

/-- The leaves of a box that is told whole. -/
theorem leaves_sound {b : Nat} {lv : List V} (hl : alook E.bx b = some lv) : ∀ {l : List Out} {k : Nat} {x : outs l}, fin T l E = some x → ordOf b k l = true → lv.length = k + cntOf b l → leavesOf b l x = lv.drop k := by
 have boxes : ∀ {c i k : Nat} {t : LT} {x : t.ty.den}, getB E c i t = some x → c = b → i = k → lv[k]? = some (t.leaf x) := by
  rintro c i k t x hg rfl rfl
  simp only [getB, hl] at hg
  split at hg
  ·rename_i v hv; rw [hv, LT.get_some hg]
  ·cases hg
 intro l
 induction l with
 | nil => intro k x _ _ hk; simp only [cntOf, Nat.add_zero] at hk; simp [leavesOf, ← hk]
 | cons o l ih =>
  intro k x hf ho hk
  cases l with
  | nil =>
   cases o with
   | res v t => simp only [cntOf, Nat.add_zero] at hk; simp [leavesOf, ← hk]
   | box c i t =>
    simp only [leavesOf, ordOf, cntOf] at ho hk ⊢
    by_cases hc : c = b
    ·subst hc
     simp only [beq_self, cond_true, Bool.and_true, Nat.zero_add] at ho hk ⊢
     have := boxes hf rfl (Nat.eq_of_beq_eq_true ho)
     have hlt := (List.getElem?_eq_some_iff.1 this).1
     rw [List.drop_eq_getElem_cons hlt, List.drop_eq_nil_of_le (by omega)]
     rw [List.getElem?_eq_getElem hlt] at this
     rw [Option.some.inj this]
    ·simp only [beq_false hc, cond_false, Nat.add_zero] at hk ⊢
     simp [← hk]
  | cons p r =>
   simp only [fin] at hf
   split at hf
   ·rename_i x1 y1 h1 h2
    cases hf
    cases o with
    | res v t =>
     have := ih (k := k) h2 (by simpa [ordOf] using ho) (by simpa [cntOf] using hk)
     exact this
    | box c i t =>
     simp only [ordOf, cntOf] at ho hk
     by_cases hc : c = b
     ·subst hc
      simp only [beq_self, cond_true, Bool.and_eq_true] at ho hk
      have h3 := boxes h1 rfl (Nat.eq_of_beq_eq_true ho.1)
      have h4 := ih (k := k + 1) h2 ho.2 (by omega)
      have hlt := (List.getElem?_eq_some_iff.1 h3).1
      rw [List.drop_eq_getElem_cons hlt, ← h4]
      rw [List.getElem?_eq_getElem hlt] at h3
      rw [Option.some.inj h3]
      simp [leavesOf, beq_self]
     ·simp only [beq_false hc, cond_false] at ho hk
      have h4 := ih (k := k) h2 ho hk
      rw [← h4]
      simp [leavesOf, beq_false hc]
   ·cases hf

theorem boxesOk_mem {l : List Out} : ∀ {bs : List Nat}, boxesOk E l bs = true → ∀ b ∈ bs, ∃ lv, alook E.bx b = some lv ∧ lv.length = cntOf b l
 | [], _, b, hb => by simp at hb
 | c :: bs, h, b, hb => by
  simp only [boxesOk, Bool.and_eq_true] at h
  rcases List.mem_cons.1 hb with rfl | hb
  ·cases hq : alook E.bx b with
   | none => rw [hq] at h; cases h.1
   | some lv => rw [hq] at h; exact ⟨lv, rfl, Nat.eq_of_beq_eq_true h.1⟩
  ·exact boxesOk_mem h.2 b hb
theorem ordsOf_mem {l : List Out} : ∀ {bs : List Nat}, ordsOf l bs = true → ∀ b ∈ bs, ordOf b 0 l = true
 | [], _, b, hb => by simp at hb
 | c :: bs, h, b, hb => by
  simp only [ordsOf, Bool.and_eq_true] at h
  rcases List.mem_cons.1 hb with rfl | hb
  ·exact h.1
  ·exact ordsOf_mem h.2 b hb

theorem outsR_of {f : Nat → List V} {S' : Nat → Prop} {ob : Nat → Nat → Option Nat} {Bo : Nat → Nat → Option Nat} : ∀ {ids X : List Nat} {k : Nat}, ids.Nodup → X.length = ids.length → (∀ p b, ids[p]? = some b → Bo (k + p) = ob b) → (∀ b g, alook (ids.zip X) b = some g → BoxR S' w (ob b) (f b) g) → OutsR S' w Bo k (ids.map f) X
 | [], [], _, _, _, _, _ => rfl
 | [], _ :: _, _, _, h, _, _ => by cases h
 | _ :: _, [], _, _, h, _, _ => by cases h
 | i :: ids, x :: X, k, hn, hl, hp, h => by
  obtain ⟨n1, n2⟩ := List.nodup_cons.1 hn
  have hz : (i :: ids).zip (x :: X) = (i, x) :: ids.zip X := rfl
  rw [hz] at h
  refine ⟨x, X, rfl, by have := hp 0 i rfl; rw [Nat.add_zero] at this; rw [this]; exact h i x (by rw [alook_cons, if_pos rfl]), outsR_of n2 (by simpa using hl) (fun p b hb => by have := hp (p + 1) b (by simpa using hb); rw [← this]; congr 1; omega) (fun b g hb => h b g ?_)⟩
  rw [alook_cons, if_neg ?_]; exact hb
  rintro rfl
  exact n1 (mem_zip hb)
where
 mem_zip : ∀ {ids X : List Nat} {b g : Nat}, alook (ids.zip X) b = some g → b ∈ ids
  | [], X, b, g, h => by simp [alook] at h
  | _ :: _, [], b, g, h => by simp [alook] at h
  | i :: ids, x :: X, b, g, h => by
   have h' : alook ((i, x) :: ids.zip X) b = some g := h
   rw [alook_cons] at h'
   split at h'
   ·rename_i e; subst e; simp
   ·exact List.mem_cons_of_mem _ (mem_zip h')

theorem zip_of_mem : ∀ {ids X : List Nat} {g : Nat}, ids.Nodup → X.length = ids.length → g ∈ X → ∃ b, alook (ids.zip X) b = some g
 | [], [], g, _, _, h => by cases h
 | [], _ :: _, g, _, h, _ => by cases h
 | _ :: _, [], g, _, h, _ => by cases h
 | i :: ids, x :: X, g, hn, hl, h => by
  obtain ⟨n1, n2⟩ := List.nodup_cons.1 hn
  have hz : (i :: ids).zip (x :: X) = (i, x) :: ids.zip X := rfl
  rw [hz]
  rcases List.mem_cons.1 h with rfl | h
  ·exact ⟨i, by rw [alook_cons, if_pos rfl]⟩
  ·obtain ⟨b, hb⟩ := zip_of_mem n2 (by simpa using hl) h
   refine ⟨b, ?_⟩
   rw [alook_cons, if_neg ?_]
   ·exact hb
   ·rintro rfl
    exact n1 (outsR_of.mem_zip hb)

/-- A function does what its code comes to, however that is told. -/
theorem specD_ok {I : Inv} (hI : InvOk I) {G : Gam} (hGI : GOkI P I G) (hT : TOk P T) (F : FI) {f : FuncId} (D : Env → (X → Env → Option (outs F.outs)) → Option (outs F.outs))
  (hD : ∀ {C : Ctx} (hG : GOk P C G) {r : outs F.outs} {K : X → Env → Option (outs F.outs)} {Q : Exit → Act → World → Prop} {S : Nat → Prop} {B : Loc → Option Nat} {E : Env} {a : Act} {w : World}, KOk P C K r Q → Sim P C S B E a w → D E K = some r → F.body.wp P Q a w)
  (hf : P.funcs[f]? = some F.fn) (hb : F.fn.body = some F.body) (hn : (F.fn.name == "runtime.NumGoroutine") = false)
  (hr : F.fn.results.toList = varsOf F.outs) (hfine : F.fine = true) : SpecOk P I f (fun as => ⟨outs F.outs, bif Nat.ble as.length F.fn.ntmps && sameN (boxIds 0 as) F.bs then D (env0 F.fn.ntmps as) (finK T F.bs F.outs) else none, resOf F.outs, fun x => F.bs.map fun b => leavesOf b F.outs x⟩) := by
 refine ⟨⟨F.fn, hf, hn, by rw [hb]; rfl⟩, ?_⟩
 intro S w l vs X Y r hi hlt hnd hX hA hrun
 have hrun : (bif Nat.ble l.length F.fn.ntmps && sameN (boxIds 0 l) F.bs then D (env0 F.fn.ntmps l) (finK T F.bs F.outs) else none) = some r := hrun
 cases hch : (Nat.ble l.length F.fn.ntmps && sameN (boxIds 0 l) F.bs)
 ·rw [hch] at hrun; cases hrun
 rw [hch, cond_true] at hrun
 simp only [Bool.and_eq_true] at hch
 have hle := Nat.le_of_ble_eq_true hch.1
 have hbs := sameN_eq hch.2
 have hvl := hA.length
 simp only [FI.fine, Bool.and_eq_true] at hfine
 obtain ⟨⟨⟨hf1, hf2⟩, hf3⟩, hf4⟩ := hfine
 refine calls_of_wp hf hb ?_
 let tbl := (boxIds 0 l).zip X
 let C : Ctx := ⟨w, S, fun g => g ∈ X ∨ g ∈ Y, fun b => alook tbl b⟩
 have hG : GOk P C G := hGI.at hI (fun b hb hx => (hX b (List.mem_append.2 hx)).1 hb) hi
 obtain ⟨hnX, hnY, hnXY⟩ := List.nodup_append.1 hnd
 obtain ⟨OB, ob1, ob2, ob3⟩ := init_boxes (i := 0) hA hnY
 let B : Loc → Option Nat := fun | .b b => alook tbl b | .l b i => OB b i | _ => none
 let a : Act := { tmps := vs.toArray ++ Array.replicate (F.fn.ntmps - vs.toArray.size) Go.undef, defers := [] }
 have hB : ∀ k g, B k = some g → (∃ b, k = .b b ∧ alook tbl b = some g ∧ g ∈ X) ∨ ∃ b i, k = .l b i ∧ OB b i = some g ∧ g ∈ Y := by
  intro k g hk
  cases k with
  | b b => exact .inl ⟨b, rfl, hk, zip_mem hk⟩
  | l b i => exact .inr ⟨b, i, rfl, hk, (ob2 b i g hk).1⟩
  | s _ => cases hk
  | t _ _ => cases hk
 have hsim : Sim P C S B (env0 F.fn.ntmps l) a w := by
  refine ⟨?_, rfl, KeptBut.refl _ _, hlt, fun b hb => .inl hb, fun b hb => hb, ?_, ?_, ?_, ?_, fun b _ => rfl⟩
  ·show (vs.toArray ++ Array.replicate (F.fn.ntmps - vs.toArray.size) Go.undef).size = F.fn.ntmps
   simp; omega
  ·intro k k' g h1 h2
   rcases hB k g h1 with ⟨b, rfl, k1, m1⟩ | ⟨b, i, rfl, k1, m1⟩
   ·rcases hB k' g h2 with ⟨b', rfl, k2, m2⟩ | ⟨b', i', rfl, k2, m2⟩
    ·rw [zip_inj hnX k1 k2]
    ·exact absurd rfl (hnXY g m1 g m2)
   ·rcases hB k' g h2 with ⟨b', rfl, k2, m2⟩ | ⟨b', i', rfl, k2, m2⟩
    ·exact absurd rfl (hnXY g m2 g m1)
    ·obtain ⟨e1, e2⟩ := ob3 b i b' i' g k1 k2
     rw [e1, e2]
  ·intro k g h1
   have hm : g ∈ X ∨ g ∈ Y := by
    rcases hB k g h1 with ⟨_, _, _, m⟩ | ⟨_, _, _, _, m⟩
    ·exact .inl m
    ·exact .inr m
   obtain ⟨f1, f2⟩ := hX g (List.mem_append.2 hm)
   exact ⟨f1, f2, .inr hm⟩
  ·intro n
   have : (env0 F.fn.ntmps l).g n = match alook (slots0 0 l) n with | some v => v | none => .undef := rfl
   rw [this]
   cases hq : alook (slots0 0 l) n with
   | none => trivial
   | some sv =>
    refine init_slots (bb := alook tbl) (B := B) (fun b g hbg => hbg) hA ?_ (fun b g hbg => hbg) n sv hq
    intro k v hk
    have hkl : k < vs.length := (List.getElem?_eq_some_iff.1 hk).1
    show (vs.toArray ++ Array.replicate (F.fn.ntmps - vs.toArray.size) Go.undef).getD (0 + k) Go.undef = v
    rw [Nat.zero_add, Array.getD_eq_getD_getElem?, Array.getElem?_append_left (by simpa using hkl), List.getElem?_toArray, hk]
    rfl
  ·intro b bl hbl
   exact ob1 b bl hbl
 refine hD (C := C) (r := r) hG (K := finK T F.bs F.outs) ?_ hsim hrun
 have main : ∀ S' B' E' a' w', Sim P C S' B' E' a' w' → (bif boxesOk E' F.outs F.bs then fin T F.outs E' else none) = some r →
   a'.defers = [] ∧ ∃ v, (results F.fn a'.tmps).run P w' = .ok v w' ∧ After S w X Y (resOf F.outs r) (F.bs.map fun b => leavesOf b F.outs r) (.returned v) w' := by
  intro S1 B1 E1 a1 w1 hs hk
  refine ⟨hs.defers, ?_⟩
  cases hbo : boxesOk E1 F.outs F.bs
  ·rw [hbo] at hk; cases hk
  rw [hbo, cond_true] at hk
  let S2 : Nat → Prop := fun b => S1 b ∨ ∃ s ∈ valsOf F.outs, B1 (.s s) = some b
  have h12 : ∀ b, S1 b → S2 b := fun b hb => .inl hb
  obtain ⟨us, k1, k2, k3⟩ := resl_sound hT hs h12 hk (fun s hsv g hg => .inr ⟨s, hsv, hg⟩)
  have hXB : ∀ g ∈ X, ∃ b, B1 (.b b) = some g := by
   intro g hg
   obtain ⟨b, hb⟩ := zip_of_mem (boxIds_nodup (i := 0)) hA.boxes hg
   exact ⟨b, (hs.inb b (by have := zip_keys hb; omega)).trans hb⟩
  have hnew : ∀ k g, B1 k = some g → (∀ b, k ≠ .b b) → w.heap.size ≤ g ∨ g ∈ Y := by
   intro k g hg hkb
   rcases (hs.free k g hg).2.2 with h3 | h3 | h3
   ·exact .inl h3
   ·obtain ⟨b, hb⟩ := hXB g h3
    exact absurd (hs.inj _ _ g hg hb) (hkb b)
   ·exact .inr h3
  have hres : (results F.fn a1.tmps).run P w1 = .ok (if h : us.toArray.size = 1 then us.toArray[0] else .tuple us.toArray) w1 := by
   have hrs : F.fn.results = (varsOf F.outs).toArray := by rw [← hr]
   unfold results
   rw [hrs]
   simp only [Sem.run_bind, List.mapM_toArray]
   have : ∀ (g : ResultVar → Sem Value), (∀ v, g v = readV a1 v) → ((List.toArray <$> (varsOf F.outs).mapM g).run P w1).andThen (fun v w' => Sem.run P (pure (if h : v.size = 1 then v[0] else Value.tuple v)) w') = .ok (if h : us.toArray.size = 1 then us.toArray[0] else .tuple us.toArray) w1 := by
    intro g hg
    rw [show g = readV a1 from funext hg]
    simp only [Sem.run_map, k1, Result.andThen_ok, Sem.run_pure]
   exact this _ (fun v => by cases v <;> rfl)
  refine ⟨_, hres, _, S2, fun i => (obsOf B1 E1 F.outs).getD i none, fun k i => match (boxIds 0 l)[k]? with | some b => B1 (.l b i) | none => none, rfl, hs.kept, ⟨?_, ?_, ?_, ?_, ?_, ?_, ?_⟩, ?_, ?_, ⟨?_, ?_, ?_⟩⟩
  ·rw [← k2]
   by_cases h1 : us.length = 1
   ·exact .inl h1
   ·exact .inr ⟨us.toArray, by rw [dif_neg (by simpa using h1)], by simp⟩
  ·rintro b (hb | ⟨s, _, hb⟩)
   ·rcases hs.frm b hb with hb' | hb' | hb' | hb'
    ·exact .inl hb'
    ·exact .inr (.inl hb')
    ·obtain ⟨b', hb2⟩ := hXB b hb'
     exact absurd hb (hs.free _ b hb2).1
    ·exact .inr (.inr hb')
   ·exact .inr (hnew _ b hb (fun _ h => by cases h))
  ·exact fun b hb => .inl (hs.sup b hb)
  ·rintro b (hb | ⟨s, _, hb⟩)
   ·exact hs.sub b hb
   ·exact (hs.free _ b hb).2.1
  ·intro i j g h1 h2
   rcases obsOf_get h1 with ⟨s, a1, b1⟩ | ⟨a1, b, _, b1⟩
   ·rcases obsOf_get h2 with ⟨s', a2, b2⟩ | ⟨a2, b', _, b2⟩
    ·have := hs.inj _ _ g b1 b2
     injection this with this
     subst this
     exact distO_inj hf1 a1 a2
    ·have := hs.inj _ _ g b1 b2
     cases this
   ·rcases obsOf_get h2 with ⟨s', a2, b2⟩ | ⟨a2, b', _, b2⟩
    ·have := hs.inj _ _ g b1 b2
     cases this
    ·exact onceB_inj hf4 a1 a2
  ·intro i g h1
   rcases obsOf_get h1 with ⟨s, a1, b1⟩ | ⟨a1, b, _, b1⟩
   ·refine ⟨hnew _ g b1 (fun _ h => by cases h), (hs.free _ g b1).2.1, ?_⟩
    rintro (hx | ⟨s', hs', hx⟩)
    ·exact (hs.free _ g b1).1 hx
    ·have := hs.inj _ _ g b1 hx
     injection this with this
     subst this
     have h4 := apartO_mem hf2 hs'
     rw [memO_get a1] at h4; cases h4
   ·refine ⟨hnew _ g b1 (fun _ h => by cases h), (hs.free _ g b1).2.1, ?_⟩
    rintro (hx | ⟨s', hs', hx⟩)
    ·exact (hs.free _ g b1).1 hx
    ·have := hs.inj _ _ g b1 hx
     cases this
  ·intro i sv hi
   have := k3 i sv hi
   rw [← k2]
   by_cases h1 : us.length = 1
   ·have hi0 : i = 0 := by
     have := (List.getElem?_eq_some_iff.1 hi).1
     omega
    subst hi0
    obtain ⟨u, rfl⟩ := List.length_eq_one_iff.1 h1
    simpa [compVal] using this
   ·simp only [compVal, h1, if_false]
    rw [dif_neg (by simpa using h1)]
    simpa using this
  ·rw [← hbs]
   refine outsR_of (ob := fun b i => B1 (.l b i)) boxIds_nodup hA.boxes (fun p b hb => by funext i; rw [Nat.zero_add]; simp [hb]) ?_
   intro b g hbg
   have hge := zip_keys hbg
   have hmem := outsR_of.mem_zip hbg
   rw [hbs] at hmem
   obtain ⟨lv, hlv, hcnt⟩ := boxesOk_mem hbo b hmem
   obtain ⟨g', h1, h2⟩ := hs.boxes b lv hlv
   have : g' = g := by
    rw [hs.inb b (by omega)] at h1
    exact Option.some.inj (h1.symm.trans hbg)
   subst this
   rw [leaves_sound hlv hk (ordsOf_mem hf3 b hmem) (by omega), List.drop_zero]
   exact h2.move (Keep.refl _ _) h12 rfl (fun _ => ⟨rfl, fun _ _ => rfl⟩)
  ·rintro g hg (hx | ⟨s, _, hx⟩)
   ·obtain ⟨b, hb⟩ := hXB g hg
    exact (hs.free _ g hb).1 hx
   ·obtain ⟨b, hb⟩ := hXB g hg
    have := hs.inj _ _ g hb hx
    cases this
  ·intro k i g h1
   cases hq : (boxIds 0 l)[k]? with
   | none => rw [hq] at h1; cases h1
   | some b =>
    rw [hq] at h1
    refine ⟨hnew _ g h1 (fun _ h => by cases h), (hs.free _ g h1).2.1, ?_⟩
    rintro (hx | ⟨s, _, hx⟩)
    ·exact (hs.free _ g h1).1 hx
    ·have := hs.inj _ _ g h1 hx
     cases this
  ·intro k i k' i' g h1 h2
   cases hq : (boxIds 0 l)[k]? with
   | none => rw [hq] at h1; cases h1
   | some b =>
    cases hq' : (boxIds 0 l)[k']? with
    | none => rw [hq'] at h2; cases h2
    | some b' =>
     rw [hq] at h1
     rw [hq'] at h2
     have := hs.inj _ _ g h1 h2
     injection this with e1 e2
     subst e1 e2
     exact ⟨(List.getElem?_inj (List.getElem?_eq_some_iff.1 hq).1 (boxIds_nodup (i := 0))).1 (hq.trans hq'.symm), rfl⟩
  ·intro j k i g h1 h2
   cases hq : (boxIds 0 l)[k]? with
   | none => rw [hq] at h2; cases h2
   | some b =>
    rw [hq] at h2
    rcases obsOf_get h1 with ⟨s, a1, b1⟩ | ⟨a1, b', hb', b1⟩
    ·have := hs.inj _ _ g b1 h2
     cases this
    ·have := hs.inj _ _ g b1 h2
     injection this with this _
     have := boxIds_ge (List.mem_of_getElem? hq)
     omega
 intro x S' B' E' a' w' hs hk
 cases x with
 | normal => exact main _ _ _ _ _ hs hk
 | ret => exact main _ _ _ _ _ hs hk
 | exit i => cases hk

/-- A function does what its code comes to. -/
theorem mkSpec_ok (hm : P.follows .mixedOrders = true) {I : Inv} (hI : InvOk I) {G : Gam} (hGI : GOkI P I G) (hT : TOk P T) (F : FI) {f : FuncId} (hf : P.funcs[f]? = some F.fn) (hb : F.fn.body = some F.body) (hn : (F.fn.name == "runtime.NumGoroutine") = false)
  (hr : F.fn.results.toList = varsOf F.outs) (hfine : F.fine = true) : SpecOk P I f (mkSpec G T F) :=
 specD_ok hI hGI hT F (fun E K => den G T F.sh F.body F.ann E K) (fun hG _ _ _ _ _ _ _ _ hK hs h => den_ok hm hT hG F.body hK hs h) hf hb hn hr hfine
/-- The same, with comparisons with nil. -/
theorem mkSpecN_ok {I : Inv} (hI : InvOk I) {G : Gam} (hGI : GOkI P I G) (hT : TOk P T) (F : FI) {f : FuncId} (hf : P.funcs[f]? = some F.fn) (hb : F.fn.body = some F.body) (hn : (F.fn.name == "runtime.NumGoroutine") = false)
  (hr : F.fn.results.toList = varsOf F.outs) (hfine : F.fine = true) : SpecOk P I f (mkSpecN G T F) :=
 specD_ok hI hGI hT F (fun E K => denN G T F.sh F.body E K) (fun hG _ _ _ _ _ _ _ _ hK hs h => denN_ok hT hG F.body hK hs h) hf hb hn hr hfine

end
end Go.Proofs.YtecdijlfnnminaaGreatDoor.Eng
namespace Go.Proofs.YtecdijlfnnminaaGreatDoor.Eng
open Go Go.RowKit
set_option linter.unusedVariables false
set_option linter.unusedSimpArgs false

section
universe u v
variable {R : Type u} {R' : Type v} (G : Gam) (T : Tys) (sh : List Nat)

theorem splitC_bind (f : Bool) (cs : List Cmd) (J : List Cmd → Option R') (F : R' → Option R) : splitC f cs (fun c => (J c).bind F) = (splitC f cs J).bind F := by
 unfold splitC
 rw [cond_bind']
 congr 1
 split
 ·rw [ite_bind]
 ·rfl
theorem skipE_bind (E : Env) (dst : Option Nat) (J : Env → Option R') (F : R' → Option R) : skipE E dst (fun c => (J c).bind F) = (skipE E dst J).bind F := by
 unfold skipE; split
 ·rw [cond_bind]
 ·rfl
theorem evOps_bind (all : List Oper) (J : Env → Option R') (F : R' → Option R) : ∀ (l : List Oper) (i : Nat) (E : Env), evOps G T sh all i l E (fun c => (J c).bind F) = (evOps G T sh all i l E J).bind F
 | [], i, E => rfl
 | o :: r, i, E => by
  simp only [evOps]
  split
  ·rw [ite_bind, ← evOp_bind, ← skipE_bind]
   congr 1
   ·congr 1; funext cs; rw [← splitC_bind]; congr 1; funext cs'; exact evOps_bind all J F r (i + 1) _
   ·congr 1; funext E'; exact evOps_bind all J F r (i + 1) _
  ·rfl

theorem cutK_bind (c : Option (List Nat × List Nat)) (f : Env → Option R') (F : R' → Option R) (E : Env) : cutK c (fun E2 => (f E2).bind F) E = (cutK c f E).bind F := by
 cases c with
 | none => rfl
 | some q => show bar (fun E2 => (f E2).bind F) _ = (bar f _).bind F; rw [bar_eq, bar_eq]
theorem evOpsP_bind (pts : List (Nat × List Nat × List Nat)) (all : List Oper) (J : Env → Option R') (F : R' → Option R) : ∀ (l : List Oper) (i : Nat) (E : Env), evOpsP G T sh pts all i l E (fun c => (J c).bind F) = (evOpsP G T sh pts all i l E J).bind F
 | [], i, E => rfl
 | o :: r, i, E => by
  have ih : (fun E2 => evOpsP G T sh pts all (i + 1) r E2 (fun c => (J c).bind F)) = fun E2 => (evOpsP G T sh pts all (i + 1) r E2 J).bind F := funext fun E2 => evOpsP_bind pts all J F r (i + 1) E2
  simp only [evOpsP]
  split
  ·rw [ite_bind, ← evOp_bind, ← skipE_bind]
   congr 1
   ·congr 1; funext cs; rw [← splitC_bind]; congr 1; funext cs'; rw [ih, cutK_bind]
   ·congr 1; funext E'; rw [ih, cutK_bind]
  ·rfl
theorem evDraw_bind (all : List Oper) (J : Env → Option R') (F : R' → Option R) : ∀ (l : List Oper) (i : Nat) (done : List (Nat × Foot)) (E : Env), evDraw G T sh all i l done E (fun c => (J c).bind F) = (evDraw G T sh all i l done E J).bind F
 | [], i, done, E => rfl
 | o :: r, i, done, E => by
  simp only [evDraw]
  split
  ·rw [ite_bind, ← evOp_bind]
   congr 1
   ·congr 1; funext cs; rw [← splitC_bind]; congr 1; funext cs'; rw [cond_bind]; congr 1; exact evDraw_bind all J F r (i + 1) _ _
   ·split
    ·rw [cond_bind]; congr 1; exact evDraw_bind all J F r (i + 1) _ _
    ·rw [cond_bind]; congr 1; exact evDraw_bind all J F r (i + 1) _ _
  ·rfl

/-- The way a piece of code ends, and with what. -/
def pairK : X → Env → Option (X × Env) := fun x E => some (x, E)

theorem kSeq_bind (x : X) (E : Env) (J : Env → Option R') (K : X → Env → Option R') (F : R' → Option R) : kSeq (fun E => (J E).bind F) (fun x E => (K x E).bind F) x E = (kSeq J K x E).bind F := by
 cases x <;> rfl
theorem kBlk_bind (id : Nat) (x : X) (E : Env) (K : X → Env → Option R') (F : R' → Option R) : kBlk id (fun x E => (K x E).bind F) x E = (kBlk id K x E).bind F := by
 cases x
 ·rfl
 ·simp only [kBlk]; rw [cond_bind']
 ·rfl
end

section
universe u v
variable {R : Type u} {α : Type v}
/-- A loop whose round is: first D, then on, or out. -/
def Round (D : α → Option (X × α)) (c : α → α) (K : X → α → Option R) (rec : α → Option R) (x : α) : Option R :=
 (D x).bind fun p => match p.1 with
  | .normal => rec (c p.2)
  | e => K e p.2

variable (D : α → Option (X × α)) (c : α → α) (K : X → α → Option R)
theorem loopN_mono : ∀ {n : Nat} {x : α} {r : R}, loopN (Round D c K) n x = some r → loopN (Round D c K) (n + 1) x = some r
 | 0, x, r, h => by cases h
 | n + 1, x, r, h => by
  have h' : Round D c K (loopN (Round D c K) n) x = some r := h
  show Round D c K (loopN (Round D c K) (n + 1)) x = some r
  unfold Round at h' ⊢
  cases hd : D x with
  | none => rw [hd] at h'; cases h'
  | some p =>
   rw [hd] at h'
   simp only [Option.bind_some] at h' ⊢
   cases hp : p.1 with
   | normal => rw [hp] at h'; exact loopN_mono h'
   | exit i => rw [hp] at h'; exact h'
   | ret => rw [hp] at h'; exact h'
theorem loopN_le {n m : Nat} {x : α} {r : R} (h : loopN (Round D c K) n x = some r) (hm : n ≤ m) : loopN (Round D c K) m x = some r := by
 induction hm with
 | refl => exact h
 | step _ ih => exact loopN_mono D c K ih
theorem loopN_one {n m : Nat} {x : α} {r r' : R} (h : loopN (Round D c K) n x = some r) (h' : loopN (Round D c K) m x = some r') : r = r' := by
 have h1 := loopN_le D c K h (Nat.le_max_left n m)
 have h2 := loopN_le D c K h' (Nat.le_max_right n m)
 rw [h1] at h2; exact Option.some.inj h2
theorem loopD_iff {x : α} {r : R} : loopD (Round D c K) x = some r ↔ ∃ n, loopN (Round D c K) n x = some r := by
 unfold loopD
 split
 ·rename_i hh
  have hs := Classical.choose_spec (Classical.choose_spec hh)
  constructor
  ·intro h; exact ⟨Classical.choose hh, by rw [hs]; exact h⟩
  ·rintro ⟨n, h⟩
   rw [loopN_one D c K hs h]
 ·rename_i hh
  constructor
  ·intro h; cases h
  ·rintro ⟨n, h⟩; exact absurd ⟨n, r, h⟩ hh
theorem loopD_round (x : α) : loopD (Round D c K) x = Round D c K (loopD (Round D c K)) x := by
 apply Option.ext
 intro r
 rw [loopD_iff]
 unfold Round
 constructor
 ·rintro ⟨n, h⟩
  cases n with
  | zero => cases h
  | succ n =>
   have h' : Round D c K (loopN (Round D c K) n) x = some r := h
   unfold Round at h'
   cases hd : D x with
   | none => rw [hd] at h'; cases h'
   | some p =>
    rw [hd] at h'
    simp only [Option.bind_some] at h' ⊢
    cases hp : p.1 with
    | normal => rw [hp] at h'; exact (loopD_iff D c K).2 ⟨n, h'⟩
    | exit i => rw [hp] at h'; exact h'
    | ret => rw [hp] at h'; exact h'
 ·intro h
  cases hd : D x with
  | none => rw [hd] at h; cases h
  | some p =>
   rw [hd] at h
   simp only [Option.bind_some] at h
   cases hp : p.1 with
   | normal =>
    rw [hp] at h
    obtain ⟨n, hn⟩ := (loopD_iff D c K).1 h
    exact ⟨n + 1, show Round D c K (loopN (Round D c K) n) x = some r by unfold Round; rw [hd]; simp only [Option.bind_some]; rw [hp]; exact hn⟩
   | exit i => rw [hp] at h; exact ⟨1, show Round D c K (loopN (Round D c K) 0) x = some r by unfold Round; rw [hd]; simp only [Option.bind_some]; rw [hp]; exact h⟩
   | ret => rw [hp] at h; exact ⟨1, show Round D c K (loopN (Round D c K) 0) x = some r by unfold Round; rw [hd]; simp only [Option.bind_some]; rw [hp]; exact h⟩

theorem loopN_bind {R' : Type _} (K' : X → α → Option R') (F : R' → Option R) : ∀ (n : Nat) (x : α), loopN (Round D c (fun e y => (K' e y).bind F)) n x = (loopN (Round D c K') n x).bind F
 | 0, x => rfl
 | n + 1, x => by
  show Round D c _ (loopN (Round D c _) n) x = (Round D c K' (loopN (Round D c K') n) x).bind F
  unfold Round
  rw [bind_bind]
  congr 1
  funext p
  cases p.1 with
  | normal => exact loopN_bind K' F n _
  | exit i => rfl
  | ret => rfl
theorem loopD_bind {R' : Type _} (K' : X → α → Option R') (F : R' → Option R) (x : α) : loopD (Round D c (fun e y => (K' e y).bind F)) x = (loopD (Round D c K') x).bind F := by
 apply Option.ext
 intro r
 rw [loopD_iff]
 constructor
 ·rintro ⟨n, h⟩
  rw [loopN_bind] at h
  cases hq : loopN (Round D c K') n x with
  | none => rw [hq] at h; cases h
  | some r' => rw [hq] at h; rw [(loopD_iff D c K').2 ⟨n, hq⟩]; exact h
 ·intro h
  cases hq : loopD (Round D c K') x with
  | none => rw [hq] at h; cases h
  | some r' =>
   rw [hq] at h
   obtain ⟨n, hn⟩ := (loopD_iff D c K').1 hq
   exact ⟨n, by rw [loopN_bind, hn]; exact h⟩
end

section
universe u v
variable {R : Type u} {R' : Type v} (G : Gam) (T : Tys) (sh : List Nat)
theorem evDrawB_bind (pts : List (Nat × List Nat × List Nat)) (all : List Oper) (J : Env → Option R') (F : R' → Option R) : ∀ (l : List Oper) (i : Nat) (b : Option Nat) (done : List (Nat × Foot)) (E : Env), evDrawB G T sh pts all i l b done E (fun c => (J c).bind F) = (evDrawB G T sh pts all i l b done E J).bind F
 | [], i, b, done, E => rfl
 | o :: r, i, b, done, E => by
  have ih : (fun E2 => evDrawB G T sh pts all (i + 1) r (some i) [] E2 (fun c => (J c).bind F)) = fun E2 => (evDrawB G T sh pts all (i + 1) r (some i) [] E2 J).bind F := funext fun E2 => evDrawB_bind pts all J F r (i + 1) _ _ E2
  simp only [evDrawB]
  split
  ·rw [ite_bind, ← evOp_bind]
   congr 1
   ·congr 1; funext cs; rw [← splitC_bind]; congr 1; funext cs'
    cases okB all i o (foot all o E cs') b done
    ·rfl
    ·cases barAt all i o done
     ·cases (cutAt pts (i + 1)).isNone
      ·rfl
      ·exact evDrawB_bind pts all J F r (i + 1) _ _ _
     ·simp only [cond_true]; rw [ih, cutK_bind]
   ·split
    ·rw [cond_bind]; congr 1; exact evDrawB_bind pts all J F r (i + 1) _ _ _
    ·rw [cond_bind]; congr 1; exact evDrawB_bind pts all J F r (i + 1) _ _ _
  ·rfl

/-- Code is followed once. -/
def Once (c : Code) : Prop := ∀ (R : Type u) (ann : Ann) (E : Env) (K : X → Env → Option R), den G T sh c ann E K = (den G T sh c ann E pairK).bind fun p => K p.1 p.2

variable {G T sh}
theorem Once.region (id : Nat) (ops : Array Oper) (d : Bool) : Once.{u} G T sh (.region id ops d) := by
 intro R ann E K
 cases d
 ·cases ann with
  | rg pts =>
   simp only [den]
   exact evOpsP_bind G T sh pts ops.toList (fun E' => pairK .normal E') (fun p => K p.1 p.2) _ _ _
  | _ =>
   simp only [den]
   exact evOps_bind G T sh ops.toList (fun E' => pairK .normal E') (fun p => K p.1 p.2) _ _ _
 ·cases ann with
  | rg pts =>
   simp only [den]
   rw [evDrawC_eq G T sh pts ops.toList (fun E' => K .normal E') ops.toList 0 none [] E rfl, evDrawC_eq G T sh pts ops.toList (fun E' => pairK .normal E') ops.toList 0 none [] E rfl]
   exact evDrawB_bind G T sh pts ops.toList (fun E' => pairK .normal E') (fun p => K p.1 p.2) _ _ _ _ _
  | _ =>
   simp only [den]
   exact evDraw_bind G T sh ops.toList (fun E' => pairK .normal E') (fun p => K p.1 p.2) _ _ _ _
theorem Once.seq {x y : Code} (x1 : Once.{1} G T sh x) (xu : Once.{u} G T sh x) (yu : Once.{u} G T sh y) : Once.{u} G T sh (.seq x y) := by
 intro R ann E K
 cases ann with
 | seq a b =>
  simp only [den]
  rw [xu, x1 _ a E (kSeq _ _), bind_bind]
  congr 1; funext p
  obtain ⟨e, E'⟩ := p
  cases e with
  | normal => exact yu R b E' K
  | exit i => rfl
  | ret => rfl
 | cut L Lb a b =>
  simp only [den, bar_eq]
  rw [xu, x1 _ a E (kSeq _ _), bind_bind]
  congr 1; funext p
  obtain ⟨e, E'⟩ := p
  cases e with
  | normal => exact yu R b _ K
  | exit i => rfl
  | ret => rfl
 | _ => simp only [den]; rfl
theorem Once.cond {c : Operand} {x y : Code} (xu : Once.{u} G T sh x) (yu : Once.{u} G T sh y) : Once.{u} G T sh (.cond c x y) := by
 intro R ann E K
 cases ann with
 | cond a b =>
  simp only [den]
  split
  ·rename_i t _
   cases t
   ·simp only [Bool.false_eq_true, if_false]; exact yu R b E K
   ·simp only [if_true]; exact xu R a E K
  ·rfl
 | _ => simp only [den]; rfl
theorem Once.block {id : Nat} {x : Code} (x1 : Once.{1} G T sh x) (xu : Once.{u} G T sh x) : Once.{u} G T sh (.block id x) := by
 intro R ann E K
 cases ann with
 | blk a =>
  simp only [den]
  rw [xu, x1 _ a E (kBlk _ _), bind_bind]
  congr 1; funext p
  exact kBlk_bind id p.1 p.2 pairK (fun p => K p.1 p.2)
 | _ => simp only [den]; rfl
theorem round_eq {x : Code} (xu : Once.{u} G T sh x) {R : Type u} (L Lb : List Nat) (a : Ann) (K : X → Env → Option R) :
  (fun (rec : Env → Option R) E' => den G T sh x a E' (kSeq (fun E2 => rec (E2.canon L Lb)) K)) = Round (fun E' => den G T sh x a E' pairK) (fun E' => E'.canon L Lb) K := by
 funext rec E'
 rw [xu]
 unfold Round
 congr 1; funext p
 obtain ⟨e, E2⟩ := p
 cases e <;> rfl
theorem Once.loop {x : Code} (x1 : Once.{1} G T sh x) (xu : Once.{u} G T sh x) : Once.{u} G T sh (.loop x) := by
 intro R ann E K
 cases ann with
 | loop L Lb a =>
  simp only [den]
  rw [round_eq xu, round_eq x1]
  exact loopD_bind _ _ pairK (fun p => K p.1 p.2) _
 | _ => simp only [den]; rfl
theorem once1 : ∀ c : Code, Once.{1} G T sh c ∧ Once.{u} G T sh c := by
 intro c
 induction c with
 | skip => exact ⟨fun R ann E K => rfl, fun R ann E K => rfl⟩
 | region id ops d => exact ⟨.region id ops d, .region id ops d⟩
 | seq x y ihx ihy => exact ⟨.seq ihx.1 ihx.1 ihy.1, .seq ihx.1 ihx.2 ihy.2⟩
 | cond c x y ihx ihy => exact ⟨.cond ihx.1 ihy.1, .cond ihx.2 ihy.2⟩
 | block id x ih => exact ⟨.block ih.1 ih.1, .block ih.1 ih.2⟩
 | loop x ih => exact ⟨.loop ih.1 ih.1, .loop ih.1 ih.2⟩
 | exit id => exact ⟨fun R ann E K => rfl, fun R ann E K => rfl⟩
 | ret => exact ⟨fun R ann E K => rfl, fun R ann E K => rfl⟩
 | _ => exact ⟨fun R ann E K => rfl, fun R ann E K => rfl⟩
theorem once (c : Code) : Once.{u} G T sh c := (once1 c).2

/-- A loop is entered. -/
theorem den_loop {x : Code} {L Lb : List Nat} {a : Ann} {E : Env} {R : Type u} {K : X → Env → Option R} :
  den G T sh (.loop x) (.loop L Lb a) E K = den G T sh x a (E.canon L Lb) (kSeq (fun E2 => den G T sh (.loop x) (.loop L Lb a) E2 K) K) := by
 have h := round_eq (once.{u} (G := G) (T := T) (sh := sh) x) L Lb a K
 have h1 : ∀ E : Env, den G T sh (.loop x) (.loop L Lb a) E K = loopD (Round (fun E' => den G T sh x a E' pairK) (fun E' => E'.canon L Lb) K) (E.canon L Lb) := by
  intro E; simp only [den]; rw [h]
 rw [h1, loopD_round, ← congrFun (congrFun h _) _]
 simp only [← h1]
end

theorem runAt_loop (G : Gam) (T : Tys) (F : FI) (p : List Bool) (sl : List (Nat × SV)) (bx : List (Nat × List V)) : runAt G T F p sl bx = loopAt G T F p sl bx := by
 unfold runAt loopAt Pos.inner Pos.head
 generalize posAt G T F.sh p F.body F.ann (finK T F.bs F.outs) = q
 obtain ⟨c, a, K⟩ := q
 dsimp only
 split
 ·exact den_loop
 ·rfl
end Go.Proofs.YtecdijlfnnminaaGreatDoor.Eng
namespace Go.Proofs.YtecdijlfnnminaaGreatDoor.Eng
open Go Go.RowKit

def TOkL (P : Program) (T : Tys) (l : Tys) : Prop := ∀ t i, alook l t = some i → TFits P T t i
theorem TOkL.nil (P : Program) (T : Tys) : TOkL P T [] := fun t i h => by cases h
theorem TOkL.cons {P : Program} {T l : Tys} {t : TypeId} {i : TI} (hl : TOkL P T l) (h : TFits P T t i) : TOkL P T ((t, i) :: l) := fun t' i' h' => by
 rw [alook_cons] at h'
 split at h'
 ·rename_i e; subst e; cases h'; exact h
 ·exact hl t' i' h'
theorem TOkL.ok {P : Program} {T : Tys} (h : TOkL P T T) : TOk P T := h

section
variable {P : Program} {T : Tys} {t : TypeId}
theorem TFits.int' {k : IntKind} (h1 : (P.info? t).map (·.size) = some 1) (h2 : (P.info? t).bind (·.zero) = some (.int k 0)) (h3 : P.underlying t = some (.int k)) : TFits P T t ⟨.int k, 0, 0, []⟩ := ⟨h1, h2, h3, .inr (fun _ _ h => by cases h)⟩
theorem TFits.bool' (h1 : (P.info? t).map (·.size) = some 1) (h2 : (P.info? t).bind (·.zero) = some (.bool false)) (h3 : P.underlying t = some .bool) : TFits P T t ⟨.bool, 0, 0, []⟩ := ⟨h1, h2, h3, .inr (fun _ _ h => by cases h)⟩
theorem TFits.str' (h1 : (P.info? t).map (·.size) = some 1) (h2 : (P.info? t).bind (·.zero) = some (.string ⟨#[]⟩)) (h3 : P.underlying t = some .string) : TFits P T t ⟨.str, 0, 0, []⟩ := ⟨h1, h2, h3, .inr (fun _ _ h => by cases h)⟩
theorem TFits.slice' {e : Ty} {id eb : Nat} (h1 : (P.info? t).map (·.size) = some 1) (h2 : (P.info? t).bind (·.zero) = some (.slice none 0 0)) (h3 : P.underlying t = some (.slice id)) (h4 : T.ty id = some e) (h5 : Nat.blt 0 e.size = true)
  (h6 : (P.info? id).map (·.bytes) = some eb) : TFits P T t ⟨.slice e, id, eb, []⟩ := ⟨h1, h2, ⟨h3, h4, by simpa [Nat.blt_eq] using h5, h6⟩, .inr (fun _ _ h => by cases h)⟩
def structOf : Option TypeDesc → Option (List (TypeId × Nat))
 | some (.struct fs) => some (fs.toList.map (fun f => (f.type, f.offset)))
 | _ => none
theorem TFits.pair' {a b : Ty} {fl : List (TypeId × Nat)} (h1 : (P.info? t).map (·.size) = some (Ty.pair a b).size) (h2 : (P.info? t).bind (·.zero) = some (pack (.pair a b) (Ty.pair a b).zeros)) (h3 : structOf (P.underlying t) = some fl)
  (h4 : fldsOk T (.pair a b) 0 fl = true) (h5 : (!eqInts T fl || eqB P t) = true) : TFits P T t ⟨.pair a b, 0, 0, fl⟩ := by
 refine ⟨h1, h2, ?_, .inl h5⟩
 unfold structOf at h3
 split at h3
 ·rename_i fs hu
  exact ⟨fs, hu, Option.some.inj h3, h4⟩
 ·cases h3
end
end Go.Proofs.YtecdijlfnnminaaGreatDoor.Eng
namespace Go.Proofs.YtecdijlfnnminaaGreatDoor.Eng
open Go Go.RowKit

theorem addr_eta {x : Addr} (h : x.spot = none) : x = ⟨x.block, x.off, none⟩ := by cases x; cases h; rfl
theorem addr_add {x : Addr} (h : x.spot = none) (i : Nat) : x.add i = ⟨x.block, x.off + i, none⟩ := by
 unfold Addr.add
 split
 ·rename_i h0; subst h0; exact addr_eta h
 ·rfl
theorem cell_spot {w : World} {x : Addr} {v : Value} (h : w.cell? x = some v) : x.spot = none ∧ x.block < w.heap.size := by
 unfold World.cell? at h
 split at h
 ·rename_i c t z hb
  refine ⟨?_, ?_⟩
  ·cases hs : x.spot with
   | none => rfl
   | some n => rw [hs] at h; cases h
  ·rcases Nat.lt_or_ge x.block w.heap.size with h1 | h1
   ·exact h1
   ·rw [Array.getElem?_eq_none h1] at hb; cases hb
 ·cases h

/-- A row of whole numbers that was there when the call began. -/
theorem ValR.row {w : World} {k : IntKind} {a : Option Addr} {len cap : Nat} {zs : List Int}
  (h : (a = none ∧ len = 0 ∧ cap = 0 ∧ zs = []) ∨ ∃ x, a = some x ∧ len ≤ cap ∧ cap ≤ maxLen ∧ zs.length = cap ∧ (∀ i, i < zs.length → w.cell? (x.add i) = some (.int k (zs.getD i 0))) ∧ ∀ n ∈ zs, (Lit.int k n).wf = true) :
  ValR (fun b => b < w.heap.size) w (.slice (.int k)) (zs.take len) (.slice a len cap) := by
 rw [ValR.slice]
 rcases h with ⟨rfl, rfl, rfl, rfl⟩ | ⟨x, rfl, hl, hm, hz, hc, _⟩
 ·exact .inl ⟨none, rfl, rfl⟩
 ·by_cases h0 : cap = 0
  ·subst h0
   obtain rfl : len = 0 := by omega
   exact .inl ⟨some x, rfl, by simp⟩
  ·have h1 := hc 0 (by omega)
   have h2 : x.add 0 = x := rfl
   rw [h2] at h1
   obtain ⟨s1, s2⟩ := cell_spot h1
   have hlen : (zs.take len).length = len := by rw [List.length_take]; omega
   refine .inr ⟨x.block, x.off, cap, ?_, by omega, hm, s2, s2, fun i hi => ?_⟩
   ·rw [hlen, ← addr_eta s1]
   ·refine ⟨[.int k (zs.take len)[i]], rfl, fun j u hu => ?_⟩
    have hj : j = 0 := by
     have := (List.getElem?_eq_some_iff.1 hu).1
     simp at this
     omega
    subst hj
    have hi' : i < zs.length := by omega
    have h3 := hc i hi'
    rw [addr_add s1] at h3
    have e : (Ty.int k).size = 1 := rfl
    rw [e, Nat.mul_one, Nat.add_zero, h3]
    simp only [List.getElem?_cons_zero] at hu
    rw [← hu, List.getElem_take, List.getD_eq_getElem?_getD, List.getElem?_eq_getElem hi', Option.getD_some]

theorem ResAt.bool {S : Nat → Prop} {n0 : Nat} {Y : List Nat} {w' : World} {b : Bool} {rv : Value} {S' : Nat → Prop} {B' : Nat → Option Nat} (h : ResAt S n0 Y w' [.val .bool b] rv S' B') : rv = .bool b := by
 have h1 := h.comps 0 _ rfl
 have h2 : ValR S' w' .bool b (compVal 1 rv 0) := h1
 rw [ValR.bool] at h2
 exact h2
theorem KeptBut.nil {w w' : World} (h : KeptBut (fun g => g ∈ ([] : List Nat) ∨ g ∈ ([] : List Nat)) w w') : Below w.heap.size w w' := ⟨h.os, h.tape, h.output, h.size, fun k hk => h.block k hk (fun x => by rcases x with x | x <;> cases x)⟩
/-- A call that answers true and hands nothing back. -/
theorem After.truth {S : Nat → Prop} {w w' : World} {res : List SV} {outs : List (List V)} {e : Ending} (h : After S w [] [] res outs e w') (hr : res = [.val .bool true]) : e = .returned (.bool true) ∧ Below w.heap.size w w' := by
 subst hr
 obtain ⟨rv, S', B', Bo, he, hk, hr, _⟩ := h
 have h2 := ResAt.bool (b := true) hr
 subst h2
 exact ⟨he, KeptBut.nil hk⟩
/-- Bytes. -/
theorem bytes_of_row {w : World} {a : Option Addr} {len cap : Nat} {zs : List Int}
  (h : (a = none ∧ len = 0 ∧ cap = 0 ∧ zs = []) ∨ ∃ x, a = some x ∧ len ≤ cap ∧ cap ≤ maxLen ∧ zs.length = cap ∧ (∀ i, i < zs.length → w.cell? (x.add i) = some (.int .u8 (zs.getD i 0))) ∧ ∀ n ∈ zs, (Lit.int .u8 n).wf = true) :
  (zs.take len).length = len ∧ ∀ x ∈ zs.take len, 0 ≤ x ∧ x ≤ 255 := by
 rcases h with ⟨rfl, rfl, rfl, rfl⟩ | ⟨x, rfl, hl, hm, hz, _, hw⟩
 ·exact ⟨rfl, fun x hx => by cases hx⟩
 ·refine ⟨by rw [List.length_take]; omega, fun y hy => ?_⟩
  have h1 := hw y (List.mem_of_mem_take hy)
  have h4 : (decide ((0 : Int) ≤ y) && decide (y ≤ (255 : Int))) = true := h1
  simpa using h4
end Go.Proofs.YtecdijlfnnminaaGreatDoor.Eng
namespace Go.Proofs.YtecdijlfnnminaaGreatDoor.Eng
open Go Go.RowKit

def LeO {α : Type} (a b : Option α) : Prop := ∀ r, a = some r → b = some r
theorem LeO.refl {α : Type} (a : Option α) : LeO a a := fun _ h => h
theorem LeO.none {α : Type} (b : Option α) : LeO Option.none b := fun _ h => by cases h
theorem LeO.of {α : Type} {a b c : Option α} (e : b = c) (h : LeO a c) : LeO a b := by rw [e]; exact h
theorem LeO.ite {α : Type} {c : Prop} [Decidable c] {a a' b b' : Option α} (h : LeO a a') (k : LeO b b') : LeO (if c then a else b) (if c then a' else b') := by
 split
 ·exact h
 ·exact k
theorem LeO.ite' {α : Type} {t : Bool} {a a' b b' : Option α} (h : t = true → LeO a a') (k : ¬ t = true → LeO b b') : LeO (if t = true then a else b) (if t = true then a' else b') := by
 split
 ·exact h ‹_›
 ·exact k ‹_›
theorem LeO.ite_t {α : Type} {t : Bool} {a a' b' : Option α} (hp : t = true) (h : LeO a a') : LeO a (if t = true then a' else b') := by rw [if_pos hp]; exact h
theorem LeO.ite_f {α : Type} {t : Bool} {b a' b' : Option α} (hp : ¬ t = true) (h : LeO b b') : LeO b (if t = true then a' else b') := by rw [if_neg hp]; exact h
theorem LeO.dec {α : Type} {p : Prop} [Decidable p] {a a' b b' : Option α} (h : p → LeO a a') (k : ¬ p → LeO b b') : LeO (if p then a else b) (if decide p = true then a' else b') := by
 by_cases hp : p
 ·rw [if_pos hp, if_pos (decide_eq_true hp)]; exact h hp
 ·rw [if_neg hp, if_neg (by rw [decide_eq_false hp]; decide)]; exact k hp
theorem LeO.dec_t {α : Type} {p : Prop} [Decidable p] {a a' b' : Option α} (hp : p) (h : LeO a a') : LeO a (if decide p = true then a' else b') := by rw [if_pos (decide_eq_true hp)]; exact h
theorem LeO.dec_f {α : Type} {p : Prop} [Decidable p] {b a' b' : Option α} (hp : ¬ p) (h : LeO b b') : LeO b (if decide p = true then a' else b') := by rw [if_neg (by rw [decide_eq_false hp]; decide)]; exact h
theorem LeO.beq {α : Type} {β : Type} [BEq β] [LawfulBEq β] [DecidableEq β] {x y : β} {a a' b b' : Option α} (h : x = y → LeO a a') (k : ¬ x = y → LeO b b') : LeO (if x = y then a else b) (if (x == y) = true then a' else b') := by
 by_cases hp : x = y
 ·rw [if_pos hp, if_pos (beq_iff_eq.2 hp)]; exact h hp
 ·rw [if_neg hp, if_neg (fun e => hp (beq_iff_eq.1 e))]; exact k hp
theorem LeO.beq_t {α : Type} {β : Type} [BEq β] [LawfulBEq β] [DecidableEq β] {x y : β} {a a' b' : Option α} (hp : x = y) (h : LeO a a') : LeO a (if (x == y) = true then a' else b') := by rw [if_pos (beq_iff_eq.2 hp)]; exact h
theorem LeO.beq_f {α : Type} {x y : Int} {b a' b' : Option α} (hp : ¬ x = y) (h : LeO b b') : LeO b (if (x == y) = true then a' else b') := by rw [if_neg (fun e => hp (beq_iff_eq.1 e))]; exact h
theorem LeO.bne {α : Type} {β : Type} [BEq β] [LawfulBEq β] [DecidableEq β] {x y : β} {a a' b b' : Option α} (h : x = y → LeO a a') (k : ¬ x = y → LeO b b') : LeO (if x = y then a else b) (if (x != y) = true then b' else a') := by
 by_cases hp : x = y
 ·rw [if_pos hp, if_neg (by rw [hp, bne_self_eq_false]; decide)]; exact h hp
 ·rw [if_neg hp, if_pos (bne_iff_ne.2 hp)]; exact k hp
theorem LeO.bne_t {α : Type} {β : Type} [BEq β] [LawfulBEq β] [DecidableEq β] {x y : β} {a a' b' : Option α} (hp : x = y) (h : LeO a a') : LeO a (if (x != y) = true then b' else a') := by rw [if_neg (by rw [hp, bne_self_eq_false]; decide)]; exact h
theorem LeO.bne_f {α : Type} {x y : Int} {b a' b' : Option α} (hp : ¬ x = y) (h : LeO b b') : LeO b (if (x != y) = true then b' else a') := by rw [if_pos (bne_iff_ne.2 hp)]; exact h
theorem LeO.nob {α : Type} {t : Bool} {a a' b b' : Option α} (h : t = true → LeO a a') (k : ¬ t = true → LeO b b') : LeO (if t = true then a else b) (if (!t) = true then b' else a') := by
 cases t
 ·exact k (by decide)
 ·exact h rfl
theorem LeO.nob_t {α : Type} {t : Bool} {a a' b' : Option α} (hp : t = true) (h : LeO a a') : LeO a (if (!t) = true then b' else a') := by subst hp; exact h
theorem LeO.nob_f {α : Type} {t : Bool} {b a' b' : Option α} (hp : ¬ t = true) (h : LeO b b') : LeO b (if (!t) = true then b' else a') := by
 cases t
 ·exact h
 ·exact absurd rfl hp
theorem LeO.bind {α β : Type} {a a' : Option α} {f f' : α → Option β} (h : LeO a a') (k : ∀ x, LeO (f x) (f' x)) : LeO (a.bind f) (a'.bind f') := by
 intro r hr
 obtain ⟨x, hx, hf⟩ := Option.bind_eq_some_iff.1 hr
 exact Option.bind_eq_some_iff.2 ⟨x, h x hx, k x r hf⟩
theorem LeO.tst {α : Type} {p : Prop} [Decidable p] {a b : Option α} (h : p → LeO a b) : LeO (if p then a else Option.none) b := by
 split
 ·exact h ‹_›
 ·exact LeO.none _
/-- An element, told at every place. -/
def rde {α : Type} [Inhabited α] (xs : List α) (i : Int) : α := xs.getD i.toNat default
theorem rdI_rd {α : Type} [Inhabited α] {xs : List α} {i : Int} (h0 : 0 ≤ i) (h1 : i < (xs.length : Int)) : rdI xs i = some (rde xs i) := by
 unfold rdI rde
 rw [if_pos h0, List.getD_eq_getElem?_getD, List.getElem?_eq_getElem (by omega), Option.getD_some]
theorem LeO.rdI {α β : Type} [Inhabited α] {xs : List α} {i : Int} {a : Option β} {f : α → Option β} (h0 : 0 ≤ i) (h1 : i < (xs.length : Int)) (h : LeO a (f (rde xs i))) : LeO a ((rdI xs i).bind f) := by
 rw [rdI_rd h0 h1]; exact h
theorem catI_cat {α : Type} {n : Nat} {xs ys : List α} (h : xs.length + ys.length ≤ n) : catI n xs ys = some (xs ++ ys) := by unfold catI; rw [if_pos h]
theorem LeO.cat {α β : Type} {n : Nat} {xs ys : List α} {a : Option β} {f : List α → Option β} (h1 : xs.length + ys.length < n) (h : LeO a (f (xs ++ ys))) : LeO a ((catI n xs ys).bind f) := by
 rw [catI_cat (Nat.le_of_lt h1)]; exact h
theorem LeO.cat1 {α β : Type} {n : Nat} {xs : List α} {y : α} {a : Option β} {f : List α → Option β} (h1 : xs.length < n) (h : LeO a (f (xs ++ [y]))) : LeO a ((catI n xs [y]).bind f) := by
 rw [catI_cat (by simp; omega)]; exact h
theorem LeO.catS {α β : Type} {xs ys : List α} {a : Option β} {f : List α → Option β} (h1 : xs.length + ys.length ≤ 9223372036854775807) (h : LeO a (f (xs ++ ys))) : LeO a ((catI strMax xs ys).bind f) := by
 rw [catI_cat (n := strMax) h1]; exact h
theorem LeO.subI {α β : Type} {xs : List α} {lo hi : Int} {a : Option β} {f : List α → Option β} (h0 : 0 ≤ lo) (h1 : lo ≤ hi) (h2 : hi ≤ (xs.length : Int)) (h : LeO a (f ((xs.take hi.toNat).drop lo.toNat))) : LeO a ((Eng.subI xs lo hi).bind f) := by
 unfold Eng.subI
 rw [if_pos ⟨h0, h1, h2⟩, ← List.drop_take]; exact h
theorem LeO.sub0 {α β : Type} {xs : List α} {hi : Int} {a : Option β} {f : List α → Option β} (h1 : 0 ≤ hi) (h2 : hi ≤ (xs.length : Int)) (h : LeO a (f (xs.take hi.toNat))) : LeO a ((Eng.subI xs 0 hi).bind f) := by
 unfold Eng.subI
 rw [if_pos ⟨Int.le_refl _, h1, h2⟩]; exact h
theorem LeO.subE {α β : Type} {xs : List α} {lo : Int} {a : Option β} {f : List α → Option β} (h0 : 0 ≤ lo) (h1 : lo ≤ (xs.length : Int)) (h : LeO a (f (xs.drop lo.toNat))) : LeO a ((Eng.subI xs lo xs.length).bind f) := by
 unfold Eng.subI
 rw [if_pos ⟨h0, h1, Int.le_refl _⟩, List.take_of_length_le (by rw [List.length_drop]; omega)]; exact h
theorem LeO.cat0 {α β : Type} {n : Nat} {xs : List α} {a : Option β} {f : List α → Option β} (h1 : xs.length < n) (h : LeO a (f xs)) : LeO a ((catI n [] xs).bind f) := by
 rw [catI_cat (by simp; omega)]; exact h
theorem LeO.cat01 {α β : Type} {n : Nat} {y : α} {a : Option β} {f : List α → Option β} (h1 : 1 ≤ n) (h : LeO a (f [y])) : LeO a ((catI n [] [y]).bind f) := by
 rw [catI_cat (by simpa using h1)]; exact h
end Go.Proofs.YtecdijlfnnminaaGreatDoor.Eng
namespace Go.Proofs.YtecdijlfnnminaaGreatDoor.Eng
open Go Go.RowKit

def spec1 (t : Ty) {R : Type} (f : t.den → Option R) (res : R → List SV) : CSpec := fun l => match l with
 | [.v t' x] => (match (⟨t', x⟩ : V).as t with | some y => ⟨R, f y, res, fun _ => []⟩ | none => .fail)
 | _ => .fail
def spec2 (t u : Ty) {R : Type} (f : t.den → u.den → Option R) (res : R → List SV) : CSpec := fun l => match l with
 | [.v t' x, .v u' y] => (match (⟨t', x⟩ : V).as t, (⟨u', y⟩ : V).as u with | some x', some y' => ⟨R, f x' y', res, fun _ => []⟩ | _, _ => .fail)
 | _ => .fail

theorem spec1_cases {t : Ty} {R : Type} (f : t.den → Option R) (res : R → List SV) : ∀ l, spec1 t f res l = .fail ∨ ∃ x, l = [.v t x] ∧ spec1 t f res l = ⟨R, f x, res, fun _ => []⟩
 | [.v t' x] => by
  cases hx : (⟨t', x⟩ : V).as t with
  | none => exact .inl (by simp only [spec1, hx])
  | some y =>
   have e := V.as_some hx
   injection e with e1 e2
   subst e1
   cases e2
   exact .inr ⟨_, rfl, by simp only [spec1, hx]⟩
 | [] => .inl rfl
 | [.bx _] => .inl rfl
 | [.cr _ _] => .inl rfl
 | [.clo _] => .inl rfl
 | [.nl _] => .inl rfl
 | [.io _ _ _] => .inl rfl
 | [.fp _ _ _] => .inl rfl
 | .v _ _ :: _ :: _ => .inl rfl
 | .bx _ :: _ :: _ => .inl rfl
 | .cr _ _ :: _ :: _ => .inl rfl
 | .clo _ :: _ :: _ => .inl rfl
 | .nl _ :: _ :: _ => .inl rfl
 | .io _ _ _ :: _ :: _ => .inl rfl
 | .fp _ _ _ :: _ :: _ => .inl rfl
theorem spec2_cases {t u : Ty} {R : Type} (f : t.den → u.den → Option R) (res : R → List SV) : ∀ l, spec2 t u f res l = .fail ∨ ∃ x y, l = [.v t x, .v u y] ∧ spec2 t u f res l = ⟨R, f x y, res, fun _ => []⟩
 | [.v t' x, .v u' y] => by
  cases hx : (⟨t', x⟩ : V).as t with
  | none => exact .inl (by simp only [spec2, hx])
  | some x' =>
   have e := V.as_some hx
   injection e with e1 e2
   subst e1
   cases e2
   cases hy : (⟨u', y⟩ : V).as u with
   | none => exact .inl (by simp only [spec2, hx, hy])
   | some y' =>
    have e := V.as_some hy
    injection e with e1 e2
    subst e1
    cases e2
    exact .inr ⟨_, _, rfl, by simp only [spec2, hx, hy]⟩
 | [] => .inl rfl
 | [.v _ _] => .inl rfl
 | [.bx _] => .inl rfl
 | [.cr _ _] => .inl rfl
 | [.clo _] => .inl rfl
 | [.nl _] => .inl rfl
 | [.io _ _ _] => .inl rfl
 | [.fp _ _ _] => .inl rfl
 | .bx _ :: _ :: _ => .inl rfl
 | .cr _ _ :: _ :: _ => .inl rfl
 | .clo _ :: _ :: _ => .inl rfl
 | .nl _ :: _ :: _ => .inl rfl
 | .io _ _ _ :: _ :: _ => .inl rfl
 | .fp _ _ _ :: _ :: _ => .inl rfl
 | .v _ _ :: .io _ _ _ :: _ => .inl rfl
 | .v _ _ :: .fp _ _ _ :: _ => .inl rfl
 | .v _ _ :: .bx _ :: _ => .inl rfl
 | .v _ _ :: .cr _ _ :: _ => .inl rfl
 | .v _ _ :: .clo _ :: _ => .inl rfl
 | .v _ _ :: .nl _ :: _ => .inl rfl
 | .v _ _ :: .v _ _ :: _ :: _ => .inl rfl

section
variable {P : Program} {I : Inv} {k : FuncId} {R : Type} {res : R → List SV}
theorem spec1_ok {t : Ty} {f : t.den → Option R} (he : ∃ fn, P.funcs[k]? = some fn ∧ (fn.name == "runtime.NumGoroutine") = false ∧ fn.body.isNone = false)
  (h : ∀ (S : Nat → Prop) (w : World) (x : t.den) (u : Value) (r : R), I S w → (∀ b, S b → b < w.heap.size) → ValR S w t x u → f x = some r → Calls P k #[u] w (After S w [] [] (res r) [])) : SpecOk P I k (spec1 t f res) := by
 refine ⟨he, fun S w l vs X Y r hI hlt _ _ hA hr => ?_⟩
 revert r hr
 rcases spec1_cases f res l with e | ⟨x, rfl, e⟩
 ·rw [e]; intro r hr; cases hr
 ·rw [e]
  intro r hr
  obtain ⟨u, r', rfl, h1, rfl, rfl, rfl⟩ := hA
  exact h S w x u r hI hlt h1 hr
theorem spec2_ok {t u : Ty} {f : t.den → u.den → Option R} (he : ∃ fn, P.funcs[k]? = some fn ∧ (fn.name == "runtime.NumGoroutine") = false ∧ fn.body.isNone = false)
  (h : ∀ (S : Nat → Prop) (w : World) (x : t.den) (y : u.den) (a b : Value) (r : R), I S w → (∀ b, S b → b < w.heap.size) → ValR S w t x a → ValR S w u y b → f x y = some r → Calls P k #[a, b] w (After S w [] [] (res r) [])) : SpecOk P I k (spec2 t u f res) := by
 refine ⟨he, fun S w l vs X Y r hI hlt _ _ hA hr => ?_⟩
 revert r hr
 rcases spec2_cases f res l with e | ⟨x, y, rfl, e⟩
 ·rw [e]; intro r hr; cases hr
 ·rw [e]
  intro r hr
  obtain ⟨a, r1, rfl, h1, b, r2, rfl, h2, rfl, rfl, rfl⟩ := hA
  exact h S w x y a b r hI hlt h1 h2 hr
end

/-- Results that are values: what they hold is of S or new. -/
theorem After.vals {S : Nat → Prop} {w w' : World} (hb : Below w.heap.size w w') (hlt : ∀ b, S b → b < w.heap.size) {res : List SV} {rv : Value} (hf : isRes res.length rv)
  (h : ∀ i sv, res[i]? = some sv → ∃ t x, sv = .val t x ∧ ValR (fun b => S b ∨ (w.heap.size ≤ b ∧ b < w'.heap.size)) w' t x (compVal res.length rv i)) : After S w [] [] res [] (.returned rv) w' := by
 refine ⟨rv, fun b => S b ∨ (w.heap.size ≤ b ∧ b < w'.heap.size), fun _ => none, fun _ _ => none, rfl, KeptBut.of_below hb, ⟨hf, ?_, fun b hb => .inl hb, ?_, ?_, ?_, ?_⟩, rfl, (fun _ h => by cases h), RowsAt.none _ _ _ _ _⟩
 ·rintro b (h1 | h1)
  ·exact .inl h1
  ·exact .inr (.inl h1.1)
 ·rintro b (h1 | h1)
  ·exact Nat.lt_of_lt_of_le (hlt b h1) hb.size
  ·exact h1.2
 ·intro i j g h1; cases h1
 ·intro i g h1; cases h1
 ·intro i sv hs
  obtain ⟨t, x, rfl, hv⟩ := h i sv hs
  exact hv
theorem After.val1 {S : Nat → Prop} {w w' : World} (hb : Below w.heap.size w w') (hlt : ∀ b, S b → b < w.heap.size) {t : Ty} {x : t.den} {v : Value} (h : ValR (fun b => S b ∨ (w.heap.size ≤ b ∧ b < w'.heap.size)) w' t x v) : After S w [] [] [.val t x] [] (.returned v) w' :=
 After.vals hb hlt (.inl rfl) fun i sv hs => by
  match i, hs with
  | 0, hs => cases hs; exact ⟨t, x, rfl, h⟩
  | _ + 1, hs => cases hs
theorem After.val2 {S : Nat → Prop} {w w' : World} (hb : Below w.heap.size w w') (hlt : ∀ b, S b → b < w.heap.size) {t u : Ty} {x : t.den} {y : u.den} {a b : Value} (h1 : ValR (fun b => S b ∨ (w.heap.size ≤ b ∧ b < w'.heap.size)) w' t x a)
  (h2 : ValR (fun b => S b ∨ (w.heap.size ≤ b ∧ b < w'.heap.size)) w' u y b) : After S w [] [] [.val t x, .val u y] [] (.returned (.tuple #[a, b])) w' :=
 After.vals hb hlt (.inr ⟨_, rfl, rfl⟩) fun i sv hs => by
  match i, hs with
  | 0, hs => cases hs; exact ⟨t, x, rfl, h1⟩
  | 1, hs => cases hs; exact ⟨u, y, rfl, h2⟩
  | _ + 2, hs => cases hs
theorem After.val3 {S : Nat → Prop} {w w' : World} (hb : Below w.heap.size w w') (hlt : ∀ b, S b → b < w.heap.size) {t u v : Ty} {x : t.den} {y : u.den} {z : v.den} {a b c : Value} (h1 : ValR (fun b => S b ∨ (w.heap.size ≤ b ∧ b < w'.heap.size)) w' t x a)
  (h2 : ValR (fun b => S b ∨ (w.heap.size ≤ b ∧ b < w'.heap.size)) w' u y b) (h3 : ValR (fun b => S b ∨ (w.heap.size ≤ b ∧ b < w'.heap.size)) w' v z c) : After S w [] [] [.val t x, .val u y, .val v z] [] (.returned (.tuple #[a, b, c])) w' :=
 After.vals hb hlt (.inr ⟨_, rfl, rfl⟩) fun i sv hs => by
  match i, hs with
  | 0, hs => cases hs; exact ⟨t, x, rfl, h1⟩
  | 1, hs => cases hs; exact ⟨u, y, rfl, h2⟩
  | 2, hs => cases hs; exact ⟨v, z, rfl, h3⟩
  | _ + 3, hs => cases hs
/-- One result, a row of its own. -/
theorem After.own1 {S : Nat → Prop} {w w' : World} (hb : Below w.heap.size w w') (hlt : ∀ b, S b → b < w.heap.size) {id : TypeId} {e : Ty} {xs : List e.den} {v : Value} {cs : List Value}
  (h : w'.ownsRow w.heap.size id e.size v xs.length cs) (hr : RowCells S w' e xs cs) : After S w [] [] [.own id e xs] [] (.returned v) w' := by
 have h0 : w'.ownsRow 0 id e.size v xs.length cs := by
  refine ⟨h.1, ?_⟩
  rcases h.2 with h2 | ⟨g, cap, cur, h1, h2, h3⟩
  ·exact .inl h2
  ·exact .inr ⟨g, cap, cur, h1, Nat.zero_le _, h3⟩
 refine ⟨v, S, fun i => if i = 0 then v.ownBlock else none, fun _ _ => none, rfl, KeptBut.of_below hb, ⟨.inl rfl, fun b hb => .inl hb, fun b hb => hb, fun b hx => Nat.lt_of_lt_of_le (hlt b hx) hb.size, ?_, ?_, ?_⟩, rfl, (fun _ h => by cases h), RowsAt.none _ _ _ _ _⟩
 ·intro i j g h1 h2
  by_cases hi : i = 0
  ·by_cases hj : j = 0
   ·omega
   ·rw [if_neg hj] at h2; cases h2
  ·rw [if_neg hi] at h1; cases h1
 ·intro i g h1
  by_cases hi : i = 0
  ·rw [if_pos hi] at h1
   rcases h.2 with ⟨rfl, _⟩ | ⟨g', cap, cur, rfl, hg, hh, _⟩
   ·cases h1
   ·have : g' = g := Option.some.inj h1
    subst this
    exact ⟨.inl hg, (Array.getElem?_eq_some_iff.1 hh).1, fun hs => by have := hlt g' hs; omega⟩
  ·rw [if_neg hi] at h1; cases h1
 ·intro i sv hs
  match i, hs with
  | 0, hs => cases hs; exact ⟨cs, h0, hr, rfl⟩
  | _ + 1, hs => cases hs
/-- A function of a row that is nil as it stands, and of a value. -/
def specN (t : Ty) {R : Type} (f : t.den → Option R) (res : R → List SV) : CSpec := fun l => match l with
 | [.nl _, .v t' x] => (match (⟨t', x⟩ : V).as t with | some y => ⟨R, f y, res, fun _ => []⟩ | none => .fail)
 | _ => .fail
theorem specN_cases {t : Ty} {R : Type} (f : t.den → Option R) (res : R → List SV) : ∀ l, specN t f res l = .fail ∨ ∃ e x, l = [.nl e, .v t x] ∧ specN t f res l = ⟨R, f x, res, fun _ => []⟩
 | [.nl e, .v t' x] => by
  cases hx : (⟨t', x⟩ : V).as t with
  | none => exact .inl (by simp only [specN, hx])
  | some y =>
   have e := V.as_some hx
   injection e with e1 e2
   subst e1
   cases e2
   exact .inr ⟨_, _, rfl, by simp only [specN, hx]⟩
 | [] => .inl rfl
 | [.v _ _] => .inl rfl
 | [.bx _] => .inl rfl
 | [.cr _ _] => .inl rfl
 | [.clo _] => .inl rfl
 | [.nl _] => .inl rfl
 | [.io _ _ _] => .inl rfl
 | [.fp _ _ _] => .inl rfl
 | .v _ _ :: _ :: _ => .inl rfl
 | .bx _ :: _ :: _ => .inl rfl
 | .cr _ _ :: _ :: _ => .inl rfl
 | .clo _ :: _ :: _ => .inl rfl
 | .io _ _ _ :: _ :: _ => .inl rfl
 | .fp _ _ _ :: _ :: _ => .inl rfl
 | .nl _ :: .io _ _ _ :: _ => .inl rfl
 | .nl _ :: .fp _ _ _ :: _ => .inl rfl
 | .nl _ :: .bx _ :: _ => .inl rfl
 | .nl _ :: .cr _ _ :: _ => .inl rfl
 | .nl _ :: .clo _ :: _ => .inl rfl
 | .nl _ :: .nl _ :: _ => .inl rfl
 | .nl _ :: .v _ _ :: _ :: _ => .inl rfl
theorem specN_ok {P : Program} {I : Inv} {k : FuncId} {R : Type} {res : R → List SV} {t : Ty} {f : t.den → Option R} (he : ∃ fn, P.funcs[k]? = some fn ∧ (fn.name == "runtime.NumGoroutine") = false ∧ fn.body.isNone = false)
  (h : ∀ (S : Nat → Prop) (w : World) (x : t.den) (u : Value) (r : R), I S w → (∀ b, S b → b < w.heap.size) → ValR S w t x u → f x = some r → Calls P k #[.slice none 0 0, u] w (After S w [] [] (res r) [])) : SpecOk P I k (specN t f res) := by
 refine ⟨he, fun S w l vs X Y r hI hlt _ _ hA hr => ?_⟩
 revert r hr
 rcases specN_cases f res l with e | ⟨e0, x, rfl, e⟩
 ·rw [e]; intro r hr; cases hr
 ·rw [e]
  intro r hr
  obtain ⟨a, r1, rfl, rfl, u, r', rfl, h1, rfl, rfl, rfl⟩ := hA
  exact h S w x u r hI hlt h1 hr
end Go.Proofs.YtecdijlfnnminaaGreatDoor.Eng
namespace Go.Proofs.YtecdijlfnnminaaGreatDoor.Eng
open Go Go.RowKit

noncomputable def recO (G : Gam) (T : Tys) (F : FI) (f : FuncId) : Nat → List A → Option (outs F.outs)
 | 0, _ => none
 | k + 1, l => run ((f, fun l' => ⟨outs F.outs, recO G T F f k l', resOf F.outs, fun x => F.bs.map fun b => leavesOf b F.outs x⟩) :: G) T F l
noncomputable def recSpec (G : Gam) (T : Tys) (F : FI) (f : FuncId) (k : Nat) : CSpec := fun l => ⟨outs F.outs, recO G T F f k l, resOf F.outs, fun x => F.bs.map fun b => leavesOf b F.outs x⟩

open Classical in
/-- What comes out at all great depths. -/
noncomputable def lim {R : Type} (g : Nat → Option R) : Option R := if h : ∃ r, ∃ K, ∀ k, K ≤ k → g k = some r then some (Classical.choose h) else none
theorem lim_eq {R : Type} {g : Nat → Option R} {r : R} (h : ∃ K, ∀ k, K ≤ k → g k = some r) : lim g = some r := by
 have h1 : ∃ r, ∃ K, ∀ k, K ≤ k → g k = some r := ⟨r, h⟩
 unfold lim
 rw [dif_pos h1]
 obtain ⟨K, hK⟩ := h
 obtain ⟨K', hK'⟩ := Classical.choose_spec h1
 have := (hK' (K + K') (by omega)).symm.trans (hK (K + K') (by omega))
 rw [Option.some.inj this]
theorem lim_some {R : Type} {g : Nat → Option R} {r : R} (h : lim g = some r) : ∃ k, g k = some r := by
 unfold lim at h
 split at h
 ·rename_i h1
  obtain ⟨K, hK⟩ := Classical.choose_spec h1
  exact ⟨K, by rw [hK K (Nat.le_refl _)]; exact h⟩
 ·cases h
noncomputable def limSpec (G : Gam) (T : Tys) (F : FI) (f : FuncId) : CSpec := fun l => ⟨outs F.outs, lim fun k => recO G T F f k l, resOf F.outs, fun x => F.bs.map fun b => leavesOf b F.outs x⟩

section
variable {P : Program} {T : Tys} {I : Inv}
theorem recSpec_ok (hm : P.follows .mixedOrders = true) (hI : InvOk I) {G : Gam} (hGI : GOkI P I G) (hT : TOk P T) (F : FI) {f : FuncId} (hf : P.funcs[f]? = some F.fn) (hb : F.fn.body = some F.body) (hn : (F.fn.name == "runtime.NumGoroutine") = false)
  (hr : F.fn.results.toList = varsOf F.outs) (hfine : F.fine = true) : ∀ k, SpecOk P I f (recSpec G T F f k)
 | 0 => ⟨⟨F.fn, hf, hn, by rw [hb]; rfl⟩, fun S w l vs X Y r _ _ _ _ _ h => by cases h⟩
 | k + 1 => mkSpec_ok (G := (f, recSpec G T F f k) :: G) hm hI (hGI.cons (recSpec_ok hm hI hGI hT F hf hb hn hr hfine k)) hT F hf hb hn hr hfine
theorem limSpec_ok (hm : P.follows .mixedOrders = true) (hI : InvOk I) {G : Gam} (hGI : GOkI P I G) (hT : TOk P T) (F : FI) {f : FuncId} (hf : P.funcs[f]? = some F.fn) (hb : F.fn.body = some F.body) (hn : (F.fn.name == "runtime.NumGoroutine") = false)
  (hr : F.fn.results.toList = varsOf F.outs) (hfine : F.fine = true) : SpecOk P I f (limSpec G T F f) :=
 ⟨⟨F.fn, hf, hn, by rw [hb]; rfl⟩, fun S w l vs X Y r h0 h1 h2 h3 h4 h5 => by
  obtain ⟨k, hk⟩ := lim_some h5
  exact (recSpec_ok hm hI hGI hT F hf hb hn hr hfine k).calls S w l vs X Y r h0 h1 h2 h3 h4 hk⟩
end
end Go.Proofs.YtecdijlfnnminaaGreatDoor.Eng
