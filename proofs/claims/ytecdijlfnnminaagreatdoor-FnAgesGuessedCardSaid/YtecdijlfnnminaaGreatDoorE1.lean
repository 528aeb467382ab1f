/- Types of plain values, and when cells of memory hold one of them. -/
import Derived.Below
import Derived.Laws.OwnMore
import Derived.KernelRfl
import Derived.Laws.StructEq
import Derived.Laws.Small
import Derived.Laws.Concat
import Derived.Laws.BytesString
namespace Go.Proofs.YtecdijlfnnminaaGreatDoor.Eng
open Go Go.RowKit

inductive Ty where
 | int (k : IntKind) | bool | str | unit | pair (a b : Ty) | slice (e : Ty)
 deriving DecidableEq

@[reducible] def Ty.den : Ty → Type
 | .int _ => Int
 | .bool => Bool
 | .str => List UInt8
 | .unit => Unit
 | .pair a b => a.den × b.den
 | .slice e => List e.den

def Ty.size : Ty → Nat
 | .unit => 0
 | .pair a b => a.size + b.size
 | _ => 1

def Ty.agg : Ty → Bool
 | .unit | .pair _ _ => true
 | _ => false

/-- A slice whose elements stand in for xs; its block is one of Q. -/
def SliceR (Q : Nat → Prop) (w : World) (sz : Nat) {α : Type} (R : α → List Value → Prop) (xs : List α) (v : Value) : Prop :=
 (∃ ad, v = .slice ad 0 0 ∧ xs = []) ∨
 ∃ b off cap, v = .slice (some ⟨b, off, none⟩) xs.length cap ∧ xs.length ≤ cap ∧ cap ≤ maxLen ∧ Q b ∧ b < w.heap.size ∧
  ∀ (i : Nat) (h : i < xs.length), ∃ cs : List Value, R xs[i] cs ∧ ∀ j u, cs[j]? = some u → w.cell? ⟨b, off + i * sz + j, none⟩ = some u

def Cells (S : Nat → Prop) (w : World) : (t : Ty) → t.den → List Value → Prop
 | .int k, x, cs => cs = [.int k x]
 | .bool, x, cs => cs = [.bool x]
 | .str, x, cs => cs = [.string ⟨x.toArray⟩]
 | .unit, _, cs => cs = []
 | .pair a b, x, cs => ∃ c1 c2, cs = c1 ++ c2 ∧ Cells S w a x.1 c1 ∧ Cells S w b x.2 c2
 | .slice e, xs, cs => ∃ v, cs = [v] ∧ SliceR S w e.size (Cells S w e) xs v

theorem Cells.length {S : Nat → Prop} {w : World} : ∀ {t : Ty} {x : t.den} {cs : List Value}, Cells S w t x cs → cs.length = t.size
 | .int _, _, _, h => by simp only [Cells] at h; simp [h, Ty.size]
 | .bool, _, _, h => by simp only [Cells] at h; simp [h, Ty.size]
 | .str, _, _, h => by simp only [Cells] at h; simp [h, Ty.size]
 | .unit, _, _, h => by simp only [Cells] at h; simp [h, Ty.size]
 | .pair _ _, _, _, h => by
  simp only [Cells] at h
  obtain ⟨c1, c2, rfl, h1, h2⟩ := h
  simp [Ty.size, Cells.length h1, Cells.length h2]
 | .slice _, _, _, h => by simp only [Cells] at h; obtain ⟨v, rfl, _⟩ := h; simp [Ty.size]

/-- Every cell is a value of one cell. -/
theorem Cells.one {S : Nat → Prop} {w : World} : ∀ {t : Ty} {x : t.den} {cs : List Value}, Cells S w t x cs → ∀ u ∈ cs, u.oneCell' = true
 | .int _, _, _, h => by simp only [Cells] at h; simp [h, Value.oneCell']
 | .bool, _, _, h => by simp only [Cells] at h; simp [h, Value.oneCell']
 | .str, _, _, h => by simp only [Cells] at h; simp [h, Value.oneCell']
 | .unit, _, _, h => by simp only [Cells] at h; simp [h]
 | .pair _ _, _, _, h => by
  simp only [Cells] at h
  obtain ⟨c1, c2, rfl, h1, h2⟩ := h
  intro u hu
  rcases List.mem_append.1 hu with hu | hu
  ·exact Cells.one h1 u hu
  ·exact Cells.one h2 u hu
 | .slice _, _, _, h => by
  simp only [Cells] at h; obtain ⟨v, rfl, h⟩ := h
  rcases h with ⟨_, rfl, _⟩ | ⟨b, off, cap, rfl, _⟩ <;> simp [Value.oneCell']

/-- The blocks of S are as they were. -/
structure Keep (S : Nat → Prop) (w w' : World) : Prop where
 size : w.heap.size ≤ w'.heap.size
 block : ∀ b, S b → b < w.heap.size → w'.heap[b]? = w.heap[b]?

theorem Keep.refl (S : Nat → Prop) (w : World) : Keep S w w := ⟨Nat.le_refl _, fun _ _ _ => rfl⟩

theorem Keep.cell {S : Nat → Prop} {w w' : World} (h : Keep S w w') {b o : Nat} (hb : S b) (hl : b < w.heap.size) : w'.cell? ⟨b, o, none⟩ = w.cell? ⟨b, o, none⟩ :=
 World.cell?_of_block (w := w) (a := ⟨b, o, none⟩) (h.block b hb hl)

theorem Keep.sub {S S' : Nat → Prop} {w w' : World} (h : Keep S w w') (hs : ∀ b, S' b → S b) : Keep S' w w' := ⟨h.size, fun b hb => h.block b (hs b hb)⟩

theorem SliceR.mono {Q Q' : Nat → Prop} {w w' : World} {sz : Nat} {α : Type} {R R' : α → List Value → Prop} {xs : List α} {v : Value} (h : SliceR Q w sz R xs v)
  (hk : Keep Q w w') (hq : ∀ b, Q b → Q' b) (hr : ∀ x cs, x ∈ xs → R x cs → R' x cs) : SliceR Q' w' sz R' xs v := by
 rcases h with h | ⟨b, off, cap, hv, hc, hm, hb, hl, he⟩
 ·exact .inl h
 ·refine .inr ⟨b, off, cap, hv, hc, hm, hq b hb, Nat.lt_of_lt_of_le hl hk.size, fun i hi => ?_⟩
  obtain ⟨cs, h1, h2⟩ := he i hi
  refine ⟨cs, hr _ _ (List.getElem_mem hi) h1, fun j u hu => ?_⟩
  rw [hk.cell hb hl]
  exact h2 j u hu

theorem Cells.mono {S S' : Nat → Prop} {w w' : World} (hk : Keep S w w') (hs : ∀ b, S b → S' b) : ∀ {t : Ty} {x : t.den} {cs : List Value}, Cells S w t x cs → Cells S' w' t x cs
 | .int _, _, _, h => h
 | .bool, _, _, h => h
 | .str, _, _, h => h
 | .unit, _, _, h => h
 | .pair _ _, _, _, h => by
  simp only [Cells] at h ⊢
  obtain ⟨c1, c2, rfl, h1, h2⟩ := h
  exact ⟨c1, c2, rfl, Cells.mono hk hs h1, Cells.mono hk hs h2⟩
 | .slice _, _, _, h => by
  simp only [Cells] at h ⊢
  obtain ⟨v, rfl, h⟩ := h
  exact ⟨v, rfl, h.mono hk hs (fun _ _ _ hx => Cells.mono hk hs hx)⟩

/-- The value in a slot for a list of cells. -/
def pack (t : Ty) (cs : List Value) : Value := if t.agg then .agg cs.toArray else cs.headD undef

/-- A value in a slot stands in for x. -/
def ValR (S : Nat → Prop) (w : World) (t : Ty) (x : t.den) (v : Value) : Prop := ∃ cs, Cells S w t x cs ∧ v = pack t cs

theorem ValR.mono {S S' : Nat → Prop} {w w' : World} {t : Ty} {x : t.den} {v : Value} (h : ValR S w t x v) (hk : Keep S w w') (hs : ∀ b, S b → S' b) : ValR S' w' t x v :=
 let ⟨cs, h1, h2⟩ := h; ⟨cs, h1.mono hk hs, h2⟩

theorem ValR.int {S : Nat → Prop} {w : World} {k : IntKind} {x : Int} {v : Value} : ValR S w (.int k) x v ↔ v = .int k x := by
 constructor
 ·rintro ⟨cs, h, rfl⟩; simp only [Cells] at h; simp [h, pack, Ty.agg]
 ·rintro rfl; exact ⟨[_], rfl, by simp [pack, Ty.agg]⟩
theorem ValR.bool {S : Nat → Prop} {w : World} {x : Bool} {v : Value} : ValR S w .bool x v ↔ v = .bool x := by
 constructor
 ·rintro ⟨cs, h, rfl⟩; simp only [Cells] at h; simp [h, pack, Ty.agg]
 ·rintro rfl; exact ⟨[_], rfl, by simp [pack, Ty.agg]⟩
theorem ValR.str {S : Nat → Prop} {w : World} {x : List UInt8} {v : Value} : ValR S w .str x v ↔ v = .string ⟨x.toArray⟩ := by
 constructor
 ·rintro ⟨cs, h, rfl⟩; simp only [Cells] at h; simp [h, pack, Ty.agg]
 ·rintro rfl; exact ⟨[_], rfl, by simp [pack, Ty.agg]⟩
theorem ValR.slice {S : Nat → Prop} {w : World} {e : Ty} {x : List e.den} {v : Value} : ValR S w (.slice e) x v ↔ SliceR S w e.size (Cells S w e) x v := by
 constructor
 ·rintro ⟨cs, h, rfl⟩
  simp only [Cells] at h
  obtain ⟨u, rfl, h⟩ := h
  simpa [pack, Ty.agg] using h
 ·intro h; exact ⟨[v], ⟨v, rfl, h⟩, by simp [pack, Ty.agg]⟩
theorem ValR.cells {S : Nat → Prop} {w : World} {t : Ty} {x : t.den} {v : Value} (h : ValR S w t x v) : ∃ cs, Cells S w t x cs ∧ v.cells.toList = cs ∧ v = pack t cs := by
 obtain ⟨cs, h, rfl⟩ := h
 refine ⟨cs, h, ?_, rfl⟩
 cases t with
 | pair a b => simp [pack, Ty.agg, Value.cells]
 | unit => simp [pack, Ty.agg, Value.cells]
 | int k => simp only [Cells] at h; simp [h, pack, Ty.agg, Value.cells]
 | bool => simp only [Cells] at h; simp [h, pack, Ty.agg, Value.cells]
 | str => simp only [Cells] at h; simp [h, pack, Ty.agg, Value.cells]
 | slice e =>
  simp only [Cells] at h
  obtain ⟨u, rfl, h⟩ := h
  rcases h with ⟨_, rfl, _⟩ | ⟨b, off, cap, rfl, _⟩ <;> simp [pack, Ty.agg, Value.cells]

/-- The zero of a type. -/
def Ty.zero : (t : Ty) → t.den
 | .int _ => (0 : Int)
 | .bool => false
 | .str => ([] : List UInt8)
 | .unit => ()
 | .pair a b => (a.zero, b.zero)
 | .slice _ => []

def Ty.zeros : Ty → List Value
 | .int k => [.int k 0]
 | .bool => [.bool false]
 | .str => [.string ⟨#[]⟩]
 | .unit => []
 | .pair a b => a.zeros ++ b.zeros
 | .slice _ => [.slice none 0 0]

theorem Cells.zero (S : Nat → Prop) (w : World) : ∀ t : Ty, Cells S w t t.zero t.zeros
 | .int _ => rfl
 | .bool => rfl
 | .str => rfl
 | .unit => rfl
 | .pair a b => ⟨_, _, rfl, Cells.zero S w a, Cells.zero S w b⟩
 | .slice _ => ⟨_, rfl, .inl ⟨_, rfl, rfl⟩⟩

/-- Rows of elements: the cells of a list, one element behind the other. -/
def RowCells (S : Nat → Prop) (w : World) (e : Ty) : List e.den → List Value → Prop
 | [], cs => cs = []
 | x :: xs, cs => ∃ c1 c2, cs = c1 ++ c2 ∧ Cells S w e x c1 ∧ RowCells S w e xs c2

theorem RowCells.length {S : Nat → Prop} {w : World} {e : Ty} : ∀ {xs : List e.den} {cs : List Value}, RowCells S w e xs cs → cs.length = xs.length * e.size
 | [], _, h => by simp only [RowCells] at h; simp [h]
 | _ :: xs, _, h => by
  simp only [RowCells] at h
  obtain ⟨c1, c2, rfl, h1, h2⟩ := h
  rw [List.length_append, h1.length, RowCells.length h2, List.length_cons, Nat.add_mul]
  omega
theorem RowCells.mono {S S' : Nat → Prop} {w w' : World} (hk : Keep S w w') (hs : ∀ b, S b → S' b) {e : Ty} : ∀ {xs : List e.den} {cs : List Value}, RowCells S w e xs cs → RowCells S' w' e xs cs
 | [], _, h => h
 | _ :: _, _, ⟨c1, c2, h0, h1, h2⟩ => ⟨c1, c2, h0, h1.mono hk hs, RowCells.mono hk hs h2⟩
theorem RowCells.one {S : Nat → Prop} {w : World} {e : Ty} : ∀ {xs : List e.den} {cs : List Value}, RowCells S w e xs cs → ∀ u ∈ cs, u.oneCell' = true
 | [], _, h => by simp only [RowCells] at h; simp [h]
 | _ :: _, _, ⟨c1, c2, h0, h1, h2⟩ => by
  subst h0
  intro u hu
  rcases List.mem_append.1 hu with hu | hu
  ·exact h1.one u hu
  ·exact RowCells.one h2 u hu
theorem RowCells.append {S : Nat → Prop} {w : World} {e : Ty} {ys : List e.den} {ds : List Value} (hy : RowCells S w e ys ds) :
  ∀ {xs : List e.den} {cs : List Value}, RowCells S w e xs cs → RowCells S w e (xs ++ ys) (cs ++ ds)
 | [], _, h => by simp only [RowCells] at h; subst h; simpa using hy
 | _ :: _, _, ⟨c1, c2, h0, h1, h2⟩ => by
  subst h0
  rw [List.append_assoc]
  exact ⟨c1, c2 ++ ds, rfl, h1, RowCells.append hy h2⟩
/-- One element of a row. -/
theorem RowCells.at {S : Nat → Prop} {w : World} {e : Ty} : ∀ {xs : List e.den} {cs : List Value}, RowCells S w e xs cs → ∀ (i : Nat) (h : i < xs.length),
  ∃ c, Cells S w e xs[i] c ∧ ∀ j u, c[j]? = some u → cs[i * e.size + j]? = some u
 | [], _, _, i, hi => by simp at hi
 | x :: xs, _, ⟨c1, c2, h0, h1, h2⟩, 0, _ => by
  subst h0
  refine ⟨c1, h1, fun j u hu => ?_⟩
  rw [Nat.zero_mul, Nat.zero_add, List.getElem?_append_left (by have := (List.getElem?_eq_some_iff.1 hu).1; exact this)]
  exact hu
 | x :: xs, _, ⟨c1, c2, h0, h1, h2⟩, i + 1, hi => by
  subst h0
  obtain ⟨c, hc, hj⟩ := RowCells.at h2 i (by simpa using hi)
  refine ⟨c, by simpa using hc, fun j u hu => ?_⟩
  have hl := h1.length
  rw [List.getElem?_append_right (by rw [hl, Nat.add_mul]; omega), hl]
  rw [show (i + 1) * e.size + j - e.size = i * e.size + j by rw [Nat.add_mul]; omega]
  exact hj j u hu
/-- One element changed. -/
theorem RowCells.set {S : Nat → Prop} {w : World} {e : Ty} {y : e.den} {d : List Value} (hd : Cells S w e y d) : ∀ {xs : List e.den} {cs : List Value}, RowCells S w e xs cs → ∀ (i : Nat) (_ : i < xs.length),
  ∃ l r, cs = l ++ r ∧ l.length = i * e.size ∧ RowCells S w e (xs.set i y) (l ++ d ++ r.drop e.size)
 | [], _, _, i, hi => by simp at hi
 | x :: xs, _, ⟨c1, c2, h0, h1, h2⟩, 0, _ => by
  subst h0
  refine ⟨[], c1 ++ c2, rfl, by simp, ?_⟩
  have hl := h1.length
  rw [List.set_cons_zero, List.nil_append, ← hl, List.drop_left]
  exact ⟨d, c2, rfl, hd, h2⟩
 | x :: xs, _, ⟨c1, c2, h0, h1, h2⟩, i + 1, hi => by
  subst h0
  obtain ⟨l, r, rfl, hl, h⟩ := RowCells.set hd h2 i (by simpa using hi)
  refine ⟨c1 ++ l, r, by simp, by rw [List.length_append, h1.length, hl, Nat.add_mul]; omega, ?_⟩
  rw [List.set_cons_succ]
  exact ⟨c1, l ++ d ++ r.drop e.size, by simp, h1, h⟩
/-- A row out of its elements. -/
theorem RowCells.of_each {S : Nat → Prop} {w : World} {e : Ty} : ∀ (xs : List e.den) (f : Nat → Value), (∀ (i : Nat) (h : i < xs.length), ∃ c, Cells S w e xs[i] c ∧ ∀ j u, c[j]? = some u → f (i * e.size + j) = u) →
  RowCells S w e xs ((List.range (xs.length * e.size)).map f)
 | [], _, _ => by simp [RowCells]
 | x :: xs, f, h => by
  obtain ⟨c, hc, hj⟩ := h 0 (by simp)
  have hl := hc.length
  refine ⟨c, (List.range (xs.length * e.size)).map (fun m => f (e.size + m)), ?_, by simpa using hc, ?_⟩
  ·rw [List.length_cons, Nat.add_mul, Nat.one_mul, Nat.add_comm, List.range_add, List.map_append, List.map_map]
   congr 1
   apply List.ext_getElem?
   intro j
   by_cases hjl : j < e.size
   ·rw [List.getElem?_map, List.getElem?_range hjl]
    have : c[j]? = some c[j] := List.getElem?_eq_getElem (by omega)
    have h2 := hj j _ this
    simp only [Nat.zero_mul, Nat.zero_add] at h2
    simp [h2, this]
   ·rw [List.getElem?_eq_none (by simp; omega), List.getElem?_eq_none (by omega)]
  ·refine RowCells.of_each xs _ (fun i hi => ?_)
   obtain ⟨c', hc', hj'⟩ := h (i + 1) (by simpa using hi)
   refine ⟨c', by simpa using hc', fun j u hu => ?_⟩
   have := hj' j u hu
   rw [← this]
   congr 1
   rw [Nat.add_mul]; omega

end Go.Proofs.YtecdijlfnnminaaGreatDoor.Eng
namespace Go.Proofs.YtecdijlfnnminaaGreatDoor.Eng
set_option linter.unusedSimpArgs false
open Go Go.RowKit

structure V where
 t : Ty
 x : t.den

/-- A computation of a function value: its answer, and what it hands back. -/
structure CompV : Type 1 where
 R : Type
 o : Option R
 res : R → List V

inductive SV : Type 1 where
 | undef
 | val (t : Ty) (x : t.den)
 | own (id : TypeId) (e : Ty) (xs : List e.den)
 | full (e : Ty) (xs : List e.den)
 | alias (s : Nat)
 | cref (t : Ty) (x : t.den)
 | eref (s : Nat) (i : Int) (e : Ty) (x : Option e.den)
 | ptr (b off : Nat)
 | rref (k len : Nat) (e : Ty)
 | rel (k : Nat) (n : Int) (e : Ty)
 | clo (φ : List V → CompV)
 | agg (l : List V)
 | lenN (n : Nat)
 | fn (ty f : Nat) (caps : List (Option Nat))
 | fp (ty f : Nat) (caps : List (Option Nat))
 | tup (l : List SV)

def SV.refs : SV → Nat → Bool
 | .alias s, d => Nat.beq s d
 | .eref s _ _ _, d => Nat.beq s d
 | _, _ => false

/-- Whether a function value holds the address of a box. -/
def capsAt : List (Option Nat) → Nat → Bool
 | [], _ => false
 | none :: r, d => capsAt r d
 | some b :: r, d => Nat.beq b d || capsAt r d
/-- Whether it holds the address of its own place. -/
def capsSelf : List (Option Nat) → Bool
 | [] => false
 | none :: _ => true
 | some _ :: r => capsSelf r
def SV.atBox : SV → Nat → Bool
 | .ptr b _, d => Nat.beq b d
 | .rref b _ _, d => Nat.beq b d
 | .rel b _ _, d => Nat.beq b d
 | .fn _ _ c, d => capsAt c d
 | .fp _ _ c, d => capsAt c d
 | _, _ => false

def SV.isOwn : SV → Bool
 | .own _ _ _ => true
 | _ => false

section lists
universe u
variable {α : Type u}

def alook : List (Nat × α) → Nat → Option α
 | [], _ => none
 | (k, v) :: r, n => bif Nat.beq k n then some v else alook r n

def aset : List (Nat × α) → Nat → α → List (Nat × α)
 | [], n, v => [(n, v)]
 | (k, u) :: r, n, v => bif Nat.beq k n then (k, v) :: r else bif Nat.blt n k then (n, v) :: (k, u) :: r else (k, u) :: aset r n v

def amap (f : α → α) : List (Nat × α) → List (Nat × α)
 | [] => []
 | (k, u) :: r => (k, f u) :: amap f r

theorem beq_false {k n : Nat} (h : k ≠ n) : Nat.beq k n = false := by
 cases hb : Nat.beq k n
 ·rfl
 ·exact absurd (Nat.eq_of_beq_eq_true hb) h
theorem beq_self (k : Nat) : Nat.beq k k = true := Nat.beq_refl k

theorem alook_cons (k : Nat) (v : α) (r : List (Nat × α)) (n : Nat) : alook ((k, v) :: r) n = if k = n then some v else alook r n := by
 by_cases h : k = n
 ·subst h; simp [alook]
 ·simp [alook, beq_false h, h]

theorem alook_aset (n : Nat) (v : α) (m : Nat) : ∀ l : List (Nat × α), alook (aset l n v) m = if n = m then some v else alook l m
 | [] => by simp [aset, alook_cons, alook]
 | (k, u) :: r => by
  simp only [aset]
  by_cases h : k = n
  ·subst h
   simp only [beq_self, cond_true, alook_cons]
   split <;> rfl
  ·simp only [beq_false h, cond_false]
   cases Nat.blt n k
   ·simp only [cond_false, alook_cons, alook_aset n v m r]
    by_cases hkm : k = m
    ·subst hkm; simp [Ne.symm h]
    ·simp [hkm]
   ·simp only [cond_true, alook_cons]

theorem blt_true {n k : Nat} (h : n < k) : Nat.blt n k = true := by simpa [Nat.blt_eq] using h
theorem blt_false {n k : Nat} (h : ¬ n < k) : Nat.blt n k = false := by
 cases hb : Nat.blt n k
 ·rfl
 ·exact absurd (by simpa [Nat.blt_eq] using hb) h

theorem aset_comm {n m : Nat} (u v : α) (h : n ≠ m) : ∀ l : List (Nat × α), aset (aset l n u) m v = aset (aset l m v) n u
 | [] => by
  rcases Nat.lt_or_gt_of_ne h with h1 | h1
  ·have h2 : ¬ m < n := by omega
   simp [aset, beq_false h, beq_false (Ne.symm h), blt_true h1, blt_false h2]
  ·have h2 : ¬ n < m := by omega
   simp [aset, beq_false h, beq_false (Ne.symm h), blt_true h1, blt_false h2]
 | (k, x) :: r => by
  by_cases hn : k = n
  ·subst hn
   rcases Nat.lt_or_gt_of_ne h with h1 | h1
   ·have h2 : ¬ m < k := by omega
    simp [aset, beq_self, beq_false h, blt_false h2]
   ·have h2 : ¬ k < m := by omega
    simp [aset, beq_self, beq_false h, beq_false (Ne.symm h), blt_true h1, blt_false h2]
  ·by_cases hm : k = m
   ·subst hm
    rcases Nat.lt_or_gt_of_ne h with h1 | h1
    ·have h2 : ¬ k < n := by omega
     simp [aset, beq_self, beq_false h, beq_false (Ne.symm h), blt_true h1, blt_false h2]
    ·have h2 : ¬ n < k := by omega
     simp [aset, beq_self, beq_false h, beq_false (Ne.symm h), blt_false h2]
   ·by_cases h1 : n < k
    ·by_cases h2 : m < k
     ·rcases Nat.lt_or_gt_of_ne h with h3 | h3
      ·have h4 : ¬ m < n := by omega
       simp [aset, beq_false hn, beq_false hm, beq_false h, beq_false (Ne.symm h), blt_true h1, blt_true h2, blt_true h3, blt_false h4]
      ·have h4 : ¬ n < m := by omega
       simp [aset, beq_false hn, beq_false hm, beq_false h, beq_false (Ne.symm h), blt_true h1, blt_true h2, blt_true h3, blt_false h4]
     ·have h4 : ¬ m < n := by omega
      simp [aset, beq_false hn, beq_false hm, beq_false h, beq_false (Ne.symm h), blt_true h1, blt_false h2, blt_false h4]
    ·by_cases h2 : m < k
     ·have h4 : ¬ n < m := by omega
      simp [aset, beq_false hn, beq_false hm, beq_false h, beq_false (Ne.symm h), blt_false h1, blt_true h2, blt_false h4]
     ·simp [aset, beq_false hn, beq_false hm, blt_false h1, blt_false h2, aset_comm u v h r]

theorem amap_aset (f : α → α) (n : Nat) (v : α) : ∀ l : List (Nat × α), amap f (aset l n v) = aset (amap f l) n (f v)
 | [] => rfl
 | (k, u) :: r => by
  simp only [aset, amap]
  cases Nat.beq k n
  ·cases Nat.blt n k
   ·simp [amap, amap_aset f n v r]
   ·rfl
  ·rfl
theorem amap_amap (f g : α → α) : ∀ l : List (Nat × α), amap f (amap g l) = amap (fun u => f (g u)) l
 | [] => rfl
 | (k, u) :: r => by simp [amap, amap_amap f g r]
theorem amap_congr {f g : α → α} (h : ∀ u, f u = g u) (l : List (Nat × α)) : amap f l = amap g l := by
 have : f = g := funext h
 rw [this]

theorem alook_amap (f : α → α) (n : Nat) : ∀ l : List (Nat × α), alook (amap f l) n = (alook l n).map f
 | [] => rfl
 | (k, u) :: r => by
  simp only [amap, alook_cons, alook_amap f n r]
  split <;> rfl
end lists

structure Env : Type 1 where
 nt : Nat
 sl : List (Nat × SV)
 bx : List (Nat × List V)

def Env.g (E : Env) (n : Nat) : SV := match alook E.sl n with | some v => v | none => .undef

def Env.set (E : Env) (d : Nat) (v : SV) : Env :=
 ⟨E.nt, bif (E.g d).isOwn then aset (amap (fun u => bif u.refs d then .undef else u) E.sl) d v else aset E.sl d v, E.bx⟩

theorem Env.g_set (E : Env) (d : Nat) (v : SV) (n : Nat) : (E.set d v).g n = if d = n then v else if (E.g d).isOwn = true ∧ (E.g n).refs d = true then .undef else E.g n := by
 unfold Env.set Env.g
 dsimp only
 cases hO : SV.isOwn (match alook E.sl d with | some v => v | none => .undef)
 ·simp only [cond_false, alook_aset]
  by_cases h : d = n
  ·simp [h]
  ·simp [h]
 ·simp only [cond_true, alook_aset, alook_amap]
  by_cases h : d = n
  ·simp [h]
  ·simp only [h, if_false]
   cases hn : alook E.sl n with
   | none => simp [SV.refs]
   | some u => cases hr : u.refs d <;> simp [hr]

/-- Whose the call's own blocks are. -/
inductive Loc where
 | s (n : Nat) | t (n i : Nat) | b (n : Nat) | l (n i : Nat)
 deriving DecidableEq

def Loc.isB : Loc → Bool | .b _ => true | .l _ _ => true | _ => false
def Loc.at : Loc → Nat → Bool | .s m, n => Nat.beq m n | .t m _, n => Nat.beq m n | .b _, _ => false | .l _ _, _ => false

def tv (a : Act) (n : Nat) : Value := a.tmps.getD n Go.undef

def OwnR (S : Nat → Prop) (w : World) (id : TypeId) (e : Ty) (xs : List e.den) (v : Value) (ob : Option Nat) : Prop :=
 ∃ cs, w.ownsRow 0 id e.size v xs.length cs ∧ RowCells S w e xs cs ∧ v.ownBlock = ob

def FullR (S : Nat → Prop) (w : World) (e : Ty) (xs : List e.den) (v : Value) : Prop :=
 SliceR S w e.size (Cells S w e) xs v ∧ ∀ a l c, v = .slice a l c → c = l

def CrefR (S : Nat → Prop) (w : World) (t : Ty) (x : t.den) (v : Value) : Prop :=
 ∃ b off cs, v = .pointer (some ⟨b, off, none⟩) ∧ S b ∧ b < w.heap.size ∧ Cells S w t x cs ∧ ∀ j u, cs[j]? = some u → w.cell? ⟨b, off + j, none⟩ = some u

/-- A leaf that is a row of its own. -/
def ownV (id : TypeId) (e : Ty) (xs : List e.den) : V := ⟨.pair (.int .u8) (.slice e), ((id : Int), xs)⟩
/-- A leaf that nothing is known of. -/
def holeV : V := ⟨.pair .unit .unit, ((), ())⟩
def V.isOwn : V → Bool
 | ⟨.pair (.int _) (.slice _), _⟩ => true
 | _ => false
/-- A leaf. -/
def LeafR (S : Nat → Prop) (w : World) (o : Option Nat) (v : V) (u : Value) : Prop :=
 match v with
 | ⟨.pair (.int _) (.slice e), p⟩ => OwnR S w p.1.toNat e p.2 u o
 | ⟨.pair .unit .unit, _⟩ => u.oneCell' = true
 | ⟨t, x⟩ => Cells S w t x [u]
/-- The leaves of a box, a cell each. -/
def LeavesR (S : Nat → Prop) (w : World) (ob : Nat → Option Nat) : Nat → List V → List Value → Prop
 | _, [], cs => cs = []
 | i, v :: l, cs => ∃ u r, cs = u :: r ∧ LeafR S w (ob i) v u ∧ LeavesR S w ob (i + 1) l r

/-- A row that lies in a block, as what a box holds. -/
def rowV (e : Ty) (xs : List e.den) : V := ⟨.pair .unit (.slice e), ((), xs)⟩
/-- Whether a box holds a row. -/
def rowL : List V → Bool
 | ⟨.pair .unit (.slice _), _⟩ :: _ => true
 | _ => false
def ContR (S : Nat → Prop) (w : World) (ob : Nat → Option Nat) (l : List V) (cs : List Value) : Prop :=
 (rowL l = false ∧ LeavesR S w ob 0 l cs) ∨ ∃ e xs, l = [rowV e xs] ∧ RowCells S w e xs (cs.take (xs.length * e.size))
theorem ContR.leaves {S : Nat → Prop} {w : World} {ob : Nat → Option Nat} {l : List V} {cs : List Value} (h : ContR S w ob l cs) (hl : rowL l = false) : LeavesR S w ob 0 l cs := by
 rcases h with h | ⟨e, xs, rfl, _⟩
 ·exact h.2
 ·cases hl
theorem ContR.row {S : Nat → Prop} {w : World} {ob : Nat → Option Nat} {e : Ty} {xs : List e.den} {cs : List Value} (h : ContR S w ob [rowV e xs] cs) : RowCells S w e xs (cs.take (xs.length * e.size)) := by
 rcases h with h | ⟨e', xs', he, h⟩
 ·cases h.1
 ·have he' : rowV e xs = rowV e' xs' := List.head_eq_of_cons_eq he
  unfold rowV at he'
  injection he' with h1 h2
  injection h1 with _ h3
  injection h3 with h4
  subst h4
  have h5 := eq_of_heq h2
  injection h5 with _ h6
  subst h6
  exact h
def BoxR (S : Nat → Prop) (w : World) (ob : Nat → Option Nat) (l : List V) (g : Nat) : Prop :=
 ∃ cells id, w.heap[g]? = some (.cells cells id (0, 0)) ∧ ContR S w ob l cells.toList

/-- What was there before is as it was, but for the blocks of O. -/
structure KeptBut (O : Nat → Prop) (w w' : World) : Prop where
 os : w'.os = w.os
 tape : w'.tape = w.tape
 output : w'.output = w.output
 size : w.heap.size ≤ w'.heap.size
 block : ∀ k, k < w.heap.size → ¬ O k → w'.heap[k]? = w.heap[k]?

theorem KeptBut.refl (O : Nat → Prop) (w : World) : KeptBut O w w := ⟨rfl, rfl, rfl, Nat.le_refl _, fun _ _ _ => rfl⟩
theorem KeptBut.of_below {O : Nat → Prop} {w w' : World} (h : Below w.heap.size w w') : KeptBut O w w' := ⟨h.os, h.tape, h.output, h.size, fun k hk _ => h.block k hk⟩
theorem KeptBut.below {w w' : World} (h : KeptBut (fun _ => False) w w') : Below w.heap.size w w' := ⟨h.os, h.tape, h.output, h.size, fun k hk => h.block k hk (fun x => x)⟩

/-- One row of its own at most. -/
def owns : List V → Nat
 | [] => 0
 | v :: l => (bif v.isOwn then 1 else 0) + owns l
def aggOk (l : List V) : Bool := Nat.ble (owns l) 1
def CompR (S : Nat → Prop) (w : World) (sv : SV) (v : Value) (ob : Option Nat) : Prop :=
 match sv with
 | .undef => True
 | .val t x => ValR S w t x v
 | .own id e xs => OwnR S w id e xs v ob
 | .agg l => aggOk l = true ∧ ∃ vs, v = .agg vs ∧ LeavesR S w (fun _ => ob) 0 l vs.toList
 | _ => False

/-- A list of values by plain values. -/
def ValsR (S : Nat → Prop) (w : World) : List V → List Value → Prop
 | [], vs => vs = []
 | x :: xs, vs => ∃ u r, vs = u :: r ∧ ValR S w x.t x.x u ∧ ValsR S w xs r

/-- The results of a call: one value, or a tuple. -/
def compVal (n : Nat) (rv : Value) (i : Nat) : Value :=
 if n = 1 then rv else match rv with | .tuple vs => vs.getD i Go.undef | _ => Go.undef

def isRes (n : Nat) (rv : Value) : Prop := n = 1 ∨ ∃ vs, rv = .tuple vs ∧ vs.size = n

/-- Behind a call: the results, what they hold being of S or new. -/
structure ResAt (S : Nat → Prop) (n0 : Nat) (X : List Nat) (w' : World) (l : List SV) (rv : Value) (S' : Nat → Prop) (B' : Nat → Option Nat) : Prop where
 form : isRes l.length rv
 frm : ∀ b, S' b → S b ∨ n0 ≤ b ∨ b ∈ X
 sup : ∀ b, S b → S' b
 lt : ∀ b, S' b → b < w'.heap.size
 inj : ∀ i j g, B' i = some g → B' j = some g → i = j
 free : ∀ i g, B' i = some g → (n0 ≤ g ∨ g ∈ X) ∧ g < w'.heap.size ∧ ¬ S' g
 comps : ∀ i sv, l[i]? = some sv → CompR S' w' sv (compVal l.length rv i) (B' i)

variable (P : Program)

/-- A function value that answers as φ, and leaves the world alone, wherever S's blocks are as they are. -/
def CloR (S : Nat → Prop) (w : World) (v : Value) (φ : List V → CompV) : Prop :=
 ∃ f first caps, v = .func (.func f) first caps ∧ (∃ fn, P.funcs[f]? = some fn ∧ (fn.name == "runtime.NumGoroutine") = false ∧ fn.body.isNone = false) ∧
  ∀ (S' : Nat → Prop) (w' : World) (vs : List Value) (xs : List V) (y : (φ xs).R), Keep S w w' → (∀ b, S b → S' b) → (∀ b, S' b → b < w'.heap.size) → ValsR S' w' xs vs → (φ xs).o = some y →
   Calls P f (first ++ vs.toArray ++ caps) w' fun e w'' => ∃ rv S'' B'', e = .returned rv ∧ Below w'.heap.size w' w'' ∧ ResAt S' w'.heap.size [] w'' (((φ xs).res y).map fun y => SV.val y.t y.x) rv S'' B''

/-- What a function value holds: addresses of boxes, or (none) of its own place g. -/
def CapsR (bb : Nat → Option Nat) (g : Nat) : List (Option Nat) → List Value → Prop
 | [], vs => vs = []
 | none :: r, vs => ∃ vs', vs = .pointer (some ⟨g, 0, none⟩) :: vs' ∧ CapsR bb g r vs'
 | some b :: r, vs => ∃ h vs', vs = .pointer (some ⟨h, 0, none⟩) :: vs' ∧ bb b = some h ∧ CapsR bb g r vs'
theorem CapsR.move {bb bb' : Nat → Option Nat} {g : Nat} : ∀ {c : List (Option Nat)} {vs : List Value}, CapsR bb g c vs → (∀ b, capsAt c b = true → bb' b = bb b) → CapsR bb' g c vs
 | [], _, h, _ => h
 | none :: r, _, ⟨vs', e, h⟩, hb => ⟨vs', e, CapsR.move h hb⟩
 | some b :: r, _, ⟨k, vs', e, h1, h⟩, hb => ⟨k, vs', e, by rw [hb b (by simp [capsAt, beq_self])]; exact h1, CapsR.move h (fun b' hb' => hb b' (by simp [capsAt, hb']))⟩
theorem CapsR.imp {bb bb' : Nat → Option Nat} {g : Nat} : ∀ {c : List (Option Nat)} {vs : List Value}, CapsR bb g c vs → (∀ b h, bb b = some h → bb' b = some h) → CapsR bb' g c vs
 | [], _, h, _ => h
 | none :: _, _, ⟨vs', e, h⟩, hb => ⟨vs', e, CapsR.imp h hb⟩
 | some b :: _, _, ⟨k, vs', e, h1, h⟩, hb => ⟨k, vs', e, hb b k h1, CapsR.imp h hb⟩
/-- A variable of a type is one cell. -/
def LoadsOne (ty : TypeId) : Prop := ∀ (w : World) (ad : Addr) (v : Value), w.cell? ad = some v → (loadVar ty ad).run P w = .ok v w
/-- A function value that holds addresses; it may lie in memory of all. -/
def FnAt (S : Nat → Prop) (w : World) (ty f : Nat) (vs : Array Value) (g : Nat) : Prop :=
 LoadsOne P ty ∧ S g ∧ g < w.heap.size ∧ w.cell? ⟨g, 0, none⟩ = some (.func (.func f) #[] vs)

/-- A slot. -/
def SlotR (S : Nat → Prop) (B : Loc → Option Nat) (E : Env) (a : Act) (w : World) (n : Nat) (sv : SV) : Prop :=
 match sv with
 | .undef => True
 | .val t x => ValR S w t x (tv a n)
 | .own id e xs => OwnR S w id e xs (tv a n) (B (.s n))
 | .full e xs => FullR S w e xs (tv a n)
 | .alias s => tv a n = tv a s ∧ (E.g s).isOwn = true
 | .cref t x => CrefR S w t x (tv a n)
 | .eref s i e x => ∃ id xs g, E.g s = .own id e xs ∧ B (.s s) = some g ∧ 0 ≤ i ∧ i.toNat < xs.length ∧ (∀ y, x = some y → xs[i.toNat]? = some y) ∧ tv a n = .pointer (some ⟨g, i.toNat * e.size, none⟩)
 | .ptr b off => ∃ g, B (.b b) = some g ∧ tv a n = .pointer (some ⟨g, off, none⟩)
 | .rref k len _ => ∃ g cap, B (.b k) = some g ∧ tv a n = .slice (some ⟨g, 0, none⟩) len cap
 | .rel k i e => ∃ g, B (.b k) = some g ∧ 0 ≤ i ∧ tv a n = .pointer (some ⟨g, i.toNat * e.size, none⟩)
 | .clo φ => CloR P S w (tv a n) φ
 | .agg l => ∃ vs, tv a n = .agg vs ∧ LeavesR S w (fun i => B (.t n i)) 0 l vs.toList
 | .lenN k => ∃ ad c, tv a n = .slice ad k c
 | .fn ty f c => ∃ g vs, tv a n = .func (.func f) #[] vs ∧ CapsR (fun b => B (.b b)) g c vs.toList ∧ (capsSelf c = true → FnAt P S w ty f vs g)
 | .fp ty f c => ∃ g vs, tv a n = .pointer (some ⟨g, 0, none⟩) ∧ CapsR (fun b => B (.b b)) g c vs.toList ∧ FnAt P S w ty f vs g
 | .tup l => ∃ vs, tv a n = .tuple vs ∧ vs.size = l.length ∧ ∀ i sv, l[i]? = some sv → CompR S w sv (vs.getD i Go.undef) (B (.t n i))

structure Ctx where
 w0 : World
 S0 : Nat → Prop
 O : Nat → Prop
 B0 : Nat → Option Nat

structure Sim (C : Ctx) (S : Nat → Prop) (B : Loc → Option Nat) (E : Env) (a : Act) (w : World) : Prop where
 size : a.tmps.size = E.nt
 defers : a.defers = []
 kept : KeptBut C.O C.w0 w
 sub : ∀ b, S b → b < w.heap.size
 frm : ∀ b, S b → C.S0 b ∨ C.w0.heap.size ≤ b ∨ C.O b
 sup : ∀ b, C.S0 b → S b
 inj : ∀ l l' g, B l = some g → B l' = some g → l = l'
 free : ∀ l g, B l = some g → ¬ S g ∧ g < w.heap.size ∧ (C.w0.heap.size ≤ g ∨ C.O g)
 slots : ∀ n, SlotR P S B E a w n (E.g n)
 boxes : ∀ b l, alook E.bx b = some l → ∃ g, B (.b b) = some g ∧ BoxR S w (fun i => B (.l b i)) l g
 inb : ∀ b, 1000000 ≤ b → B (.b b) = C.B0 b

theorem Keep.trans {S S' : Nat → Prop} {a b c : World} (h : Keep S a b) (k : Keep S' b c) (hs : ∀ x, S x → S' x) : Keep S a c :=
 ⟨Nat.le_trans h.size k.size, fun x hx hl => (k.block x (hs x hx) (Nat.lt_of_lt_of_le hl h.size)).trans (h.block x hx hl)⟩
theorem Keep.of_below {S : Nat → Prop} {w w' : World} (h : Below w.heap.size w w') : Keep S w w' := ⟨h.size, fun b _ hb => h.block b hb⟩

theorem ownsRow_keep {w w' : World} {id : TypeId} {sz : Nat} {v : Value} {n : Nat} {cs : List Value} (h : w.ownsRow 0 id sz v n cs)
  (hg : ∀ g, v.ownBlock = some g → w'.heap[g]? = w.heap[g]?) : w'.ownsRow 0 id sz v n cs := by
 refine ⟨h.1, ?_⟩
 rcases h.2 with h2 | ⟨g, cap, cur, rfl, hb, hh, r⟩
 ·exact .inl h2
 ·exact .inr ⟨g, cap, cur, rfl, hb, by rw [hg g rfl]; exact hh, r⟩

theorem OwnR.move {S S' : Nat → Prop} {w w' : World} {id : TypeId} {e : Ty} {xs : List e.den} {v : Value} {ob : Option Nat} (h : OwnR S w id e xs v ob) (hk : Keep S w w') (hs : ∀ b, S b → S' b)
  (hg : ∀ g, ob = some g → w'.heap[g]? = w.heap[g]?) : OwnR S' w' id e xs v ob := by
 obtain ⟨cs, h1, h2, h3⟩ := h
 exact ⟨cs, ownsRow_keep h1 (fun g hv => hg g (h3 ▸ hv)), h2.mono hk hs, h3⟩
theorem FullR.mono {S S' : Nat → Prop} {w w' : World} {e : Ty} {xs : List e.den} {v : Value} (h : FullR S w e xs v) (hk : Keep S w w') (hs : ∀ b, S b → S' b) : FullR S' w' e xs v :=
 ⟨h.1.mono hk hs (fun _ _ _ hx => hx.mono hk hs), h.2⟩
theorem CrefR.mono {S S' : Nat → Prop} {w w' : World} {t : Ty} {x : t.den} {v : Value} (h : CrefR S w t x v) (hk : Keep S w w') (hs : ∀ b, S b → S' b) : CrefR S' w' t x v := by
 obtain ⟨b, off, cs, hv, hb, hl, hc, hj⟩ := h
 exact ⟨b, off, cs, hv, hs b hb, Nat.lt_of_lt_of_le hl hk.size, hc.mono hk hs, fun j u hu => by rw [hk.cell hb hl]; exact hj j u hu⟩
theorem LeafR.move {S S' : Nat → Prop} {w w' : World} {o : Option Nat} {v : V} {u : Value} (h : LeafR S w o v u) (hk : Keep S w w') (hs : ∀ b, S b → S' b) (hg : ∀ g, o = some g → w'.heap[g]? = w.heap[g]?) : LeafR S' w' o v u := by
 unfold LeafR at h ⊢
 split at h
 ·exact h.move hk hs hg
 ·exact h
 ·exact h.mono hk hs
theorem LeavesR.move {S S' : Nat → Prop} {w w' : World} {ob ob' : Nat → Option Nat} (hk : Keep S w w') (hs : ∀ b, S b → S' b) : ∀ {l : List V} {i : Nat} {cs : List Value}, LeavesR S w ob i l cs → (∀ j v, l[j]? = some v → v.isOwn = true → ob' (i + j) = ob (i + j) ∧ ∀ g, ob (i + j) = some g → w'.heap[g]? = w.heap[g]?) → LeavesR S' w' ob' i l cs
 | [], _, _, h, _ => h
 | v :: l, i, _, ⟨u, r, h0, h1, h2⟩, ho => by
  refine ⟨u, r, h0, ?_, LeavesR.move hk hs h2 (fun j x hj hx => by have := ho (j + 1) x (by simpa using hj) hx; rw [show i + 1 + j = i + (j + 1) by omega]; exact this)⟩
  cases hv : v.isOwn
  ·unfold LeafR at h1 ⊢
   split at h1
   ·cases hv
   ·exact h1
   ·exact h1.mono hk hs
  ·have h3 := ho 0 v rfl hv
   rw [Nat.add_zero] at h3
   rw [h3.1]
   exact h1.move hk hs h3.2
theorem ContR.move {S S' : Nat → Prop} {w w' : World} {ob ob' : Nat → Option Nat} (hk : Keep S w w') (hs : ∀ b, S b → S' b) {l : List V} {cs : List Value} (h : ContR S w ob l cs) (ho : ∀ j, ob' j = ob j ∧ ∀ g, ob j = some g → w'.heap[g]? = w.heap[g]?) : ContR S' w' ob' l cs := by
 rcases h with ⟨h1, h2⟩ | ⟨e, xs, h1, h2⟩
 ·exact .inl ⟨h1, h2.move hk hs (fun j _ _ _ => ho _)⟩
 ·exact .inr ⟨e, xs, h1, h2.mono hk hs⟩
theorem BoxR.move {S S' : Nat → Prop} {w w' : World} {ob ob' : Nat → Option Nat} {l : List V} {g : Nat} (h : BoxR S w ob l g) (hk : Keep S w w') (hs : ∀ b, S b → S' b) (hg : w'.heap[g]? = w.heap[g]?) (ho : ∀ j, ob' j = ob j ∧ ∀ g, ob j = some g → w'.heap[g]? = w.heap[g]?) : BoxR S' w' ob' l g := by
 obtain ⟨cells, id, h1, h2⟩ := h
 exact ⟨cells, id, by rw [hg]; exact h1, h2.move hk hs ho⟩
theorem CompR.move {S S' : Nat → Prop} {w w' : World} {sv : SV} {v : Value} {ob : Option Nat} (h : CompR S w sv v ob) (hk : Keep S w w') (hs : ∀ b, S b → S' b)
  (hg : ∀ g, ob = some g → w'.heap[g]? = w.heap[g]?) : CompR S' w' sv v ob := by
 cases sv <;> simp only [CompR] at h ⊢
 ·exact h.mono hk hs
 ·exact h.move hk hs hg
 ·obtain ⟨h0, vs, h1, h2⟩ := h
  exact ⟨h0, vs, h1, h2.move hk hs (fun _ _ _ _ => ⟨rfl, hg⟩)⟩
theorem ValsR.mono {S S' : Nat → Prop} {w w' : World} (hk : Keep S w w') (hs : ∀ b, S b → S' b) : ∀ {l : List V} {cs : List Value}, ValsR S w l cs → ValsR S' w' l cs
 | [], _, h => h
 | _ :: _, _, ⟨u, r, h0, h1, h2⟩ => ⟨u, r, h0, h1.mono hk hs, ValsR.mono hk hs h2⟩

section
variable {P}
theorem FnAt.mono {S S' : Nat → Prop} {w w' : World} {ty f : Nat} {vs : Array Value} {g : Nat} (h : FnAt P S w ty f vs g) (hk : Keep S w w') (hs : ∀ b, S b → S' b) : FnAt P S' w' ty f vs g :=
 ⟨h.1, hs _ h.2.1, Nat.lt_of_lt_of_le h.2.2.1 hk.size, by rw [hk.cell h.2.1 h.2.2.1]; exact h.2.2.2⟩
theorem CloR.mono {S S' : Nat → Prop} {w w' : World} {v : Value} {φ : List V → CompV} (h : CloR P S w v φ) (hk : Keep S w w') (hs : ∀ b, S b → S' b) : CloR P S' w' v φ := by
 obtain ⟨f, first, caps, hv, hen, hc⟩ := h
 exact ⟨f, first, caps, hv, hen, fun S2 w2 vs xs y hk2 hs2 hl hvs hφ => hc S2 w2 vs xs y (hk.trans hk2 hs) (fun b hb => hs2 b (hs b hb)) hl hvs hφ⟩

/-- Whether what slot n tells leans on the block of a location. -/
def SV.needs : SV → Nat → Loc → Bool
 | .own _ _ _, n, .s m => Nat.beq m n
 | .tup l, n, .t m i => Nat.beq m n && (match l[i]? with | some (.own _ _ _) => true | some (.agg _) => true | _ => false)
 | .agg l, n, .t m i => Nat.beq m n && (match l[i]? with | some v => v.isOwn | none => false)
 | _, _, _ => false

/-- What a slot tells stays true where nothing that it leans on has turned. -/
theorem SlotR.move {S S' : Nat → Prop} {B B' : Loc → Option Nat} {E E' : Env} {a a' : Act} {w w' : World} {n : Nat} {sv : SV} (h : SlotR P S B E a w n sv)
  (hk : Keep S w w') (hs : ∀ b, S b → S' b) (hv : tv a' n = tv a n) (hB : ∀ l : Loc, sv.needs n l = true → B' l = B l)
  (hg : ∀ (l : Loc) g, sv.needs n l = true → B l = some g → w'.heap[g]? = w.heap[g]?)
  (hbx : ∀ b, sv.atBox b = true → B' (.b b) = B (.b b))
  (hal : ∀ s, sv.refs s = true → tv a' s = tv a s ∧ E'.g s = E.g s ∧ B' (.s s) = B (.s s)) : SlotR P S' B' E' a' w' n sv := by
 cases sv with
 | undef => trivial
 | val t x => simp only [SlotR] at h ⊢; rw [hv]; exact h.mono hk hs
 | own id e xs => simp only [SlotR] at h ⊢; rw [hv, hB (.s n) (beq_self n)]; exact h.move hk hs (fun g hgg => hg (.s n) g (beq_self n) hgg)
 | full e xs => simp only [SlotR] at h ⊢; rw [hv]; exact h.mono hk hs
 | alias s =>
  simp only [SlotR] at h ⊢
  obtain ⟨h1, h2, _⟩ := hal s (beq_self s)
  rw [hv, h1, h2]; exact h
 | cref t x => simp only [SlotR] at h ⊢; rw [hv]; exact h.mono hk hs
 | eref s i e x =>
  simp only [SlotR] at h ⊢
  obtain ⟨h1, h2, h3⟩ := hal s (beq_self s)
  rw [hv, h2, h3]; exact h
 | ptr b off => simp only [SlotR] at h ⊢; rw [hv, hbx b (beq_self b)]; exact h
 | rref b len e => simp only [SlotR] at h ⊢; rw [hv, hbx b (beq_self b)]; exact h
 | rel b i e => simp only [SlotR] at h ⊢; rw [hv, hbx b (beq_self b)]; exact h
 | clo φ => simp only [SlotR] at h ⊢; rw [hv]; exact h.mono hk hs
 | agg l =>
  simp only [SlotR] at h ⊢
  obtain ⟨vs, h1, h2⟩ := h
  refine ⟨vs, by rw [hv]; exact h1, h2.move hk hs (fun j v hj hx => ?_)⟩
  have hn : (SV.agg l).needs n (.t n (0 + j)) = true := by simp [SV.needs, beq_self, hj, hx]
  exact ⟨hB _ hn, fun g hgg => hg _ g hn hgg⟩
 | lenN k => simp only [SlotR] at h ⊢; rw [hv]; exact h
 | fn ty f c =>
  simp only [SlotR] at h ⊢
  obtain ⟨g, vs, h1, h2, h3⟩ := h
  exact ⟨g, vs, by rw [hv]; exact h1, h2.move hbx, fun hc => (h3 hc).mono hk hs⟩
 | fp ty f c =>
  simp only [SlotR] at h ⊢
  obtain ⟨g, vs, h1, h2, h3⟩ := h
  exact ⟨g, vs, by rw [hv]; exact h1, h2.move hbx, h3.mono hk hs⟩
 | tup l =>
  simp only [SlotR] at h ⊢
  obtain ⟨vs, h1, h2, h3⟩ := h
  refine ⟨vs, by rw [hv]; exact h1, h2, fun i sv hi => ?_⟩
  have hc := h3 i sv hi
  cases sv with
  | own id e xs =>
   have hn : (SV.tup l).needs n (.t n i) = true := by simp [SV.needs, beq_self, hi]
   rw [hB (.t n i) hn]
   exact hc.move hk hs (fun g hgg => hg (.t n i) g hn hgg)
  | agg l' =>
   have hn : (SV.tup l).needs n (.t n i) = true := by simp [SV.needs, beq_self, hi]
   rw [hB (.t n i) hn]
   exact hc.move hk hs (fun g hgg => hg (.t n i) g hn hgg)
  | val t x => simp only [CompR] at hc ⊢; exact hc.mono hk hs
  | undef => trivial
  | _ => simp [CompR] at hc
end

end Go.Proofs.YtecdijlfnnminaaGreatDoor.Eng
namespace Go.Proofs.YtecdijlfnnminaaGreatDoor.Eng
set_option linter.unusedSimpArgs false
open Go Go.RowKit

variable {P : Program} {C : Ctx} {S : Nat → Prop} {B : Loc → Option Nat} {E : Env} {a : Act} {w : World}

theorem tv_put {a : Act} {d : Nat} {v : Value} (hd : d < a.tmps.size) (n : Nat) : tv (a.put (some d) v) n = if n = d then v else tv a n := by
 simp only [tv, Act.put]
 by_cases h : n = d
 ·subst h; simp [hd]
 ·rw [if_neg h, Array.getD_eq_getD_getElem?, Array.getD_eq_getD_getElem?, Array.getElem?_setIfInBounds_ne (Ne.symm h)]

theorem size_put {a : Act} {d : Nat} {v : Value} : (a.put (some d) v).tmps.size = a.tmps.size := by simp [Act.put]
theorem defers_put {a : Act} {d : Nat} {v : Value} : (a.put (some d) v).defers = a.defers := rfl

theorem Sim.keep_below (h : Sim P C S B E a w) {w' : World} (hw : Below w.heap.size w w') : KeptBut C.O C.w0 w' :=
 ⟨hw.os.trans h.kept.os, hw.tape.trans h.kept.tape, hw.output.trans h.kept.output, Nat.le_trans h.kept.size hw.size,
  fun k hk ho => (hw.block k (Nat.lt_of_lt_of_le hk h.kept.size)).trans (h.kept.block k hk ho)⟩

theorem SV.needs_at {sv : SV} {n : Nat} {l : Loc} (h : sv.needs n l = true) : l.at n = true := by
 cases sv <;> cases l <;> simp_all [SV.needs, Loc.at]

theorem SlotR.leans {n s : Nat} {sv : SV} (h : SlotR P S B E a w n sv) (hr : sv.refs s = true) : (E.g s).isOwn = true := by
 cases sv with
 | alias s' => have e := Nat.eq_of_beq_eq_true hr; subst e; exact h.2
 | eref s' i e x =>
  have e' := Nat.eq_of_beq_eq_true hr; subst e'
  obtain ⟨id, xs, g, h1, _⟩ := h
  rw [h1]; rfl
 | _ => simp [SV.refs] at hr

theorem isOwn_refs {sv : SV} (h : sv.isOwn = true) (s : Nat) : sv.refs s = false := by cases sv <;> simp_all [SV.isOwn, SV.refs]
theorem isOwn_needs {sv : SV} (h : sv.isOwn = true) (s : Nat) : sv.needs s (.s s) = true := by cases sv <;> simp_all [SV.isOwn, SV.needs, beq_self]

/-- A slot gets a new content; what was there before has not turned, but for the blocks M of locations F that nothing tells of. -/
theorem Sim.put2 (h : Sim P C S B E a w) {d : Nat} (hd : d < E.nt) {w' : World} {M : Nat → Prop} {F : Loc → Prop} (hw : KeptBut M w w') (hM : ∀ g, M g → ∃ l, F l ∧ B l = some g)
  (hF : ∀ l, F l → (∀ n, n ≠ d → (E.g n).needs n l = false) ∧ l.isB = false) {S' : Nat → Prop} (hs : ∀ b, S b → S' b)
  (hn : ∀ b, S' b → S b ∨ w.heap.size ≤ b) (hl : ∀ b, S' b → b < w'.heap.size) {B' : Loc → Option Nat} (hB : ∀ l : Loc, l.at d = false → ¬ F l → B' l = B l)
  (hBF : ∀ l : Loc, l.at d = false → F l → B' l = none)
  (hBn : ∀ (l : Loc) g, l.at d = true → B' l = some g → (w.heap.size ≤ g ∨ ∃ l', F l' ∧ B l' = some g) ∧ g < w'.heap.size ∧ ¬ S' g)
  (hBi : ∀ (l l' : Loc) g, l.at d = true → l'.at d = true → B' l = some g → B' l' = some g → l = l')
  {v : Value} {sv : SV} (hsv : SlotR P S' B' (E.set d sv) (a.put (some d) v) w' d sv) : Sim P C S' B' (E.set d sv) (a.put (some d) v) w' := by
 have hdt : d < a.tmps.size := by rw [h.size]; exact hd
 have old : ∀ (l : Loc) g, l.at d = false → B' l = some g → B l = some g ∧ ¬ F l := fun l g hat hb => by
  by_cases hf : F l
  ·rw [hBF l hat hf] at hb; cases hb
  ·exact ⟨by rw [← hB l hat hf]; exact hb, hf⟩
 have notM : ∀ (l : Loc) g, ¬ F l → B l = some g → ¬ M g := fun l g hf hb hm => by
  obtain ⟨l', hf', hb'⟩ := hM g hm
  exact hf (h.inj l l' g hb hb' ▸ hf')
 have keepS : Keep S w w' := ⟨hw.size, fun b hb hlt => hw.block b hlt (fun hm => by obtain ⟨l, _, hb'⟩ := hM b hm; exact (h.free l b hb').1 hb)⟩
 refine ⟨by rw [size_put]; exact h.size, h.defers, ?_, hl, ?_, fun b hb => hs b (h.sup b hb), ?_, ?_, ?_, ?_, fun b hb => (hB (.b b) rfl (fun hf => by have := (hF _ hf).2; cases this)).trans (h.inb b hb)⟩
 ·refine ⟨hw.os.trans h.kept.os, hw.tape.trans h.kept.tape, hw.output.trans h.kept.output, Nat.le_trans h.kept.size hw.size, fun k hk ho => ?_⟩
  refine (hw.block k (Nat.lt_of_lt_of_le hk h.kept.size) (fun hm => ?_)).trans (h.kept.block k hk ho)
  obtain ⟨l, hf, hb⟩ := hM k hm
  rcases (h.free l k hb).2.2 with h3 | h3
  ·omega
  ·exact ho h3
 ·intro b hb
  rcases hn b hb with hb | hb
  ·exact h.frm b hb
  ·exact .inr (.inl (Nat.le_trans h.kept.size hb))
 ·intro l l' g h1 h2
  have key : ∀ (l l' : Loc), l.at d = false → l'.at d = true → B' l = some g → B' l' = some g → False := fun l l' e1 e2 h1 h2 => by
   obtain ⟨hb, hf⟩ := old l g e1 h1
   rcases (hBn l' g e2 h2).1 with hx | ⟨l2, hf2, hb2⟩
   ·exact absurd (h.free l g hb).2.1 (Nat.not_lt_of_le hx)
   ·exact hf (h.inj l l2 g hb hb2 ▸ hf2)
  cases e1 : l.at d
  ·cases e2 : l'.at d
   ·exact h.inj l l' g (old l g e1 h1).1 (old l' g e2 h2).1
   ·exact (key l l' e1 e2 h1 h2).elim
  ·cases e2 : l'.at d
   ·exact (key l' l e2 e1 h2 h1).elim
   ·exact hBi l l' g e1 e2 h1 h2
 ·intro l g h1
  cases e1 : l.at d
  ·obtain ⟨f1, f2, f3⟩ := h.free l g (old l g e1 h1).1
   refine ⟨fun hx => ?_, Nat.lt_of_lt_of_le f2 hw.size, f3⟩
   rcases hn g hx with hx | hx
   ·exact f1 hx
   ·exact absurd f2 (Nat.not_lt_of_le hx)
  ·obtain ⟨f1, f2, f3⟩ := hBn l g e1 h1
   refine ⟨f3, f2, ?_⟩
   rcases f1 with f1 | ⟨l', hf, hb⟩
   ·exact .inl (Nat.le_trans h.kept.size f1)
   ·exact (h.free l' g hb).2.2
 ·intro n
  rw [Env.g_set]
  by_cases hdn : d = n
  ·subst hdn; rw [if_pos rfl]; exact hsv
  ·rw [if_neg hdn]
   split
   ·trivial
   ·rename_i hno
    have hat : ∀ (m : Nat) (l : Loc), m ≠ d → l.at m = true → l.at d = false := by
     intro m l hm hl
     cases l with
     | b _ => rfl
     | l _ _ => rfl
     | s k => have := Nat.eq_of_beq_eq_true hl; subst this; exact beq_false hm
     | t k i => have := Nat.eq_of_beq_eq_true hl; subst this; exact beq_false hm
    have hnF : ∀ (m : Nat) (l : Loc), m ≠ d → (E.g m).needs m l = true → ¬ F l := fun m l hm hne hf => by rw [(hF l hf).1 m hm] at hne; cases hne
    have hdn' : n ≠ d := Ne.symm hdn
    refine (h.slots n).move keepS hs ?_ (fun l hl => hB l (hat n l hdn' (SV.needs_at hl)) (hnF n l hdn' hl)) ?_ (fun b _ => hB (.b b) rfl (fun hf => by have := (hF _ hf).2; cases this)) ?_
    ·rw [tv_put hdt, if_neg hdn']
    ·intro l g hl' hb
     exact hw.block g (h.free l g hb).2.1 (notM l g (hnF n l hdn' hl') hb)
    ·intro s hr
     have hso := (h.slots n).leans hr
     have hds : s ≠ d := by
      rintro rfl
      exact hno ⟨hso, hr⟩
     refine ⟨by rw [tv_put hdt, if_neg hds], ?_, hB (.s s) (hat s _ hds (beq_self s)) (hnF s _ hds (isOwn_needs hso s))⟩
     rw [Env.g_set, if_neg (Ne.symm hds)]
     split
     ·rename_i hh; rw [isOwn_refs hso] at hh; cases hh.2
     ·rfl
 ·intro b l hb
  have hb' : alook E.bx b = some l := hb
  obtain ⟨g, h1, h2⟩ := h.boxes b l hb'
  have hnf : ¬ F (.b b) := fun hf => by have := (hF _ hf).2; cases this
  have hnl : ∀ j, ¬ F (.l b j) := fun j hf => by have := (hF _ hf).2; cases this
  exact ⟨g, by rw [hB (.b b) rfl hnf]; exact h1, h2.move keepS hs (hw.block g (h.free _ g h1).2.1 (notM _ g hnf h1)) (fun j => ⟨hB (.l b j) rfl (hnl j), fun g' hg' => hw.block g' (h.free _ g' hg').2.1 (notM _ g' (hnl j) hg')⟩)⟩

/-- A slot gets a new content; what was there before has not turned. -/
theorem Sim.put (h : Sim P C S B E a w) {d : Nat} (hd : d < E.nt) {w' : World} (hw : Below w.heap.size w w') {S' : Nat → Prop} (hs : ∀ b, S b → S' b)
  (hn : ∀ b, S' b → S b ∨ w.heap.size ≤ b) (hl : ∀ b, S' b → b < w'.heap.size) {B' : Loc → Option Nat} (hB : ∀ l : Loc, l.at d = false → B' l = B l)
  (hBn : ∀ (l : Loc) g, l.at d = true → B' l = some g → w.heap.size ≤ g ∧ g < w'.heap.size ∧ ¬ S' g)
  (hBi : ∀ (l l' : Loc) g, l.at d = true → l'.at d = true → B' l = some g → B' l' = some g → l = l')
  {v : Value} {sv : SV} (hsv : SlotR P S' B' (E.set d sv) (a.put (some d) v) w' d sv) : Sim P C S' B' (E.set d sv) (a.put (some d) v) w' :=
 h.put2 hd (M := fun _ => False) (F := fun _ => False) (KeptBut.of_below hw) (fun _ hm => hm.elim) (fun _ hf => hf.elim) hs hn hl (fun l hl _ => hB l hl) (fun _ _ hf => hf.elim)
  (fun l g hl hb => ⟨.inl (hBn l g hl hb).1, (hBn l g hl hb).2⟩) hBi hsv

/-- The blocks of a slot's locations given up. -/
def dropAt (B : Loc → Option Nat) (d : Nat) : Loc → Option Nat := fun l => if l.at d = true then none else B l

/-- A slot gets a plain content, the world has not turned but for new blocks. -/
theorem Sim.putPlain (h : Sim P C S B E a w) {d : Nat} (hd : d < E.nt) {w' : World} (hw : Below w.heap.size w w') {S' : Nat → Prop} (hs : ∀ b, S b → S' b)
  (hn : ∀ b, S' b → S b ∨ w.heap.size ≤ b) (hl : ∀ b, S' b → b < w'.heap.size)
  {v : Value} {sv : SV} (hsv : SlotR P S' (dropAt B d) (E.set d sv) (a.put (some d) v) w' d sv) : Sim P C S' (dropAt B d) (E.set d sv) (a.put (some d) v) w' :=
 h.put hd hw hs hn hl (fun l hl => by simp [dropAt, hl]) (fun l g hl hb => by simp [dropAt, hl] at hb) (fun l l' g hl hl' hb => by simp [dropAt, hl] at hb) hsv

/-- A slot gets a value, nothing else. -/
theorem Sim.putVal (h : Sim P C S B E a w) {d : Nat} (hd : d < E.nt) {v : Value} {t : Ty} {x : t.den} (hv : ValR S w t x v) :
  Sim P C S (dropAt B d) (E.set d (.val t x)) (a.put (some d) v) w :=
 h.putPlain hd (Below.refl _ _) (fun _ hb => hb) (fun _ hb => .inl hb) h.sub (by
  simp only [SlotR]; rw [tv_put (by rw [h.size]; exact hd), if_pos rfl]; exact hv)

/-- A slot gets a row of its own, newly made. -/
theorem Sim.putOwn (h : Sim P C S B E a w) {d : Nat} (hd : d < E.nt) {w' : World} (hw : Below w.heap.size w w') {S' : Nat → Prop} (hs : ∀ b, S b → S' b)
  (hn : ∀ b, S' b → S b ∨ w.heap.size ≤ b) (hl : ∀ b, S' b → b < w'.heap.size)
  {v : Value} {id : TypeId} {e : Ty} {xs : List e.den} (ho : OwnR S' w' id e xs v v.ownBlock)
  (hf : ∀ g, v.ownBlock = some g → w.heap.size ≤ g ∧ g < w'.heap.size ∧ ¬ S' g) :
  Sim P C S' (fun l => if l = .s d then v.ownBlock else dropAt B d l) (E.set d (.own id e xs)) (a.put (some d) v) w' := by
 have hat : (Loc.s d).at d = true := beq_self d
 refine h.put hd hw hs hn hl ?_ ?_ ?_ ?_
 ·intro l hld
  have hne : l ≠ .s d := by rintro rfl; rw [hat] at hld; cases hld
  simp [hne, dropAt, hld]
 ·intro l g hld hb
  by_cases hne : l = .s d
  ·subst hne; simp only [if_true] at hb; exact hf g hb
  ·simp [hne, dropAt, hld] at hb
 ·intro l l' g hld hld' hb hb'
  by_cases hne : l = .s d
  ·by_cases hne' : l' = .s d
   ·rw [hne, hne']
   ·simp [hne', dropAt, hld'] at hb'
  ·simp [hne, dropAt, hld] at hb
 ·simp only [SlotR, if_true]
  rw [tv_put (by rw [h.size]; exact hd), if_pos rfl]; exact ho

/-- Rows of their own change hands between a slot and a box; some become memory of all. -/
theorem Sim.shift (h : Sim P C S B E a w) {d : Nat} (hd : d < E.nt) {v : Value} {sv : SV} {b : Nat} {l' : List V} {S' : Nat → Prop} {B' : Loc → Option Nat}
  (hs : ∀ x, S x → S' x) (hn : ∀ x, S' x → S x ∨ ∃ k, B k = some x ∧ ∀ k', B' k' ≠ some x)
  (hBs : ∀ k g, B' k = some g → ∃ k0, B k0 = some g) (hBi : ∀ k k' g, B' k = some g → B' k' = some g → k = k')
  (hBk : ∀ k : Loc, k.at d = false → (∀ i, k ≠ .l b i) → B' k = B k)
  (hbox : ∃ g, B (.b b) = some g ∧ BoxR S' w (fun i => B' (.l b i)) l' g)
  (hsv : SlotR P S' B' ((⟨E.nt, E.sl, aset E.bx b l'⟩ : Env).set d sv) (a.put (some d) v) w d sv) : Sim P C S' B' ((⟨E.nt, E.sl, aset E.bx b l'⟩ : Env).set d sv) (a.put (some d) v) w := by
 have hdt : d < a.tmps.size := by rw [h.size]; exact hd
 have hgs : ∀ n, (⟨E.nt, E.sl, aset E.bx b l'⟩ : Env).g n = E.g n := fun n => rfl
 refine ⟨by rw [size_put]; exact h.size, h.defers, h.kept, ?_, ?_, fun x hx => hs x (h.sup x hx), hBi, ?_, ?_, ?_, fun c hc => ?_⟩
 ·intro x hx
  rcases hn x hx with hx | ⟨k, hk, _⟩
  ·exact h.sub x hx
  ·exact (h.free k x hk).2.1
 ·intro x hx
  rcases hn x hx with hx | ⟨k, hk, _⟩
  ·exact h.frm x hx
  ·exact .inr (h.free k x hk).2.2
 ·intro k g hk
  obtain ⟨k0, h0⟩ := hBs k g hk
  obtain ⟨f1, f2, f3⟩ := h.free k0 g h0
  refine ⟨fun hx => ?_, f2, f3⟩
  rcases hn g hx with hx | ⟨k1, h1, h2⟩
  ·exact f1 hx
  ·exact h2 k hk
 ·intro n
  rw [Env.g_set]
  by_cases hdn : d = n
  ·subst hdn; rw [if_pos rfl]; exact hsv
  ·rw [if_neg hdn]
   split
   ·trivial
   ·rename_i hno
    simp only [hgs] at hno ⊢
    have hat : ∀ (m : Nat) (k : Loc), m ≠ d → k.at m = true → k.at d = false ∧ ∀ i, k ≠ .l b i := by
     intro m k hm hk
     cases k with
     | b _ => cases hk
     | l _ _ => cases hk
     | s j => have := Nat.eq_of_beq_eq_true hk; subst this; exact ⟨beq_false hm, fun i => by simp⟩
     | t j i => have := Nat.eq_of_beq_eq_true hk; subst this; exact ⟨beq_false hm, fun i => by simp⟩
    have hdn' : n ≠ d := Ne.symm hdn
    refine (h.slots n).move (Keep.refl _ _) hs ?_ (fun k hk => hBk k (hat n k hdn' (SV.needs_at hk)).1 (hat n k hdn' (SV.needs_at hk)).2) (fun _ _ _ _ => rfl) (fun c _ => hBk (.b c) rfl (fun i => by simp)) ?_
    ·rw [tv_put hdt, if_neg hdn']
    ·intro s hr
     have hso := (h.slots n).leans hr
     have hds : s ≠ d := by rintro rfl; exact hno ⟨hso, hr⟩
     refine ⟨by rw [tv_put hdt, if_neg hds], ?_, hBk (.s s) (beq_false hds) (fun i => by simp)⟩
     rw [Env.g_set, if_neg (Ne.symm hds)]
     simp only [hgs]
     split
     ·rename_i hh; rw [isOwn_refs hso] at hh; cases hh.2
     ·rfl
 ·intro c l hl
  have hl' : alook (aset E.bx b l') c = some l := hl
  rw [alook_aset] at hl'
  by_cases hbc : b = c
  ·subst hbc
   simp only [if_true, Option.some.injEq] at hl'
   subst hl'
   obtain ⟨g, h1, h2⟩ := hbox
   exact ⟨g, by rw [hBk (.b b) rfl (fun i => by simp)]; exact h1, h2⟩
  ·rw [if_neg hbc] at hl'
   obtain ⟨g, h1, h2⟩ := h.boxes c l hl'
   exact ⟨g, by rw [hBk (.b c) rfl (fun i => by simp)]; exact h1, h2.move (Keep.refl _ _) hs rfl (fun j => ⟨hBk (.l c j) rfl (fun i he => by injection he with he _; exact hbc he.symm), fun _ _ => rfl⟩)⟩
 ·rw [hBk (.b c) rfl (fun i => by simp)]
  exact h.inb c hc

end Go.Proofs.YtecdijlfnnminaaGreatDoor.Eng
namespace Go.Proofs.YtecdijlfnnminaaGreatDoor.Eng
set_option linter.unusedVariables false
open Go Go.RowKit

/-! ### words of the plain functions -/
section words
variable {α : Type}
/-- The element at an index. -/
def rdI (xs : List α) (i : Int) : Option α := if 0 ≤ i then xs[i.toNat]? else none
/-- A part of a list. -/
def subI (xs : List α) (lo hi : Int) : Option (List α) := if 0 ≤ lo ∧ lo ≤ hi ∧ hi ≤ (xs.length : Int) then some ((xs.drop lo.toNat).take (hi.toNat - lo.toNat)) else none
/-- Two lists, one behind the other, if they are not too long. -/
def catI (n : Nat) (xs ys : List α) : Option (List α) := if xs.length + ys.length ≤ n then some (xs ++ ys) else none
def reps (n : Int) (m : Nat) (x : α) : Option (List α) := if 0 ≤ n ∧ n.toNat ≤ m then some (List.replicate n.toNat x) else none
end words
def bitI (op : BinOp) (k : IntKind) (x y : Int) : Int :=
 match op with
 | .and => k.wrap (BitVec.ofInt k.bits x &&& BitVec.ofInt k.bits y).toNat
 | .or => k.wrap (BitVec.ofInt k.bits x ||| BitVec.ofInt k.bits y).toNat
 | _ => k.wrap (BitVec.ofInt k.bits x ^^^ BitVec.ofInt k.bits y).toNat
def shrI (k : IntKind) (x y : Int) : Int := x.fdiv (2 ^ min y.toNat k.bits)
def shlI (k : IntKind) (x y : Int) : Int := k.wrap (x * 2 ^ min y.toNat k.bits)
def strMax : Nat := 9223372036854775807

/-! ### types and contracts known -/
structure TI where
 ty : Ty
 elem : TypeId := 0
 eb : Nat := 0
 flds : List (TypeId × Nat) := []

inductive A : Type 1 where
 | v (t : Ty) (x : t.den)
 | bx (l : List V)
 | cr (t : Ty) (x : t.den)
 | clo (φ : List V → CompV)
 | nl (e : Ty)
 | io (len : Nat) (e : Ty) (xs : List e.den)
 | fp (ty f : Nat) (caps : List (Option Nat))

structure Comp : Type 1 where
 R : Type
 o : Option R
 res : R → List SV
 out : R → List (List V)

def Comp.fail : Comp := ⟨Unit, none, fun _ => [], fun _ => []⟩
abbrev CSpec := List A → Comp
abbrev Gam := List (Nat × CSpec)
abbrev Tys := List (Nat × TI)

def Tys.ty (T : Tys) (t : Nat) : Option Ty := match alook T t with | some i => some i.ty | none => none

/-- Cells of a box as one value, and back. -/
def asm : (t : Ty) → List V → Option (t.den × List V)
 | .pair a b, l => match asm a l with
  | some (x, l') => (match asm b l' with | some (y, l'') => some ((x, y), l'') | none => none)
  | none => none
 | .unit, l => some ((), l)
 | .int k, ⟨.int k', x⟩ :: l => if k = k' then some (x, l) else none
 | .bool, ⟨.bool, x⟩ :: l => some (x, l)
 | .str, ⟨.str, x⟩ :: l => some (x, l)
 | .slice e, ⟨.slice e', xs⟩ :: l => if h : e' = e then some (h ▸ xs, l) else none
 | _, _ => none

def dis : (t : Ty) → t.den → List V
 | .pair a b, x => dis a x.1 ++ dis b x.2
 | .unit, _ => []
 | t, x => [⟨t, x⟩]

/-- A value as one of a type. -/
def V.as (v : V) (t : Ty) : Option t.den := if h : v.t = t then some (h ▸ v.x) else none

/-- The fields of a struct, n of them. -/
def V.flds : Nat → V → List V
 | 0, _ => []
 | 1, v => [v]
 | n + 2, ⟨.pair a b, x⟩ => ⟨a, x.1⟩ :: V.flds (n + 1) ⟨b, x.2⟩
 | _, _ => []
def V.flds' (v : V) (n : Nat) : List V := V.flds n v

/-- A struct of fields. -/
def V.mk' : List V → Option V
 | [] => none
 | [v] => some v
 | v :: u :: r => match V.mk' (u :: r) with | some x => some ⟨.pair v.t x.t, (v.x, x.x)⟩ | none => none


def Ty.flat : Ty → Bool
 | .slice _ => false
 | .pair a b => a.flat && b.flat
 | _ => true

def leafFlat : V → Bool
 | ⟨.pair (.int _) (.slice e), _⟩ => e.flat
 | v => v.t.flat
def leavesFlat : List V → Bool
 | [] => true
 | x :: r => leafFlat x && leavesFlat r
def SV.flat : SV → Bool
 | .val t _ => t.flat
 | .own _ e _ => e.flat
 | .agg l => leavesFlat l
 | _ => true

/-! ### what an operation sees, and what it orders -/
structure Vw : Type 1 where
 nt : Nat
 g : Nat → SV
 b : Nat → Option (List V)

inductive Cmd : Type 1 where
 | set (d : Nat) (sv : SV)
 | fz (s : Nat)
 | box (b : Nat) (l : List V)
 | newbox (b : Nat) (l : List V)
 | fzbox (b : Nat)

def Env.vw (E : Env) : Vw := ⟨E.nt, E.g, alook E.bx⟩

/-- A row of its own becomes a row of all. -/
def fzF (s : Nat) (v : SV) : SV → SV
 | .alias t => bif Nat.beq t s then v else .alias t
 | .eref t i e x => bif Nat.beq t s then .undef else .eref t i e x
 | u => u

def Env.fz (E : Env) (s : Nat) : Env :=
 match E.g s with
 | .own _ e xs => ⟨E.nt, aset (amap (fzF s (.val (.slice e) xs)) E.sl) s (.val (.slice e) xs), E.bx⟩
 | _ => E

/-- Whether a leaf is no plain one. -/
def oddL : List V → Bool
 | [] => false
 | ⟨.pair _ _, _⟩ :: _ => true
 | _ :: r => oddL r
def boxRef (l : List V) (off : Nat) : SV :=
 match (bif oddL l then none else if off = 0 then V.mk' l else l[off]?) with
 | some v => .cref v.t v.x
 | none => .undef

def dropFn (b : Nat) (caps : List (Option Nat)) (sv : SV) : SV := bif capsAt caps b then .undef else sv
def dropBox (b : Nat) : SV → SV
 | .fn ty f c => dropFn b c (.fn ty f c)
 | .fp ty f c => dropFn b c (.fp ty f c)
 | .ptr c off => bif Nat.beq c b then .undef else .ptr c off
 | .rref c len e => bif Nat.beq c b then .undef else .rref c len e
 | .rel c i e => bif Nat.beq c b then .undef else .rel c i e
 | u => u
def refBox (b : Nat) (l : List V) : SV → SV
 | .fn ty f c => dropFn b c (.fn ty f c)
 | .fp ty f c => dropFn b c (.fp ty f c)
 | .ptr c off => bif Nat.beq c b then boxRef l off else .ptr c off
 | .rref c len e => bif Nat.beq c b then .undef else .rref c len e
 | .rel c i e => bif Nat.beq c b then .undef else .rel c i e
 | u => u
def boxOut : List (Nat × List V) → Nat → List (Nat × List V)
 | [], _ => []
 | (k, l) :: r, b => bif Nat.beq k b then boxOut r b else (k, l) :: boxOut r b

def Env.do1 (E : Env) : Cmd → Env
 | .set d sv => E.set d sv
 | .fz s => E.fz s
 | .box b l => ⟨E.nt, E.sl, aset E.bx b l⟩
 | .newbox b l => ⟨E.nt, amap (dropBox b) E.sl, aset E.bx b l⟩
 | .fzbox b => match alook E.bx b with
  | some l => ⟨E.nt, amap (refBox b l) E.sl, boxOut E.bx b⟩
  | none => E

def Env.run (E : Env) : List Cmd → Env
 | [] => E
 | c :: cs => (E.do1 c).run cs

section ev
universe u
variable {R : Type u} (T : Tys) (v : Vw)

def putC (dst : Option Nat) (pre : List Cmd) (sv : SV) (K : List Cmd → Option R) : Option R :=
 match dst with
 | some d => bif Nat.blt d v.nt then K (pre ++ [.set d sv]) else none
 | none => none

def constSV (ty : TypeId) : Value → Option SV
 | .int k n => some (.val (.int k) n)
 | .bool b => some (.val .bool b)
 | .string s => some (.val .str s.data.toList)
 | .slice none 0 0 => match alook T ty with
  | some ⟨.slice e, id, _, _⟩ => some (.own id e [])
  | _ => none
 | _ => none

def SV.view : SV → Option V
 | .val t x => some ⟨t, x⟩
 | .own _ e xs => some ⟨.slice e, xs⟩
 | .full e xs => some ⟨.slice e, xs⟩
 | _ => none

/-- What an operand reads as. -/
def rd (ty : TypeId) : Operand → Option V
 | .tmp t => match v.g t with
  | .alias s => (v.g s).view
  | sv => sv.view
 | .const c => match constSV T ty c with | some sv => sv.view | none => none
 | _ => none

/-- The slot whose own row an operand names. -/
def src : Operand → Option Nat
 | .tmp t => match v.g t with
  | .alias s => some s
  | .own _ _ _ => some t
  | _ => none
 | _ => none

def escC (x : Operand) : List Cmd := match src v x with | some s => [.fz s] | none => []

/-- A content that may lean on another slot, copied. -/
def putM (dst : Option Nat) (sv : SV) (K : List Cmd → Option R) : Option R :=
 match dst with
 | some d => bif sv.refs d then none else putC v dst [] sv K
 | none => none

/-- Values alone. -/
def valsOnly : List SV → Bool
 | [] => true
 | .val _ _ :: r => valsOnly r
 | _ => false
def evMove (ty : TypeId) (x : Operand) (dst : Option Nat) (K : List Cmd → Option R) : Option R :=
 match x with
 | .tmp t => match v.g t with
  | .own _ _ _ => putM v dst (.alias t) K
  | .undef => none
  | .tup l => bif valsOnly l then putC v dst [] (.tup l) K else putC v dst [.set t .undef] (.tup l) K
  | .agg l => putC v dst [.set t .undef] (.agg l) K
  | sv => putM v dst sv K
 | .const c => match constSV T ty c with | some sv => putC v dst [] sv K | none => none
 | _ => none

def evAssign (sh : List Nat) (ty : TypeId) (x : Operand) (dst : Option Nat) (K : List Cmd → Option R) : Option R :=
 match src v x, dst with
 | some s, some d => match v.g s with
  | .own id e xs => bif sh.contains d then putC v dst [.fz s] (.val (.slice e) xs) K else putC v dst [.set s .undef] (.own id e xs) K
  | _ => none
 | _, _ => evMove T v ty x dst K

def evPick (ty : TypeId) (c a b : Operand) (dst : Option Nat) (K : List Cmd → Option R) : Option R :=
 match rd T v 0 c with
 | some ⟨.bool, t⟩ => if t = true then evMove T v ty a dst K else evMove T v ty b dst K
 | _ => none

/-- Both sides of a choice known: no two ways. -/
def evPick2 (ty : TypeId) (c a b : Operand) (dst : Option Nat) (K : List Cmd → Option R) : Option R :=
 match rd T v 0 c, rd T v ty a, rd T v ty b with
 | some ⟨.bool, t⟩, some ⟨.bool, x⟩, some ⟨.bool, y⟩ => putC v dst [] (.val .bool (if t = true then x else y)) K
 | _, _, _ => evPick T v ty c a b dst K

def Ty.eqv : (t : Ty) → t.den → t.den → Bool
 | .int _, x, y => x == y
 | .pair a b, x, y => Ty.eqv a x.1 y.1 && Ty.eqv b x.2 y.2
 | .unit, _, _ => true
 | _, _, _ => false

def binV (bt : Bool) (op : BinOp) (x y : V) (K : V → Option R) : Option R :=
 match x, y with
 | ⟨.int k, a⟩, ⟨.int k', b⟩ => match op with
  | .shr => if b < 0 then none else K ⟨.int k, shrI k a b⟩
  | .shl => if b < 0 then none else K ⟨.int k, shlI k a b⟩
  | op => if k = k' then (match op with
   | .add => K ⟨.int k, k.wrap (a + b)⟩
   | .sub => K ⟨.int k, k.wrap (a - b)⟩
   | .mul => K ⟨.int k, k.wrap (a * b)⟩
   | .quo => if b = 0 then none else K ⟨.int k, k.wrap (a.tdiv b)⟩
   | .rem => if b = 0 then none else K ⟨.int k, a.tmod b⟩
   | .and => K ⟨.int k, bitI .and k a b⟩
   | .or => K ⟨.int k, bitI .or k a b⟩
   | .xor => K ⟨.int k, bitI .xor k a b⟩
   | .eql => K ⟨.bool, a == b⟩
   | .neq => K ⟨.bool, a != b⟩
   | .lss => K ⟨.bool, decide (a < b)⟩
   | .leq => K ⟨.bool, decide (a ≤ b)⟩
   | .gtr => K ⟨.bool, decide (a > b)⟩
   | .geq => K ⟨.bool, decide (a ≥ b)⟩
   | _ => none) else none
 | ⟨.bool, a⟩, ⟨.bool, b⟩ => match op, bt with
  | .eql, true => K ⟨.bool, a == b⟩
  | .neq, true => K ⟨.bool, !(a == b)⟩
  | _, _ => none
 | ⟨.pair p q, a⟩, ⟨.pair p' q', b⟩ => if h : Ty.pair p q = Ty.pair p' q' then (bif bt then (match op with
  | .eql => K ⟨.bool, Ty.eqv (.pair p' q') (h ▸ a) b⟩
  | .neq => K ⟨.bool, !(Ty.eqv (.pair p' q') (h ▸ a) b)⟩
  | _ => none) else none) else none
 | ⟨.str, a⟩, ⟨.str, b⟩ => match op with
  | .add => (catI strMax a b).bind fun c => K ⟨.str, c⟩
  | .eql => K ⟨.bool, a == b⟩
  | .neq => K ⟨.bool, !(a == b)⟩
  | _ => none
 | _, _ => none

/-- Whether all fields are numbers. -/
def eqInts (T : Tys) : List (TypeId × Nat) → Bool
 | [] => true
 | p :: r => (match T.ty p.1 with | some (.int _) => true | _ => false) && eqInts T r
/-- Whether values of a type are compared, as told. -/
def eqOk (T : Tys) (xt : TypeId) (t : Ty) : Bool :=
 match alook T xt with
 | some ⟨.bool, _, _, _⟩ => (match t with | .bool => true | _ => false)
 | some ⟨.pair a b, _, _, fl⟩ => decide (Ty.pair a b = t) && eqInts T fl
 | _ => false

def evBin (op : BinOp) (xt : TypeId) (x y : Operand) (yt : TypeId) (dst : Option Nat) (K : List Cmd → Option R) : Option R :=
 match rd T v xt x, rd T v yt y with
 | some p, some q => binV (eqOk T xt p.t) op p q fun r => putC v dst [] (.val r.t r.x) K
 | _, _ => none

open Classical in
/-- Both ways come to the same. -/
noncomputable def both (A B : Option R) : Option R := if A = B then A else none
/-- A row that is nil has nothing in it; one that has nothing in it may be nil. -/
noncomputable def nilT {α : Type} (xs : List α) (A B : Option R) : Option R :=
 match xs with
 | [] => both A B
 | _ :: _ => B
noncomputable def evNil (xt : TypeId) (x : Operand) (dst : Option Nat) (K : List Cmd → Option R) : Option R :=
 match T.ty xt, rd T v xt x, dst with
 | some (.slice _), some ⟨.slice e, xs⟩, some d => bif Nat.blt d v.nt then nilT xs (K [.set d (.val .bool true)]) (K [.set d (.val .bool false)]) else none
 | _, _, _ => none

def evUn (op : UnOp) (xt : TypeId) (x : Operand) (dst : Option Nat) (K : List Cmd → Option R) : Option R :=
 match op, rd T v xt x with
 | .not, some ⟨.bool, b⟩ => putC v dst [] (.val .bool (!b)) K
 | .neg, some ⟨.int k, n⟩ => putC v dst [] (.val (.int k) (k.wrap (0 - n))) K
 | _, _ => none

/-- The length of a row handed over. -/
def rlen (x : Operand) : Option Nat :=
 match x with
 | .tmp t => match v.g t with
  | .rref _ len _ => some len
  | .lenN n => some n
  | _ => none
 | _ => none

def evLen (ty : TypeId) (x : Operand) (dst : Option Nat) (K : List Cmd → Option R) : Option R :=
 match T.ty ty, rd T v ty x with
 | some (.slice _), some ⟨.slice _, xs⟩ => putC v dst [] (.val (.int .i64) (xs.length : Int)) K
 | some .str, some ⟨.str, s⟩ => putC v dst [] (.val (.int .i64) (s.length : Int)) K
 | some (.slice _), none => match rlen v x with
  | some len => putC v dst [] (.val (.int .i64) (len : Int)) K
  | none => none
 | _, _ => none

/-- A leaf, its row being one of all. -/
def V.lay : V → V
 | ⟨.pair (.int _) (.slice e), p⟩ => ⟨.slice e, p.2⟩
 | v => v
/-- A leaf, its row given away. -/
def V.gone : V → V
 | ⟨.pair (.int _) (.slice _), _⟩ => holeV
 | v => v
def V.odd : V → Bool
 | ⟨.pair _ _, _⟩ => true
 | _ => false
/-- Leaves changed from a place on. -/
def V.over (l : List V) (off : Nat) (ls : List V) : List V := l.take off ++ ls ++ l.drop (off + ls.length)

def keepA (sh : List Nat) : Option Nat → Bool
 | some d => sh.contains (5000000 + d)
 | none => false
def evExtract (sh : List Nat) (ty : TypeId) (x : Operand) (ix : Nat) (dst : Option Nat) (K : List Cmd → Option R) : Option R :=
 match x with
 | .tmp t => match v.g t with
  | .tup l => match l[ix]? with
   | some (.val ty y) => putC v dst [] (.val ty y) K
   | some (.own id e xs) => putC v dst [.set t (.tup (l.set ix .undef))] (.own id e xs) K
   | some (.agg ls) => if dst = some t then none else bif keepA sh dst then putC v dst [.set t (.tup (l.set ix .undef))] (.agg ls) K
    else (match T.ty ty with
     | some (.pair a c) => (match asm (.pair a c) (ls.map V.lay) with
      | some (y, []) => putC v dst [.set t (.tup (l.set ix .undef))] (.val (.pair a c) y) K
      | _ => none)
     | _ => none)
   | _ => none
  | _ => none
 | _ => none

/-- What a row handed over holds. -/
def rowAt (k : Nat) (e : Ty) : Option (List e.den) :=
 match v.b k with
 | some [⟨.pair .unit (.slice e'), x⟩] => if h : e' = e then some (h ▸ x.2) else none
 | _ => none

/-- What is taken out of a box that holds rows of its own. -/
def evTake (sh : List Nat) (tt : Ty) (b : Nat) (l : List V) (off : Nat) (dst : Option Nat) (K : List Cmd → Option R) : Option R :=
 match tt, dst with
 | .slice e, some d => (match l[off]? with
  | some ⟨.pair (.int k) (.slice e'), p⟩ => if e' = e then (bif sh.contains (4000000 + d) then putC v dst [] (.lenN p.2.length) K else putC v dst [.box b (V.over l off [holeV])] (.own p.1.toNat e' p.2) K) else none
  | _ => none)
 | .pair a c, some d => bif Nat.beq off 0 then (match asm (.pair a c) (l.map V.lay) with
  | some (y, []) => bif sh.contains (5000000 + d) then (bif aggOk l then putC v dst [.box b (l.map V.gone)] (.agg l) K else none)
   else putC v dst [.box b (l.map V.lay)] (.val (.pair a c) y) K
  | _ => none) else none
 | _, _ => none

def evLoad0 (sh : List Nat) (ty : TypeId) (x : Operand) (dst : Option Nat) (K : List Cmd → Option R) : Option R :=
 match x, T.ty ty with
 | .tmp t, some tt => match v.g t with
  | .cref t' y => if t' = tt then putC v dst [] (.val t' y) K else none
  | .eref s i e (some y) => if e = tt then putC v dst [] (.val e y) K else none
  | .eref s i e none => match v.g s with
   | .own _ e' xs => if e' = tt then (rdI xs i).bind fun y => putC v dst [] (.val e' y) K else none
   | _ => none
  | .ptr b off => match v.b b with
   | some l => bif rowL l then none else (match asm tt (l.drop off) with
    | some (y, _) => putC v dst [] (.val tt y) K
    | none => evTake v sh tt b l off dst K)
   | none => none
  | .rel k i e => match rowAt v k e with
   | some xs => if e = tt then (rdI xs i).bind fun y => putC v dst [] (.val e y) K else none
   | none => none
  | _ => none
 | _, _ => none

/-- A load, of a function value too. -/
def evLoad (sh : List Nat) (ty : TypeId) (x : Operand) (dst : Option Nat) (K : List Cmd → Option R) : Option R :=
 match x with
 | .tmp t => match v.g t with
  | .fp ty' f c => bif Nat.beq ty' ty then putC v dst [] (.fn ty' f c) K else none
  | _ => evLoad0 T v sh ty (.tmp t) dst K
 | _ => none

/-- Rows of its own that a store gives to a box: out of which slot, and what. -/
def giveOf (x y : Operand) : Option (Nat × List V) :=
 match x, y with
 | .tmp tx, .tmp t => (match v.g t with
  | .agg ls => some (t, ls)
  | _ => (match src v y, v.g tx with
   | some s, .ptr b off => (match v.g s, v.b b with
    | .own id e xs, some l => (match l[off]? with | some u => bif u.odd then some (s, [ownV id e xs]) else none | none => none)
    | _, _ => none)
   | _, _ => none))
 | _, _ => none

def evGive (ty : TypeId) (x : Operand) (s : Nat) (ls : List V) (dst : Option Nat) (K : List Cmd → Option R) : Option R :=
 match x, T.ty ty, dst with
 | .tmp tx, some tt, none => (match v.g tx with
  | .ptr b off => (match v.b b with
   | some l => bif rowL l || rowL ls then none else if off + ls.length ≤ l.length ∧ ls.length = tt.size then K [.set s .undef, .box b (V.over l off ls)] else none
   | none => none)
  | _ => none)
 | _, _, _ => none

def evStore (ty : TypeId) (x y : Operand) (dst : Option Nat) (K : List Cmd → Option R) : Option R :=
 match giveOf v x y with
 | some (s, ls) => evGive T v ty x s ls dst K
 | none =>
 match x, T.ty ty, rd T v ty y, dst with
 | .tmp t, some tt, some p, none => match p.as tt with
  | some z => (match v.g t with
   | .eref s i e _ => (match v.g s with
    | .own id e' xs => if h : tt = e' ∧ src v y ≠ some s then K (escC v y ++ [.set s (.own id e' (xs.set i.toNat (h.1 ▸ z)))]) else none
    | _ => none)
   | .ptr b off => (match v.b b with
    | some l => bif rowL l then none else if off + tt.size ≤ l.length then K (escC v y ++ [.box b (V.over l off (dis tt z))]) else none
    | none => none)
   | .rel k i e => (match rowAt v k tt with
    | some xs => bif (src v y).isNone then (if e = tt then (rdI xs i).bind fun _ => K [.box k [rowV tt (xs.set i.toNat z)]] else none) else none
    | none => none)
   | _ => none)
  | none => none
 | _, _, _, _ => none

def evIndexAddr (ty : TypeId) (x i : Operand) (dst : Option Nat) (K : List Cmd → Option R) : Option R :=
 match x, rd T v 0 i, T.ty ty with
 | .tmp t, some ⟨.int _, n⟩, some (.slice e') => match src v x with
  | some s => (match v.g s with
   | .own _ e xs => if e = e' then (rdI xs n).bind fun y => putM v dst (.eref s n e (some y)) K else none
   | _ => none)
  | none => (match v.g t with
   | .rref k len e => if e = e' then (if 0 ≤ n then (if n < (len : Int) then putC v dst [] (.rel k n e) K else none) else none) else none
   | sv => (match sv.view with
    | some ⟨.slice e, xs⟩ => if e = e' then (rdI xs n).bind fun y => putC v dst [] (.cref e y) K else none
    | _ => none))
 | _, _, _ => none

def evIndex (ty : TypeId) (x i : Operand) (dst : Option Nat) (K : List Cmd → Option R) : Option R :=
 match rd T v ty x, rd T v 0 i, T.ty ty with
 | some ⟨.str, s⟩, some ⟨.int _, n⟩, some .str => (rdI s n).bind fun c => putC v dst [] (.val (.int .u8) (c.toNat : Int)) K
 | _, _, _ => none

def rdOr (x : Option Operand) (d : Int) : Option Int :=
 match x with
 | none => some d
 | some o => match rd T v 0 o with | some ⟨.int _, n⟩ => some n | _ => none

def evSlice (ty : TypeId) (x : Operand) (lo hi mx : Option Operand) (dst : Option Nat) (K : List Cmd → Option R) : Option R :=
 match rd T v ty x, mx, T.ty ty with
 | some ⟨.str, s⟩, none, some .str => (match rdOr T v lo 0, rdOr T v hi s.length with
  | some l, some h => (subI s l h).bind fun r => putC v dst [] (.val .str r) K
  | _, _ => none)
 | some ⟨.slice e, xs⟩, none, some (.slice e') => if e = e' then (match rdOr T v lo 0, rdOr T v hi xs.length with
  | some l, some h => (subI xs l h).bind fun r => putC v dst (escC v x) (.val (.slice e) r) K
  | _, _ => none) else none
 | some ⟨.slice e, xs⟩, some m, some (.slice e') => if e = e' ∧ hi.isSome = true then (match rdOr T v lo 0, rdOr T v hi xs.length, rdOr T v (some m) 0 with
  | some l, some h, some c => if h = c then (subI xs l h).bind fun r => putC v dst (escC v x) (.full e r) K else none
  | _, _, _ => none) else none
 | _, _, _ => none

def evConvert (s d : TypeId) (x : Operand) (dst : Option Nat) (K : List Cmd → Option R) : Option R :=
 match rd T v s x, T.ty s, T.ty d with
 | some ⟨.int _, n⟩, some (.int _), some (.int k) => putC v dst [] (.val (.int k) (k.wrap n)) K
 | some ⟨.str, y⟩, some .str, some .str => putC v dst [] (.val .str y) K
 | some ⟨.slice (.int .u8), xs⟩, some (.slice (.int .u8)), some .str => putC v dst [] (.val .str (xs.map fun n => UInt8.ofNat n.toNat)) K
 | _, _, _ => none

/-- The fields of a struct, all zero. -/
def zerosOf (T : Tys) : List (TypeId × Nat) → Option (List V)
 | [] => some []
 | (ft, _) :: r => match T.ty ft, zerosOf T r with
  | some t, some l => some (⟨t, t.zero⟩ :: l)
  | _, _ => none

/-- The fields of a struct that is built: one part behind the other laid over them. -/
def buildV (T : Tys) (v : Vw) (fl : List (TypeId × Nat)) : List (Nat × Operand) → List V → Option (List V)
 | [], acc => some acc
 | (i, x) :: r, acc => match fl[i]? with
  | some (ft, _) => (match rd T v ft x, T.ty ft with
   | some y, some t => (match y.as t with | some z => buildV T v fl r (acc.set i ⟨t, z⟩) | none => none)
   | _, _ => none)
  | none => none

def escs : List (Nat × Operand) → List Cmd
 | [] => []
 | p :: r => escC v p.2 ++ escs r

def evBuild (ty : TypeId) (parts : List (Nat × Operand)) (dst : Option Nat) (K : List Cmd → Option R) : Option R :=
 match alook T ty with
 | some ⟨.pair a b, _, _, fl⟩ => (match zerosOf T fl with
  | some zs => (match buildV T v fl parts zs with
   | some vs => (match V.mk' vs with | some y => if y.t = .pair a b then putC v dst (escs v parts) (.val y.t y.x) K else none | none => none)
   | none => none)
  | none => none)
 | _ => none

/-- The elements of a literal, in order. -/
def elemsOf (T : Tys) (v : Vw) (id : TypeId) (e : Ty) : Nat → List (Nat × Operand) → Option (List e.den)
 | _, [] => some []
 | i, p :: r => if p.1 = i then (match elemsOf T v id e (i + 1) r, rd T v id p.2 with
  | some xs, some y => (match y.as e with | some z => some (z :: xs) | none => none)
  | _, _ => none) else none

/-- A struct of a number and of a row that is nil. -/
def evBuildN (ty : TypeId) (parts : List (Nat × Operand)) (dst : Option Nat) (K : List Cmd → Option R) : Option R :=
 match alook T ty with
 | some ⟨.pair (.int k) (.slice e), _, _, [(f0, 0), (f1, 1)]⟩ => (match alook T f1, T.ty f0 with
  | some ⟨.slice e', id, _, _⟩, some (.int k0) => if e' = e ∧ k0 = k then (match parts with
   | [] => putC v dst [] (.agg [⟨.int k, (0 : Int)⟩, ownV id e []]) K
   | [(0, x)] => (match rd T v f0 x with
    | some ⟨.int k', y⟩ => if k' = k then putC v dst [] (.agg [⟨.int k', y⟩, ownV id e []]) K else none
    | _ => none)
   | _ => none) else none
  | _, _ => none)
 | _ => none

def evBuildSlice (ty : TypeId) (len : Nat) (parts : List (Nat × Operand)) (dst : Option Nat) (K : List Cmd → Option R) : Option R :=
 match alook T ty with
 | some ⟨.slice e, id, _, _⟩ => (match elemsOf T v id e 0 parts with
  | some xs => bif Nat.beq xs.length len && Nat.ble (len * e.size) 16777216 then putC v dst (escs v parts) (.own id e xs) K else none
  | none => none)
 | _ => none

def appMax (eb : Nat) : Nat := if eb = 0 then 0 else 140737488355328 / eb

def evAppend (ty : TypeId) (x y : Operand) (dst : Option Nat) (K : List Cmd → Option R) : Option R :=
 match alook T ty, rd T v ty y with
 | some ⟨.slice e, id, eb, _⟩, some p => match p.as (.slice e) with
  | none => none
  | some ys => match src v x with
   | some s => (match v.g s with
    | .own id' e' xs => if h : e' = e ∧ id' = id then (catI (appMax eb) (h.1 ▸ xs : List e.den) ys).bind fun zs => putC v dst [.set s .undef] (.own id e zs) K else none
    | _ => none)
   | none => (match x with
    | .const _ => (match rd T v ty x with
     | some ⟨.slice e', xs⟩ => if xs.isEmpty then (catI (appMax eb) [] ys).bind fun zs => putC v dst [] (.own id e zs) K else none
     | _ => none)
    | .tmp t => (match v.g t with
     | .full e' xs => if h : e' = e then (if ys = [] then none else (catI (appMax eb) (h ▸ xs : List e.den) ys).bind fun zs => putC v dst [] (.own id e zs) K) else none
     | _ => none)
    | _ => none)
 | _, _ => none

def foldI (op : Int → Int → Int) (k : IntKind) : Int → List V → Option Int
 | a, [] => some a
 | a, ⟨.int k', b⟩ :: r => if k = k' then foldI op k (op a b) r else none
 | _, _ => none

def rds : List TypeId → List Operand → Option (List V)
 | _, [] => some []
 | ts, x :: r => match rd T v (ts.headD 0) x, rds (ts.drop 1) r with
  | some y, some l => some (y :: l)
  | _, _ => none

def mn2 (a b : Int) : Int := if b < a then b else a
def mx2 (a b : Int) : Int := if b > a then b else a

def evMin (op : Int → Int → Int) (ts : List TypeId) (xs : List Operand) (dst : Option Nat) (K : List Cmd → Option R) : Option R :=
 match rds T v ts xs with
 | some (⟨.int k, a⟩ :: r) => (match foldI op k a r with
  | some n => putC v dst [] (.val (.int k) n) K
  | none => none)
 | _ => none

def evBox (ty : TypeId) (x : Operand) (dst : Option Nat) (K : List Cmd → Option R) : Option R :=
 match rd T v ty x, T.ty ty, dst with
 | some y, some t, some d => (match y.as t with
  | some z => bif Nat.blt d 1000000 then putC v dst (escC v x ++ [.newbox d (dis t z)]) (.ptr d 0) K else none
  | none => none)
 | _, _, _ => none

/-- A box for a row that is nil. -/
def evAllocN (ty : TypeId) (dst : Option Nat) (K : List Cmd → Option R) : Option R :=
 match alook T ty, dst with
 | some ⟨.slice e, id, _, _⟩, some d => bif Nat.blt d 1000000 then putC v dst [.newbox d [ownV id e []]] (.ptr d 0) K else none
 | _, _ => none

def evAlloc (ty : TypeId) (dst : Option Nat) (K : List Cmd → Option R) : Option R :=
 match T.ty ty, dst with
 | some t, some d => bif Nat.blt d 1000000 then putC v dst [.newbox d (dis t t.zero)] (.ptr d 0) K else none
 | _, _ => none

/-- The field of a struct, by its place. -/
def fldAt (T : Tys) (ty : TypeId) (f : Nat) (y : V) : Option V :=
 match alook T ty with
 | some ⟨.pair _ _, _, _, fl⟩ => match (y.flds' fl.length)[f]?, fl[f]? with
  | some z, some (ft, _) => (match T.ty ft with | some t => (match z.as t with | some q => some ⟨t, q⟩ | none => none) | none => none)
  | _, _ => none
 | _ => none

def evFieldAddr (ty : TypeId) (x : Operand) (f : Nat) (dst : Option Nat) (K : List Cmd → Option R) : Option R :=
 match x with
 | .tmp t => match v.g t with
  | .cref t' y => (match T.ty ty with
   | some tt => if t' = tt then (match fldAt T ty f ⟨t', y⟩ with | some z => putC v dst [] (.cref z.t z.x) K | none => none) else none
   | none => none)
  | .ptr b off => (match alook T ty with
   | some ⟨.pair _ _, _, _, fl⟩ => (match fl[f]? with
    | some (ft, o) => (match T.ty ft with | some t => if 0 < t.size then putC v dst [] (.ptr b (off + o)) K else none | none => none)
    | none => none)
   | _ => none)
  | _ => none
 | _ => none

def evField (ty : TypeId) (x : Operand) (f : Nat) (dst : Option Nat) (K : List Cmd → Option R) : Option R :=
 match rd T v ty x, T.ty ty with
 | some y, some tt => if y.t = tt then (match fldAt T ty f y with | some z => putC v dst [] (.val z.t z.x) K | none => none) else none
 | _, _ => none

def evNilCheck (x : Operand) (dst : Option Nat) (K : List Cmd → Option R) : Option R :=
 match x with
 | .tmp t => match v.g t with
  | .ptr b o => putC v dst [] (.ptr b o) K
  | .cref t' y => putC v dst [] (.cref t' y) K
  | .eref s i e y => putM v dst (.eref s i e y) K
  | .clo φ => putC v dst [] (.clo φ) K
  | _ => none
 | _ => none

def evMakeSlice (ty : TypeId) (l c : Operand) (dst : Option Nat) (K : List Cmd → Option R) : Option R :=
 match alook T ty, rd T v 0 l, rd T v 0 c with
 | some ⟨.slice e, id, eb, _⟩, some ⟨.int _, n⟩, some ⟨.int _, m⟩ => if n = m then (reps n (appMax eb) e.zero).bind fun xs => putC v dst [] (.own id e xs) K else none
 | _, _, _ => none

/-! ### calls -/
def SV.toV : SV → Option V
 | .val t x => some ⟨t, x⟩
 | _ => none

def svToV : List SV → List V
 | [] => []
 | .val t x :: r => ⟨t, x⟩ :: svToV r
 | _ :: r => svToV r

/-- What a function value answers: the function's own answers at its boxes. -/
def closure (sp : CSpec) (caps : List A) : List V → CompV := fun xs =>
 let c := sp (xs.map (fun y => .v y.t y.x) ++ caps)
 ⟨c.R, c.o.bind (fun r => bif allVal (c.res r) && (c.out r).isEmpty then some r else none), fun r => svToV (c.res r)⟩
where
 allVal : List SV → Bool
  | [] => true
  | .val _ _ :: r => allVal r
  | _ => false

def argOf (G : Gam) (ty : TypeId) (x : Operand) : Option A :=
 match x with
 | .tmp t => match v.g t with
  | .ptr b 0 => (match v.b b with | some l => some (.bx l) | none => none)
  | .cref t' y => some (.cr t' y)
  | .clo φ => some (.clo φ)
  | _ => match rd T v ty x with | some y => some (.v y.t y.x) | none => none
 | .const (.slice none 0 0) => match T.ty ty with | some (.slice e) => some (.nl e) | _ => none
 | .func f => match alook G f with | some sp => some (.clo (closure sp [])) | none => none
 | _ => match rd T v ty x with | some y => some (.v y.t y.x) | none => none

def argsOf (G : Gam) : List TypeId → List Operand → Option (List A)
 | _, [] => some []
 | ts, x :: r => match argOf T v G (ts.headD 0) x, argsOf G (ts.drop 1) r with
  | some y, some l => some (y :: l)
  | _, _ => none

/-- The boxes handed over. -/
def boxesOf : List Operand → List Nat
 | [] => []
 | .tmp t :: r => (match v.g t with | .ptr b 0 => b :: boxesOf r | _ => boxesOf r)
 | _ :: r => boxesOf r

def lentOf : List Operand → List Nat
 | [] => []
 | x :: r => (match src v x with | some s => s :: lentOf r | none => lentOf r)

def boxCmds : List Nat → List (List V) → List Cmd
 | b :: bs, l :: ls => .box b l :: boxCmds bs ls
 | _, _ => []

def distinct : List Nat → Bool
 | [] => true
 | b :: r => !r.contains b && distinct r

def resSV : List SV → SV
 | [x] => x
 | l => .tup l

def allFlat : List SV → Bool
 | [] => true
 | x :: r => x.flat && allFlat r

def outsFlat : List (List V) → Bool
 | [] => true
 | x :: r => leavesFlat x && outsFlat r

def callPut (dst : Option Nat) (pre : List Cmd) (sv : SV) (K : List Cmd → Option R) : Option R :=
 match dst with
 | some d => bif Nat.blt d v.nt then K (pre ++ [.set d sv]) else none
 | none => K pre

def evCall (G : Gam) (f : FuncId) (ts : List TypeId) (xs : List Operand) (dst : Option Nat) (K : List Cmd → Option R) : Option R :=
 match alook G f, argsOf T v G ts xs with
 | some sp, some as => (sp as).o.bind fun r =>
  bif distinct (boxesOf v xs) && Nat.beq ((sp as).out r).length (boxesOf v xs).length then
   callPut v dst ((bif allFlat ((sp as).res r) && outsFlat ((sp as).out r) then [] else (lentOf v xs).map .fz) ++ boxCmds (boxesOf v xs) ((sp as).out r)) (resSV ((sp as).res r)) K
  else none
 | _, _ => none

/-- A call of a function that changes its first argument's row in place. -/
def evCallR (G : Gam) (f : FuncId) (ts : List TypeId) (xs : List Operand) (dst : Option Nat) (K : List Cmd → Option R) : Option R :=
 match xs with
 | .tmp t :: rest => match alook G f, argsOf T v G (ts.drop 1) rest, boxesOf v rest, lentOf v rest with
  | some sp, some as, [], [] => (match v.g t with
   | .rref k len e => (match rowAt v k e with
    | some ys => (sp (.io len e ys :: as)).o.bind fun r => (match (sp (.io len e ys :: as)).res r, (sp (.io len e ys :: as)).out r with
     | [], [o] => callPut v dst [.box k o] (.tup []) K
     | _, _ => none)
    | none => none)
   | _ => (match src v (.tmp t) with
    | some s => (match v.g s with
     | .own _ e ys => bif e.flat then (if 0 < ys.length then (sp (.io ys.length e ys :: as)).o.bind fun r => (match (sp (.io ys.length e ys :: as)).res r, (sp (.io ys.length e ys :: as)).out r with
      | [], [[⟨.pair .unit (.slice e'), x⟩]] => if e' = e then (if x.2.length = ys.length then callPut v dst [.set s (.val (.slice e') x.2)] (.tup []) K else none) else none
      | _, _ => none) else none) else none
     | _ => none)
    | none => none))
  | _, _, _, _ => none
 | _ => none

def vToSV (l : List V) : List SV := l.map fun y => .val y.t y.x

def evCallV (t : Nat) (ts : List TypeId) (xs : List Operand) (dst : Option Nat) (K : List Cmd → Option R) : Option R :=
 match v.g t, rds T v ts xs with
 | .clo φ, some ys => (φ ys).o.bind fun r =>
   callPut v dst (bif allFlat (vToSV ((φ ys).res r)) then [] else (lentOf v xs).map .fz) (resSV (vToSV ((φ ys).res r))) K
 | _, _ => none

def capsOf : List Operand → Option (List A)
 | [] => some []
 | .tmp t :: r => (match v.g t, capsOf r with
  | .ptr b 0, some l => (match v.b b with
   | some bl => bif oddL bl then none else (match V.mk' bl with | some y => some (.cr y.t y.x :: l) | none => none)
   | none => none)
  | .cref t' y, some l => some (.cr t' y :: l)
  | _, _ => none)
 | _ :: _ => none

def evMakeFunc (G : Gam) (fn : Fn) (first caps : List Operand) (dst : Option Nat) (K : List Cmd → Option R) : Option R :=
 match fn, first with
 | .func f, [] => (match alook G f, capsOf v caps with
  | some sp, some l => bif (boxesOf v caps).all (fun b => Nat.blt b 1000000) then putC v dst ((boxesOf v caps).map .fzbox) (.clo (closure sp l)) K else none
  | _, _ => none)
 | _, _ => none

/-- The boxes that a function value is made with. -/
def fnCaps : List Operand → Option (List (Option Nat))
 | [] => some []
 | .tmp t :: r => (match v.g t, fnCaps r with
  | .ptr b 0, some l => some (some b :: l)
  | _, _ => none)
 | _ :: _ => none
/-- A function value that holds boxes, and leaves them as they are. -/
def evMakeFn (fn : Fn) (first caps : List Operand) (dst : Option Nat) (K : List Cmd → Option R) : Option R :=
 match fn, first, fnCaps v caps with
 | .func f, [], some cs => putC v dst [] (.fn 0 f cs) K
 | _, _, _ => none

/-- The same boxes, as the function called names them. -/
def reCap : Nat → List (Option Nat) → List (Option Nat)
 | _, [] => []
 | i, none :: r => none :: reCap (i + 1) r
 | i, some _ :: r => some (1000000 + i) :: reCap (i + 1) r
def capArgs (ty f : Nat) (tot : List (Option Nat)) : List (Option Nat) → Option (List A)
 | [] => some []
 | none :: r => (match capArgs ty f tot r with | some as => some (.fp ty f tot :: as) | none => none)
 | some b :: r => (match v.b b, capArgs ty f tot r with | some l, some as => some (.bx l :: as) | _, _ => none)
def capBoxes : List (Option Nat) → List Nat
 | [] => []
 | none :: r => capBoxes r
 | some b :: r => b :: capBoxes r
/-- A function value called that holds boxes. -/
def evCallF (G : Gam) (ty f : Nat) (caps : List (Option Nat)) (ts : List TypeId) (xs : List Operand) (dst : Option Nat) (K : List Cmd → Option R) : Option R :=
 match alook G f, argsOf T v G ts xs, capArgs v ty f (reCap xs.length caps) caps with
 | some sp, some as, some cs => (sp (as ++ cs)).o.bind fun r =>
  bif distinct (boxesOf v xs ++ capBoxes caps) && Nat.beq ((sp (as ++ cs)).out r).length (boxesOf v xs ++ capBoxes caps).length then
   callPut v dst ((bif allFlat ((sp (as ++ cs)).res r) && outsFlat ((sp (as ++ cs)).out r) then [] else (lentOf v xs).map .fz) ++ boxCmds (boxesOf v xs ++ capBoxes caps) ((sp (as ++ cs)).out r)) (resSV ((sp (as ++ cs)).res r)) K
  else none
 | _, _, _ => none
def evCallX (G : Gam) (t : Nat) (ts : List TypeId) (xs : List Operand) (dst : Option Nat) (K : List Cmd → Option R) : Option R :=
 match v.g t with
 | .fn ty f caps => evCallF T v G ty f caps ts xs dst K
 | _ => evCallV T v t ts xs dst K

/-- Whether an operation compares with nil. -/
def isNil : BinOp → Operand → Bool
 | .eql, .const (.slice none 0 0) => true
 | _, _ => false

def evOp (G : Gam) (sh : List Nat) (o : Oper) (K : List Cmd → Option R) : Option R :=
 match o.op with
 | .move x => evMove T v o.type x o.dst K
 | .assign x => evAssign T v sh o.type x o.dst K
 | .pick c a b => evPick2 T v o.type c a b o.dst K
 | .alloc t => bif sh.contains (3000000 + o.dst.getD 0) then evAllocN T v t o.dst K else evAlloc T v t o.dst K
 | .box t x => evBox T v t x o.dst K
 | .build t ps => bif sh.contains (3000000 + o.dst.getD 0) then evBuildN T v t ps.toList o.dst K else evBuild T v t ps.toList o.dst K
 | .buildSlice t n ps => evBuildSlice T v t n ps.toList o.dst K
 | .load t x => evLoad T v sh t x o.dst K
 | .store t x y => evStore T v t x y o.dst K
 | .nilCheck x => evNilCheck v x o.dst K
 | .binOp op xt x y yt => evBin T v op xt x y yt o.dst K
 | .unOp op xt x => evUn T v op xt x o.dst K
 | .convert s d x => evConvert T v s d x o.dst K
 | .makeFunc fn first caps => bif sh.contains (6000000 + o.dst.getD 0) then evMakeFn v fn first.toList caps.toList o.dst K else evMakeFunc v G fn first.toList caps.toList o.dst K
 | .makeSlice t l c => evMakeSlice T v t l c o.dst K
 | .slice t x lo hi mx => evSlice T v t x lo hi mx o.dst K
 | .fieldAddr t x f => evFieldAddr T v t x f o.dst K
 | .field t x f => evField T v t x f o.dst K
 | .indexAddr t x i => evIndexAddr T v t x i o.dst K
 | .index t x i => evIndex T v t x i o.dst K
 | .extract x i => evExtract T v sh o.type x i o.dst K
 | .call c => match c.callee with
  | .value (.func f) => bif sh.contains (2000000 + f) then evCallR T v G f c.argTypes.toList c.args.toList o.dst K else evCall T v G f c.argTypes.toList c.args.toList o.dst K
  | .value (.tmp t) => evCallX T v G t c.argTypes.toList c.args.toList o.dst K
  | .builtin .append => (match c.args.toList, c.argTypes.toList with
   | [x, y], [t, t'] => bif Nat.beq t t' then evAppend T v t x y o.dst K else none
   | _, _ => none)
  | .builtin .len => (match c.args.toList, c.argTypes.toList with
   | [x], [t] => evLen T v t x o.dst K
   | _, _ => none)
  | .builtin .min => evMin T v mn2 c.argTypes.toList c.args.toList o.dst K
  | .builtin .max => evMin T v mx2 c.argTypes.toList c.args.toList o.dst K
  | _ => none
 | _ => none

/-- An operation, a comparison with nil too. -/
noncomputable def evOpN (G : Gam) (sh : List Nat) (o : Oper) (K : List Cmd → Option R) : Option R :=
 match o.op with
 | .binOp op xt x y yt => bif isNil op y then evNil T v xt x o.dst K else evBin T v op xt x y yt o.dst K
 | _ => evOp T v G sh o K

end ev
end Go.Proofs.YtecdijlfnnminaaGreatDoor.Eng
namespace Go.Proofs.YtecdijlfnnminaaGreatDoor.Eng
open Go Go.RowKit
set_option linter.unusedVariables false

inductive X where
 | normal | exit (id : Nat) | ret

inductive Ann where
 | nil
 | seq (a b : Ann)
 | cut (L Lb : List Nat) (a b : Ann)
 | cond (a b : Ann)
 | blk (a : Ann)
 | loop (L Lb : List Nat) (a : Ann)
 | rg (pts : List (Nat × List Nat × List Nat))

def inL (n : Nat) : List Nat → Bool
 | [] => false
 | m :: r => Nat.beq n m || inL n r

def SV.still (L : List Nat) : SV → SV
 | .alias s => bif inL s L then .alias s else .undef
 | .eref _ _ _ _ => .undef
 | sv => sv

def Env.canon (E : Env) (L Lb : List Nat) : Env :=
 ⟨E.nt, L.map fun n => (n, (E.g n).still L), pick Lb⟩
where
 pick : List Nat → List (Nat × List V)
  | [] => []
  | b :: r => match alook E.bx b with | some l => (b, l) :: pick r | none => pick r

section
universe u
variable {R : Type u} (G : Gam) (T : Tys) (sh : List Nat)

def splitC (f : Bool) (cs : List Cmd) (K : List Cmd → Option R) : Option R :=
 bif f then (match cs with
  | [.set d (.val .bool b)] => if b = true then K [.set d (.val .bool true)] else K [.set d (.val .bool false)]
  | cs => K cs)
 else K cs

def isGuard : List Oper → Nat → Bool
 | [], _ => false
 | o :: r, i => (match o.guard with | some (j, _) => Nat.beq i j | none => false) || isGuard r i

/-- Whether an operation is wanted. -/
def wants (all : List Oper) (E : Env) (g : Option (Nat × Bool)) : Option Bool :=
 match g with
 | none => some true
 | some (j, want) => match all[j]? with
  | some o => (match o.dst with
   | some d => (match E.g d with
    | .val .bool b => some (b == want)
    | .tup [] => some false
    | _ => none)
   | none => none)
  | none => none

def skipE (E : Env) (dst : Option Nat) (K : Env → Option R) : Option R :=
 match dst with
 | some d => bif Nat.blt d E.nt then K (E.set d (.tup [])) else none
 | none => K E

def evOps (all : List Oper) : Nat → List Oper → Env → (Env → Option R) → Option R
 | _, [], E, K => K E
 | i, o :: r, E, K => match wants all E o.guard with
  | some b => if b = true then evOp T E.vw G sh o (fun cs => splitC (isGuard all i) cs fun cs' => evOps all (i + 1) r (E.run cs') K)
   else skipE E o.dst fun E' => evOps all (i + 1) r E' K
  | none => none

/-- The same, with comparisons with nil. -/
noncomputable def evOpsN (all : List Oper) : Nat → List Oper → Env → (Env → Option R) → Option R
 | _, [], E, K => K E
 | i, o :: r, E, K => match wants all E o.guard with
  | some b => if b = true then evOpN T E.vw G sh o (fun cs => splitC (isGuard all i) cs fun cs' => evOpsN all (i + 1) r (E.run cs') K)
   else skipE E o.dst fun E' => evOpsN all (i + 1) r E' K
  | none => none

end

def SV.tgts : SV → List Nat | .alias s => [s] | .eref s _ _ _ => [s] | _ => []
def SV.tgtB : SV → List Nat | .ptr b _ => [b] | .rref b _ _ => [b] | .rel b _ _ => [b] | .fn _ _ c => capBoxes c | .fp _ _ c => capBoxes c | _ => []
def SV.bare : SV → Bool | .alias _ => false | .eref _ _ _ _ => false | .ptr _ _ => false | .rref _ _ _ => false | .rel _ _ _ => false | .own _ _ _ => false | .fn _ _ _ => false | .fp _ _ _ => false | _ => true


def refsIn (s : Nat) : List (Nat × SV) → List Nat
 | [] => []
 | (k, u) :: r => bif u.refs s then k :: refsIn s r else refsIn s r
def atIn (b : Nat) : List (Nat × SV) → List Nat
 | [] => []
 | (k, u) :: r => bif u.atBox b then k :: atIn b r else atIn b r


def Cmd.keys : Cmd → List Nat
 | .set d _ => [d]
 | .fz s => [s]
 | _ => []
def Cmd.bxs : Cmd → List Nat
 | .box b _ => [b]
 | .newbox b _ => [b]
 | .fzbox b => [b]
 | _ => []
/-- The boxes made anew or given up: references to them turn. -/
def Cmd.nbs : Cmd → List Nat
 | .newbox b _ => [b]
 | .fzbox b => [b]
 | _ => []
def nbsL : List Cmd → List Nat
 | [] => []
 | c :: cs => c.nbs ++ nbsL cs
/-- Whether an operation looks into boxes. -/
def _root_.Go.Op.peeks : Op → Bool
 | .load _ _ => true
 | .store _ _ _ => true
 | .makeFunc _ _ _ => true
 | .call _ => true
 | _ => false
def Cmd.hits (E : Env) : Cmd → List Nat
 | .set d _ => d :: (bif (E.g d).isOwn then refsIn d E.sl else [])
 | .fz s => s :: refsIn s E.sl
 | .box _ _ => []
 | .newbox b _ => atIn b E.sl
 | .fzbox b => atIn b E.sl
def keysL : List Cmd → List Nat
 | [] => []
 | c :: cs => c.keys ++ keysL cs
def bxsL : List Cmd → List Nat
 | [] => []
 | c :: cs => c.bxs ++ bxsL cs
def hitsL (E : Env) : List Cmd → List Nat
 | [] => []
 | c :: cs => c.hits E ++ hitsL (E.do1 c) cs


structure Foot where
 rs : List Nat
 rb : List Nat
 ks : List Nat
 bs : List Nat
 hs : List Nat
 ns : List Nat
 q : Option (Nat × List Nat × List Nat)
 al : Option Nat
 tm : Bool

def tmpsOf : List Operand → List Nat
 | [] => []
 | .tmp t :: r => t :: tmpsOf r
 | _ :: r => tmpsOf r
def gtmp (all : List Oper) (g : Option (Nat × Bool)) : List Nat :=
 match g with
 | some (j, _) => (match all[j]? with | some p => (match p.dst with | some d => [d] | none => []) | none => [])
 | none => []
def seen (all : List Oper) (o : Oper) : List Nat := gtmp all o.guard ++ tmpsOf o.op.operands.toList
def rsOf (E : Env) : List Nat → List Nat
 | [] => []
 | t :: r => t :: ((E.g t).tgts ++ rsOf E r)
def rbOf (E : Env) : List Nat → List Nat
 | [] => []
 | t :: r => (E.g t).tgtB ++ rbOf E r
def quietOf (E : Env) : List Cmd → Option (Nat × List Nat × List Nat)
 | [.set d sv] => bif (E.g d).bare then some (d, sv.tgts, sv.tgtB) else none
 | _ => none
/-- A box made anew, that nothing tells of. -/
def alOf (E : Env) : List Cmd → Option Nat
 | [.newbox b _, .set d (.ptr c 0)] => bif Nat.beq b d && Nat.beq c d && (E.g d).bare && (atIn d E.sl).isEmpty then some d else none
 | _ => none
def hasN (n : Nat) : List Nat → Bool
 | [] => false
 | m :: r => Nat.beq n m || hasN n r
/-- Slots that hold nothing of weight are filled, and boxes: no more. -/
def tameOf (E : Env) : List Cmd → Bool
 | [] => true
 | .set d _ :: r => (E.g d).bare && (!hasN d (keysL r) && tameOf E r)
 | .box _ _ :: r => tameOf E r
 | _ => false
def foot (all : List Oper) (o : Oper) (E : Env) (cs : List Cmd) : Foot :=
 ⟨rsOf E (seen all o), bif o.op.peeks then rbOf E (seen all o) else [], keysL cs, bxsL cs, hitsL E cs, nbsL cs, quietOf E cs, alOf E cs, tameOf E cs⟩

def disj : List Nat → List Nat → Bool
 | [], _ => true
 | n :: r, l => !hasN n l && disj r l
def half (q : Nat × List Nat × List Nat) (f g : Foot) : Bool :=
 !hasN q.1 g.rs && !hasN q.1 g.ks && !hasN q.1 g.hs && disj f.rs g.hs && disj q.2.1 g.ks && disj f.rb g.bs && disj q.2.2 g.ns
def apart (f g : Foot) : Bool :=
 (match f.q with | some q => half q f g | none => false) || (match g.q with | some q => half q g f | none => false) || (match f.al, g.al with
  | some d, some e => !Nat.beq d e && !hasN d g.rs && !hasN e f.rs && !hasN d g.rb && !hasN e f.rb
  | _, _ => false) || (f.tm && (g.tm && (disj f.ks g.ks && (disj f.bs g.bs && (disj g.rs f.ks && (disj f.rs g.ks && (disj g.rb f.bs && disj f.rb g.bs)))))))

def bindsAny (e : Edge) : Bool := match e.ground with | .textOnly _ => false | .gcOnly _ => false | _ => true
def edgeOn (j : Nat) : List Edge → Bool
 | [] => false
 | e :: r => (bindsAny e && Nat.beq e.on j) || edgeOn j r
def edgesBelow (i : Nat) : List Edge → Bool
 | [] => true
 | e :: r => (!bindsAny e || Nat.blt e.on i) && edgesBelow i r
/-- Whether edges lead back to operation j, in n steps at most. -/
def pathTo (all : List Oper) (j : Nat) : Nat → List Edge → Bool
 | 0, _ => false
 | n + 1, es => edgeOn j es || es.any fun e => bindsAny e && (match all[e.on]? with | some p => pathTo all j n p.after.toList | none => false)
def clash (all : List Oper) (o : Oper) (f : Foot) : List (Nat × Foot) → Bool
 | [] => true
 | (j, g) :: r => (edgeOn j o.after.toList || (apart g f || pathTo all j 3 o.after.toList)) && clash all o f r

section
universe u
variable {R : Type u} (G : Gam) (T : Tys) (sh : List Nat)

/-- A region that draws: what it comes to in its written order, if no two operations that stand free meet. -/
def evDraw (all : List Oper) : Nat → List Oper → List (Nat × Foot) → Env → (Env → Option R) → Option R
 | _, [], _, E, K => K E
 | i, o :: r, done, E, K => match wants all E o.guard with
  | some b => if b = true then evOp T E.vw G sh o (fun cs => splitC (isGuard all i) cs fun cs' =>
     bif edgesBelow i o.after.toList && clash all o (foot all o E cs') done then evDraw all (i + 1) r ((i, foot all o E cs') :: done) (E.run cs') K else none)
   else match o.dst with
    | some d => bif Nat.blt d E.nt && (edgesBelow i o.after.toList && clash all o (foot all o E [.set d (.tup [])]) done) then evDraw all (i + 1) r ((i, foot all o E [.set d (.tup [])]) :: done) (E.set d (.tup [])) K else none
    | none => bif edgesBelow i o.after.toList && clash all o (foot all o E []) done then evDraw all (i + 1) r ((i, foot all o E []) :: done) E K else none
  | none => none

end


section
universe u
variable {R : Type u} (G : Gam) (T : Tys) (sh : List Nat)
/-- The same, with no look below operation j. -/
def pathQ (all : List Oper) (j : Nat) : Nat → List Edge → Bool
 | 0, _ => false
 | n + 1, es => edgeOn j es || es.any fun e => bindsAny e && (Nat.blt j e.on && (match all[e.on]? with | some p => pathQ all j n p.after.toList | none => false))
def clashP (all : List Oper) (o : Oper) (f : Foot) : List (Nat × Foot) → Bool
 | [] => true
 | (j, g) :: r => (pathQ all j 8 o.after.toList || apart g f) && clashP all o f r
def okB (all : List Oper) (i : Nat) (o : Oper) (f : Foot) (b : Option Nat) (done : List (Nat × Foot)) : Bool :=
 edgesBelow i o.after.toList && (clashP all o f done && (match b with | some j => pathQ all j 8 o.after.toList | none => true))
/-- An operation behind all that was done. -/
def barAt (all : List Oper) (i : Nat) (o : Oper) (done : List (Nat × Foot)) : Bool := isGuard all i && done.all fun d => pathQ all d.1 8 o.after.toList
end

section loops
universe u v
variable {R : Type u} {α : Type v}
def loopN (B : (α → Option R) → α → Option R) : Nat → α → Option R
 | 0, _ => none
 | n + 1, x => B (loopN B n) x
open Classical in
noncomputable def loopD (B : (α → Option R) → α → Option R) (x : α) : Option R :=
 if h : ∃ n r, loopN B n x = some r then some (Classical.choose (Classical.choose_spec h)) else none
end loops

section
universe u
variable {R : Type u} (G : Gam) (T : Tys) (sh : List Nat)

/-- A place where ways meet: the kernel stops here. -/
noncomputable def bar (f : Env → Option R) (E : Env) : Option R := (Classical.choice (⟨⟨f E, rfl⟩⟩ : Nonempty {x : Option R // x = f E})).1
theorem bar_eq (f : Env → Option R) (E : Env) : bar f E = f E := (Classical.choice (⟨⟨f E, rfl⟩⟩ : Nonempty {x : Option R // x = f E})).2

def kSeq (go : Env → Option R) (K : X → Env → Option R) : X → Env → Option R
 | .normal, E => go E
 | x, E => K x E

def kBlk (id : Nat) (K : X → Env → Option R) : X → Env → Option R
 | .exit i, E => bif Nat.beq i id then K .normal E else K (.exit i) E
 | x, E => K x E

def cutAt : List (Nat × List Nat × List Nat) → Nat → Option (List Nat × List Nat)
 | [], _ => none
 | (j, L, Lb) :: r, i => bif Nat.beq j i then some (L, Lb) else cutAt r i
noncomputable def cutK (c : Option (List Nat × List Nat)) (f : Env → Option R) (E : Env) : Option R :=
 match c with
 | some (L, Lb) => bar f (E.canon L Lb)
 | none => f E
/-- A region in pieces: ahead of marked operations all that is not wanted any more is given up. -/
noncomputable def evOpsP (pts : List (Nat × List Nat × List Nat)) (all : List Oper) : Nat → List Oper → Env → (Env → Option R) → Option R
 | _, [], E, K => K E
 | i, o :: r, E, K => match wants all E o.guard with
  | some b => if b = true then evOp T E.vw G sh o (fun cs => splitC (isGuard all i) cs fun cs' => cutK (cutAt pts (i + 1)) (fun E2 => evOpsP pts all (i + 1) r E2 K) (E.run cs'))
   else skipE E o.dst fun E' => cutK (cutAt pts (i + 1)) (fun E2 => evOpsP pts all (i + 1) r E2 K) E'
  | none => none
/-- A region that draws, where some operations come behind all before them and ahead of all behind them; at such ones the region may be told in pieces. -/
noncomputable def evDrawB (pts : List (Nat × List Nat × List Nat)) (all : List Oper) : Nat → List Oper → Option Nat → List (Nat × Foot) → Env → (Env → Option R) → Option R
 | _, [], _, _, E, K => K E
 | i, o :: r, b, done, E, K => match wants all E o.guard with
  | some t => if t = true then evOp T E.vw G sh o (fun cs => splitC (isGuard all i) cs fun cs' =>
     bif okB all i o (foot all o E cs') b done then (bif barAt all i o done then cutK (cutAt pts (i + 1)) (fun E2 => evDrawB pts all (i + 1) r (some i) [] E2 K) (E.run cs') else bif (cutAt pts (i + 1)).isNone then evDrawB pts all (i + 1) r b ((i, foot all o E cs') :: done) (E.run cs') K else none) else none)
   else match o.dst with
    | some d => bif Nat.blt d E.nt && (okB all i o (foot all o E [.set d (.tup [])]) b done && (cutAt pts (i + 1)).isNone) then evDrawB pts all (i + 1) r b ((i, foot all o E [.set d (.tup [])]) :: done) (E.set d (.tup [])) K else none
    | none => bif okB all i o (foot all o E []) b done && (cutAt pts (i + 1)).isNone then evDrawB pts all (i + 1) r b ((i, foot all o E []) :: done) E K else none
  | none => none
/-- A drawn region from a marked operation on: the kernel stops here. -/
noncomputable def cutD (pts : List (Nat × List Nat × List Nat)) (all : List Oper) (K : Env → Option R) (i : Nat) (E : Env) : Option R := (Classical.choice (⟨⟨evDrawB G T sh pts all i (all.drop i) (some (i - 1)) [] E K, rfl⟩⟩ : Nonempty {x : Option R // x = evDrawB G T sh pts all i (all.drop i) (some (i - 1)) [] E K})).1
theorem cutD_eq (pts : List (Nat × List Nat × List Nat)) (all : List Oper) (K : Env → Option R) (i : Nat) (E : Env) : cutD G T sh pts all K i E = evDrawB G T sh pts all i (all.drop i) (some (i - 1)) [] E K := (Classical.choice (⟨⟨evDrawB G T sh pts all i (all.drop i) (some (i - 1)) [] E K, rfl⟩⟩ : Nonempty {x : Option R // x = evDrawB G T sh pts all i (all.drop i) (some (i - 1)) [] E K})).2
def cutC (c : Option (List Nat × List Nat)) (f g : Env → Option R) (E : Env) : Option R := match c with | some q => f (E.canon q.1 q.2) | none => g E
/-- What is told of a drawn region up to the next marked operation. -/
noncomputable def evDrawC (pts : List (Nat × List Nat × List Nat)) (all : List Oper) (K : Env → Option R) (KC : Nat → Env → Option R) : Nat → List Oper → Option Nat → List (Nat × Foot) → Env → Option R
 | _, [], _, _, E => K E
 | i, o :: r, b, done, E => match wants all E o.guard with
  | some t => if t = true then evOp T E.vw G sh o (fun cs => splitC (isGuard all i) cs fun cs' =>
     bif okB all i o (foot all o E cs') b done then (bif barAt all i o done then cutC (cutAt pts (i + 1)) (KC (i + 1)) (fun E2 => evDrawC pts all K KC (i + 1) r (some i) [] E2) (E.run cs') else bif (cutAt pts (i + 1)).isNone then evDrawC pts all K KC (i + 1) r b ((i, foot all o E cs') :: done) (E.run cs') else none) else none)
   else match o.dst with
    | some d => bif Nat.blt d E.nt && (okB all i o (foot all o E [.set d (.tup [])]) b done && (cutAt pts (i + 1)).isNone) then evDrawC pts all K KC (i + 1) r b ((i, foot all o E [.set d (.tup [])]) :: done) (E.set d (.tup [])) else none
    | none => bif okB all i o (foot all o E []) b done && (cutAt pts (i + 1)).isNone then evDrawC pts all K KC (i + 1) r b ((i, foot all o E []) :: done) E else none
  | none => none
theorem evDrawC_eq (pts : List (Nat × List Nat × List Nat)) (all : List Oper) (K : Env → Option R) : ∀ (l : List Oper) (i : Nat) (b : Option Nat) (done : List (Nat × Foot)) (E : Env), l = all.drop i → evDrawC G T sh pts all K (cutD G T sh pts all K) i l b done E = evDrawB G T sh pts all i l b done E K
 | [], i, b, done, E, h => rfl
 | o :: r, i, b, done, E, h => by
  have hr : r = all.drop (i + 1) := by rw [← List.tail_drop, ← h]; rfl
  have ih := fun b done E => evDrawC_eq pts all K r (i + 1) b done E hr
  have hc : cutC (cutAt pts (i + 1)) (cutD G T sh pts all K (i + 1)) (fun E2 => evDrawB G T sh pts all (i + 1) r (some i) [] E2 K) = cutK (cutAt pts (i + 1)) (fun E2 => evDrawB G T sh pts all (i + 1) r (some i) [] E2 K) := by
   funext E'
   cases cutAt pts (i + 1) with
   | none => rfl
   | some q =>
    simp only [cutC, cutK, bar_eq, cutD_eq, ← hr, Nat.add_sub_cancel]
  simp only [evDrawC, evDrawB, ih, hc]
/-- Ahead of a region that is marked, all rows of their own in boxes are given up to all. -/
def _root_.Go.Proofs.YtecdijlfnnminaaGreatDoor.Eng.Env.layAll (E : Env) : Env := ⟨E.nt, E.sl, amap (fun l => l.map V.lay) E.bx⟩
def _root_.Go.Proofs.YtecdijlfnnminaaGreatDoor.Eng.Env.preL (E : Env) (sh : List Nat) (id : Nat) : Env := bif sh.contains (7000000 + id) then E.layAll else E
noncomputable def den : Code → Ann → Env → (X → Env → Option R) → Option R
 | .skip, _, E, K => K .normal E
 | .region _ ops false, .rg pts, E, K => evOpsP G T sh pts ops.toList 0 ops.toList E fun E' => K .normal E'
 | .region _ ops false, _, E, K => evOps G T sh ops.toList 0 ops.toList E fun E' => K .normal E'
 | .region _ ops true, .rg pts, E, K => evDrawC G T sh pts ops.toList (fun E' => K .normal E') (cutD G T sh pts ops.toList fun E' => K .normal E') 0 ops.toList none [] E
 | .region id ops true, _, E, K => evDraw G T sh ops.toList 0 ops.toList [] (E.preL sh id) fun E' => K .normal E'
 | .seq x y, .seq a b, E, K => den x a E (kSeq (fun E' => den y b E' K) K)
 | .seq x y, .cut L Lb a b, E, K => den x a E (kSeq (fun E' => bar (fun E2 => den y b E2 K) (E'.canon L Lb)) K)
 | .cond c x y, .cond a b, E, K => match rd T E.vw 0 c with
  | some ⟨.bool, t⟩ => if t = true then den x a E K else den y b E K
  | _ => none
 | .block id x, .blk a, E, K => den x a E (kBlk id K)
 | .loop x, .loop L Lb a, E, K => loopD (fun rec E' => den x a E' (kSeq (fun E2 => rec (E2.canon L Lb)) K)) (E.canon L Lb)
 | .exit id, _, E, K => K (.exit id) E
 | .ret, _, E, K => K .ret E
 | _, _, _, _ => none

/-- Code without loops, with comparisons with nil. -/
noncomputable def denN : Code → Env → (X → Env → Option R) → Option R
 | .skip, E, K => K .normal E
 | .region _ ops false, E, K => evOpsN G T sh ops.toList 0 ops.toList E fun E' => K .normal E'
 | .seq x y, E, K => denN x E (kSeq (fun E' => denN y E' K) K)
 | .cond c x y, E, K => match rd T E.vw 0 c with
  | some ⟨.bool, t⟩ => if t = true then denN x E K else denN y E K
  | _ => none
 | .ret, E, K => K .ret E
 | _, _, _ => none

end

end Go.Proofs.YtecdijlfnnminaaGreatDoor.Eng
namespace Go.Proofs.YtecdijlfnnminaaGreatDoor.Eng
open Go Go.RowKit
set_option linter.unusedVariables false
set_option linter.unusedSimpArgs false

/-- The fields lie one behind the other, and make up the type. -/
def fldsOk (T : Tys) : Ty → Nat → List (TypeId × Nat) → Bool
 | _, _, [] => false
 | t, o, [(ft, off)] => Nat.beq off o && (match T.ty ft with | some x => decide (x = t) | none => false) && Nat.blt 0 t.size
 | .pair a b, o, (ft, off) :: f :: r => Nat.beq off o && (match T.ty ft with | some x => decide (x = a) | none => false) && Nat.blt 0 a.size && fldsOk T b (o + a.size) (f :: r)
 | _, _, _ => false

/-- Whether '==' of a struct is that of its fields. -/
def eqB (P : Program) (t : TypeId) : Bool :=
 match P.underlying t with
 | some (.struct fs) => fs.toList.all (fun f => f.name != "_") && !P.stoodInHeld t && !P.eqGuardType P.depth t
 | _ => false

/-- What the engine is told of a type is so. -/
structure TFits (P : Program) (T : Tys) (t : TypeId) (i : TI) : Prop where
 size : (P.info? t).map (·.size) = some i.ty.size
 zero : (P.info? t).bind (·.zero) = some (pack i.ty i.ty.zeros)
 und : match i.ty with
  | .int k => P.underlying t = some (.int k)
  | .bool => P.underlying t = some .bool
  | .str => P.underlying t = some .string
  | .slice e => P.underlying t = some (.slice i.elem) ∧ T.ty i.elem = some e ∧ 0 < e.size ∧ (P.info? i.elem).map (·.bytes) = some i.eb
  | .pair _ _ => ∃ fs, P.underlying t = some (.struct fs) ∧ fs.toList.map (fun f => (f.type, f.offset)) = i.flds ∧ fldsOk T i.ty 0 i.flds = true
  | .unit => False
 eq : (!eqInts T i.flds || eqB P t) = true ∨ ∀ a b, i.ty ≠ .pair a b

def TOk (P : Program) (T : Tys) : Prop := ∀ t i, alook T t = some i → TFits P T t i

section
variable {P : Program} {T : Tys} {C : Ctx} {S : Nat → Prop} {B : Loc → Option Nat} {E : Env} {a : Act} {w : World}

theorem wp_value {o : Oper} {v : Value} {w' : World} {K : Act → World → Prop} {Q : Exit → Act → World → Prop} (h : (execOp a.eval o).run P w = .ok (.value v) w') (hk : K (a.put o.dst v) w') : o.wp P a w K Q := by
 unfold Oper.wp; rw [h]; exact hk
theorem wp_none {o : Oper} {w' : World} {K : Act → World → Prop} {Q : Exit → Act → World → Prop} (h : (execOp a.eval o).run P w = .ok .skip w') (hk : K (a.put o.dst Go.undef) w') : o.wp P a w K Q := by
 unfold Oper.wp; rw [h]; exact hk

/-- The blocks that the state tells of. -/
def AllS (S : Nat → Prop) (B : Loc → Option Nat) : Nat → Prop := fun b => S b ∨ ∃ l : Loc, l.isB = false ∧ B l = some b

theorem OwnR.slice {Q : Nat → Prop} {id : TypeId} {e : Ty} {xs : List e.den} {v : Value} {ob : Option Nat} (h : OwnR S w id e xs v ob) (hq : ∀ g, ob = some g → Q g) :
  SliceR Q w e.size (Cells S w e) xs v := by
 obtain ⟨cs, h1, h2, h3⟩ := h
 rcases h1.2 with ⟨hv, hn⟩ | ⟨g, cap, cur, hv, _, hg, hnc, hcm, hcs, htake⟩
 ·exact .inl ⟨none, hv, List.eq_nil_of_length_eq_zero hn⟩
 ·subst hv
  have hob : ob = some g := by rw [← h3]; rfl
  refine .inr ⟨g, 0, cap, rfl, hnc, hcm, hq g hob, (Array.getElem?_eq_some_iff.1 hg).1, fun i hi => ?_⟩
  obtain ⟨c, hc, hj⟩ := h2.at i hi
  refine ⟨c, hc, fun j u hu => ?_⟩
  have := hj j u hu
  rw [cell_of_row w g _ cur id (0, 0) hg, Nat.zero_add]
  rw [← htake, List.getElem?_take] at this
  split at this
  ·simpa using this
  ·cases this

theorem SliceR.sup {Q Q' : Nat → Prop} {sz : Nat} {α : Type} {R : α → List Value → Prop} {xs : List α} {v : Value} (h : SliceR Q w sz R xs v) (hq : ∀ b, Q b → Q' b) : SliceR Q' w sz R xs v := by
 rcases h with h | ⟨b, off, cap, hv, hc, hm, hb, hl, he⟩
 ·exact .inl h
 ·exact .inr ⟨b, off, cap, hv, hc, hm, hq b hb, hl, he⟩

/-- A value that is read. -/
def ViewR (S Q : Nat → Prop) (w : World) (y : V) (v : Value) : Prop :=
 match y with
 | ⟨.slice e, xs⟩ => SliceR Q w e.size (Cells S w e) xs v
 | ⟨t, x⟩ => ValR S w t x v

theorem ValR.view {Q : Nat → Prop} {t : Ty} {x : t.den} {v : Value} (h : ValR S w t x v) (hq : ∀ b, S b → Q b) : ViewR S Q w ⟨t, x⟩ v := by
 cases t with
 | slice e => simp only [ViewR]; exact (ValR.slice.1 h).sup hq
 | _ => exact h

theorem all_own (h : Sim P C S B E a w) {n g : Nat} (hb : B (.s n) = some g) : AllS S B g := .inr ⟨.s n, rfl, hb⟩

theorem view_sound (h : Sim P C S B E a w) {n : Nat} {y : V} (hv : (E.g n).view = some y) : ViewR S (AllS S B) w y (tv a n) := by
 have hs := h.slots n
 cases hn : E.g n with
 | val t x => rw [hn] at hv hs; simp only [SV.view, Option.some.injEq] at hv; subst hv; exact ValR.view hs (fun b hb => .inl hb)
 | own id e xs => rw [hn] at hv hs; simp only [SV.view, Option.some.injEq] at hv; subst hv; exact OwnR.slice hs (fun g hg => all_own h hg)
 | full e xs => rw [hn] at hv hs; simp only [SV.view, Option.some.injEq] at hv; subst hv; exact hs.1.sup (fun b hb => .inl hb)
 | _ => rw [hn] at hv; simp [SV.view] at hv

theorem const_sound {ty : TypeId} {c : Value} {sv : SV} {y : V} {Q : Nat → Prop} (hc : constSV T ty c = some sv) (hv : sv.view = some y) : ViewR S Q w y c := by
 unfold constSV at hc
 split at hc
 ·simp only [Option.some.injEq] at hc; subst hc; simp only [SV.view, Option.some.injEq] at hv; subst hv; exact ValR.int.2 rfl
 ·simp only [Option.some.injEq] at hc; subst hc; simp only [SV.view, Option.some.injEq] at hv; subst hv; exact ValR.bool.2 rfl
 ·simp only [Option.some.injEq] at hc; subst hc; simp only [SV.view, Option.some.injEq] at hv; subst hv; exact ValR.str.2 (by simp)
 ·split at hc
  ·simp only [Option.some.injEq] at hc; subst hc; simp only [SV.view, Option.some.injEq] at hv; subst hv; exact .inl ⟨_, rfl, rfl⟩
  ·cases hc
 ·cases hc

theorem rd_sound (h : Sim P C S B E a w) {ty : TypeId} {x : Operand} {y : V} (hr : rd T E.vw ty x = some y) : ViewR S (AllS S B) w y (a.eval x) := by
 cases x with
 | tmp t =>
  simp only [rd, Env.vw] at hr
  show ViewR S (AllS S B) w y (tv a t)
  have hs := h.slots t
  cases hn : E.g t with
  | alias s =>
   rw [hn] at hr hs
   rw [hs.1]
   exact view_sound h hr
  | _ => rw [hn] at hr; exact view_sound h (by rw [hn]; exact hr)
 | const c =>
  simp only [rd] at hr
  cases hc : constSV T ty c with
  | none => rw [hc] at hr; cases hr
  | some sv => rw [hc] at hr; exact const_sound hc hr
 | global g => simp [rd] at hr
 | func f => simp [rd] at hr

theorem rd_int (h : Sim P C S B E a w) {ty : TypeId} {x : Operand} {k : IntKind} {n : Int} (hr : rd T E.vw ty x = some ⟨.int k, n⟩) : a.eval x = .int k n := ValR.int.1 (rd_sound h hr)
theorem rd_bool (h : Sim P C S B E a w) {ty : TypeId} {x : Operand} {b : Bool} (hr : rd T E.vw ty x = some ⟨.bool, b⟩) : a.eval x = .bool b := ValR.bool.1 (rd_sound h hr)
theorem rd_str (h : Sim P C S B E a w) {ty : TypeId} {x : Operand} {s : List UInt8} (hr : rd T E.vw ty x = some ⟨.str, s⟩) : a.eval x = .string ⟨s.toArray⟩ := ValR.str.1 (rd_sound h hr)
theorem rd_slice (h : Sim P C S B E a w) {ty : TypeId} {x : Operand} {e : Ty} {xs : List e.den} (hr : rd T E.vw ty x = some ⟨.slice e, xs⟩) : SliceR (AllS S B) w e.size (Cells S w e) xs (a.eval x) := rd_sound h hr

end
end Go.Proofs.YtecdijlfnnminaaGreatDoor.Eng
namespace Go.Proofs.YtecdijlfnnminaaGreatDoor.Eng
open Go Go.RowKit
set_option linter.unusedVariables false
set_option linter.unusedSimpArgs false

/-- An operation leads to what its orders tell. -/
def Goes (P : Program) (C : Ctx) (E : Env) (a : Act) (w : World) (o : Oper) (cs : List Cmd) : Prop :=
 ∀ (Kw : Act → World → Prop) (Q : Exit → Act → World → Prop), (∀ S' B' a' w', Sim P C S' B' (E.run cs) a' w' → Kw a' w') → o.wp P a w Kw Q

section
universe u
variable {R : Type u} {P : Program} {T : Tys} {C : Ctx} {S : Nat → Prop} {B : Loc → Option Nat} {E : Env} {a : Act} {w : World} {o : Oper} {r : R} {K : List Cmd → Option R}

theorem Goes.value {cs : List Cmd} {v : Value} {w' : World} {S' : Nat → Prop} {B' : Loc → Option Nat} (h : (execOp a.eval o).run P w = .ok (.value v) w')
  (hs : Sim P C S' B' (E.run cs) (a.put o.dst v) w') : Goes P C E a w o cs := fun _ _ hk => wp_value h (hk _ _ _ _ hs)
theorem Goes.value' {cs : List Cmd} {v : Value} {w' : World} (h : (execOp a.eval o).run P w = .ok (.value v) w')
  (hs : ∃ S' B', Sim P C S' B' (E.run cs) (a.put o.dst v) w') : Goes P C E a w o cs := let ⟨_, _, hs⟩ := hs; fun _ _ hk => wp_value h (hk _ _ _ _ hs)
theorem Goes.none {cs : List Cmd} {w' : World} {S' : Nat → Prop} {B' : Loc → Option Nat} (h : (execOp a.eval o).run P w = .ok .skip w')
  (hs : Sim P C S' B' (E.run cs) (a.put o.dst Go.undef) w') : Goes P C E a w o cs := fun _ _ hk => wp_none h (hk _ _ _ _ hs)

theorem putC_some {v : Vw} {dst : Option Nat} {pre : List Cmd} {sv : SV} (h : putC v dst pre sv K = some r) : ∃ d, dst = some d ∧ d < v.nt ∧ K (pre ++ [.set d sv]) = some r := by
 cases dst with
 | none => simp [putC] at h
 | some d =>
  simp only [putC] at h
  cases hb : Nat.blt d v.nt
  ·rw [hb] at h; cases h
  ·rw [hb] at h; exact ⟨d, rfl, by simpa [Nat.blt_eq] using hb, h⟩

/-- A value put into a slot. -/
theorem goes_val (h : Sim P C S B E a w) {t : Ty} {x : t.den} {v : Value} (hp : putC E.vw o.dst [] (.val t x) K = some r) (hv : ValR S w t x v)
  (hrun : (execOp a.eval o).run P w = .ok (.value v) w) : ∃ cs, K cs = some r ∧ Goes P C E a w o cs := by
 obtain ⟨d, hd, hlt, hk⟩ := putC_some hp
 exact ⟨_, hk, Goes.value hrun (by rw [hd]; exact h.putVal hlt hv)⟩

def SV.plain : SV → Bool
 | .own _ _ _ | .tup _ | .agg _ => false
 | _ => true

theorem SlotR.copy {B' : Loc → Option Nat} {E' : Env} {a' : Act} {n m : Nat} {sv : SV} (hp : sv.plain = true) (h : SlotR P S B E a w n sv) (hv : tv a' m = tv a n)
  (hbx : ∀ b, B' (.b b) = B (.b b)) (hal : ∀ s, sv.refs s = true → tv a' s = tv a s ∧ E'.g s = E.g s ∧ B' (.s s) = B (.s s)) : SlotR P S B' E' a' w m sv := by
 cases sv with
 | undef => trivial
 | val t x => simp only [SlotR] at h ⊢; rw [hv]; exact h
 | own id e xs => cases hp
 | full e xs => simp only [SlotR] at h ⊢; rw [hv]; exact h
 | alias s =>
  simp only [SlotR] at h ⊢
  obtain ⟨h1, h2, _⟩ := hal s (beq_self s)
  rw [hv, h1, h2]; exact h
 | cref t x => simp only [SlotR] at h ⊢; rw [hv]; exact h
 | eref s i e x =>
  simp only [SlotR] at h ⊢
  obtain ⟨h1, h2, h3⟩ := hal s (beq_self s)
  rw [hv, h2, h3]; exact h
 | ptr b off => simp only [SlotR] at h ⊢; rw [hv, hbx b]; exact h
 | rref b len e => simp only [SlotR] at h ⊢; rw [hv, hbx b]; exact h
 | rel b i e => simp only [SlotR] at h ⊢; rw [hv, hbx b]; exact h
 | clo φ => simp only [SlotR] at h ⊢; rw [hv]; exact h
 | agg l => cases hp
 | lenN k => simp only [SlotR] at h ⊢; rw [hv]; exact h
 | fn ty f c =>
  simp only [SlotR] at h ⊢
  obtain ⟨g, vs, h1, h2, h3⟩ := h
  exact ⟨g, vs, by rw [hv]; exact h1, h2.move (fun b _ => hbx b), h3⟩
 | fp ty f c =>
  simp only [SlotR] at h ⊢
  obtain ⟨g, vs, h1, h2, h3⟩ := h
  exact ⟨g, vs, by rw [hv]; exact h1, h2.move (fun b _ => hbx b), h3⟩
 | tup l => cases hp

theorem dropAt_ne {d s : Nat} (h : s ≠ d) : dropAt B d (.s s) = B (.s s) := by
 have : (Loc.s s).at d = false := beq_false h
 simp [dropAt, this]
theorem dropAt_b {d b : Nat} : dropAt B d (.b b) = B (.b b) := by
 have : (Loc.b b).at d = false := rfl
 simp [dropAt, this]

theorem g_set_leans {n d s : Nat} {sv sv' : SV} (hs : SlotR P S B E a w n sv) (hr : sv.refs s = true) (hd : s ≠ d) : (E.set d sv').g s = E.g s := by
 rw [Env.g_set, if_neg (Ne.symm hd)]
 split
 ·rename_i hh; rw [isOwn_refs (hs.leans hr)] at hh; cases hh.2
 ·rfl

/-- A content that is no row of its own, copied. -/
theorem goes_copy (h : Sim P C S B E a w) {n : Nat} {sv : SV} (hsv : SlotR P S B E a w n sv) (hpl : sv.plain = true) (hp : putM E.vw o.dst sv K = some r)
  (hrun : (execOp a.eval o).run P w = .ok (.value (tv a n)) w) : ∃ cs, K cs = some r ∧ Goes P C E a w o cs := by
 cases hd : o.dst with
 | none => rw [hd] at hp; simp [putM] at hp
 | some d =>
  rw [hd] at hp
  simp only [putM] at hp
  cases hr : sv.refs d
  ·rw [hr, cond_false] at hp
   obtain ⟨d', hd', hlt, hk⟩ := putC_some hp
   cases hd'
   refine ⟨_, hk, Goes.value (S' := S) (B' := dropAt B d) hrun ?_⟩
   rw [hd]
   have hdt : d < a.tmps.size := by rw [h.size]; exact hlt
   refine h.putPlain hlt (Below.refl _ _) (fun _ hb => hb) (fun _ hb => .inl hb) h.sub (hsv.copy hpl ?_ (fun b => dropAt_b) ?_)
   ·rw [tv_put hdt, if_pos rfl]
   ·intro s hs
    have hsd : s ≠ d := by rintro rfl; rw [hs] at hr; cases hr
    exact ⟨by rw [tv_put hdt, if_neg hsd], g_set_leans hsv hs hsd, dropAt_ne hsd⟩
  ·rw [hr] at hp; cases hp

theorem const_slot {Q : Nat → Prop} {ty : TypeId} {c : Value} {sv : SV} (hc : constSV T ty c = some sv) :
  (∃ t x, sv = .val t x ∧ ∀ S w, ValR S w t x c) ∨ ∃ id e, sv = .own id e [] ∧ c = .slice none 0 0 := by
 unfold constSV at hc
 split at hc
 ·simp only [Option.some.injEq] at hc; subst hc; exact .inl ⟨_, _, rfl, fun _ _ => ValR.int.2 rfl⟩
 ·simp only [Option.some.injEq] at hc; subst hc; exact .inl ⟨_, _, rfl, fun _ _ => ValR.bool.2 rfl⟩
 ·simp only [Option.some.injEq] at hc; subst hc; exact .inl ⟨_, _, rfl, fun _ _ => ValR.str.2 (by simp)⟩
 ·split at hc
  ·simp only [Option.some.injEq] at hc; subst hc; exact .inr ⟨_, _, rfl, rfl⟩
  ·cases hc
 ·cases hc

theorem OwnR.nil {S : Nat → Prop} {w : World} (id : TypeId) (e : Ty) : OwnR S w id e [] (.slice none 0 0) none :=
 ⟨[], World.ownsRow_nil w 0 id e.size, rfl, rfl⟩

/-- A slot given up. -/
theorem Sim.forget (h : Sim P C S B E a w) (s : Nat) : Sim P C S B (E.set s .undef) a w := by
 refine ⟨h.size, h.defers, h.kept, h.sub, h.frm, h.sup, h.inj, h.free, ?_, h.boxes, h.inb⟩
 intro n
 rw [Env.g_set]
 by_cases hsn : s = n
 ·rw [if_pos hsn]; trivial
 ·rw [if_neg hsn]
  split
  ·trivial
  ·rename_i hno
   refine (h.slots n).move (Keep.refl _ _) (fun _ hb => hb) rfl (fun _ _ => rfl) (fun _ _ _ _ => rfl) (fun _ _ => rfl) (fun s' hr => ⟨rfl, ?_, rfl⟩)
   have ho := (h.slots n).leans hr
   rw [Env.g_set]
   by_cases hss : s = s'
   ·subst hss; exact absurd ⟨ho, hr⟩ hno
   ·rw [if_neg hss]
    split
    ·rename_i hh; rw [isOwn_refs ho] at hh; cases hh.2
    ·rfl

/-- A row handed on from slot s to slot d. -/
theorem Sim.take (h : Sim P C S B E a w) {s d : Nat} (hd : d < E.nt) {id : TypeId} {e : Ty} {xs : List e.den} (hs : E.g s = .own id e xs) :
  Sim P C S (fun l => if l = .s d then B (.s s) else if l = .s s then none else dropAt B d l) ((E.set s .undef).set d (.own id e xs)) (a.put (some d) (tv a s)) w := by
 have hat : (Loc.s d).at d = true := beq_self d
 have hsl := h.slots s
 rw [hs] at hsl
 refine (h.forget s).put2 (M := fun _ => False) (F := fun l => l = .s s) hd (KeptBut.refl _ _) (fun _ hm => hm.elim) ?_ (fun _ hb => hb) (fun _ hb => .inl hb) h.sub ?_ ?_ ?_ ?_ ?_
 ·rintro l rfl
  refine ⟨fun n hn => ?_, rfl⟩
  rw [Env.g_set]
  by_cases hsn : s = n
  ·rw [if_pos hsn]; rfl
  ·rw [if_neg hsn]
   split
   ·rfl
   ·cases hnn : (E.g n).needs n (.s s)
    ·rfl
    ·exact absurd (Nat.eq_of_beq_eq_true (SV.needs_at hnn)) hsn
 ·intro l hld hlF
  have hne : l ≠ .s d := by rintro rfl; rw [hat] at hld; cases hld
  simp [hne, hlF, dropAt, hld]
 ·intro l hld hlF
  have hne : l ≠ .s d := by rintro rfl; rw [hat] at hld; cases hld
  rw [if_neg hne, if_pos hlF]
 ·intro l g hld hb
  by_cases hne : l = .s d
  ·subst hne
   simp only [if_true] at hb
   obtain ⟨f1, f2, _⟩ := h.free _ g hb
   exact ⟨.inr ⟨_, rfl, hb⟩, f2, f1⟩
  ·simp only [hne, if_false, dropAt, hld, if_true] at hb
   split at hb <;> cases hb
 ·intro l l' g hld hld' hb hb'
  have key : ∀ l : Loc, l.at d = true → (if l = .s d then B (.s s) else if l = .s s then none else dropAt B d l) = some g → l = .s d := fun l hld hb => by
   by_cases hne : l = .s d
   ·exact hne
   ·simp only [hne, if_false, dropAt, hld, if_true] at hb
    split at hb <;> cases hb
  rw [key l hld hb, key l' hld' hb']
 ·simp only [SlotR, if_true]
  rw [tv_put (by rw [h.size]; exact hd), if_pos rfl]
  exact hsl

/-- A row of its own turned into one of all. -/
theorem Sim.fz (h : Sim P C S B E a w) (s : Nat) : ∃ S' B', Sim P C S' B' (E.fz s) a w ∧ (∀ b, S b → S' b) ∧ (∀ b, S' b → AllS S B b) ∧ (∀ g, (E.g s).isOwn = true → B (.s s) = some g → S' g) ∧ (∀ l, l ≠ .s s → B' l = B l) ∧ (∀ l, B' l = B l ∨ B' l = none) := by
 unfold Env.fz
 cases hs : E.g s with
 | own id e xs =>
  have hsl := h.slots s
  rw [hs] at hsl
  dsimp only
  have hgn : ∀ n, (⟨E.nt, aset (amap (fzF s (.val (.slice e) xs)) E.sl) s (.val (.slice e) xs), E.bx⟩ : Env).g n = if s = n then .val (.slice e) xs else fzF s (.val (.slice e) xs) (E.g n) := by
   intro n
   simp only [Env.g, alook_aset, alook_amap]
   by_cases hsn : s = n
   ·simp [hsn]
   ·simp only [hsn, if_false]
    cases alook E.sl n <;> rfl
  let S' : Nat → Prop := fun b => S b ∨ B (.s s) = some b
  let B' : Loc → Option Nat := fun l => if l = .s s then none else B l
  have hsub : ∀ b, S b → S' b := fun b hb => .inl hb
  have hval : SliceR S' w e.size (Cells S' w e) xs (tv a s) :=
   OwnR.slice (OwnR.move (show OwnR S w id e xs (tv a s) (B (.s s)) from hsl) (Keep.refl _ _) hsub (fun _ _ => rfl)) (fun g hg => .inr hg)
  refine ⟨S', B', ?_, hsub, ?_, fun g _ hg => .inr hg, fun l hl => by simp [B', hl], fun l => ?_⟩
  ·refine ⟨h.size, h.defers, h.kept, ?_, ?_, fun b hb => .inl (h.sup b hb), ?_, ?_, ?_, ?_, fun b hb => (show B' (.b b) = B (.b b) by simp [B']).trans (h.inb b hb)⟩
   ·rintro b (hb | hb)
    ·exact h.sub b hb
    ·exact (h.free _ b hb).2.1
   ·rintro b (hb | hb)
    ·exact h.frm b hb
    ·exact .inr (h.free _ b hb).2.2
   ·intro l l' g h1 h2
    have k1 : B l = some g := by by_cases e1 : l = .s s <;> simp [B', e1] at h1; exact h1
    have k2 : B l' = some g := by by_cases e1 : l' = .s s <;> simp [B', e1] at h2; exact h2
    exact h.inj l l' g k1 k2
   ·intro l g h1
    have hne : l ≠ .s s := by rintro rfl; simp [B'] at h1
    have k1 : B l = some g := by simpa [B', hne] using h1
    obtain ⟨f1, f2, f3⟩ := h.free l g k1
    refine ⟨?_, f2, f3⟩
    rintro (hx | hx)
    ·exact f1 hx
    ·exact hne (h.inj l _ g k1 hx)
   ·intro n
    rw [hgn]
    by_cases hsn : s = n
    ·subst hsn; rw [if_pos rfl]; exact ValR.slice.2 hval
    ·rw [if_neg hsn]
     have hn := h.slots n
     by_cases hr : (E.g n).refs s = true
     ·cases hgnn : E.g n with
      | alias s' =>
       rw [hgnn] at hr hn
       have := Nat.eq_of_beq_eq_true hr
       subst this
       simp only [fzF, beq_self, cond_true]
       show ValR S' w _ _ _
       rw [hn.1]
       exact ValR.slice.2 hval
      | eref s' i e' x =>
       rw [hgnn] at hr
       have := Nat.eq_of_beq_eq_true hr
       subst this
       simp only [fzF, beq_self, cond_true]
       trivial
      | _ => rw [hgnn] at hr; simp [SV.refs] at hr
     ·have hf : fzF s (.val (.slice e) xs) (E.g n) = E.g n := by
       cases hgnn : E.g n with
       | alias s' => rw [hgnn] at hr; simp only [SV.refs, Bool.not_eq_true] at hr; simp [fzF, hr]
       | eref s' i e' x => rw [hgnn] at hr; simp only [SV.refs, Bool.not_eq_true] at hr; simp [fzF, hr]
       | _ => rfl
      rw [hf]
      refine hn.move (Keep.refl _ _) hsub rfl ?_ (fun _ _ _ _ => rfl) (fun _ _ => by simp [B']) ?_
      ·intro l hl
       have hne : l ≠ .s s := by
        rintro rfl
        exact hsn (Nat.eq_of_beq_eq_true (SV.needs_at hl))
       simp [B', hne]
      ·intro s' hr'
       have hss : s ≠ s' := by rintro rfl; exact hr hr'
       have ho := (h.slots n).leans hr'
       refine ⟨rfl, ?_, by simp [B', Ne.symm hss]⟩
       rw [hgn, if_neg hss]
       cases hgs : E.g s' <;> rw [hgs] at ho <;> simp [SV.isOwn] at ho
       rfl
   ·intro b l hb
    obtain ⟨g, h1, h2⟩ := h.boxes b l hb
    exact ⟨g, by simp [B', h1], h2.move (Keep.refl _ _) hsub rfl (fun j => ⟨by simp [B'], fun _ _ => rfl⟩)⟩
  ·rintro b (hb | hb)
   ·exact .inl hb
   ·exact .inr ⟨_, rfl, hb⟩
  ·by_cases hl : l = .s s
   ·exact .inr (by simp [B', hl])
   ·exact .inl (by simp [B', hl])
 | _ => exact ⟨S, B, h, fun _ hb => hb, fun _ hb => .inl hb, (fun g ho _ => by simp [SV.isOwn] at ho), fun _ _ => rfl, fun _ => .inl rfl⟩

theorem src_sound (h : Sim P C S B E a w) {x : Operand} {s : Nat} (hx : src E.vw x = some s) : (E.g s).isOwn = true ∧ a.eval x = tv a s := by
 cases x with
 | tmp t =>
  simp only [src, Env.vw] at hx
  have hs := h.slots t
  cases hn : E.g t with
  | alias s' => rw [hn] at hx hs; cases hx; exact ⟨hs.2, hs.1⟩
  | own id e xs => rw [hn] at hx; cases hx; rw [hn]; exact ⟨rfl, rfl⟩
  | _ => rw [hn] at hx; cases hx
 | _ => simp [src] at hx

theorem own_of {sv : SV} (h : sv.isOwn = true) : ∃ id e xs, sv = .own id e xs := by
 cases sv <;> simp [SV.isOwn] at h
 exact ⟨_, _, _, rfl⟩

/-- Rows of their own turned into ones of all. -/
theorem Sim.fzs : ∀ (ss : List Nat) {S : Nat → Prop} {B : Loc → Option Nat} {E : Env}, Sim P C S B E a w →
  ∃ S' B', Sim P C S' B' (E.run (ss.map .fz)) a w ∧ (∀ b, S b → S' b) ∧ (∀ b, S' b → AllS S B b) ∧ (∀ s ∈ ss, ∀ g, (E.g s).isOwn = true → B (.s s) = some g → S' g) ∧ (∀ l, B' l = B l ∨ B' l = none) ∧ (∀ l : Loc, l.isB = true → B' l = B l)
 | [], S, B, E, h => ⟨S, B, h, fun _ hb => hb, fun _ hb => .inl hb, fun _ hs => by simp at hs, fun _ => .inl rfl, fun _ _ => rfl⟩
 | s :: ss, S, B, E, h => by
  obtain ⟨S1, B1, h1, a1, b1, c1, d1, e1⟩ := h.fz s
  obtain ⟨S2, B2, h2, a2, b2, c2, e2, f2⟩ := Sim.fzs ss h1
  refine ⟨S2, B2, h2, fun b hb => a2 b (a1 b hb), ?_, ?_, ?_, fun l hl => (f2 l hl).trans (d1 _ (by rintro rfl; cases hl))⟩
  ·intro b hb
   rcases b2 b hb with hb | ⟨l, hl, hb⟩
   ·exact b1 b hb
   ·rcases e1 l with he | he
    ·exact .inr ⟨l, hl, by rw [← he]; exact hb⟩
    ·rw [he] at hb; cases hb
  ·intro s' hs' g ho hg
   by_cases hss : s' = s
   ·subst hss; exact a2 g (c1 g ho hg)
   ·rcases List.mem_cons.1 hs' with hs' | hs'
    ·exact absurd hs' hss
    ·refine c2 s' hs' g ?_ (by rw [d1 _ (by intro he; exact hss (by injection he))]; exact hg)
     unfold Env.fz
     cases hE : E.g s with
     | own id e xs =>
      obtain ⟨id', e', xs', hx⟩ := own_of ho
      simp only [Env.g] at hx hE ⊢
      simp only [alook_aset, alook_amap, Ne.symm hss, if_false]
      cases hq : alook E.sl s' with
      | none => rw [hq] at hx; cases hx
      | some u => rw [hq] at hx; simp only at hx; subst hx; rfl
     | _ => exact ho
  ·intro l
   rcases e2 l with he | he
   ·rw [he]; exact e1 l
   ·exact .inr he

/-- A value that is handed on for good. -/
theorem rd_esc (h : Sim P C S B E a w) {ty : TypeId} {x : Operand} {y : V} (hr : rd T E.vw ty x = some y) {S' : Nat → Prop} (hs : ∀ b, S b → S' b)
  (hg : ∀ s, src E.vw x = some s → ∀ g, B (.s s) = some g → S' g) : ValR S' w y.t y.x (a.eval x) := by
 have view : ∀ (n : Nat) (v : Value), tv a n = v → (E.g n).view = some y → (∀ g, (E.g n).isOwn = true → B (.s n) = some g → S' g) → ValR S' w y.t y.x v := by
  intro n v hv hy ho
  subst hv
  have hs' := h.slots n
  cases hn : E.g n with
  | val t x => rw [hn] at hy hs'; simp only [SV.view, Option.some.injEq] at hy; subst hy; exact ValR.mono hs' (Keep.refl _ _) hs
  | own id e xs =>
   rw [hn] at hy hs' ho; simp only [SV.view, Option.some.injEq] at hy; subst hy
   exact ValR.slice.2 (OwnR.slice (OwnR.move (show OwnR S w id e xs (tv a n) (B (.s n)) from hs') (Keep.refl _ _) hs (fun _ _ => rfl)) (fun g hgg => ho g rfl hgg))
  | full e xs => rw [hn] at hy hs'; simp only [SV.view, Option.some.injEq] at hy; subst hy; exact ValR.slice.2 ((FullR.mono hs' (Keep.refl _ _) hs).1)
  | _ => rw [hn] at hy; simp [SV.view] at hy
 cases x with
 | tmp t =>
  simp only [rd, Env.vw] at hr
  simp only [src, Env.vw] at hg
  have hs' := h.slots t
  show ValR S' w y.t y.x (tv a t)
  cases hn : E.g t with
  | alias s =>
   rw [hn] at hr hs' hg
   exact view s _ hs'.1.symm hr (fun g _ hgg => hg s rfl g hgg)
  | own id e xs => rw [hn] at hr hg; exact view t _ rfl (by rw [hn]; exact hr) (fun g _ hgg => hg t rfl g hgg)
  | _ => rw [hn] at hr; exact view t _ rfl (by rw [hn]; exact hr) (fun g ho _ => by rw [hn] at ho; simp [SV.isOwn] at ho)
 | const c =>
  simp only [rd] at hr
  cases hc : constSV T ty c with
  | none => rw [hc] at hr; cases hr
  | some sv =>
   rw [hc] at hr
   rcases const_slot (Q := fun _ => False) hc with ⟨t, x, rfl, hv⟩ | ⟨id, e, rfl, rfl⟩
   ·simp only [SV.view, Option.some.injEq] at hr; subst hr; exact hv _ _
   ·simp only [SV.view, Option.some.injEq] at hr; subst hr; exact ValR.slice.2 (.inl ⟨_, rfl, rfl⟩)
 | global g => simp [rd] at hr
 | func f => simp [rd] at hr

end
end Go.Proofs.YtecdijlfnnminaaGreatDoor.Eng
namespace Go.Proofs.YtecdijlfnnminaaGreatDoor.Eng
open Go Go.RowKit
set_option linter.unusedVariables false
set_option linter.unusedSimpArgs false

section
universe u
variable {R : Type u} {P : Program} {T : Tys} {C : Ctx} {S : Nat → Prop} {B : Loc → Option Nat} {E : Env} {a : Act} {w : World} {o : Oper} {r : R} {K : List Cmd → Option R}

/-- What an operation leads to, its orders being those that it gives. -/
def Ok (P : Program) (C : Ctx) (E : Env) (a : Act) (w : World) (o : Oper) (K : List Cmd → Option R) (r : R) : Prop := ∃ cs, K cs = some r ∧ Goes P C E a w o cs

/-- A tuple handed on. -/
theorem Sim.takeTup (h : Sim P C S B E a w) {t d : Nat} (hd : d < E.nt) {sv : SV} (hbig : (∃ l, sv = .tup l) ∨ ∃ l, sv = .agg l) (ht : E.g t = sv) :
  ∃ B', Sim P C S B' ((E.set t .undef).set d sv) (a.put (some d) (tv a t)) w := by
 have hsl := h.slots t
 rw [ht] at hsl
 let B' : Loc → Option Nat := fun l => match l with
  | .t m i => if m = d then B (.t t i) else if m = t then none else B (.t m i)
  | .s m => if m = d then none else B (.s m)
  | .b m => B (.b m)
  | .l m i => B (.l m i)
 refine ⟨B', (h.forget t).put2 (M := fun _ => False) (F := fun l => ∃ i, l = .t t i) hd (KeptBut.refl _ _) (fun _ hm => hm.elim) ?_ (fun _ hb => hb) (fun _ hb => .inl hb) h.sub ?_ ?_ ?_ ?_ ?_⟩
 ·rintro l ⟨i, rfl⟩
  refine ⟨fun n hn => ?_, rfl⟩
  rw [Env.g_set]
  by_cases hsn : t = n
  ·rw [if_pos hsn]; rfl
  ·rw [if_neg hsn]
   split
   ·rfl
   ·cases hnn : (E.g n).needs n (.t t i)
    ·rfl
    ·exact absurd (Nat.eq_of_beq_eq_true (SV.needs_at hnn)) hsn
 ·intro l hld hlF
  cases l with
  | s m =>
   have hm : m ≠ d := by rintro rfl; simp [Loc.at, beq_self] at hld
   simp [B', hm]
  | t m i =>
   have hm : m ≠ d := by rintro rfl; simp [Loc.at, beq_self] at hld
   have hmt : m ≠ t := by rintro rfl; exact hlF ⟨i, rfl⟩
   simp [B', hm, hmt]
  | b m => rfl
  | l m i => rfl
 ·rintro l hld ⟨i, rfl⟩
  have hm : t ≠ d := by rintro rfl; simp [Loc.at, beq_self] at hld
  simp [B', hm]
 ·intro l g hld hb
  cases l with
  | s m => have := Nat.eq_of_beq_eq_true hld; subst this; simp [B'] at hb
  | t m i =>
   have := Nat.eq_of_beq_eq_true hld; subst this
   simp only [B', if_true] at hb
   obtain ⟨f1, f2, _⟩ := h.free _ g hb
   exact ⟨.inr ⟨_, ⟨i, rfl⟩, hb⟩, f2, f1⟩
  | b m => cases hld
  | l m i => cases hld
 ·intro l l' g hld hld' hb hb'
  cases l with
  | s m => have := Nat.eq_of_beq_eq_true hld; subst this; simp [B'] at hb
  | b m => cases hld
  | l m i => cases hld
  | t m i =>
   have := Nat.eq_of_beq_eq_true hld; subst this
   cases l' with
   | s m' => have := Nat.eq_of_beq_eq_true hld'; subst this; simp [B'] at hb'
   | b m' => cases hld'
   | l m' i' => cases hld'
   | t m' i' =>
    have := Nat.eq_of_beq_eq_true hld'; subst this
    simp only [B', if_true] at hb hb'
    have := h.inj _ _ g hb hb'
    injection this with _ e2
    rw [e2]
 ·rcases hbig with ⟨l, rfl⟩ | ⟨l, rfl⟩
  ·simp only [SlotR] at hsl ⊢
   obtain ⟨vs, h1, h2, h3⟩ := hsl
   refine ⟨vs, by rw [tv_put (by rw [h.size]; exact hd), if_pos rfl]; exact h1, h2, fun i sv hi => ?_⟩
   simp only [B', if_true]
   exact h3 i sv hi
  ·simp only [SlotR] at hsl ⊢
   obtain ⟨vs, h1, h2⟩ := hsl
   refine ⟨vs, by rw [tv_put (by rw [h.size]; exact hd), if_pos rfl]; exact h1, ?_⟩
   simp only [B', if_true]
   exact h2

theorem valsOnly_at : ∀ {l : List SV} {i : Nat} {sv : SV}, valsOnly l = true → l[i]? = some sv → ∃ t x, sv = .val t x
 | .val t x :: _, 0, sv, _, h => by simp only [List.getElem?_cons_zero, Option.some.injEq] at h; exact ⟨t, x, h.symm⟩
 | .val _ _ :: l, i + 1, sv, hv, h => valsOnly_at (l := l) (i := i) hv (by simpa using h)
 | [], i, sv, _, h => by simp at h
 | .own _ _ _ :: _, _, _, hv, _ => by cases hv
 | .undef :: _, _, _, hv, _ => by cases hv
 | .full _ _ :: _, _, _, hv, _ => by cases hv
 | .alias _ :: _, _, _, hv, _ => by cases hv
 | .cref _ _ :: _, _, _, hv, _ => by cases hv
 | .eref _ _ _ _ :: _, _, _, hv, _ => by cases hv
 | .ptr _ _ :: _, _, _, hv, _ => by cases hv
 | .rref _ _ _ :: _, _, _, hv, _ => by cases hv
 | .rel _ _ _ :: _, _, _, hv, _ => by cases hv
 | .clo _ :: _, _, _, hv, _ => by cases hv
 | .tup _ :: _, _, _, hv, _ => by cases hv
 | .agg _ :: _, _, _, hv, _ => by cases hv
 | .lenN _ :: _, _, _, hv, _ => by cases hv
 | .fn _ _ _ :: _, _, _, hv, _ => by cases hv
 | .fp _ _ _ :: _, _, _, hv, _ => by cases hv
theorem evMove_ok (h : Sim P C S B E a w) {ty : TypeId} {x : Operand} (hrun : (execOp a.eval o).run P w = .ok (.value (a.eval x)) w) (hk : evMove T E.vw ty x o.dst K = some r) : Ok P C E a w o K r := by
 cases x with
 | tmp t =>
  simp only [evMove, Env.vw] at hk
  have hs := h.slots t
  have hrun' : (execOp a.eval o).run P w = .ok (.value (tv a t)) w := hrun
  cases hn : E.g t with
  | own id e xs =>
   rw [hn] at hk hs
   exact goes_copy h (n := t) (sv := .alias t) ⟨rfl, by rw [hn]; rfl⟩ rfl hk hrun'
  | undef => rw [hn] at hk; cases hk
  | tup l =>
   rw [hn] at hk hs
   dsimp only at hk
   cases hv : valsOnly l
   ·rw [hv, cond_false] at hk
    obtain ⟨d, hd, hlt, hk'⟩ := putC_some hk
    obtain ⟨B', hs'⟩ := h.takeTup hlt (.inl ⟨l, rfl⟩) hn
    exact ⟨_, hk', Goes.value hrun' (by rw [hd]; exact hs')⟩
   ·rw [hv, cond_true] at hk
    obtain ⟨d, hd, hlt, hk'⟩ := putC_some hk
    refine ⟨_, hk', Goes.value (S' := S) (B' := dropAt B d) hrun' ?_⟩
    rw [hd]
    have hdt : d < a.tmps.size := by rw [h.size]; exact hlt
    refine h.putPlain hlt (Below.refl _ _) (fun _ hb => hb) (fun _ hb => .inl hb) h.sub ?_
    obtain ⟨vs, e, hsz, hc⟩ := hs
    refine ⟨vs, by rw [tv_put hdt, if_pos rfl]; exact e, hsz, fun i sv hi => ?_⟩
    obtain ⟨t', x', rfl⟩ := valsOnly_at hv hi
    exact hc i _ hi
  | agg l =>
   rw [hn] at hk
   obtain ⟨d, hd, hlt, hk'⟩ := putC_some hk
   obtain ⟨B', hs'⟩ := h.takeTup hlt (.inr ⟨l, rfl⟩) hn
   exact ⟨_, hk', Goes.value hrun' (by rw [hd]; exact hs')⟩
  | _ => rw [hn] at hk hs; exact goes_copy h hs rfl hk hrun'
 | const c =>
  simp only [evMove] at hk
  cases hc : constSV T ty c with
  | none => rw [hc] at hk; cases hk
  | some sv =>
   rw [hc] at hk
   rcases const_slot (Q := fun _ => False) hc with ⟨t, y, rfl, hv⟩ | ⟨id, e, rfl, rfl⟩
   ·exact goes_val h hk (hv _ _) hrun
   ·obtain ⟨d, hd, hlt, hk'⟩ := putC_some hk
    refine ⟨_, hk', Goes.value' hrun ?_⟩
    rw [hd]
    exact ⟨_, _, h.putOwn hlt (Below.refl _ _) (fun _ hb => hb) (fun _ hb => .inl hb) h.sub (OwnR.nil id e) (fun g hg => by simp [Act.eval, Value.ownBlock] at hg)⟩
 | global g => simp [evMove] at hk
 | func f => simp [evMove] at hk

theorem evAssign_ok (h : Sim P C S B E a w) {sh : List Nat} {ty : TypeId} {x : Operand} (hrun : (execOp a.eval o).run P w = .ok (.value (a.eval x)) w) (hk : evAssign T E.vw sh ty x o.dst K = some r) : Ok P C E a w o K r := by
 unfold evAssign at hk
 split at hk
 ·rename_i s d hs hd
  obtain ⟨ho, hv⟩ := src_sound h hs
  obtain ⟨id, e, xs, hg⟩ := own_of ho
  have hg' : E.vw.g s = .own id e xs := hg
  rw [hg'] at hk
  rw [hv] at hrun
  dsimp only at hk
  cases hsh : sh.contains d
  ·rw [hsh, cond_false] at hk
   obtain ⟨d', hd', hlt, hk'⟩ := putC_some hk
   have : d = d' := by rw [hd] at hd'; exact Option.some.inj hd'
   subst this
   exact ⟨_, hk', Goes.value hrun (by rw [hd]; exact h.take hlt hg)⟩
  ·rw [hsh, cond_true] at hk
   obtain ⟨d', hd', hlt, hk'⟩ := putC_some hk
   have : d = d' := by rw [hd] at hd'; exact Option.some.inj hd'
   subst this
   obtain ⟨S', B', h1, hsub, _, hc, _, _⟩ := h.fz s
   have hgs : (E.fz s).g s = .val (.slice e) xs := by
    unfold Env.fz; rw [hg]; simp only [Env.g, alook_aset, if_true]
   have hsl := h1.slots s
   rw [hgs] at hsl
   refine ⟨_, hk', Goes.value hrun (S' := S') (B' := dropAt B' d) ?_⟩
   rw [hd]
   have hnt : (E.fz s).nt = E.nt := by unfold Env.fz; rw [hg]
   exact h1.putVal (by rw [hnt]; exact hlt) hsl
 ·exact evMove_ok h hrun hk

theorem evPick_ok (h : Sim P C S B E a w) {ty : TypeId} {c x y : Operand} (ho : o.op = .pick c x y) (hk : evPick T E.vw ty c x y o.dst K = some r) : Ok P C E a w o K r := by
 unfold evPick at hk
 split at hk
 ·rename_i t hc
  have hb := rd_bool h hc
  cases t
  ·simp only [Bool.false_eq_true, if_false] at hk
   exact evMove_ok h (by simp [execOp, ho, hb, asBool]) hk
  ·simp only [if_true] at hk
   exact evMove_ok h (by simp [execOp, ho, hb, asBool]) hk
 ·cases hk

theorem evPick2_ok (h : Sim P C S B E a w) {ty : TypeId} {c x y : Operand} (ho : o.op = .pick c x y) (hk : evPick2 T E.vw ty c x y o.dst K = some r) : Ok P C E a w o K r := by
 unfold evPick2 at hk
 split at hk
 ·rename_i t p q hc hx hy
  have hb := rd_bool h hc
  refine goes_val h hk (v := .bool (if t = true then p else q)) (ValR.bool.2 rfl) ?_
  have h1 := rd_bool h hx
  have h2 := rd_bool h hy
  cases t <;> simp [execOp, ho, hb, asBool, h1, h2]
 ·exact evPick_ok h ho hk

theorem bytes_toList (x : List UInt8) : (⟨x.toArray⟩ : ByteArray).toList = x := by
 have h : ∀ (n i : Nat) (acc : List UInt8), n = x.length - i → ByteArray.toList.loop ⟨x.toArray⟩ i acc = acc.reverse ++ x.drop i := by
  intro n
  induction n with
  | zero =>
   intro i acc hn
   unfold ByteArray.toList.loop
   have : ¬ i < (⟨x.toArray⟩ : ByteArray).size := by simp [ByteArray.size]; omega
   rw [if_neg this, List.drop_eq_nil_of_le (by omega)]
   simp
  | succ n ih =>
   intro i acc hn
   unfold ByteArray.toList.loop
   have hi : i < x.length := by omega
   have : i < (⟨x.toArray⟩ : ByteArray).size := by simpa [ByteArray.size] using hi
   rw [if_pos this, ih (i + 1) _ (by omega), List.drop_eq_getElem_cons hi]
   simp [ByteArray.get!, hi]
 unfold ByteArray.toList
 rw [h x.length 0 [] (by omega)]
 simp

theorem eqGuard_int {op : BinOp} {t : TypeId} {x y : Operand} {k : IntKind} {n : Int} {b : Value} : (eqGuard op t x y (.int k n) b).run P w = .ok () w := by
 cases op <;> simp [eqGuard]
theorem eqGuard_bool {op : BinOp} {t : TypeId} {x y : Operand} {n : Bool} {b : Value} : (eqGuard op t x y (.bool n) b).run P w = .ok () w := by
 cases op <;> simp [eqGuard]
theorem eqGuard_str {op : BinOp} {t : TypeId} {x y : Operand} {n : ByteArray} {b : Value} : (eqGuard op t x y (.string n) b).run P w = .ok () w := by
 cases op <;> simp [eqGuard]

/-! ### '==' of structs of numbers -/
theorem eqf_run (hTok : TOk P T) {A B' : Array Value} {d : Nat} : ∀ (fs : List Field) {t : Ty} {o : Nat} {x y : t.den} {cs ds : List Value}, fldsOk T t o (fs.map fun f => (f.type, f.offset)) = true → eqInts T (fs.map fun f => (f.type, f.offset)) = true →
  (fs.all fun f => f.name != "_") = true → Cells S w t x cs → Cells S w t y ds → A.toList.drop o = cs → B'.toList.drop o = ds → (Op.eqFields (d + 1) A B' fs).run P w = .ok (Ty.eqv t x y) w
 | [], t, o, x, y, cs, ds, hf, _, _, _, _, _, _ => by simp [fldsOk] at hf
 | f :: fs, t, o, x, y, cs, ds, hf, hi, hn, hx, hy, hA, hB => by
  simp only [List.map_cons, eqInts, Bool.and_eq_true] at hi
  obtain ⟨hi1, hi2⟩ := hi
  simp only [List.all_cons, Bool.and_eq_true] at hn
  have hnm : f.name ≠ "_" := by simpa using hn.1
  -- one field
  have one : ∀ {k : IntKind} {p q : Int} {c1 c2 : List Value}, T.ty f.type = some (.int k) → f.offset = o → cs = .int k p :: c1 → ds = .int k q :: c2 →
    (part f.type A f.offset).run P w = .ok (.int k p) w ∧ (part f.type B' f.offset).run P w = .ok (.int k q) w ∧ (Op.equalIn (d + 1) f.type (.int k p) (.int k q)).run P w = .ok (p == q) w := by
   intro k p q c1 c2 hty ho h1 h2
   have hu : P.underlying f.type = some (.int k) := by
    unfold Tys.ty at hty
    split at hty
    ·rename_i i hi'
     have := (hTok f.type i hi').und
     simp only [Option.some.injEq] at hty
     rw [hty] at this
     exact this
    ·cases hty
   have gA : A[o]? = some (.int k p) := by
    have := congrArg (·[0]?) hA
    simp only [h1, List.getElem?_drop, Nat.add_zero, List.getElem?_cons_zero] at this
    simpa using this
   have gB : B'[o]? = some (.int k q) := by
    have := congrArg (·[0]?) hB
    simp only [h2, List.getElem?_drop, Nat.add_zero, List.getElem?_cons_zero] at this
    simpa using this
   refine ⟨?_, ?_, ?_⟩
   ·rw [ho]; simp [part, isAgg, run_underlying hu, gA]
   ·rw [ho]; simp [part, isAgg, run_underlying hu, gB]
   ·simp [Op.equalIn, run_underlying hu]
  have isint : ∀ {t' : Ty}, T.ty f.type = some t' → ∃ k, t' = .int k := by
   intro t' h
   rw [h] at hi1
   cases t' <;> simp at hi1
   exact ⟨_, rfl⟩
  cases fs with
  | nil =>
   simp only [List.map_cons, List.map_nil, fldsOk, Bool.and_eq_true] at hf
   obtain ⟨⟨h1, h2⟩, h3⟩ := hf
   have ho := Nat.eq_of_beq_eq_true h1
   split at h2
   ·rename_i t' hty
    have ht := of_decide_eq_true h2
    subst ht
    obtain ⟨k, rfl⟩ := isint hty
    simp only [Cells] at hx hy
    obtain ⟨e1, e2, e3⟩ := one hty ho hx hy
    simp only [Op.eqFields, if_pos hnm, Sem.run_bind, e1, e2, e3, Result.andThen_ok, Ty.eqv]
    cases (x == y) <;> simp
   ·cases h2
  | cons f2 fs =>
   cases t with
   | pair p q =>
    simp only [List.map_cons, fldsOk, Bool.and_eq_true] at hf
    obtain ⟨⟨⟨h1, h2⟩, h3⟩, h4⟩ := hf
    have ho := Nat.eq_of_beq_eq_true h1
    split at h2
    ·rename_i t' hty
     have ht := of_decide_eq_true h2
     subst ht
     obtain ⟨k, rfl⟩ := isint hty
     obtain ⟨c1, c2, ec, hx1, hx2⟩ := hx
     obtain ⟨d1, d2, ed, hy1, hy2⟩ := hy
     simp only [Cells] at hx1 hy1
     subst hx1 hy1
     obtain ⟨e1, e2, e3⟩ := one hty ho ec ed
     have ih := eqf_run (d := d) hTok (f2 :: fs) (t := q) (o := o + 1) (x := x.2) (y := y.2) h4 hi2 hn.2 hx2 hy2
      (by rw [← List.drop_drop, hA, ec]; rfl) (by rw [← List.drop_drop, hB, ed]; rfl)
     rw [Op.eqFields]
     simp only [if_pos hnm, Sem.run_bind, e1, e2, e3, Result.andThen_ok, Ty.eqv]
     cases (x.1 == y.1)
     ·simp
     ·simpa using ih
    ·cases h2
   | _ => simp [fldsOk] at hf

theorem evBin_ok (hTok : TOk P T) (h : Sim P C S B E a w) {op : BinOp} {xt yt : TypeId} {x y : Operand} (ho : o.op = .binOp op xt x y yt) (hk : evBin T E.vw op xt x y yt o.dst K = some r) : Ok P C E a w o K r := by
 unfold evBin at hk
 split at hk
 ·rename_i p q hx hy
  have key : ∀ (t : Ty) (z : t.den) {v : Value}, (binOp op xt (a.eval x) (a.eval y)).run P w = .ok v w → (eqGuard op xt x y (a.eval x) (a.eval y)).run P w = .ok () w → ValR S w t z v → putC E.vw o.dst [] (.val t z) K = some r → Ok P C E a w o K r := by
   intro t z v hb hgd hv hk
   refine goes_val h hk hv ?_
   simp [execOp, ho, hgd, hb]
  cases p with | mk pt px =>
  cases q with | mk qt qx =>
  cases pt with
  | int k =>
   cases qt with
   | int k' =>
    have h1 := rd_int h hx
    have h2 := rd_int h hy
    have hna : (eqGuard op xt x y (a.eval x) (a.eval y)).run P w = .ok () w := by rw [h1]; exact eqGuard_int
    cases op <;> simp only [binV] at hk
    case shl =>
     split at hk
     ·cases hk
     ·rename_i hn
      refine key (.int k) _ (v := .int k (shlI k px qx)) ?_ hna (ValR.int.2 rfl) hk
      rw [h1, h2]; simp only [binOp, Op.shift, Sem.run_ite, if_neg hn, shlI]; rfl
    case shr =>
     split at hk
     ·cases hk
     ·rename_i hn
      refine key (.int k) _ (v := .int k (shrI k px qx)) ?_ hna (ValR.int.2 rfl) hk
      rw [h1, h2]; simp only [binOp, Op.shift, Sem.run_ite, if_neg hn, shrI]; rfl
    all_goals (
     by_cases hkk : k = k'
     ·subst hkk
      simp only [if_true] at hk
      first
      | exact key (.int k) _ (by rw [h1, h2]; simp only [binOp, ne_eq, not_true, if_false, Op.intArith]; rfl) hna (ValR.int.2 rfl) hk
      | exact key .bool _ (by rw [h1, h2]; simp only [binOp, ne_eq, not_true, if_false, Op.intCmp]; rfl) hna (ValR.bool.2 rfl) hk
      | exact key (.int k) _ (by rw [h1, h2]; simp only [binOp, ne_eq, not_true, if_false, Op.intBits]; rfl) hna (ValR.int.2 rfl) hk
      | (
       split at hk
       ·cases hk
       ·rename_i hn
        exact key (.int k) _ (by rw [h1, h2]; simp only [binOp, ne_eq, not_true, if_false, Op.intDiv, Sem.run_ite, if_neg hn]; rfl) hna (ValR.int.2 rfl) hk)
      | cases hk
     ·rw [if_neg hkk] at hk; cases hk)
   | _ => cases op <;> simp [binV] at hk
  | bool =>
   cases qt with
   | bool =>
    have h1 := rd_bool h hx
    have h2 := rd_bool h hy
    have hna : (eqGuard op xt x y (a.eval x) (a.eval y)).run P w = .ok () w := by rw [h1]; exact eqGuard_bool
    cases hT : eqOk T xt .bool
    ·rw [hT] at hk; cases op <;> simp [binV] at hk
    ·rw [hT] at hk
     have hT : T.ty xt = some .bool := by
      unfold eqOk at hT
      split at hT
      ·rename_i i1 i2 i3 hq; unfold Tys.ty; rw [hq]
      ·simp at hT
      ·cases hT
     ·skip
      have hu : P.underlying xt = some .bool := by
       unfold Tys.ty at hT
       split at hT
       ·rename_i i hi
        have := (hTok xt i hi).und
        simp only [Option.some.injEq] at hT
        rw [hT] at this
        exact this
       ·cases hT
      have he : ∀ b : Bool, (Op.equal xt (.bool px) (.bool qx)).run P w = .ok (px == qx) w := fun _ => run_equal_bool w xt px qx hu
      cases op <;> simp only [binV] at hk
      case eql =>
       refine key .bool _ (v := .bool (px == qx)) ?_ hna (ValR.bool.2 rfl) hk
       rw [h1, h2]; simp [binOp, he true]
      case neq =>
       refine key .bool _ (v := .bool (!(px == qx))) ?_ hna (ValR.bool.2 rfl) hk
       rw [h1, h2]; simp [binOp, he true]
      all_goals cases hk
   | _ => cases op <;> simp [binV] at hk
  | str =>
   cases qt with
   | str =>
    have h1 := rd_str h hx
    have h2 := rd_str h hy
    have hna : (eqGuard op xt x y (a.eval x) (a.eval y)).run P w = .ok () w := by rw [h1]; exact eqGuard_str
    cases op <;> simp only [binV] at hk
    case add =>
     cases hc : catI strMax px qx with
     | none => rw [hc] at hk; cases hk
     | some z =>
      rw [hc] at hk
      simp only [catI] at hc
      split at hc
      ·rename_i hle
       cases hc
       refine key .str _ (v := .string ⟨(px ++ qx).toArray⟩) ?_ hna (ValR.str.2 rfl) hk
       rw [h1, h2]
       have e : (⟨px.toArray⟩ : ByteArray) ++ ⟨qx.toArray⟩ = ⟨(px ++ qx).toArray⟩ := by
        apply ByteArray.ext
        simp [ByteArray.append_eq]
       simp only [binOp]
       exact (run_string_add_sum _ _ _ (by simpa [ByteArray.size, strMax] using hle)).trans (by rw [e])
      ·cases hc
    case eql =>
     refine key .bool _ (v := .bool (px == qx)) ?_ hna (ValR.bool.2 rfl) hk
     rw [h1, h2]; simp only [binOp, Op.stringOp, bytes_toList]; rfl
    case neq =>
     refine key .bool _ (v := .bool (!(px == qx))) ?_ hna (ValR.bool.2 rfl) hk
     rw [h1, h2]; simp only [binOp, Op.stringOp, bytes_toList]; rfl
    all_goals cases hk
   | _ => cases op <;> simp [binV] at hk
  | pair p q =>
   cases qt with
   | pair p' q' =>
    simp only [binV] at hk
    split at hk
    ·rename_i hpq
     cases hT : eqOk T xt (.pair p q)
     ·rw [hT] at hk; cases op <;> simp at hk
     ·rw [hT, cond_true] at hk
      unfold eqOk at hT
      split at hT
      ·cases hT
      ·rename_i a1 b1 i1 i2 fl hq
       simp only [Bool.and_eq_true] at hT
       have he1 := of_decide_eq_true hT.1
       injection hpq with e1 e2
       subst e1 e2
       have hfit := hTok xt _ hq
       obtain ⟨fs, hu, hm, hfl⟩ := hfit.und
       have heq : eqB P xt = true := by
        rcases hfit.eq with h0 | h0
        ·have : eqInts T fl = true := hT.2
         simpa [this] using h0
        ·exact absurd rfl (h0 a1 b1)
       unfold eqB at heq
       rw [hu] at heq
       simp only [Bool.and_eq_true, Bool.not_eq_true'] at heq
       obtain ⟨⟨hn1, hn2⟩, hn3⟩ := heq
       have hx1 : ValR S w (.pair p q) px (a.eval x) := rd_sound h hx
       have hy1 : ValR S w (.pair p q) qx (a.eval y) := rd_sound h hy
       obtain ⟨cs, hcs, hvx⟩ := hx1
       obtain ⟨ds, hds, hvy⟩ := hy1
       have hax : a.eval x = .agg cs.toArray := hvx
       have hay : a.eval y = .agg ds.toArray := hvy
       have hna : (eqGuard op xt x y (a.eval x) (a.eval y)).run P w = .ok () w := by
        rw [hax, hay]
        cases op <;> simp [eqGuard, hn3]
       have hfo : P.fieldsOf xt = fs := by simp [Program.fieldsOf, hu]
       have hrun : (Op.equal xt (a.eval x) (a.eval y)).run P w = .ok (Ty.eqv (.pair p q) px qx) w := by
        rw [hax, hay]
        show (Op.equalIn (9998 + 1 + 1) xt _ _).run P w = _
        rw [run_equalIn_struct (P := P) w (9998 + 1) xt _ _ (by rw [hfo]; exact hu) hn2, hfo]
        have hm' : fs.toList.map (fun f => (f.type, f.offset)) = fl := hm
        exact eqf_run hTok fs.toList (t := .pair p q) (o := 0) (by rw [hm', ← he1]; exact hfl) (by rw [hm']; exact hT.2) hn1 hcs hds rfl rfl
       cases op <;> simp only at hk
       case eql =>
        refine key .bool _ (v := .bool (Ty.eqv (.pair p q) px qx)) ?_ hna (ValR.bool.2 rfl) hk
        rw [hax, hay] at hrun ⊢
        simp [binOp, hrun]
       case neq =>
        refine key .bool _ (v := .bool (!(Ty.eqv (.pair p q) px qx))) ?_ hna (ValR.bool.2 rfl) hk
        rw [hax, hay] at hrun ⊢
        simp [binOp, hrun]
       all_goals cases hk
      ·cases hT
    ·cases hk
   | _ => cases op <;> simp [binV] at hk
  | _ => cases op <;> simp [binV] at hk
 ·cases hk

end
end Go.Proofs.YtecdijlfnnminaaGreatDoor.Eng
namespace Go.Proofs.YtecdijlfnnminaaGreatDoor.Eng
open Go Go.RowKit
set_option linter.unusedVariables false
set_option linter.unusedSimpArgs false

section
universe u
variable {R : Type u} {P : Program} {T : Tys} {C : Ctx} {S : Nat → Prop} {B : Loc → Option Nat} {E : Env} {a : Act} {w : World} {o : Oper} {r : R} {K : List Cmd → Option R}

theorem ty_fits (hT : TOk P T) {t : TypeId} {ty : Ty} (h : T.ty t = some ty) : ∃ i, alook T t = some i ∧ i.ty = ty ∧ TFits P T t i := by
 unfold Tys.ty at h
 split at h
 ·rename_i i hi
  simp only [Option.some.injEq] at h
  exact ⟨i, hi, h, hT t i hi⟩
 ·cases h

theorem und_int (hT : TOk P T) {t : TypeId} {k : IntKind} (h : T.ty t = some (.int k)) : P.underlying t = some (.int k) := by
 obtain ⟨i, _, h2, h3⟩ := ty_fits hT h
 have := h3.und; rw [h2] at this; exact this
theorem und_bool (hT : TOk P T) {t : TypeId} (h : T.ty t = some .bool) : P.underlying t = some .bool := by
 obtain ⟨i, _, h2, h3⟩ := ty_fits hT h
 have := h3.und; rw [h2] at this; exact this
theorem und_str (hT : TOk P T) {t : TypeId} (h : T.ty t = some .str) : P.underlying t = some .string := by
 obtain ⟨i, _, h2, h3⟩ := ty_fits hT h
 have := h3.und; rw [h2] at this; exact this
theorem und_slice (hT : TOk P T) {t : TypeId} {e : Ty} (h : T.ty t = some (.slice e)) :
  ∃ i, alook T t = some i ∧ P.underlying t = some (.slice i.elem) ∧ T.ty i.elem = some e ∧ 0 < e.size ∧ (P.info? i.elem).map (·.bytes) = some i.eb := by
 obtain ⟨i, h1, h2, h3⟩ := ty_fits hT h
 have := h3.und; rw [h2] at this
 exact ⟨i, h1, this⟩
theorem size_of (hT : TOk P T) {t : TypeId} {ty : Ty} (h : T.ty t = some ty) : (sizeOf t).run P w = .ok ty.size w := by
 obtain ⟨i, _, h2, h3⟩ := ty_fits hT h
 have := h3.size
 cases hi : P.info? t with
 | none => rw [hi] at this; cases this
 | some j => rw [hi] at this; simp only [Option.map_some, Option.some.injEq] at this; simp [sizeOf, typeInfo, hi, this, h2]
theorem is_agg (hT : TOk P T) {t : TypeId} {ty : Ty} (h : T.ty t = some ty) : (isAgg t).run P w = .ok ty.agg w := by
 obtain ⟨i, _, h2, h3⟩ := ty_fits hT h
 have hu := h3.und
 rw [h2] at hu
 unfold isAgg
 rw [Sem.run_bind]
 cases ty with
 | unit => exact hu.elim
 | pair x y => obtain ⟨fs, hu, _⟩ := hu; rw [run_underlying hu]; rfl
 | slice e => rw [run_underlying hu.1]; rfl
 | int k => rw [run_underlying hu]; rfl
 | bool => rw [run_underlying hu]; rfl
 | str => rw [run_underlying hu]; rfl

/-- A variable loaded. -/
theorem run_loadVar (hT : TOk P T) {t : TypeId} {ty : Ty} (h : T.ty t = some ty) {x : ty.den} {cs : List Value} (hc : Cells S w ty x cs) {b off : Nat}
  (hj : ∀ j u, cs[j]? = some u → w.cell? ⟨b, off + j, none⟩ = some u) : (loadVar t ⟨b, off, none⟩).run P w = .ok (pack ty cs) w := by
 have hl := hc.length
 unfold loadVar
 rw [Sem.run_bind, is_agg hT h, Result.andThen_ok]
 cases ha : ty.agg
 ·simp only [Bool.false_eq_true, if_false, run_load]
  have h1 : ty.size = 1 := by cases ty <;> simp_all [Ty.agg, Ty.size]
  rw [h1] at hl
  obtain ⟨u, rfl⟩ := List.length_eq_one_iff.1 hl
  have := hj 0 u rfl
  rw [Nat.add_zero] at this
  rw [this]
  simp [pack, ha]
 ·simp only [if_true, Sem.run_bind, size_of hT h, Result.andThen_ok]
  rw [← hl, run_loadCells_list w ⟨b, off, none⟩ cs (fun j u hu => by rw [Addr.add_lit]; exact hj j u hu)]
  simp [pack, ha]

theorem evUn_ok (h : Sim P C S B E a w) {op : UnOp} {xt : TypeId} {x : Operand} (ho : o.op = .unOp op xt x) (hk : evUn T E.vw op xt x o.dst K = some r) : Ok P C E a w o K r := by
 unfold evUn at hk
 split at hk
 ·rename_i hx
  have h1 := rd_bool h hx
  exact goes_val h hk (ValR.bool.2 rfl) (by simp [execOp, ho, h1, Op.unary])
 ·rename_i k n hx
  have h1 := rd_int h hx
  exact goes_val h hk (ValR.int.2 rfl) (by simp [execOp, ho, h1, Op.unary, Op.intArith])
 ·cases hk

theorem run_builtin {c : Call} {b : Builtin} (ho : o.op = .call c) (hc : c.callee = .builtin b) :
  ∃ cs, (execOp a.eval o).run P w = (builtin b c.argTypes o.type cs (c.args.map a.eval)).run P w :=
 ⟨_, by simp only [execOp, ho, resolve, hc, Sem.run_bind, Sem.run_pure, Result.andThen_ok, invoke]; rfl⟩

theorem toList_one {α : Type} {xs : Array α} {x : α} (h : xs.toList = [x]) : xs = #[x] := by
 apply Array.ext'; simpa using h
theorem toList_two {α : Type} {xs : Array α} {x y : α} (h : xs.toList = [x, y]) : xs = #[x, y] := by
 apply Array.ext'; simpa using h

theorem SliceR.form {Q : Nat → Prop} {sz : Nat} {α : Type} {Rl : α → List Value → Prop} {xs : List α} {v : Value} (h : SliceR Q w sz Rl xs v) : ∃ ad cap, v = .slice ad xs.length cap := by
 rcases h with ⟨_, rfl, rfl⟩ | ⟨b, off, cap, rfl, _⟩
 ·exact ⟨_, _, rfl⟩
 ·exact ⟨_, _, rfl⟩

theorem evLen_ok (hT : TOk P T) (h : Sim P C S B E a w) {c : Call} {ty : TypeId} {x : Operand} (ho : o.op = .call c) (hc : c.callee = .builtin .len) (hxs : c.args.toList = [x]) (hts : c.argTypes.toList = [ty])
  (hk : evLen T E.vw ty x o.dst K = some r) : Ok P C E a w o K r := by
 obtain ⟨cs, hrun⟩ := run_builtin (P := P) (w := w) (a := a) ho hc
 rw [toList_one hxs, toList_one hts] at hrun
 unfold evLen at hk
 split at hk
 ·rename_i e e' xs hty hx
  obtain ⟨i, _, hu, _⟩ := und_slice hT hty
  obtain ⟨ad, cap, hv⟩ := (rd_slice h hx).form
  refine goes_val h hk (v := .int .i64 xs.length) (ValR.int.2 rfl) ?_
  rw [hrun]
  simp [builtin, Builtin.len_, hv, run_underlying hu, goInt]
 ·rename_i s hty hx
  have hu := und_str hT hty
  have hv := rd_str h hx
  refine goes_val h hk (v := .int .i64 s.length) (ValR.int.2 rfl) ?_
  rw [hrun]
  have e : (⟨s.toArray⟩ : ByteArray).size = s.length := by show s.toArray.size = _; simp
  simp [builtin, Builtin.len_, hv, run_underlying hu, goInt, e]
 ·rename_i e hty hx
  obtain ⟨i, _, hu, _⟩ := und_slice hT hty
  cases x with
  | tmp t =>
   have hs := h.slots t
   have hgt : E.vw.g t = E.g t := rfl
   simp only [rlen, hgt] at hk
   cases hn : E.g t with
   | rref k' len e' =>
    rw [hn] at hk hs
    simp only at hk
    obtain ⟨g, cap, _, hv⟩ := hs
    have hv' : a.eval (.tmp t) = .slice (some ⟨g, 0, none⟩) len cap := hv
    refine goes_val h hk (v := .int .i64 len) (ValR.int.2 rfl) ?_
    rw [hrun]
    simp [builtin, Builtin.len_, hv', run_underlying hu, goInt]
   | lenN n0 =>
    rw [hn] at hk hs
    simp only at hk
    obtain ⟨ad, cap, hv⟩ := hs
    have hv' : a.eval (.tmp t) = .slice ad n0 cap := hv
    refine goes_val h hk (v := .int .i64 n0) (ValR.int.2 rfl) ?_
    rw [hrun]
    simp [builtin, Builtin.len_, hv', run_underlying hu, goInt]
   | _ => rw [hn] at hk; cases hk
  | _ => simp [rlen] at hk
 ·cases hk

theorem rdI_some {α : Type} {xs : List α} {n : Int} {y : α} (h : rdI xs n = some y) : 0 ≤ n ∧ n.toNat < xs.length ∧ xs[n.toNat]? = some y := by
 unfold rdI at h
 split at h
 ·exact ⟨‹_›, (List.getElem?_eq_some_iff.1 h).1, h⟩
 ·cases h

theorem run_indexAt (hT : TOk P T) {ty : TypeId} {e : Ty} (hty : T.ty ty = some (.slice e)) {b off len cap : Nat} {k : IntKind} {n : Int} (h0 : 0 ≤ n) (h1 : n < len) :
  (Instr.indexAt ty (.slice (some ⟨b, off, none⟩) len cap) (.int k n)).run P w = .ok (.pointer (some ⟨b, off + n.toNat * e.size, none⟩)) w := by
 obtain ⟨i, _, hu, he, _⟩ := und_slice hT hty
 simp [Instr.indexAt, asIntOf, run_underlying hu, h0, h1, size_of hT he, Addr.add_lit]

theorem evIndexAddr_ok (hT : TOk P T) (h : Sim P C S B E a w) {ty : TypeId} {x i : Operand} (ho : o.op = .indexAddr ty x i) (hk : evIndexAddr T E.vw ty x i o.dst K = some r) : Ok P C E a w o K r := by
 unfold evIndexAddr at hk
 split at hk
 ·rename_i t k n e' hi hty
  have hn := rd_int h hi
  split at hk
  ·rename_i s hs
   obtain ⟨hown, hv⟩ := src_sound h hs
   obtain ⟨id, e, xs, hg⟩ := own_of hown
   have hg' : E.vw.g s = .own id e xs := hg
   rw [hg'] at hk
   dsimp only at hk
   split at hk
   ·rename_i hee
    subst hee
    cases hr : rdI xs n with
    | none => rw [hr] at hk; cases hk
    | some y =>
     rw [hr] at hk
     obtain ⟨h0, h1, h2⟩ := rdI_some hr
     have hsl := h.slots s
     rw [hg] at hsl
     obtain ⟨cs, hown', hrow, hob⟩ := hsl
     rcases hown'.2 with ⟨_, hz⟩ | ⟨g, cap, cur, hvv, _, hgg, hnc, _⟩
     ·omega
     ·have hB : B (.s s) = some g := by rw [← hob, hvv]; rfl
      have hrun : (execOp a.eval o).run P w = .ok (.value (.pointer (some ⟨g, n.toNat * e.size, none⟩))) w := by
       have := run_indexAt (w := w) hT hty (b := g) (off := 0) (len := xs.length) (cap := cap) (k := k) h0 (by omega)
       rw [Nat.zero_add] at this
       simp only [execOp, ho, hv, hvv, hn, Sem.run_bind, this, Result.andThen_ok, Sem.run_pure]
      -- as a copy of what such a slot would tell
      cases hd : o.dst with
      | none => rw [hd] at hk; simp [putM] at hk
      | some d =>
       rw [hd] at hk
       simp only [Option.bind_some, putM] at hk
       cases hrd : (SV.eref s n e (some y)).refs d
       ·rw [hrd, cond_false] at hk
        obtain ⟨d', hd', hlt, hk'⟩ := putC_some hk
        have : d = d' := Option.some.inj hd'
        subst this
        have hsd : s ≠ d := by rintro rfl; simp [SV.refs, beq_self] at hrd
        refine ⟨_, hk', Goes.value (S' := S) (B' := dropAt B d) hrun ?_⟩
        rw [hd]
        have hdt : d < a.tmps.size := by rw [h.size]; exact hlt
        refine h.putPlain hlt (Below.refl _ _) (fun _ hb => hb) (fun _ hb => .inl hb) h.sub ?_
        refine ⟨id, xs, g, ?_, by rw [dropAt_ne hsd]; exact hB, h0, h1, fun z hz => by cases hz; exact h2, by rw [tv_put hdt, if_pos rfl]⟩
        rw [Env.g_set, if_neg (Ne.symm hsd), hg]
        simp [SV.refs]
       ·rw [hrd] at hk; cases hk
   ·cases hk
  ·rename_i hs
   split at hk
   ·rename_i k0 len e hn0
    split at hk
    ·rename_i hee
     subst hee
     split at hk
     ·rename_i h0
      split at hk
      ·rename_i h1
       have hsl := h.slots t
       have hgt : E.g t = .rref k0 len e := hn0
       rw [hgt] at hsl
       obtain ⟨g, cap, hB, hv⟩ := hsl
       have hv' : a.eval (.tmp t) = .slice (some ⟨g, 0, none⟩) len cap := hv
       have hrun : (execOp a.eval o).run P w = .ok (.value (.pointer (some ⟨g, n.toNat * e.size, none⟩))) w := by
        have := run_indexAt (w := w) hT hty (b := g) (off := 0) (len := len) (cap := cap) (k := k) h0 h1
        rw [Nat.zero_add] at this
        simp only [execOp, ho, hv', hn, Sem.run_bind, this, Result.andThen_ok, Sem.run_pure]
       obtain ⟨d, hd, hlt, hk'⟩ := putC_some hk
       refine ⟨_, hk', Goes.value (S' := S) (B' := dropAt B d) hrun ?_⟩
       rw [hd]
       have hdt : d < a.tmps.size := by rw [h.size]; exact hlt
       refine h.putPlain hlt (Below.refl _ _) (fun _ hb => hb) (fun _ hb => .inl hb) h.sub ?_
       exact ⟨g, by rw [dropAt_b]; exact hB, h0, by rw [tv_put hdt, if_pos rfl]⟩
      ·cases hk
     ·cases hk
    ·cases hk
   split at hk
   ·rename_i e xs hv
    split at hk
    ·rename_i hee
     subst hee
     cases hr : rdI xs n with
     | none => rw [hr] at hk; cases hk
     | some y =>
      rw [hr] at hk
      simp only [Option.bind_some] at hk
      obtain ⟨h0, h1, h2⟩ := rdI_some hr
      have hsl := h.slots t
      have hS : SliceR S w e.size (Cells S w e) xs (tv a t) := by
       have hgt : E.vw.g t = E.g t := rfl
       rw [hgt] at hv
       cases hgn : E.g t with
       | val t' x' => rw [hgn] at hv hsl; simp only [SV.view, Option.some.injEq] at hv; cases hv; exact ValR.slice.1 hsl
       | full e' x' => rw [hgn] at hv hsl; simp only [SV.view, Option.some.injEq] at hv; cases hv; exact hsl.1
       | own id e' x' => simp only [src, hgt, hgn] at hs; cases hs
       | _ => rw [hgn] at hv; simp [SV.view] at hv
      rcases hS with ⟨_, _, hz⟩ | ⟨b, off, cap, hvv, hc, hm, hb, hl, he⟩
      ·rw [hz] at h1; simp at h1
      ·obtain ⟨cs, hcs, hj⟩ := he n.toNat h1
       have hy : xs[n.toNat] = y := by rw [List.getElem?_eq_getElem h1] at h2; exact Option.some.inj h2
       rw [hy] at hcs
       have hrun : (execOp a.eval o).run P w = .ok (.value (.pointer (some ⟨b, off + n.toNat * e.size, none⟩))) w := by
        have := run_indexAt (w := w) hT hty (b := b) (off := off) (len := xs.length) (cap := cap) (k := k) h0 (by omega)
        have e1 : a.eval (.tmp t) = tv a t := rfl
        simp only [execOp, ho, e1, hvv, hn, Sem.run_bind, this, Result.andThen_ok, Sem.run_pure]
       obtain ⟨d, hd, hlt, hk'⟩ := putC_some hk
       refine ⟨_, hk', Goes.value (S' := S) (B' := dropAt B d) hrun ?_⟩
       rw [hd]
       have hdt : d < a.tmps.size := by rw [h.size]; exact hlt
       refine h.putPlain hlt (Below.refl _ _) (fun _ hb => hb) (fun _ hb => .inl hb) h.sub ?_
       exact ⟨b, off + n.toNat * e.size, cs, by rw [tv_put hdt, if_pos rfl], hb, hl, hcs, hj⟩
    ·cases hk
   ·cases hk
 ·cases hk

end
end Go.Proofs.YtecdijlfnnminaaGreatDoor.Eng
namespace Go.Proofs.YtecdijlfnnminaaGreatDoor.Eng
open Go Go.RowKit
set_option linter.unusedVariables false
set_option linter.unusedSimpArgs false

section
universe u
variable {R : Type u} {P : Program} {T : Tys} {C : Ctx} {S : Nat → Prop} {B : Loc → Option Nat} {E : Env} {a : Act} {w : World} {o : Oper} {r : R} {K : List Cmd → Option R}

/-- More memory of all. -/
theorem Sim.more (h : Sim P C S B E a w) {S' : Nat → Prop} (hs : ∀ b, S b → S' b) (hn : ∀ b, S' b → S b ∨ (b < w.heap.size ∧ (C.w0.heap.size ≤ b ∨ C.O b) ∧ ∀ l, B l ≠ some b)) : Sim P C S' B E a w := by
 refine ⟨h.size, h.defers, h.kept, ?_, ?_, fun b hb => hs b (h.sup b hb), h.inj, ?_, ?_, ?_, h.inb⟩
 ·intro b hb
  rcases hn b hb with hb | hb
  ·exact h.sub b hb
  ·exact hb.1
 ·intro b hb
  rcases hn b hb with hb | hb
  ·exact h.frm b hb
  ·exact .inr hb.2.1
 ·intro k g hg
  obtain ⟨f1, f2, f3⟩ := h.free k g hg
  refine ⟨fun hx => ?_, f2, f3⟩
  rcases hn g hx with hx | hx
  ·exact f1 hx
  ·exact hx.2.2 k hg
 ·intro n
  exact (h.slots n).move (Keep.refl _ _) hs rfl (fun _ _ => rfl) (fun _ _ _ _ => rfl) (fun _ _ => rfl) (fun s hr => ⟨rfl, rfl, rfl⟩)
 ·intro b l hl
  obtain ⟨g, hg, hx⟩ := h.boxes b l hl
  exact ⟨g, hg, hx.move (Keep.refl _ _) hs rfl (fun _ => ⟨rfl, fun _ _ => rfl⟩)⟩

/-- A slot told otherwise. -/
theorem Sim.tell (h : Sim P C S B E a w) {s : Nat} {sv : SV} (hsv : ∀ B', (∀ l, l.at s = false → B' l = B l) → (∀ l, B' l = B l ∨ B' l = none) → SlotR P S B' (E.set s sv) a w s sv) :
  Sim P C S (dropAt B s) (E.set s sv) a w := by
 have hdr : ∀ l, dropAt B s l = B l ∨ dropAt B s l = none := fun l => by unfold dropAt; split <;> simp
 have back : ∀ {l : Loc} {g : Nat}, dropAt B s l = some g → B l = some g := fun {l g} hg => by
  rcases hdr l with h1 | h1
  ·rw [← h1]; exact hg
  ·rw [h1] at hg; cases hg
 refine ⟨h.size, h.defers, h.kept, h.sub, h.frm, h.sup, fun l l' g h1 h2 => h.inj l l' g (back h1) (back h2), fun l g h1 => h.free l g (back h1), ?_, ?_, fun b hb => (dropAt_b).trans (h.inb b hb)⟩
 ·intro n
  rw [Env.g_set]
  by_cases hsn : s = n
  ·subst hsn; rw [if_pos rfl]; exact hsv _ (fun l hl => by simp [dropAt, hl]) hdr
  ·rw [if_neg hsn]
   split
   ·trivial
   ·rename_i hno
    refine (h.slots n).move (Keep.refl _ _) (fun _ hx => hx) rfl (fun l hl => ?_) (fun _ _ _ _ => rfl) (fun b _ => dropAt_b) (fun s' hr => ?_)
    ·have hat := SV.needs_at hl
     have : l.at s = false := by
      cases l with
      | b _ => cases hat
      | l _ _ => cases hat
      | s m => have := Nat.eq_of_beq_eq_true hat; subst this; exact beq_false (Ne.symm hsn)
      | t m i => have := Nat.eq_of_beq_eq_true hat; subst this; exact beq_false (Ne.symm hsn)
     simp [dropAt, this]
    ·have ho := (h.slots n).leans hr
     have hne : s' ≠ s := by rintro rfl; exact hno ⟨ho, hr⟩
     refine ⟨rfl, ?_, dropAt_ne hne⟩
     rw [Env.g_set, if_neg (Ne.symm hne)]
     split
     ·rename_i hh; rw [isOwn_refs ho] at hh; cases hh.2
     ·rfl
 ·intro b l hl
  have hl' : alook E.bx b = some l := hl
  obtain ⟨g, h1, h2⟩ := h.boxes b l hl'
  exact ⟨g, by rw [dropAt_b]; exact h1, h2.move (Keep.refl _ _) (fun _ hx => hx) rfl (fun j => ⟨by simp [dropAt, Loc.at], fun _ _ => rfl⟩)⟩

theorem aset_aset {α : Type _} (n : Nat) (u v : α) : ∀ l : List (Nat × α), aset (aset l n u) n v = aset l n v
 | [] => by simp [aset, beq_self]
 | (k, x) :: r => by
  simp only [aset]
  by_cases h : k = n
  ·subst h; simp [aset, beq_self]
  ·simp only [beq_false h, cond_false]
   cases hb : Nat.blt n k
   ·simp [aset, beq_false h, hb, aset_aset n u v r]
   ·simp [aset, beq_self]
theorem set_set (E : Env) {s : Nat} {u v : SV} (hu : u.isOwn = false) : (E.set s u).set s v = E.set s v := by
 have e1 : ((E.set s u).g s).isOwn = false := by rw [Env.g_set, if_pos rfl]; exact hu
 unfold Env.set at e1 ⊢
 rw [e1]
 cases (E.g s).isOwn <;> simp [aset_aset]

end
end Go.Proofs.YtecdijlfnnminaaGreatDoor.Eng
namespace Go.Proofs.YtecdijlfnnminaaGreatDoor.Eng
open Go Go.RowKit
set_option linter.unusedVariables false
set_option linter.unusedSimpArgs false

section
universe u
variable {R : Type u} {P : Program} {T : Tys} {C : Ctx} {S : Nat → Prop} {B : Loc → Option Nat} {E : Env} {a : Act} {w : World} {o : Oper} {r : R} {K : List Cmd → Option R}

theorem OwnR.elem {id : TypeId} {e : Ty} {xs : List e.den} {v : Value} {g : Nat} (h : OwnR S w id e xs v (some g)) {i : Nat} (hi : i < xs.length) :
  ∃ c, Cells S w e xs[i] c ∧ ∀ j u, c[j]? = some u → w.cell? ⟨g, i * e.size + j, none⟩ = some u := by
 obtain ⟨cs, h1, h2, h3⟩ := h
 rcases h1.2 with ⟨rfl, _⟩ | ⟨g', cap, cur, hv, _, hg, hnc, hcm, hcs, htake⟩
 ·cases h3
 ·subst hv
  have : g' = g := by simpa [Value.ownBlock] using h3
  subst this
  obtain ⟨c, hc, hj⟩ := h2.at i hi
  refine ⟨c, hc, fun j u hu => ?_⟩
  have := hj j u hu
  rw [cell_of_row w g' _ cur id (0, 0) hg]
  rw [← htake, List.getElem?_take] at this
  split at this
  ·simpa using this
  ·cases this

theorem LeavesR.drop {ob : Nat → Option Nat} {i : Nat} {l : List V} {cs : List Value} (h : LeavesR S w ob i l cs) : ∀ n : Nat, LeavesR S w ob (i + n) (l.drop n) (cs.drop n)
 | 0 => h
 | n + 1 => by
  rw [show i + (n + 1) = i + 1 + n by omega]
  cases l with
  | nil => simp only [LeavesR] at h; subst h; simp [LeavesR]
  | cons v l => obtain ⟨u, r, rfl, _, h2⟩ := h; simpa using LeavesR.drop h2 n

theorem asm_sound {ob : Nat → Option Nat} : ∀ {t : Ty} {l : List V} {cs : List Value} {y : t.den} {l' : List V} {i : Nat}, LeavesR S w ob i l cs → asm t l = some (y, l') → ∃ c1 c2 j, cs = c1 ++ c2 ∧ Cells S w t y c1 ∧ LeavesR S w ob j l' c2 := by
 intro t
 induction t with
 | unit => intro l cs y l' i h ha; simp only [asm, Option.some.injEq, Prod.mk.injEq] at ha; obtain ⟨_, rfl⟩ := ha; exact ⟨[], cs, i, rfl, rfl, h⟩
 | pair p q ih1 ih2 =>
  intro l cs y l' i h ha
  simp only [asm] at ha
  split at ha
  ·rename_i x l1 h1
   split at ha
   ·rename_i y1 l2 h2
    simp only [Option.some.injEq, Prod.mk.injEq] at ha
    obtain ⟨rfl, rfl⟩ := ha
    obtain ⟨c1, c2, j1, rfl, k1, k2⟩ := ih1 h h1
    obtain ⟨c3, c4, j2, rfl, k3, k4⟩ := ih2 k2 h2
    exact ⟨c1 ++ c3, c4, j2, by simp, ⟨c1, c3, rfl, k1, k3⟩, k4⟩
   ·cases ha
  ·cases ha
 | int k =>
  intro l cs y l' i h ha
  cases l with
  | nil => simp [asm] at ha
  | cons v l =>
   obtain ⟨u, rr, rfl, h1, h2⟩ := h
   cases v with | mk vt vx =>
   cases vt <;> simp only [asm] at ha <;> try cases ha
   split at ha
   ·rename_i hk; subst hk
    simp only [Option.some.injEq, Prod.mk.injEq] at ha
    obtain ⟨rfl, rfl⟩ := ha
    exact ⟨[u], rr, _, rfl, h1, h2⟩
   ·cases ha
 | bool =>
  intro l cs y l' i h ha
  cases l with
  | nil => simp [asm] at ha
  | cons v l =>
   obtain ⟨u, rr, rfl, h1, h2⟩ := h
   cases v with | mk vt vx =>
   cases vt <;> simp only [asm] at ha <;> try cases ha
   exact ⟨[u], rr, _, rfl, h1, h2⟩
 | str =>
  intro l cs y l' i h ha
  cases l with
  | nil => simp [asm] at ha
  | cons v l =>
   obtain ⟨u, rr, rfl, h1, h2⟩ := h
   cases v with | mk vt vx =>
   cases vt <;> simp only [asm] at ha <;> try cases ha
   exact ⟨[u], rr, _, rfl, h1, h2⟩
 | slice e ih =>
  intro l cs y l' i h ha
  cases l with
  | nil => simp [asm] at ha
  | cons v l =>
   obtain ⟨u, rr, rfl, h1, h2⟩ := h
   cases v with | mk vt vx =>
   cases vt <;> simp only [asm] at ha <;> try cases ha
   split at ha
   ·rename_i hk; subst hk
    simp only [Option.some.injEq, Prod.mk.injEq] at ha
    obtain ⟨rfl, rfl⟩ := ha
    exact ⟨[u], rr, _, rfl, h1, h2⟩
   ·cases ha

theorem rowAt_some {k : Nat} {e : Ty} {xs : List e.den} (h : rowAt E.vw k e = some xs) : ∃ l, alook E.bx k = some l ∧ l = [rowV e xs] := by
 unfold rowAt at h
 split at h
 ·rename_i e' x hl
  split at h
  ·rename_i he
   subst he
   simp only [Option.some.injEq] at h
   subst h
   exact ⟨_, hl, rfl⟩
  ·cases h
 ·cases h

theorem owns_one : ∀ {l : List V} {i j : Nat} {u v : V}, owns l ≤ 1 → l[i]? = some u → u.isOwn = true → l[j]? = some v → v.isOwn = true → i = j
 | [], _, _, _, _, _, h, _, _, _ => by simp at h
 | x :: l, 0, 0, _, _, _, _, _, _, _ => rfl
 | x :: l, 0, j + 1, u, v, ho, h1, h2, h3, h4 => by
  simp only [List.getElem?_cons_zero, Option.some.injEq] at h1
  subst h1
  have h3' : l[j]? = some v := by simpa using h3
  have : 1 ≤ owns l := owns_pos h3' h4
  simp only [owns, h2, cond_true] at ho
  omega
 | x :: l, i + 1, 0, u, v, ho, h1, h2, h3, h4 => by
  simp only [List.getElem?_cons_zero, Option.some.injEq] at h3
  subst h3
  have h1' : l[i]? = some u := by simpa using h1
  have : 1 ≤ owns l := owns_pos h1' h2
  simp only [owns, h4, cond_true] at ho
  omega
 | x :: l, i + 1, j + 1, u, v, ho, h1, h2, h3, h4 => by
  have := owns_one (l := l) (i := i) (j := j) (by simp only [owns] at ho; omega) (by simpa using h1) h2 (by simpa using h3) h4
  omega
where
 owns_pos : ∀ {l : List V} {i : Nat} {u : V}, l[i]? = some u → u.isOwn = true → 1 ≤ owns l
  | [], _, _, h, _ => by simp at h
  | x :: l, 0, u, h, h1 => by simp only [List.getElem?_cons_zero, Option.some.injEq] at h; subst h; simp [owns, h1]
  | x :: l, i + 1, u, h, h1 => by have := owns_pos (l := l) (i := i) (by simpa using h) h1; simp only [owns]; omega

theorem LeafR.one {ob : Option Nat} {v : V} {u : Value} (h : LeafR S w ob v u) : u.oneCell' = true := by
 unfold LeafR at h
 split at h
 ·obtain ⟨cs, h1, h2, h3⟩ := h
  rcases h1.2 with ⟨hv, _⟩ | ⟨g, cap, cur, hv, _⟩ <;> rw [hv] <;> rfl
 ·exact h
 ·exact h.one u (by simp)
theorem OwnR.one' {id : TypeId} {e : Ty} {xs : List e.den} {u : Value} {ob : Option Nat} (h : OwnR S w id e xs u ob) : u.oneCell' = true := by
 obtain ⟨cs, h1, h2, h3⟩ := h
 rcases h1.2 with ⟨hv, _⟩ | ⟨g, cap, cur, hv, _⟩ <;> rw [hv] <;> rfl
theorem LeavesR.one {ob : Nat → Option Nat} : ∀ {l : List V} {i : Nat} {cs : List Value}, LeavesR S w ob i l cs → ∀ u ∈ cs, u.oneCell' = true
 | [], _, _, h, u, hu => by simp only [LeavesR] at h; subst h; cases hu
 | _ :: _, _, _, ⟨u0, r, e, h1, h2⟩, u, hu => by
  subst e
  rcases List.mem_cons.1 hu with rfl | hu
  ·exact h1.one
  ·exact LeavesR.one h2 u hu
theorem LeavesR.at {ob : Nat → Option Nat} : ∀ {l : List V} {i j : Nat} {cs : List Value} {v : V}, LeavesR S w ob i l cs → l[j]? = some v → ∃ u, cs[j]? = some u ∧ LeafR S w (ob (i + j)) v u
 | [], _, _, _, _, _, h => by simp at h
 | x :: l, i, 0, _, v, ⟨u0, r, e, h1, h2⟩, h => by
  simp only [List.getElem?_cons_zero, Option.some.injEq] at h
  subst h e
  exact ⟨u0, rfl, h1⟩
 | x :: l, i, j + 1, _, v, ⟨u0, r, e, h1, h2⟩, h => by
  subst e
  obtain ⟨u, k1, k2⟩ := LeavesR.at h2 (j := j) (by simpa using h)
  exact ⟨u, by simpa using k1, by rw [show i + (j + 1) = i + 1 + j by omega]; exact k2⟩
theorem V.leaf_cases (v : V) : (∃ k e p, v = ⟨.pair (.int k) (.slice e), p⟩) ∨ (∃ p, v = ⟨.pair .unit .unit, p⟩) ∨ (v.isOwn = false ∧ V.lay v = v ∧ V.gone v = v ∧ ∀ (S : Nat → Prop) (w : World) (o : Option Nat) (u : Value), LeafR S w o v u = Cells S w v.t v.x [u]) := by
 cases v with | mk vt vx =>
 cases vt with
 | pair p q =>
  cases p <;> cases q <;> first
   | exact .inl ⟨_, _, _, rfl⟩
   | exact .inr (.inl ⟨_, rfl⟩)
   | exact .inr (.inr ⟨rfl, rfl, rfl, fun _ _ _ _ => rfl⟩)
 | _ => exact .inr (.inr ⟨rfl, rfl, rfl, fun _ _ _ _ => rfl⟩)
/-- Rows of its own become rows of all. -/
theorem LeafR.lay {S' : Nat → Prop} {ob ob' : Option Nat} {v : V} {u : Value} (h : LeafR S w ob v u) (hs : ∀ x, S x → S' x) (hg : v.isOwn = true → ∀ g, ob = some g → S' g) : LeafR S' w ob' v.lay u := by
 rcases v.leaf_cases with ⟨k, e, p, rfl⟩ | ⟨p, rfl⟩ | ⟨_, h1, _, h2⟩
 ·have h1 : OwnR S' w p.1.toNat e p.2 u ob := OwnR.move (show OwnR S w p.1.toNat e p.2 u ob from h) (Keep.refl _ _) hs (fun _ _ => rfl)
  exact ⟨u, rfl, OwnR.slice h1 (fun g hgg => hg rfl g hgg)⟩
 ·exact h
 ·rw [h1, h2]
  rw [h2] at h
  exact h.mono (Keep.refl _ _) hs
theorem LeafR.gone {S' : Nat → Prop} {ob ob' : Option Nat} {v : V} {u : Value} (h : LeafR S w ob v u) (hs : ∀ x, S x → S' x) : LeafR S' w ob' v.gone u := by
 rcases v.leaf_cases with ⟨k, e, p, rfl⟩ | ⟨p, rfl⟩ | ⟨_, _, h1, h2⟩
 ·exact h.one
 ·exact h
 ·rw [h1, h2]
  rw [h2] at h
  exact h.mono (Keep.refl _ _) hs
theorem LeavesR.lay {S' : Nat → Prop} {ob ob' : Nat → Option Nat} (hs : ∀ x, S x → S' x) : ∀ {l : List V} {i : Nat} {cs : List Value}, LeavesR S w ob i l cs → (∀ j v, l[j]? = some v → v.isOwn = true → ∀ g, ob (i + j) = some g → S' g) → LeavesR S' w ob' i (l.map V.lay) cs
 | [], _, _, h, _ => h
 | v :: l, i, _, ⟨u, r, e, h1, h2⟩, hg => ⟨u, r, e, h1.lay hs (fun hv g hgg => hg 0 v rfl hv g (by rw [Nat.add_zero]; exact hgg)), LeavesR.lay hs h2 (fun j x hj hx g hgg => hg (j + 1) x (by simpa using hj) hx g (by rw [show i + (j + 1) = i + 1 + j by omega]; exact hgg))⟩
theorem LeavesR.gone {S' : Nat → Prop} {ob ob' : Nat → Option Nat} (hs : ∀ x, S x → S' x) : ∀ {l : List V} {i : Nat} {cs : List Value}, LeavesR S w ob i l cs → LeavesR S' w ob' i (l.map V.gone) cs
 | [], _, _, h => h
 | v :: l, i, _, ⟨u, r, e, h1, h2⟩ => ⟨u, r, e, h1.gone hs, LeavesR.gone hs h2⟩
theorem rowL_head {v : V} {l l' : List V} (h : rowL (v :: l) = false) : rowL (v :: l') = false := by
 cases v with | mk vt vx =>
 cases vt with
 | pair p q =>
  cases p with
  | unit => cases q <;> first | rfl | cases h
  | _ => rfl
 | _ => rfl
theorem LeavesR.app {ob : Nat → Option Nat} : ∀ {l1 l2 : List V} {d1 d2 : List Value} {i : Nat}, LeavesR S w ob i l1 d1 → LeavesR S w ob (i + l1.length) l2 d2 → LeavesR S w ob i (l1 ++ l2) (d1 ++ d2)
 | [], _, _, _, _, k1, k2 => by simp only [LeavesR] at k1; subst k1; exact k2
 | _ :: l1, _, _, _, i, ⟨u, r, e1, e2, e3⟩, k2 => by subst e1; exact ⟨u, _, rfl, e2, LeavesR.app e3 (by rw [show i + 1 + l1.length = i + (l1.length + 1) by omega]; exact k2)⟩
theorem LeavesR.take {ob : Nat → Option Nat} : ∀ {l : List V} {cs : List Value} {i : Nat}, LeavesR S w ob i l cs → ∀ n : Nat, LeavesR S w ob i (l.take n) (cs.take n)
 | _, _, _, _, 0 => by simp [LeavesR]
 | [], cs, _, h, n + 1 => by simp only [LeavesR] at h; subst h; simp [LeavesR]
 | _ :: _, _, _, ⟨u, r, e1, e2, e3⟩, n + 1 => by subst e1; exact ⟨u, _, rfl, e2, LeavesR.take e3 n⟩
theorem LeavesR.length {ob : Nat → Option Nat} : ∀ {l : List V} {cs : List Value} {i : Nat}, LeavesR S w ob i l cs → cs.length = l.length
 | [], _, _, h => by simp only [LeavesR] at h; subst h; rfl
 | _ :: _, _, _, ⟨u, r, e1, _, e3⟩ => by subst e1; simp [LeavesR.length e3]

theorem rowL_over {l d : List V} {off : Nat} (h1 : rowL l = false) (h2 : rowL d = false) : rowL (V.over l off d) = false := by
 unfold V.over
 cases off with
 | zero =>
  cases d with
  | nil => simpa using h1
  | cons v d => exact rowL_head (l := d) h2
 | succ n =>
  cases l with
  | nil =>
   cases d with
   | nil => simp [rowL]
   | cons v d => simp only [List.take_nil, List.nil_append]; exact rowL_head (l := d) h2
  | cons v l => exact rowL_head (l := l) h1

theorem rowL_map {f : V → V} (hf : ∀ v, rowL [f v] = rowL [v]) : ∀ {l : List V}, rowL l = false → rowL (l.map f) = false
 | [], _ => rfl
 | v :: l, h => by
  have h1 : rowL [v] = false := rowL_head (l' := []) h
  have h2 : rowL [f v] = false := by rw [hf]; exact h1
  exact rowL_head (l' := l.map f) h2
theorem rowL_lay (v : V) : rowL [v.lay] = rowL [v] := by
 rcases v.leaf_cases with ⟨k, e, p, rfl⟩ | ⟨p, rfl⟩ | ⟨_, h1, _, _⟩
 ·rfl
 ·rfl
 ·rw [h1]
theorem rowL_gone (v : V) : rowL [v.gone] = rowL [v] := by
 rcases v.leaf_cases with ⟨k, e, p, rfl⟩ | ⟨p, rfl⟩ | ⟨_, _, h1, _⟩
 ·rfl
 ·rfl
 ·rw [h1]
theorem LeavesR.setAt {S' : Nat → Prop} {ob ob' : Nat → Option Nat} (hs : ∀ x, S x → S' x) {v' : V} : ∀ {l : List V} {i j : Nat} {cs : List Value} {u : Value}, LeavesR S w ob i l cs → j < l.length → cs[j]? = some u → LeafR S' w (ob' (i + j)) v' u → (∀ q, q ≠ j → ob' (i + q) = ob (i + q)) → LeavesR S' w ob' i (l.set j v') cs
 | [], _, _, _, _, _, h, _, _, _ => by simp at h
 | x :: l, i, 0, _, u, ⟨u0, r, e, h1, h2⟩, _, hu, hv, ho => by
  subst e
  simp only [List.getElem?_cons_zero, Option.some.injEq] at hu
  subst hu
  refine ⟨u0, r, rfl, hv, h2.move (Keep.refl _ _) hs (fun j y hj hy => ⟨?_, fun _ _ => rfl⟩)⟩
  have := ho (j + 1) (by omega)
  rw [show i + 1 + j = i + (j + 1) by omega]
  exact this
 | x :: l, i, j + 1, _, u, ⟨u0, r, e, h1, h2⟩, hl, hu, hv, ho => by
  subst e
  refine ⟨u0, r, rfl, ?_, LeavesR.setAt (i := i + 1) (j := j) hs h2 (by simpa using hl) (by simpa using hu) (by rw [show i + 1 + j = i + (j + 1) by omega]; exact hv) (fun q hq => by have := ho (q + 1) (by omega); rw [show i + 1 + q = i + (q + 1) by omega]; exact this)⟩
  have := ho 0 (by omega)
  rw [Nat.add_zero] at this
  rw [this]
  exact h1.move (Keep.refl _ _) hs (fun _ _ => rfl)
theorem over_one {l : List V} {off : Nat} {v : V} (h : off < l.length) : V.over l off [v] = l.set off v := by
 unfold V.over
 rw [List.set_eq_take_append_cons_drop, if_pos h]
 simp

/-- What is taken out of a box that holds rows of its own. -/
theorem evTake_ok (hT : TOk P T) (h : Sim P C S B E a w) {sh : List Nat} {ty : TypeId} {tt : Ty} {n b off g : Nat} {l : List V} (ho : o.op = .load ty (.tmp n)) (hty : T.ty ty = some tt) (hv : tv a n = .pointer (some ⟨g, off, none⟩)) (hB : B (.b b) = some g) (hl : alook E.bx b = some l) (hrl : rowL l = false) (hk : evTake E.vw sh tt b l off o.dst K = some r) : Ok P C E a w o K r := by
 obtain ⟨g', hb', cells, id, hg, hL0⟩ := h.boxes b l hl
 have hgg : g' = g := by rw [hb'] at hB; exact Option.some.inj hB
 subst hgg
 have hL := hL0.leaves hrl
 have cell : ∀ j u, (cells.toList.drop off)[j]? = some u → w.cell? ⟨g', off + j, none⟩ = some u := by
  intro j u hu
  rw [cell_of_row w g' _ cells id (0, 0) hg]
  rw [List.getElem?_drop] at hu
  simpa using hu
 have run : ∀ {S2 : Nat → Prop} {y : tt.den} {cs : List Value}, Cells S2 w tt y cs → (∀ (j : Nat) (u : Value), cs[j]? = some u → (cells.toList.drop off)[j]? = some u) → (execOp a.eval o).run P w = .ok (.value (pack tt cs)) w := by
  intro S2 y cs hc hj
  have e1 : a.eval (.tmp n) = .pointer (some ⟨g', off, none⟩) := hv
  simp only [execOp, ho, Instr.loadAt, e1, Instr.sureAddr, Sem.run_bind, Sem.run_pure, Result.andThen_ok, run_loadVar hT hty hc (fun j u hu => cell j u (hj j u hu))]
 unfold evTake at hk
 split at hk
 ·rename_i e d hd
  split at hk
  ·rename_i k e' p hleaf
   split at hk
   ·rename_i hee
    subst hee
    obtain ⟨u, hu, hleaf'⟩ := hL.at hleaf
    rw [Nat.zero_add] at hleaf'
    have hown : OwnR S w p.1.toNat e' p.2 u (B (.l b off)) := hleaf'
    have hlen : off < l.length := (List.getElem?_eq_some_iff.1 hleaf).1
    have hrun := run (S2 := fun x => S x ∨ B (.l b off) = some x) (y := p.2) (cs := [u]) ⟨u, rfl, OwnR.slice (OwnR.move hown (Keep.refl _ _) (fun _ hx => .inl hx) (fun _ _ => rfl)) (fun g hgg => .inr hgg)⟩ (fun j x hx => by
     cases j with
     | succ j => simp at hx
     | zero =>
      simp only [List.getElem?_cons_zero, Option.some.injEq] at hx
      subst hx
      rw [List.getElem?_drop]
      simpa using hu)
    have hrun' : (execOp a.eval o).run P w = .ok (.value u) w := hrun
    cases hfl : sh.contains (4000000 + d)
    ·rw [hfl, cond_false] at hk
     obtain ⟨d', hd', hlt, hk'⟩ := putC_some hk
     refine ⟨_, hk', Goes.value' hrun' ?_⟩
     rw [hd']
     have hdt : d' < a.tmps.size := by rw [h.size]; exact hlt
     let B' : Loc → Option Nat := fun q => if q = .s d' then B (.l b off) else if q = .l b off then none else dropAt B d' q
     have hdr : ∀ q x, dropAt B d' q = some x → B q = some x ∧ q.at d' = false := fun q x hq => by
      unfold dropAt at hq
      split at hq
      ·cases hq
      ·rename_i hat; exact ⟨hq, by simpa using hat⟩
     have hB' : ∀ q x, B' q = some x → (q = .s d' ∧ B (.l b off) = some x) ∨ (q ≠ .s d' ∧ q ≠ .l b off ∧ B q = some x) := fun q x hq => by
      simp only [B'] at hq
      split at hq
      ·rename_i e; exact .inl ⟨e, hq⟩
      ·rename_i e
       split at hq
       ·cases hq
       ·rename_i e2; exact .inr ⟨e, e2, (hdr q x hq).1⟩
     refine ⟨S, B', ?_⟩
     show Sim P C S B' ((⟨E.nt, E.sl, aset E.bx b (V.over l off [holeV])⟩ : Env).set d' (.own p.1.toNat e' p.2)) (a.put (some d') u) w
     refine h.shift hlt (fun _ hx => hx) (fun _ hx => .inl hx) ?_ ?_ ?_ ⟨g', hb', cells, id, hg, .inl ⟨rowL_over hrl rfl, ?_⟩⟩ ?_
     ·intro q x hq
      rcases hB' q x hq with ⟨_, h1⟩ | ⟨_, _, h1⟩
      ·exact ⟨_, h1⟩
      ·exact ⟨_, h1⟩
     ·intro q q' x hq hq'
      rcases hB' q x hq with ⟨e1, h1⟩ | ⟨e1, e2, h1⟩
      ·rcases hB' q' x hq' with ⟨f1, k1⟩ | ⟨f1, f2, k1⟩
       ·rw [e1, f1]
       ·exact absurd (h.inj _ _ x k1 h1) f2
      ·rcases hB' q' x hq' with ⟨f1, k1⟩ | ⟨f1, f2, k1⟩
       ·exact absurd (h.inj _ _ x h1 k1) e2
       ·exact h.inj _ _ x h1 k1
     ·intro q hat hne
      have e1 : q ≠ .s d' := by rintro rfl; simp [Loc.at, beq_self] at hat
      simp [B', e1, hne off, dropAt, hat]
     ·rw [over_one hlen]
      refine hL.setAt (fun _ hx => hx) hlen hu hown.one' (fun q hq => ?_)
      simp [B', dropAt, Loc.at, hq]
     ·show OwnR S w p.1.toNat e' p.2 _ _
      rw [tv_put hdt, if_pos rfl]
      simp only [B', if_true]
      exact hown
    ·rw [hfl, cond_true] at hk
     obtain ⟨d', hd', hlt, hk'⟩ := putC_some hk
     refine ⟨_, hk', Goes.value' hrun' ?_⟩
     rw [hd']
     have hdt : d' < a.tmps.size := by rw [h.size]; exact hlt
     refine ⟨_, _, h.putPlain (sv := .lenN p.2.length) hlt (Below.refl _ _) (fun _ hx => hx) (fun _ hx => .inl hx) h.sub ?_⟩
     obtain ⟨cs, k1, _, _⟩ := hown
     rcases k1.2 with ⟨hvv, hn⟩ | ⟨g2, cap, cur, hvv, _⟩
     ·exact ⟨none, 0, by rw [tv_put hdt, if_pos rfl, hvv, hn]⟩
     ·exact ⟨_, cap, by rw [tv_put hdt, if_pos rfl, hvv]⟩
   ·cases hk
  ·cases hk
 ·rename_i p q d hd
  cases hoff : Nat.beq off 0
  ·rw [hoff] at hk; cases hk
  rw [hoff, cond_true] at hk
  have hoff' := Nat.eq_of_beq_eq_true hoff
  subst hoff'
  split at hk
  ·rename_i y hasm
   let S2 : Nat → Prop := fun x => S x ∨ ∃ i v, l[i]? = some v ∧ v.isOwn = true ∧ B (.l b i) = some x
   have hlay : ∀ ob', LeavesR S2 w ob' 0 (l.map V.lay) cells.toList := fun ob' => hL.lay (fun _ hx => .inl hx) (fun j v hj hvv g2 hg2 => .inr ⟨j, v, hj, hvv, by rw [Nat.zero_add] at hg2; exact hg2⟩)
   obtain ⟨c1, c2, j0, he, hc, hc2⟩ := asm_sound (hlay (fun _ => none)) hasm
   simp only [LeavesR] at hc2
   subst hc2
   rw [List.append_nil] at he
   have hrun := run (S2 := S2) hc (fun j u hu => by rw [List.drop_zero, he]; exact hu)
   have hpk : pack (.pair p q) c1 = .agg cells := by
    show Value.agg c1.toArray = .agg cells
    rw [← he]
   rw [hpk] at hrun
   cases hfl : sh.contains (5000000 + d)
   ·rw [hfl, cond_false] at hk
    obtain ⟨d', hd', hlt, hk'⟩ := putC_some hk
    refine ⟨_, hk', Goes.value' hrun ?_⟩
    rw [hd']
    have hdt : d' < a.tmps.size := by rw [h.size]; exact hlt
    let B' : Loc → Option Nat := fun k => match k with | .l c i => if c = b then none else B (.l c i) | k => dropAt B d' k
    have hB' : ∀ k x, B' k = some x → B k = some x ∧ k.at d' = false ∧ ∀ i, k ≠ .l b i := fun k x hk => by
     cases k with
     | l c i =>
      simp only [B'] at hk
      split at hk
      ·cases hk
      ·rename_i hcb; exact ⟨hk, rfl, fun i' he => by injection he with he _; exact hcb he⟩
     | s m => simp only [B', dropAt] at hk; split at hk; cases hk; rename_i hat; exact ⟨hk, by simpa using hat, fun i he => by cases he⟩
     | t m i => simp only [B', dropAt] at hk; split at hk; cases hk; rename_i hat; exact ⟨hk, by simpa using hat, fun i he => by cases he⟩
     | b m => simp only [B', dropAt] at hk; split at hk; cases hk; rename_i hat; exact ⟨hk, by simpa using hat, fun i he => by cases he⟩
    refine ⟨S2, B', ?_⟩
    show Sim P C S2 B' ((⟨E.nt, E.sl, aset E.bx b (l.map V.lay)⟩ : Env).set d' (.val (.pair p q) y)) (a.put (some d') (.agg cells)) w
    refine h.shift hlt (fun _ hx => .inl hx) ?_ (fun k x hk => ⟨k, (hB' k x hk).1⟩) (fun k k' x h1 h2 => h.inj _ _ x (hB' k x h1).1 (hB' k' x h2).1) ?_ ⟨g', hb', cells, id, hg, .inl ⟨rowL_map rowL_lay hrl, hlay _⟩⟩ ?_
    ·rintro x (hx | ⟨i, v, h1, h2, h3⟩)
     ·exact .inl hx
     ·exact .inr ⟨_, h3, fun k' hk' => (hB' k' x hk').2.2 i (h.inj _ _ x (hB' k' x hk').1 h3)⟩
    ·intro k hat hne
     cases k with
     | l c i =>
      have : c ≠ b := by rintro rfl; exact hne i rfl
      simp [B', this]
     | s m => simp [B', dropAt, hat]
     | t m i => simp [B', dropAt, hat]
     | b m => simp [B', dropAt, hat]
    ·show ValR S2 w (.pair p q) y _
     rw [tv_put hdt, if_pos rfl]
     exact ⟨c1, hc, hpk.symm⟩
   ·rw [hfl, cond_true] at hk
    cases hag : aggOk l
    ·rw [hag] at hk; cases hk
    rw [hag, cond_true] at hk
    obtain ⟨d', hd', hlt, hk'⟩ := putC_some hk
    refine ⟨_, hk', Goes.value' hrun ?_⟩
    rw [hd']
    have hdt : d' < a.tmps.size := by rw [h.size]; exact hlt
    let B' : Loc → Option Nat := fun k => match k with | .l c i => if c = b then none else B (.l c i) | .t m i => if m = d' then B (.l b i) else B (.t m i) | .s m => if m = d' then none else B (.s m) | .b m => B (.b m)
    have hB' : ∀ k x, B' k = some x → (∃ i, k = .t d' i ∧ B (.l b i) = some x) ∨ (B k = some x ∧ k.at d' = false ∧ ∀ i, k ≠ .l b i) := fun k x hk => by
     cases k with
     | l c i =>
      simp only [B'] at hk
      split at hk
      ·cases hk
      ·rename_i hcb; exact .inr ⟨hk, rfl, fun i' he => by injection he with he _; exact hcb he⟩
     | s m =>
      simp only [B'] at hk
      split at hk
      ·cases hk
      ·rename_i hm; exact .inr ⟨hk, beq_false hm, fun i he => by cases he⟩
     | t m i =>
      simp only [B'] at hk
      split at hk
      ·rename_i hm; subst hm; exact .inl ⟨i, rfl, hk⟩
      ·rename_i hm; exact .inr ⟨hk, beq_false hm, fun i he => by cases he⟩
     | b m => exact .inr ⟨hk, rfl, fun i he => by cases he⟩
    refine ⟨S, B', ?_⟩
    show Sim P C S B' ((⟨E.nt, E.sl, aset E.bx b (l.map V.gone)⟩ : Env).set d' (.agg l)) (a.put (some d') (.agg cells)) w
    refine h.shift hlt (fun _ hx => hx) (fun _ hx => .inl hx) ?_ ?_ ?_ ⟨g', hb', cells, id, hg, .inl ⟨rowL_map rowL_gone hrl, hL.gone (fun _ hx => hx)⟩⟩ ?_
    ·intro k x hk
     rcases hB' k x hk with ⟨i, _, h1⟩ | ⟨h1, _⟩
     ·exact ⟨_, h1⟩
     ·exact ⟨_, h1⟩
    ·intro k k' x h1 h2
     rcases hB' k x h1 with ⟨i, e1, k1⟩ | ⟨k1, e1, e2⟩
     ·rcases hB' k' x h2 with ⟨i', f1, k2⟩ | ⟨k2, f1, f2⟩
      ·have := h.inj _ _ x k1 k2
       injection this with _ this
       rw [e1, f1, this]
      ·exact absurd (h.inj _ _ x k2 k1) (f2 i)
     ·rcases hB' k' x h2 with ⟨i', f1, k2⟩ | ⟨k2, f1, f2⟩
      ·exact absurd (h.inj _ _ x k1 k2) (e2 i')
      ·exact h.inj _ _ x k1 k2
    ·intro k hat hne
     cases k with
     | l c i =>
      have : c ≠ b := by rintro rfl; exact hne i rfl
      simp [B', this]
     | s m =>
      have : m ≠ d' := by rintro rfl; simp [Loc.at, beq_self] at hat
      simp [B', this]
     | t m i =>
      have : m ≠ d' := by rintro rfl; simp [Loc.at, beq_self] at hat
      simp [B', this]
     | b m => rfl
    ·refine ⟨cells, by rw [tv_put hdt, if_pos rfl], hL.move (Keep.refl _ _) (fun _ hx => hx) (fun j v hj hvv => ⟨?_, fun _ _ => rfl⟩)⟩
     simp [B']
  ·cases hk
 ·cases hk

theorem evLoad0_ok (hT : TOk P T) (h : Sim P C S B E a w) {sh : List Nat} {ty : TypeId} {x : Operand} (ho : o.op = .load ty x) (hk : evLoad0 T E.vw sh ty x o.dst K = some r) : Ok P C E a w o K r := by
 have main : ∀ {t tt : Ty} {b off : Nat} {cs : List Value} {y : tt.den} {n : Nat}, T.ty ty = some tt → x = .tmp n → tv a n = .pointer (some ⟨b, off, none⟩) → Cells S w tt y cs → (∀ j u, cs[j]? = some u → w.cell? ⟨b, off + j, none⟩ = some u) →
   putC E.vw o.dst [] (.val tt y) K = some r → Ok P C E a w o K r := by
  intro _ tt b off cs y n hty hx hv hc hj hk
  refine goes_val h hk ⟨cs, hc, rfl⟩ ?_
  have e1 : a.eval x = .pointer (some ⟨b, off, none⟩) := by rw [hx]; exact hv
  simp only [execOp, ho, Instr.loadAt, e1, Instr.sureAddr, Sem.run_bind, Sem.run_pure, Result.andThen_ok, run_loadVar hT hty hc hj]
 unfold evLoad0 at hk
 split at hk
 ·rename_i n tt hty
  have hs := h.slots n
  have hgt : E.vw.g n = E.g n := rfl
  rw [hgt] at hk
  split at hk
  ·rename_i t' y hn
   rw [hn] at hs
   split at hk
   ·rename_i htt; subst htt
    obtain ⟨b, off, cs, hv, hb, hl, hc, hj⟩ := hs
    exact main (t := .bool) hty rfl hv hc hj hk
   ·cases hk
  ·rename_i s i e y hn
   rw [hn] at hs
   split at hk
   ·rename_i htt; subst htt
    obtain ⟨id, xs, g, h1, h2, h3, h4, h5, h6⟩ := hs
    have hsl := h.slots s
    rw [h1] at hsl
    have hsl' : OwnR S w id e xs (tv a s) (some g) := by rw [← h2]; exact hsl
    obtain ⟨c, hc, hj⟩ := hsl'.elem h4
    have hy : xs[i.toNat] = y := by have := h5 y rfl; rw [List.getElem?_eq_getElem h4] at this; exact Option.some.inj this
    rw [hy] at hc
    exact main (t := .bool) hty rfl h6 hc hj hk
   ·cases hk
  ·rename_i s i e hn
   rw [hn] at hs
   obtain ⟨id, xs, g, h1, h2, h3, h4, h5, h6⟩ := hs
   have hgs : E.vw.g s = .own id e xs := h1
   rw [hgs] at hk
   dsimp only at hk
   split at hk
   ·rename_i htt; subst htt
    have hsl := h.slots s
    rw [h1] at hsl
    have hsl' : OwnR S w id e xs (tv a s) (some g) := by rw [← h2]; exact hsl
    obtain ⟨c, hc, hj⟩ := hsl'.elem h4
    have hr : rdI xs i = some xs[i.toNat] := by simp [rdI, h3, h4]
    rw [hr] at hk
    exact main (t := .bool) hty rfl h6 hc hj hk
   ·cases hk
  ·rename_i b off hn
   rw [hn] at hs
   obtain ⟨g, h1, h2⟩ := hs
   split at hk
   ·rename_i l hl
    cases hrl : rowL l
    case true => rw [hrl] at hk; cases hk
    rw [hrl, cond_false] at hk
    split at hk
    ·rename_i y l' hy
     obtain ⟨g', hb', cells, id, hg, hL0⟩ := h.boxes b l hl
     have hL := hL0.leaves hrl
     have hgg : g' = g := by rw [hb'] at h1; exact Option.some.inj h1
     subst hgg
     obtain ⟨c1, c2, _, he, hc, _⟩ := asm_sound (hL.drop off) hy
     refine main (t := .bool) hty rfl h2 hc (fun j u hu => ?_) hk
     rw [cell_of_row w g' _ cells id (0, 0) hg]
     have : (cells.toList.drop off)[j]? = some u := by
      rw [he, List.getElem?_append_left (List.getElem?_eq_some_iff.1 hu).1]; exact hu
     rw [List.getElem?_drop] at this
     simpa using this
    ·exact evTake_ok hT h ho hty h2 h1 hl hrl hk
   ·cases hk
  ·rename_i k0 i e hn
   rw [hn] at hs
   obtain ⟨g, h1, h2, h3⟩ := hs
   split at hk
   ·rename_i xs hxs
    split at hk
    ·rename_i htt; subst htt
     cases hr : rdI xs i with
     | none => rw [hr] at hk; cases hk
     | some y =>
      rw [hr] at hk
      obtain ⟨j0, j1, j2⟩ := rdI_some hr
      obtain ⟨l, hl, hrow⟩ := rowAt_some hxs
      obtain ⟨g', hb', cells, id, hg, hL0⟩ := h.boxes k0 l hl
      have hgg : g' = g := by rw [hb'] at h1; exact Option.some.inj h1
      subst hgg
      subst hrow
      have hRC := hL0.row
      obtain ⟨c, hc, hj⟩ := hRC.at i.toNat j1
      have hy : xs[i.toNat] = y := by rw [List.getElem?_eq_getElem j1] at j2; exact Option.some.inj j2
      rw [hy] at hc
      refine main (t := .bool) hty rfl h3 hc (fun j u hu => ?_) hk
      rw [cell_of_row w g' _ cells id (0, 0) hg]
      have := hj j u hu
      rw [List.getElem?_take] at this
      split at this
      ·simpa using this
      ·cases this
    ·cases hk
   ·cases hk
  ·cases hk
 ·cases hk

theorem evLoad_ok (hT : TOk P T) (h : Sim P C S B E a w) {sh : List Nat} {ty : TypeId} {x : Operand} (ho : o.op = .load ty x) (hk : evLoad T E.vw sh ty x o.dst K = some r) : Ok P C E a w o K r := by
 unfold evLoad at hk
 split at hk
 ·rename_i n
  split at hk
  ·rename_i ty' f c hn0
   have hn : E.g n = .fp ty' f c := hn0
   cases hty : Nat.beq ty' ty
   ·rw [hty] at hk; cases hk
   rw [hty, cond_true] at hk
   have := Nat.eq_of_beq_eq_true hty
   subst this
   have hs := h.slots n
   rw [hn] at hs
   obtain ⟨g, vs, hv, hc, hl, hS, hlt, hcell⟩ := hs
   obtain ⟨d, hd, hltd, hk'⟩ := putC_some hk
   have e1 : a.eval (.tmp n) = .pointer (some ⟨g, 0, none⟩) := hv
   have hrun : (execOp a.eval o).run P w = .ok (.value (.func (.func f) #[] vs)) w := by
    simp only [execOp, ho, Instr.loadAt, e1, Instr.sureAddr, Sem.run_bind, Sem.run_pure, Result.andThen_ok, hl w _ _ hcell]
   refine ⟨_, hk', Goes.value (S' := S) (B' := dropAt B d) hrun ?_⟩
   rw [hd]
   have hdt : d < a.tmps.size := by rw [h.size]; exact hltd
   refine h.putPlain hltd (Below.refl _ _) (fun _ hx => hx) (fun _ hx => .inl hx) h.sub ?_
   refine ⟨g, vs, by rw [tv_put hdt, if_pos rfl], hc.move (fun b _ => dropAt_b), fun _ => ⟨hl, hS, hlt, hcell⟩⟩
  ·exact evLoad0_ok hT h ho hk
 ·cases hk

theorem evNilCheck_ok (h : Sim P C S B E a w) {x : Operand} (ho : o.op = .nilCheck x) (hk : evNilCheck E.vw x o.dst K = some r) : Ok P C E a w o K r := by
 unfold evNilCheck at hk
 split at hk
 ·rename_i t
  have hs := h.slots t
  have hgt : E.vw.g t = E.g t := rfl
  rw [hgt] at hk
  have e1 : a.eval (.tmp t) = tv a t := rfl
  have toM : ∀ {sv : SV}, (∀ d, sv.refs d = false) → putC E.vw o.dst [] sv K = some r → putM E.vw o.dst sv K = some r := by
   intro sv hr hk
   cases hd : o.dst with
   | none => rw [hd] at hk; simp [putC] at hk
   | some d => rw [hd] at hk; simp only [putM, hr d, cond_false]; exact hk
  split at hk
  ·rename_i b off hn
   rw [hn] at hs
   refine goes_copy h (n := t) hs rfl (toM (fun _ => rfl) hk) ?_
   obtain ⟨g, _, hv⟩ := hs
   simp only [execOp, ho, e1, hv]; rfl
  ·rename_i t' y hn
   rw [hn] at hs
   refine goes_copy h (n := t) hs rfl (toM (fun _ => rfl) hk) ?_
   obtain ⟨b, off, cs, hv, _⟩ := hs
   simp only [execOp, ho, e1, hv]; rfl
  ·rename_i s i e y hn
   rw [hn] at hs
   refine goes_copy h (n := t) hs rfl hk ?_
   obtain ⟨id, xs, g, _, _, _, _, _, hv⟩ := hs
   simp only [execOp, ho, e1, hv]; rfl
  ·rename_i φ hn
   rw [hn] at hs
   refine goes_copy h (n := t) hs rfl (toM (fun _ => rfl) hk) ?_
   obtain ⟨f, first, caps, hv, _⟩ := hs
   simp only [execOp, ho, e1, hv]; rfl
  ·cases hk
 ·cases hk

theorem evIndex_ok (hT : TOk P T) (h : Sim P C S B E a w) {ty : TypeId} {x i : Operand} (ho : o.op = .index ty x i) (hk : evIndex T E.vw ty x i o.dst K = some r) : Ok P C E a w o K r := by
 unfold evIndex at hk
 split at hk
 ·rename_i s k n hx hi hty
  have hv := rd_str h hx
  have hn := rd_int h hi
  have hu := und_str hT hty
  cases hr : rdI s n with
  | none => rw [hr] at hk; cases hk
  | some c =>
   rw [hr] at hk
   obtain ⟨h0, h1, h2⟩ := rdI_some hr
   refine goes_val h hk (v := .int .u8 c.toNat) (ValR.int.2 rfl) ?_
   have hb : (⟨s.toArray⟩ : ByteArray)[n.toNat]? = some c := by
    have hsz : n.toNat < (⟨s.toArray⟩ : ByteArray).size := by show _ < s.toArray.size; simpa using h1
    rw [List.getElem?_eq_getElem h1] at h2
    have e : (⟨s.toArray⟩ : ByteArray)[n.toNat]'hsz = c := by rw [← Option.some.inj h2]; rfl
    rw [← e]
    simp [getElem?_def, hsz]
   simp [execOp, ho, Instr.index, hv, hn, asIntOf, run_underlying hu, h0, hb]
 ·cases hk

/-- A part of a result given up. -/
theorem Sim.takeComp (h : Sim P C S B E a w) {t d ix : Nat} (hd : d < E.nt) {l : List SV} (ht : E.g t = .tup l) {id : TypeId} {e : Ty} {xs : List e.den} (hl : l[ix]? = some (.own id e xs)) :
  ∃ vs B', tv a t = .tuple vs ∧ vs.size = l.length ∧ Sim P C S B' ((E.set t (.tup (l.set ix .undef))).set d (.own id e xs)) (a.put (some d) (vs.getD ix Go.undef)) w := by
 have hsl := h.slots t
 rw [ht] at hsl
 obtain ⟨vs, h1, h2, h3⟩ := hsl
 have hcomp := h3 ix _ hl
 have hix : ix < l.length := (List.getElem?_eq_some_iff.1 hl).1
 -- the part forgotten
 have hf : Sim P C S B (E.set t (.tup (l.set ix .undef))) a w := by
  refine ⟨h.size, h.defers, h.kept, h.sub, h.frm, h.sup, h.inj, h.free, ?_, h.boxes, h.inb⟩
  intro n
  rw [Env.g_set]
  by_cases htn : t = n
  ·subst htn
   rw [if_pos rfl]
   refine ⟨vs, h1, by simpa using h2, fun i sv hi => ?_⟩
   rw [List.getElem?_set] at hi
   split at hi
   ·rename_i hh; subst hh
    simp only [hix, if_true, Option.some.injEq] at hi
    subst hi; trivial
   ·exact h3 i sv hi
  ·rw [if_neg htn, ht]
   simp only [SV.isOwn, Bool.false_eq_true, false_and, if_false]
   refine (h.slots n).move (Keep.refl _ _) (fun _ hb => hb) rfl (fun _ _ => rfl) (fun _ _ _ _ => rfl) (fun _ _ => rfl) (fun s' hr => ⟨rfl, ?_, rfl⟩)
   have ho := (h.slots n).leans hr
   rw [Env.g_set]
   by_cases hts : t = s'
   ·subst hts; rw [ht] at ho; cases ho
   ·rw [if_neg hts, ht]
    simp [SV.isOwn]
 let B' : Loc → Option Nat := fun k => if k = .s d then B (.t t ix) else if k = .t t ix then none else dropAt B d k
 have hat : (Loc.s d).at d = true := beq_self d
 refine ⟨vs, B', h1, h2, hf.put2 (M := fun _ => False) (F := fun k => k = .t t ix) hd (KeptBut.refl _ _) (fun _ hm => hm.elim) ?_ (fun _ hb => hb) (fun _ hb => .inl hb) h.sub ?_ ?_ ?_ ?_ ?_⟩
 ·rintro k rfl
  refine ⟨fun n hn => ?_, rfl⟩
  rw [Env.g_set]
  by_cases htn : t = n
  ·subst htn
   rw [if_pos rfl]
   simp [SV.needs, hix]
  ·rw [if_neg htn, ht]
   simp only [SV.isOwn, Bool.false_eq_true, false_and, if_false]
   cases hnn : (E.g n).needs n (.t t ix)
   ·rfl
   ·exact absurd (Nat.eq_of_beq_eq_true (SV.needs_at hnn)) htn
 ·intro k hkd hkF
  have hne : k ≠ .s d := by rintro rfl; rw [hat] at hkd; cases hkd
  simp [B', hne, hkF, dropAt, hkd]
 ·intro k hkd hkF
  have hne : k ≠ .s d := by rintro rfl; rw [hat] at hkd; cases hkd
  simp only [B']
  rw [if_neg hne, if_pos hkF]
 ·intro k g hkd hb
  by_cases hne : k = .s d
  ·subst hne
   simp only [B', if_true] at hb
   obtain ⟨f1, f2, _⟩ := h.free _ g hb
   exact ⟨.inr ⟨_, rfl, hb⟩, f2, f1⟩
  ·simp only [B', hne, if_false, dropAt, hkd, if_true] at hb
   split at hb <;> cases hb
 ·intro k k' g hkd hkd' hb hb'
  have key : ∀ k : Loc, k.at d = true → B' k = some g → k = .s d := fun k hkd hb => by
   by_cases hne : k = .s d
   ·exact hne
   ·simp only [B', hne, if_false, dropAt, hkd, if_true] at hb
    split at hb <;> cases hb
  rw [key k hkd hb, key k' hkd' hb']
 ·show OwnR S w id e xs _ _
  simp only [B', if_true]
  rw [tv_put (by rw [h.size]; exact hd), if_pos rfl]
  exact hcomp

/-- A part of a result given up: a struct. -/
theorem Sim.takeAgg (h : Sim P C S B E a w) {t d ix : Nat} (hd : d < E.nt) {l : List SV} (ht : E.g t = .tup l) {ls : List V} (hl : l[ix]? = some (.agg ls)) (hdt : t ≠ d) :
  ∃ vs B', tv a t = .tuple vs ∧ vs.size = l.length ∧ Sim P C S B' ((E.set t (.tup (l.set ix .undef))).set d (.agg ls)) (a.put (some d) (vs.getD ix Go.undef)) w := by
 have hsl := h.slots t
 rw [ht] at hsl
 obtain ⟨vs, h1, h2, h3⟩ := hsl
 have hcomp := h3 ix _ hl
 have hix : ix < l.length := (List.getElem?_eq_some_iff.1 hl).1
 -- the part forgotten
 have hf : Sim P C S B (E.set t (.tup (l.set ix .undef))) a w := by
  refine ⟨h.size, h.defers, h.kept, h.sub, h.frm, h.sup, h.inj, h.free, ?_, h.boxes, h.inb⟩
  intro n
  rw [Env.g_set]
  by_cases htn : t = n
  ·subst htn
   rw [if_pos rfl]
   refine ⟨vs, h1, by simpa using h2, fun i sv hi => ?_⟩
   rw [List.getElem?_set] at hi
   split at hi
   ·rename_i hh; subst hh
    simp only [hix, if_true, Option.some.injEq] at hi
    subst hi; trivial
   ·exact h3 i sv hi
  ·rw [if_neg htn, ht]
   simp only [SV.isOwn, Bool.false_eq_true, false_and, if_false]
   refine (h.slots n).move (Keep.refl _ _) (fun _ hb => hb) rfl (fun _ _ => rfl) (fun _ _ _ _ => rfl) (fun _ _ => rfl) (fun s' hr => ⟨rfl, ?_, rfl⟩)
   have ho := (h.slots n).leans hr
   rw [Env.g_set]
   by_cases hts : t = s'
   ·subst hts; rw [ht] at ho; cases ho
   ·rw [if_neg hts, ht]
    simp [SV.isOwn]
 obtain ⟨hag, vs', hvs', hLs⟩ := hcomp
 have hag' : owns ls ≤ 1 := Nat.le_of_ble_eq_true hag
 let B' : Loc → Option Nat := fun k => match k with
  | .t m i => if m = d then (match ls[i]? with | some v => bif v.isOwn then B (.t t ix) else none | none => none) else if Loc.t m i = .t t ix then none else B (.t m i)
  | .s m => if m = d then none else B (.s m)
  | k => B k
 have hB' : ∀ k x, B' k = some x → (∃ i v, k = .t d i ∧ ls[i]? = some v ∧ v.isOwn = true ∧ B (.t t ix) = some x) ∨ (B k = some x ∧ k.at d = false ∧ k ≠ .t t ix) := fun k x hk => by
  cases k with
  | t m i =>
   simp only [B'] at hk
   by_cases hm : m = d
   ·subst hm
    rw [if_pos rfl] at hk
    cases hq : ls[i]? with
    | none => rw [hq] at hk; cases hk
    | some v =>
     rw [hq] at hk
     cases hvo : v.isOwn
     ·simp only [hvo, cond_false] at hk; cases hk
     ·simp only [hvo, cond_true] at hk; exact .inl ⟨i, v, rfl, hq, hvo, hk⟩
   ·rw [if_neg hm] at hk
    split at hk
    ·cases hk
    ·rename_i hne; exact .inr ⟨hk, beq_false hm, hne⟩
  | s m =>
   simp only [B'] at hk
   split at hk
   ·cases hk
   ·rename_i hm; exact .inr ⟨hk, beq_false hm, by simp⟩
  | b m => exact .inr ⟨hk, rfl, by simp⟩
  | l m i => exact .inr ⟨hk, rfl, by simp⟩
 refine ⟨vs, B', h1, h2, hf.put2 (M := fun _ => False) (F := fun k => k = .t t ix) hd (KeptBut.refl _ _) (fun _ hm => hm.elim) ?_ (fun _ hb => hb) (fun _ hb => .inl hb) h.sub ?_ ?_ ?_ ?_ ?_⟩
 ·rintro k rfl
  refine ⟨fun n hn => ?_, rfl⟩
  rw [Env.g_set]
  by_cases htn : t = n
  ·subst htn
   rw [if_pos rfl]
   simp [SV.needs, hix]
  ·rw [if_neg htn, ht]
   simp only [SV.isOwn, Bool.false_eq_true, false_and, if_false]
   cases hnn : (E.g n).needs n (.t t ix)
   ·rfl
   ·exact absurd (Nat.eq_of_beq_eq_true (SV.needs_at hnn)) htn
 ·intro k hkd hkF
  cases k with
  | t m i =>
   have hm : m ≠ d := by rintro rfl; simp [Loc.at, beq_self] at hkd
   simp only [B']
   rw [if_neg hm, if_neg hkF]
  | s m =>
   have hm : m ≠ d := by rintro rfl; simp [Loc.at, beq_self] at hkd
   simp [B', hm]
  | b m => rfl
  | l m i => rfl
 ·intro k hkd hkF
  subst hkF
  simp only [B']
  rw [if_neg hdt]
  simp
 ·intro k g hkd hb
  rcases hB' k g hb with ⟨i, v, _, _, _, k1⟩ | ⟨_, k1, _⟩
  ·obtain ⟨f1, f2, _⟩ := h.free _ g k1
   exact ⟨.inr ⟨_, rfl, k1⟩, f2, f1⟩
  ·rw [k1] at hkd; cases hkd
 ·intro k k' g hkd hkd' hb hb'
  rcases hB' k g hb with ⟨i, v, e1, a1, a2, k1⟩ | ⟨_, k1, _⟩
  ·rcases hB' k' g hb' with ⟨i', v', f1, b1, b2, k2⟩ | ⟨_, k2, _⟩
   ·rw [e1, f1, owns_one hag' a1 a2 b1 b2]
   ·rw [k2] at hkd'; cases hkd'
  ·rw [k1] at hkd; cases hkd
 ·refine ⟨vs', by rw [tv_put (by rw [h.size]; exact hd), if_pos rfl]; exact hvs', hLs.move (Keep.refl _ _) (fun _ hx => hx) (fun j v hj hvv => ⟨?_, fun _ _ => rfl⟩)⟩
  simp [B', hj, hvv]

theorem evExtract_ok (hT : TOk P T) (h : Sim P C S B E a w) {sh : List Nat} {ty : TypeId} {x : Operand} {ix : Nat} (ho : o.op = .extract x ix) (hk : evExtract T E.vw sh ty x ix o.dst K = some r) : Ok P C E a w o K r := by
 unfold evExtract at hk
 split at hk
 ·rename_i t
  have hs := h.slots t
  have hgt : E.vw.g t = E.g t := rfl
  rw [hgt] at hk
  have e1 : a.eval (.tmp t) = tv a t := rfl
  split at hk
  ·rename_i l hn
   rw [hn] at hs
   have run : ∀ vs : Array Value, tv a t = .tuple vs → ix < vs.size → (execOp a.eval o).run P w = .ok (.value (vs.getD ix Go.undef)) w := by
    intro vs hv hix
    have : vs[ix]? = some (vs.getD ix Go.undef) := by simp [hix]
    simp only [execOp, ho, e1, hv, Instr.extract, this]; rfl
   split at hk
   ·rename_i ty y hl
    obtain ⟨vs, h1, h2, h3⟩ := hs
    have hix : ix < vs.size := by rw [h2]; exact (List.getElem?_eq_some_iff.1 hl).1
    exact goes_val h hk (h3 ix _ hl) (run vs h1 hix)
   ·rename_i id e xs hl
    obtain ⟨d, hd, hlt, hk'⟩ := putC_some hk
    obtain ⟨vs, B', h1, h2, hs'⟩ := h.takeComp hlt hn hl
    have hix : ix < vs.size := by rw [h2]; exact (List.getElem?_eq_some_iff.1 hl).1
    exact ⟨_, hk', Goes.value (run vs h1 hix) (by rw [hd]; exact hs')⟩
   ·rename_i ls hl
    split at hk
    ·cases hk
    ·rename_i hdt
     cases hkp : keepA sh o.dst
     ·rw [hkp, cond_false] at hk
      split at hk
      ·rename_i p q hty
       split at hk
       ·rename_i y hy
        obtain ⟨d, hd, hlt, hk'⟩ := putC_some hk
        obtain ⟨vs, B', h1, h2, hs'⟩ := h.takeAgg hlt hn hl (by rintro rfl; exact hdt hd)
        have hix : ix < vs.size := by rw [h2]; exact (List.getElem?_eq_some_iff.1 hl).1
        have hsl := hs'.slots d
        rw [Env.g_set, if_pos rfl] at hsl
        obtain ⟨us, hv, hL⟩ := hsl
        have hu := hs'.tell (s := d) (sv := .undef) (fun _ _ _ => trivial)
        let S2 : Nat → Prop := fun b => S b ∨ ∃ i, B' (.t d i) = some b
        have hat : ∀ i, (Loc.t d i).at d = true := fun i => beq_self d
        have hm := hu.more (S' := S2) (fun _ hx => .inl hx) (by
         rintro b (hx | ⟨i, hx⟩)
         ·exact .inl hx
         ·obtain ⟨f1, f2, f3⟩ := hs'.free _ b hx
          refine .inr ⟨f2, f3, fun k hk2 => ?_⟩
          unfold dropAt at hk2
          split at hk2
          ·cases hk2
          ·rename_i hnat
           have := hs'.inj _ _ b hk2 hx
           subst this
           exact hnat (hat i))
        have hf := hm.tell (s := d) (sv := .val (.pair p q) y) (fun B2 _ _ => by
         show ValR S2 w (.pair p q) y _
         rw [hv]
         have hlay := hL.lay (S' := S2) (ob' := fun _ => none) (fun _ hx => .inl hx) (fun j v _ _ g hg => .inr ⟨_, hg⟩)
         obtain ⟨c1, c2, j, e1, e2, e3⟩ := asm_sound hlay hy
         simp only [LeavesR] at e3
         subst e3
         rw [List.append_nil] at e1
         exact ⟨c1, e2, by rw [← e1]; simp [pack, Ty.agg]⟩)
        rw [set_set _ rfl, set_set _ rfl] at hf
        refine ⟨_, hk', Goes.value (run vs h1 hix) (by rw [hd]; exact hf)⟩
       ·cases hk
      ·cases hk
     ·rw [hkp, cond_true] at hk
      obtain ⟨d, hd, hlt, hk'⟩ := putC_some hk
      obtain ⟨vs, B', h1, h2, hs'⟩ := h.takeAgg hlt hn hl (by rintro rfl; exact hdt hd)
      have hix : ix < vs.size := by rw [h2]; exact (List.getElem?_eq_some_iff.1 hl).1
      exact ⟨_, hk', Goes.value (run vs h1 hix) (by rw [hd]; exact hs')⟩
   ·cases hk
  ·cases hk
 ·cases hk

end
end Go.Proofs.YtecdijlfnnminaaGreatDoor.Eng
