/- The operations do what is told of them: parts of rows and strings, conversions, least and greatest. -/
import Derived.Test.YtecdijlfnnminaaGreatDoorE1
import Derived.Laws.Tables
namespace Go.Proofs.YtecdijlfnnminaaGreatDoor.Eng
open Go Go.RowKit
set_option linter.unusedVariables false
set_option linter.unusedSimpArgs false

section
universe u
variable {R : Type u} {P : Program} {T : Tys} {C : Ctx} {S : Nat → Prop} {B : Loc → Option Nat} {E : Env} {a : Act} {w : World} {o : Oper} {r : R} {K : List Cmd → Option R}

theorem rdOr_some (h : Sim P C S B E a w) {x : Option Operand} {d n : Int} (hr : rdOr T E.vw x d = some n) : (x = none ∧ n = d) ∨ ∃ y k, x = some y ∧ a.eval y = .int k n := by
 cases x with
 | none => simp only [rdOr, Option.some.injEq] at hr; exact .inl ⟨rfl, hr.symm⟩
 | some y =>
  simp only [rdOr] at hr
  split at hr
  ·rename_i k m hm
   simp only [Option.some.injEq] at hr
   subst hr
   exact .inr ⟨y, k, rfl, rd_int h hm⟩
  ·cases hr

theorem run_bounds {isS : Bool} {len cap : Nat} {lo hi : Option Operand} {l h : Int} (hlo : (lo = none ∧ l = 0) ∨ ∃ y k, lo = some y ∧ a.eval y = .int k l)
  (hhi : (hi = none ∧ h = len) ∨ ∃ y k, hi = some y ∧ a.eval y = .int k h) (h0 : 0 ≤ l) (h1 : l ≤ h) (h2 : h ≤ cap) :
  (Instr.sliceBounds isS len cap (lo.map a.eval) (hi.map a.eval) none).run P w = .ok (l.toNat, h.toNat, cap) w := by
 have h3 : 0 ≤ h := by omega
 rcases hlo with ⟨rfl, rfl⟩ | ⟨y, k, rfl, hy⟩ <;> rcases hhi with ⟨rfl, rfl⟩ | ⟨z, k', rfl, hz⟩ <;>
  simp_all [Instr.sliceBounds, Instr.sliceBound, asIntOf] <;> omega

theorem run_bounds3 {len cap : Nat} {lo : Option Operand} {hi mx : Operand} {l h : Int} {k1 k2 : IntKind} (hlo : (lo = none ∧ l = 0) ∨ ∃ y k, lo = some y ∧ a.eval y = .int k l)
  (hhi : a.eval hi = .int k1 h) (hmx : a.eval mx = .int k2 h) (h0 : 0 ≤ l) (h1 : l ≤ h) (h2 : h ≤ cap) :
  (Instr.sliceBounds true len cap (lo.map a.eval) (some (a.eval hi)) (some (a.eval mx))).run P w = .ok (l.toNat, h.toNat, h.toNat) w := by
 have h3 : 0 ≤ h := by omega
 have h4 : h ≤ (h.toNat : Int) := by omega
 rcases hlo with ⟨rfl, rfl⟩ | ⟨y, k, rfl, hy⟩ <;>
  simp_all [Instr.sliceBounds, Instr.sliceBound, asIntOf]
 intro hx
 omega

theorem subI_some {α : Type} {xs ys : List α} {l h : Int} (hs : subI xs l h = some ys) : 0 ≤ l ∧ l ≤ h ∧ h ≤ xs.length ∧ ys = (xs.drop l.toNat).take (h.toNat - l.toNat) := by
 unfold subI at hs
 split at hs
 ·rename_i hc; exact ⟨hc.1, hc.2.1, hc.2.2, by cases hs; rfl⟩
 ·cases hs

theorem SliceR.part {Q : Nat → Prop} {sz : Nat} {α : Type} {Rl : α → List Value → Prop} {xs ys : List α} {l h : Int} {ad : Option Addr} {len cap m : Nat} (hv : SliceR Q w sz Rl xs (.slice ad len cap))
  (hs : subI xs l h = some ys) (hm : m = cap ∨ m = h.toNat) :
  SliceR Q w sz Rl ys (.slice (if m = l.toNat then ad else ad.map (·.add (l.toNat * sz))) (h.toNat - l.toNat) (m - l.toNat)) ∧ h.toNat ≤ cap ∧ ys.length = h.toNat - l.toNat := by
 obtain ⟨h0, h1, h2, rfl⟩ := subI_some hs
 rcases hv with ⟨ad', he, rfl⟩ | ⟨b, off, cap', he, hc, hmx, hb, hl, hel⟩
 ·injection he with e1 e2 e3
  subst e1 e2 e3
  simp at h2
  have e1 : l.toNat = 0 := by omega
  have e2 : h.toNat = 0 := by omega
  refine ⟨.inl ⟨ad, ?_, by simp⟩, by omega, by simp [e1, e2]⟩
  rcases hm with rfl | rfl <;> simp [e1, e2]
 ·injection he with e1 e2 e3
  subst e1 e2 e3
  have hl2 : h.toNat ≤ xs.length := by omega
  have hlen : ((xs.drop l.toNat).take (h.toNat - l.toNat)).length = h.toNat - l.toNat := by simp; omega
  refine ⟨?_, by omega, hlen⟩
  by_cases hml : m = l.toNat
  ·rw [if_pos hml]
   have : h.toNat - l.toNat = 0 := by rcases hm with rfl | rfl <;> omega
   refine .inr ⟨b, off, m - l.toNat, by rw [hlen], by omega, by omega, hb, hl, fun i hi => by omega⟩
  ·rw [if_neg hml]
   refine .inr ⟨b, off + l.toNat * sz, m - l.toNat, by rw [hlen]; simp [Addr.add_lit], by rcases hm with rfl | rfl <;> omega, by rcases hm with rfl | rfl <;> omega, hb, hl, fun i hi => ?_⟩
   have hi' : l.toNat + i < xs.length := by omega
   obtain ⟨cs, hcs, hj⟩ := hel (l.toNat + i) hi'
   refine ⟨cs, by simpa using hcs, fun j u hu => ?_⟩
   have := hj j u hu
   rw [show off + l.toNat * sz + i * sz + j = off + (l.toNat + i) * sz + j by rw [Nat.add_mul]; omega]
   exact this

theorem escC_sound (h : Sim P C S B E a w) (x : Operand) : ∃ S' B', Sim P C S' B' (E.run (escC E.vw x)) a w ∧ (E.run (escC E.vw x)).nt = E.nt ∧ (∀ b, S b → S' b) ∧ (∀ s, src E.vw x = some s → ∀ g, B (.s s) = some g → S' g) ∧ (∀ l, B' l = B l ∨ B' l = none) := by
 unfold escC
 cases hs : src E.vw x with
 | none => exact ⟨S, B, h, rfl, fun _ hb => hb, fun s hs => (by cases hs), fun _ => .inl rfl⟩
 | some s =>
  obtain ⟨S', B', h1, h2, _, h4, h5⟩ := h.fzs [s]
  obtain ⟨ho, _⟩ := src_sound h hs
  refine ⟨S', B', h1, ?_, h2, ?_, h5.1⟩
  ·show (E.fz s).nt = E.nt
   unfold Env.fz
   split <;> rfl
  ·intro s' hs' g hg
   cases hs'
   exact h4 s (by simp) g ho hg

theorem bytes_extract (s : List UInt8) (l h : Nat) : (⟨s.toArray⟩ : ByteArray).extract l h = ⟨((s.drop l).take (h - l)).toArray⟩ := by
 apply ByteArray.ext
 simp [ByteArray.data_extract]

theorem run_cmds_append (E : Env) : ∀ (xs ys : List Cmd), E.run (xs ++ ys) = (E.run xs).run ys
 | [], _ => rfl
 | c :: xs, ys => run_cmds_append (E.do1 c) xs ys

theorem evSlice_ok (hT : TOk P T) (h : Sim P C S B E a w) {ty : TypeId} {x : Operand} {lo hi mx : Option Operand} (ho : o.op = .slice ty x lo hi mx) (hk : evSlice T E.vw ty x lo hi mx o.dst K = some r) : Ok P C E a w o K r := by
 unfold evSlice at hk
 split at hk
 ·rename_i s hx hty
  split at hk
  ·rename_i l hh hl hhh
   cases hs : subI s l hh with
   | none => rw [hs] at hk; cases hk
   | some q =>
    rw [hs] at hk
    obtain ⟨h0, h1, h2, hq⟩ := subI_some hs
    have hu := und_str hT hty
    have hv := rd_str h hx
    have hsz : (⟨s.toArray⟩ : ByteArray).size = s.length := by show s.toArray.size = _; simp
    have hb := run_bounds (P := P) (w := w) (isS := false) (len := s.length) (cap := s.length) (rdOr_some h hl) (rdOr_some h hhh) h0 h1 (by omega)
    refine goes_val h hk (ValR.str.2 rfl) ?_
    have hse : (Instr.sliceAt ty (.string ⟨s.toArray⟩) (lo.map a.eval) (hi.map a.eval) none).run P w = .ok (.string ⟨q.toArray⟩) w := by
     simp [Instr.sliceAt, Instr.slice, run_underlying hu, hsz, hb, bytes_extract, hq]
    simp [execOp, ho, hv, hse]
  ·cases hk
 ·rename_i e xs e' hx hty
  split at hk
  ·rename_i hee; subst hee
   split at hk
   ·rename_i l hh hl hhh
    cases hs : subI xs l hh with
    | none => rw [hs] at hk; cases hk
    | some q =>
     rw [hs] at hk
     obtain ⟨h0, h1, h2, hq⟩ := subI_some hs
     obtain ⟨i, _, hu, he, _⟩ := und_slice hT hty
     obtain ⟨S', B', hs1, hnt, hsub, hg, _⟩ := escC_sound h x
     have hv := ValR.slice.1 (rd_esc h hx hsub hg)
     obtain ⟨ad, cap, hvv⟩ := hv.form
     rw [hvv] at hv
     obtain ⟨hp, hcap, hlen⟩ := hv.part hs (m := cap) (.inl rfl)
     have hb := run_bounds (P := P) (w := w) (isS := true) (len := xs.length) (cap := cap) (rdOr_some h hl) (rdOr_some h hhh) h0 h1 (by omega)
     obtain ⟨d, hd, hlt, hk'⟩ := putC_some hk
     refine ⟨_, hk', Goes.value (w' := w) (S' := S') (B' := dropAt B' d) (v := .slice (if cap = l.toNat then ad else ad.map (·.add (l.toNat * e.size))) (hh.toNat - l.toNat) (cap - l.toNat)) ?_ ?_⟩
     ·simp only [execOp, ho, hvv, Instr.sliceAt, Instr.slice, Sem.run_bind, run_underlying hu, Result.andThen_ok, Option.map_none, hb, size_of hT he, Sem.run_pure]
     ·rw [hd, run_cmds_append]
      exact hs1.putVal (by rw [hnt]; exact hlt) (ValR.slice.2 hp)
   ·cases hk
  ·cases hk
 ·rename_i e xs m e' hx hty
  split at hk
  ·rename_i hee
   obtain ⟨hee, hsome⟩ := hee
   subst hee
   split at hk
   ·rename_i l hh c hl hhh hc
    split at hk
    ·rename_i hhc; subst hhc
     cases hs : subI xs l hh with
     | none => rw [hs] at hk; cases hk
     | some q =>
      rw [hs] at hk
      obtain ⟨h0, h1, h2, hq⟩ := subI_some hs
      obtain ⟨i, _, hu, he, _⟩ := und_slice hT hty
      obtain ⟨S', B', hs1, hnt, hsub, hg, _⟩ := escC_sound h x
      have hv := ValR.slice.1 (rd_esc h hx hsub hg)
      obtain ⟨ad, cap, hvv⟩ := hv.form
      rw [hvv] at hv
      obtain ⟨hp, hcap, hlen⟩ := hv.part hs (m := hh.toNat) (.inr rfl)
      obtain ⟨hz, k1, hhe, hev⟩ := (rdOr_some h hhh).resolve_left (by rintro ⟨rfl, _⟩; cases hsome)
      subst hhe
      obtain ⟨mz, k2, hme, hmv⟩ := (rdOr_some h hc).resolve_left (by rintro ⟨hn, _⟩; cases hn)
      cases hme
      have hb := run_bounds3 (P := P) (w := w) (len := xs.length) (cap := cap) (rdOr_some h hl) hev hmv h0 h1 (by omega)
      obtain ⟨d, hd, hlt, hk'⟩ := putC_some hk
      refine ⟨_, hk', Goes.value (w' := w) (S' := S') (B' := dropAt B' d) (v := .slice (if hh.toNat = l.toNat then ad else ad.map (·.add (l.toNat * e.size))) (hh.toNat - l.toNat) (hh.toNat - l.toNat)) ?_ ?_⟩
      ·simp only [execOp, ho, hvv, Instr.sliceAt, Instr.slice, Sem.run_bind, run_underlying hu, Result.andThen_ok, Option.map_some, hb, size_of hT he, Sem.run_pure]
      ·rw [hd, run_cmds_append]
       have hdt : d < a.tmps.size := by rw [h.size]; exact hlt
       refine hs1.putPlain (by rw [hnt]; exact hlt) (Below.refl _ _) (fun _ hb => hb) (fun _ hb => .inl hb) hs1.sub ?_
       refine ⟨by rw [tv_put hdt, if_pos rfl]; exact hp, fun ad l c hh => ?_⟩
       rw [tv_put hdt, if_pos rfl] at hh
       injection hh with _ e2 e3
       omega
    ·cases hk
   ·cases hk
  ·cases hk
 ·cases hk

end
end Go.Proofs.YtecdijlfnnminaaGreatDoor.Eng
namespace Go.Proofs.YtecdijlfnnminaaGreatDoor.Eng
open Go Go.RowKit
set_option linter.unusedVariables false
set_option linter.unusedSimpArgs false

section
universe u
variable {R : Type u} {P : Program} {T : Tys} {C : Ctx} {S : Nat → Prop} {B : Loc → Option Nat} {E : Env} {a : Act} {w : World} {o : Oper} {r : R} {K : List Cmd → Option R}

theorem push_bytes : ∀ (xs : List Int) (acc : List UInt8), xs.foldl (fun (b : ByteArray) n => b.push (UInt8.ofNat n.toNat)) ⟨acc.toArray⟩ = ⟨(acc ++ xs.map fun n => UInt8.ofNat n.toNat).toArray⟩
 | [], acc => by simp
 | x :: xs, acc => by
  rw [List.foldl_cons]
  have : (⟨acc.toArray⟩ : ByteArray).push (UInt8.ofNat x.toNat) = ⟨(acc ++ [UInt8.ofNat x.toNat]).toArray⟩ := by
   simp [ByteArray.push]
  rw [this, push_bytes xs]
  simp

theorem evConvert_ok (hT : TOk P T) (h : Sim P C S B E a w) {s d : TypeId} {x : Operand} (ho : o.op = .convert s d x) (hk : evConvert T E.vw s d x o.dst K = some r) : Ok P C E a w o K r := by
 unfold evConvert at hk
 split at hk
 ·rename_i k0 n k1 k hx hs hd
  have hv := rd_int h hx
  have us := und_int hT hs
  have ud := und_int hT hd
  refine goes_val h hk (ValR.int.2 rfl) ?_
  simp [execOp, ho, hv, convert, run_underlying us, run_underlying ud, Conv.intToInt]
 ·rename_i y hx hs hd
  have hv := rd_str h hx
  have us := und_str hT hs
  have ud := und_str hT hd
  refine goes_val h hk (ValR.str.2 rfl) ?_
  simp [execOp, ho, hv, convert, run_underlying us, run_underlying ud]
 ·rename_i xs hx hs hd
  have hv := rd_slice h hx
  obtain ⟨i, _, us, he, _⟩ := und_slice hT hs
  have ue := und_int hT he
  have ud := und_str hT hd
  refine goes_val h hk (v := .string ⟨(xs.map fun n => UInt8.ofNat n.toNat).toArray⟩) (ValR.str.2 rfl) ?_
  rcases hv with ⟨ad, hv, rfl⟩ | ⟨b, off, cap, hv, hc, hm, hb, hl, hel⟩
  ·cases ad with
   | none =>
    simp [execOp, ho, hv, convert, run_underlying us, run_underlying ud, run_underlying ue, Conv.bytesToString]
    rfl
   | some ad =>
    have hb := run_bytesToString (P := P) w ad 0 0 [] (by rfl)
    simp [execOp, ho, hv, convert, run_underlying us, run_underlying ud, run_underlying ue]
    rw [hb]; rfl
  ·have hload : (loadCells ⟨b, off, none⟩ xs.length).run P w = .ok (xs.map (Value.int .u8)).toArray w := by
    have := run_loadCells_list (P := P) w ⟨b, off, none⟩ (xs.map (Value.int .u8)) (fun j u hu => by
     rw [List.getElem?_map] at hu
     have hj : j < xs.length := by
      cases hq : xs[j]? with
      | none => rw [hq] at hu; cases hu
      | some z => exact (List.getElem?_eq_some_iff.1 hq).1
     obtain ⟨cs, hcs, hjj⟩ := hel j hj
     simp only [Cells] at hcs
     have hu' : u = .int .u8 xs[j] := by rw [List.getElem?_eq_getElem hj] at hu; simpa using hu.symm
     have := hjj 0 u (by rw [hcs, hu']; rfl)
     rw [Addr.add_lit]
     simpa [Ty.size] using this)
    simpa using this
   have hb := run_bytesToString (P := P) w ⟨b, off, none⟩ xs.length cap xs hload
   have e : xs.foldl (fun (r : ByteArray) n => r.push (UInt8.ofNat n.toNat)) ByteArray.empty = ⟨(xs.map fun n => UInt8.ofNat n.toNat).toArray⟩ := by
    have := push_bytes xs []
    rw [List.nil_append] at this
    exact this
   rw [e] at hb
   simp [execOp, ho, hv, convert, run_underlying us, run_underlying ud, run_underlying ue, hb]
 ·cases hk

/-- Values read, one behind the other. -/
def ViewsR (S Q : Nat → Prop) (w : World) : List V → List Value → Prop
 | [], vs => vs = []
 | y :: l, vs => ∃ u r, vs = u :: r ∧ ViewR S Q w y u ∧ ViewsR S Q w l r

theorem rds_sound (h : Sim P C S B E a w) : ∀ {xs : List Operand} {ts : List TypeId} {l : List V}, rds T E.vw ts xs = some l → ViewsR S (AllS S B) w l (xs.map a.eval)
 | [], ts, l, hr => by simp only [rds, Option.some.injEq] at hr; subst hr; rfl
 | x :: xs, ts, l, hr => by
  simp only [rds] at hr
  split at hr
  ·rename_i y l' h1 h2
   simp only [Option.some.injEq] at hr
   subst hr
   exact ⟨_, _, rfl, rd_sound h h1, rds_sound h h2⟩
  ·cases hr

theorem fold_min {Q : Nat → Prop} : ∀ {l : List V} {vs : List Value} {k : IntKind} {acc n : Int}, ViewsR S Q w l vs → foldI mn2 k acc l = some n → (vs.foldlM Builtin.min2 (.int k acc)).run P w = .ok (.int k n) w
 | [], vs, k, acc, n, hv, hf => by simp only [ViewsR] at hv; subst hv; simp only [foldI, Option.some.injEq] at hf; subst hf; rfl
 | y :: l, vs, k, acc, n, hv, hf => by
  obtain ⟨u, rr, rfl, h1, h2⟩ := hv
  cases y with | mk yt yx =>
  cases yt <;> simp only [foldI] at hf <;> try cases hf
  rename_i k'
  split at hf
  ·rename_i hk; subst hk
   have hu : u = .int k yx := ValR.int.1 h1
   subst hu
   have : (Builtin.min2 (.int k acc) (.int k yx)).run P w = .ok (.int k (mn2 acc yx)) w := by simp [Builtin.min2, mn2]
   simp only [List.foldlM_cons, Sem.run_bind, this, Result.andThen_ok]
   exact fold_min h2 hf
  ·cases hf
theorem fold_max {Q : Nat → Prop} : ∀ {l : List V} {vs : List Value} {k : IntKind} {acc n : Int}, ViewsR S Q w l vs → foldI mx2 k acc l = some n → (vs.foldlM Builtin.max2 (.int k acc)).run P w = .ok (.int k n) w
 | [], vs, k, acc, n, hv, hf => by simp only [ViewsR] at hv; subst hv; simp only [foldI, Option.some.injEq] at hf; subst hf; rfl
 | y :: l, vs, k, acc, n, hv, hf => by
  obtain ⟨u, rr, rfl, h1, h2⟩ := hv
  cases y with | mk yt yx =>
  cases yt <;> simp only [foldI] at hf <;> try cases hf
  rename_i k'
  split at hf
  ·rename_i hk; subst hk
   have hu : u = .int k yx := ValR.int.1 h1
   subst hu
   have : (Builtin.max2 (.int k acc) (.int k yx)).run P w = .ok (.int k (mx2 acc yx)) w := by simp [Builtin.max2, mx2]
   simp only [List.foldlM_cons, Sem.run_bind, this, Result.andThen_ok]
   exact fold_max h2 hf
  ·cases hf

theorem evMin_ok (h : Sim P C S B E a w) {c : Call} (ho : o.op = .call c) (hc : c.callee = .builtin .min) {ts : List TypeId} (hk : evMin T E.vw mn2 ts c.args.toList o.dst K = some r) : Ok P C E a w o K r := by
 obtain ⟨cs, hrun⟩ := run_builtin (P := P) (w := w) (a := a) ho hc
 unfold evMin at hk
 split at hk
 ·rename_i k n0 rest hx
  split at hk
  ·rename_i n hn
   have hv := rds_sound h hx
   obtain ⟨u, rr, he, h1, h2⟩ := hv
   have hu : u = .int k n0 := ValR.int.1 h1
   subst hu
   refine goes_val h hk (v := .int k n) (ValR.int.2 rfl) ?_
   have hl : (c.args.map a.eval).toList = .int k n0 :: rr := by rw [Array.toList_map]; exact he
   rw [hrun]
   simp only [builtin, Builtin.min_, hl, Sem.run_bind, fold_min h2 hn, Result.andThen_ok, Sem.run_pure]
  ·cases hk
 ·cases hk
theorem evMax_ok (h : Sim P C S B E a w) {c : Call} (ho : o.op = .call c) (hc : c.callee = .builtin .max) {ts : List TypeId} (hk : evMin T E.vw mx2 ts c.args.toList o.dst K = some r) : Ok P C E a w o K r := by
 obtain ⟨cs, hrun⟩ := run_builtin (P := P) (w := w) (a := a) ho hc
 unfold evMin at hk
 split at hk
 ·rename_i k n0 rest hx
  split at hk
  ·rename_i n hn
   have hv := rds_sound h hx
   obtain ⟨u, rr, he, h1, h2⟩ := hv
   have hu : u = .int k n0 := ValR.int.1 h1
   subst hu
   refine goes_val h hk (v := .int k n) (ValR.int.2 rfl) ?_
   have hl : (c.args.map a.eval).toList = .int k n0 :: rr := by rw [Array.toList_map]; exact he
   rw [hrun]
   simp only [builtin, Builtin.max_, hl, Sem.run_bind, fold_max h2 hn, Result.andThen_ok, Sem.run_pure]
  ·cases hk
 ·cases hk

/-! ### fields -/
theorem V.as_some {v : V} {t : Ty} {z : t.den} (h : v.as t = some z) : v = ⟨t, z⟩ := by
 unfold V.as at h
 split at h
 ·rename_i he
  cases v with | mk vt vx =>
  simp only at he
  subst he
  simp only [Option.some.injEq] at h
  subst h
  rfl
 ·cases h

/-- Where a field lies. -/
theorem flds_sound : ∀ {fl : List (TypeId × Nat)} {t : Ty} {x : t.den} {cs : List Value} {o0 : Nat}, fldsOk T t o0 fl = true → Cells S w t x cs →
  ∀ {f : Nat} {z : V} {ft off : Nat}, (V.flds fl.length ⟨t, x⟩)[f]? = some z → fl[f]? = some (ft, off) →
   ∃ c1 c c2, cs = c1 ++ c ++ c2 ∧ off = o0 + c1.length ∧ Cells S w z.t z.x c ∧ T.ty ft = some z.t ∧ 0 < z.t.size
 | [], t, x, cs, o0, h, _, f, z, ft, off, _, hf => by simp at hf
 | [(ft0, off0)], t, x, cs, o0, h, hc, f, z, ft, off, hz, hf => by
  cases f with
  | succ f => simp at hf
  | zero =>
   simp only [List.length_singleton, V.flds, List.getElem?_cons_zero, Option.some.injEq] at hz hf
   subst hz
   simp only [Prod.mk.injEq] at hf
   obtain ⟨rfl, rfl⟩ := hf
   simp only [fldsOk, Bool.and_eq_true] at h
   obtain ⟨⟨h1, h2⟩, h3⟩ := h
   refine ⟨[], cs, [], by simp, by simpa using Nat.eq_of_beq_eq_true h1, hc, ?_, by simpa [Nat.blt_eq] using h3⟩
   split at h2
   ·rename_i y hy; rw [hy, of_decide_eq_true h2]
   ·cases h2
 | (ft0, off0) :: g :: fl, t, x, cs, o0, h, hc, f, z, ft, off, hz, hf => by
  cases t <;> simp only [fldsOk] at h <;> try cases h
  rename_i p q
  simp only [Bool.and_eq_true] at h
  obtain ⟨⟨⟨h1, h2⟩, h3⟩, h4⟩ := h
  obtain ⟨c1, c2, rfl, k1, k2⟩ := hc
  have hz' : (⟨p, x.1⟩ :: V.flds (fl.length + 1) ⟨q, x.2⟩ : List V)[f]? = some z := hz
  cases f with
  | zero =>
   simp only [List.getElem?_cons_zero, Option.some.injEq] at hz' hf
   subst hz'
   simp only [Prod.mk.injEq] at hf
   obtain ⟨rfl, rfl⟩ := hf
   refine ⟨[], c1, c2, by simp, by simpa using Nat.eq_of_beq_eq_true h1, k1, ?_, by simpa [Nat.blt_eq] using h3⟩
   split at h2
   ·rename_i y hy; rw [hy, of_decide_eq_true h2]
   ·cases h2
  | succ f =>
   simp only [List.getElem?_cons_succ] at hz' hf
   obtain ⟨d1, d, d2, e1, e2, e3, e4, e5⟩ := flds_sound (fl := g :: fl) h4 k2 hz' hf
   refine ⟨c1 ++ d1, d, d2, by rw [e1]; simp, ?_, e3, e4, e5⟩
   rw [e2, List.length_append, k1.length]; omega

theorem fldAt_some {ty : TypeId} {f : Nat} {y z : V} (h : fldAt T ty f y = some z) : ∃ i p q ft off, alook T ty = some i ∧ i.ty = .pair p q ∧ (V.flds i.flds.length y)[f]? = some z ∧ i.flds[f]? = some (ft, off) ∧ T.ty ft = some z.t := by
 unfold fldAt at h
 split at h
 ·rename_i p q id eb fl hi
  split at h
  ·rename_i z0 ft off h1 h2
   split at h
   ·rename_i t ht
    split at h
    ·rename_i zz hzz
     simp only [Option.some.injEq] at h
     subst h
     have := V.as_some hzz
     subst this
     exact ⟨_, p, q, ft, off, hi, rfl, h1, h2, ht⟩
    ·cases h
   ·cases h
  ·cases h
 ·cases h

theorem und_struct (hT : TOk P T) {t : TypeId} {i : TI} {p q : Ty} (h : alook T t = some i) (hp : i.ty = .pair p q) :
  ∃ fs, P.underlying t = some (.struct fs) ∧ fs.toList.map (fun f => (f.type, f.offset)) = i.flds ∧ fldsOk T i.ty 0 i.flds = true := by
 have := (hT t i h).und
 rw [hp] at this
 rw [hp]
 exact this

theorem field_of {fs : Array Field} {fl : List (TypeId × Nat)} {f : Nat} {ft off : Nat} (h : fs.toList.map (fun f => (f.type, f.offset)) = fl) (hf : fl[f]? = some (ft, off)) :
  ∃ fd, fs[f]? = some fd ∧ fd.type = ft ∧ fd.offset = off := by
 rw [← h, List.getElem?_map] at hf
 have : fs.toList[f]? = fs[f]? := by simp
 rw [this] at hf
 cases hq : fs[f]? with
 | none => rw [hq] at hf; cases hf
 | some fd =>
  rw [hq] at hf
  simp only [Option.map_some, Option.some.injEq, Prod.mk.injEq] at hf
  exact ⟨fd, rfl, hf.1, hf.2⟩

theorem run_fieldAt (hT : TOk P T) {ty : TypeId} {i : TI} {p q : Ty} (hi : alook T ty = some i) (hp : i.ty = .pair p q) {f ft off : Nat} (hf : i.flds[f]? = some (ft, off)) {t : Ty} (ht : T.ty ft = some t) (hz : 0 < t.size) (b o : Nat) :
  (Instr.fieldAt ty (.pointer (some ⟨b, o, none⟩)) f).run P w = .ok (.pointer (some ⟨b, o + off, none⟩)) w := by
 obtain ⟨fs, hu, hfs, _⟩ := und_struct hT hi hp
 obtain ⟨fd, h1, h2, h3⟩ := field_of hfs hf
 have hs := size_of (w := w) hT ht
 rw [← h2] at hs
 have hne : ¬ t.size = 0 := by omega
 simp [Instr.fieldAt, run_underlying hu, h1, Instr.sureAddr, fieldPlace, hs, hne, h3, Addr.add_lit]

theorem evFieldAddr_ok (hT : TOk P T) (h : Sim P C S B E a w) {ty : TypeId} {x : Operand} {f : Nat} (ho : o.op = .fieldAddr ty x f) (hk : evFieldAddr T E.vw ty x f o.dst K = some r) : Ok P C E a w o K r := by
 unfold evFieldAddr at hk
 split at hk
 ·rename_i t
  have hs := h.slots t
  have hgt : E.vw.g t = E.g t := rfl
  rw [hgt] at hk
  have e1 : a.eval (.tmp t) = tv a t := rfl
  split at hk
  ·rename_i t' y hn
   rw [hn] at hs
   split at hk
   ·rename_i tt htt
    split at hk
    ·rename_i hte; subst hte
     split at hk
     ·rename_i z hz
      obtain ⟨i, p, q, ft, off, hi, hp, h1, h2, h3⟩ := fldAt_some hz
      obtain ⟨b, bo, cs, hv, hb, hl, hc, hj⟩ := hs
      have hti : i.ty = t' := by
       have := htt; unfold Tys.ty at this; rw [hi] at this; simpa using this
      obtain ⟨fs, hu, hfs, hok⟩ := und_struct hT hi hp
      rw [hti] at hok
      obtain ⟨c1, c, c2, he, ho', hcc, _, hpos⟩ := flds_sound hok hc h1 h2
      have hrun := run_fieldAt (w := w) hT hi hp h2 h3 hpos b bo
      obtain ⟨d, hd, hlt, hk'⟩ := putC_some hk
      refine ⟨_, hk', Goes.value (w' := w) (S' := S) (B' := dropAt B d) (v := .pointer (some ⟨b, bo + off, none⟩)) ?_ ?_⟩
      ·simp only [execOp, ho, e1, hv, Sem.run_bind, hrun, Result.andThen_ok, Sem.run_pure]
      ·rw [hd]
       have hdt : d < a.tmps.size := by rw [h.size]; exact hlt
       refine h.putPlain hlt (Below.refl _ _) (fun _ hb => hb) (fun _ hb => .inl hb) h.sub ?_
       refine ⟨b, bo + off, c, by rw [tv_put hdt, if_pos rfl], hb, hl, hcc, fun j u hu => ?_⟩
       have : cs[c1.length + j]? = some u := by
        rw [he, List.append_assoc, List.getElem?_append_right (by omega), Nat.add_sub_cancel_left, List.getElem?_append_left (List.getElem?_eq_some_iff.1 hu).1]
        exact hu
       have := hj _ u this
       rw [ho', Nat.zero_add, Nat.add_assoc]
       exact this
     ·cases hk
    ·cases hk
   ·cases hk
  ·rename_i b bo hn
   rw [hn] at hs
   obtain ⟨g, hg, hv⟩ := hs
   split at hk
   ·rename_i p q ii ij fl hi
    split at hk
    ·rename_i ft off hf
     split at hk
     ·rename_i t' ht
      split at hk
      ·rename_i hpos
       have hrun := run_fieldAt (w := w) hT hi rfl hf ht hpos g bo
       obtain ⟨d, hd, hlt, hk'⟩ := putC_some hk
       refine ⟨_, hk', Goes.value (w' := w) (S' := S) (B' := dropAt B d) (v := .pointer (some ⟨g, bo + off, none⟩)) ?_ ?_⟩
       ·simp only [execOp, ho, e1, hv, Sem.run_bind, hrun, Result.andThen_ok, Sem.run_pure]
       ·rw [hd]
        have hdt : d < a.tmps.size := by rw [h.size]; exact hlt
        refine h.putPlain hlt (Below.refl _ _) (fun _ hb => hb) (fun _ hb => .inl hb) h.sub ?_
        exact ⟨g, by rw [dropAt_b]; exact hg, by rw [tv_put hdt, if_pos rfl]⟩
      ·cases hk
     ·cases hk
    ·cases hk
   ·cases hk
  ·cases hk
 ·cases hk

theorem evField_ok (hT : TOk P T) (h : Sim P C S B E a w) {ty : TypeId} {x : Operand} {f : Nat} (ho : o.op = .field ty x f) (hk : evField T E.vw ty x f o.dst K = some r) : Ok P C E a w o K r := by
 unfold evField at hk
 split at hk
 ·rename_i y tt hx htt
  split at hk
  ·rename_i hte
   split at hk
   ·rename_i z hz
    obtain ⟨i, p, q, ft, off, hi, hp, h1, h2, h3⟩ := fldAt_some hz
    have hti : i.ty = tt := by
     have := htt; unfold Tys.ty at this; rw [hi] at this; simpa using this
    cases y with | mk yt yx =>
    simp only at hte
    subst hte
    obtain ⟨fs, hu, hfs, hok⟩ := und_struct hT hi hp
    obtain ⟨fd, hfd, hft, hfo⟩ := field_of hfs h2
    have hyp : yt = .pair p q := by rw [← hti]; exact hp
    subst hyp
    have hv : ValR S w (.pair p q) yx (a.eval x) := rd_sound h hx
    obtain ⟨cs, hc, hv⟩ := hv
    rw [hti] at hok
    obtain ⟨c1, c, c2, he, ho', hcc, hzt, hpos⟩ := flds_sound hok hc h1 h2
    refine goes_val h hk (v := pack z.t c) ⟨c, hcc, rfl⟩ ?_
    have hcl := hcc.length
    have hv' : a.eval x = .agg cs.toArray := hv
    have hpart : (part fd.type cs.toArray fd.offset).run P w = .ok (pack z.t c) w := by
     rw [hft, hfo]
     unfold part
     rw [Sem.run_bind, is_agg hT h3, Result.andThen_ok]
     cases ha : z.t.agg
     ·simp only [Bool.false_eq_true, if_false]
      have h1 : z.t.size = 1 := by cases hzz : z.t <;> simp_all [Ty.agg, Ty.size]
      rw [h1] at hcl
      obtain ⟨u, rfl⟩ := List.length_eq_one_iff.1 hcl
      have : cs.toArray[off]? = some u := by
       rw [List.getElem?_toArray, he, ho', Nat.zero_add]; simp
      rw [this]
      simp [pack, ha]
     ·simp only [if_true, Sem.run_bind, size_of hT h3, Result.andThen_ok, Sem.run_pure]
      congr 1
      simp only [pack, ha, if_true, Value.agg.injEq]
      apply Array.ext'
      rw [← hcl, he, ho', Nat.zero_add]
      simp
    simp only [execOp, ho, hv', Instr.field, Sem.run_bind, run_underlying hu, Result.andThen_ok, hfd, asAgg, Sem.run_pure, hpart]
   ·cases hk
  ·cases hk
 ·cases hk

end
end Go.Proofs.YtecdijlfnnminaaGreatDoor.Eng
namespace Go.Proofs.YtecdijlfnnminaaGreatDoor.Eng
open Go Go.RowKit
set_option linter.unusedVariables false
set_option linter.unusedSimpArgs false

section
universe u
variable {R : Type u} {P : Program} {T : Tys} {C : Ctx} {S : Nat → Prop} {B : Loc → Option Nat} {E : Env} {a : Act} {w : World} {o : Oper} {r : R} {K : List Cmd → Option R}

/-! ### what lies one behind the other -/
def FieldsR (S : Nat → Prop) (w : World) : List V → List Value → Prop
 | [], cs => cs = []
 | v :: l, cs => ∃ c1 c2, cs = c1 ++ c2 ∧ Cells S w v.t v.x c1 ∧ FieldsR S w l c2

theorem FieldsR.mono {S' : Nat → Prop} {w' : World} (hk : Keep S w w') (hs : ∀ b, S b → S' b) : ∀ {l : List V} {cs : List Value}, FieldsR S w l cs → FieldsR S' w' l cs
 | [], _, h => h
 | _ :: _, _, ⟨c1, c2, h0, h1, h2⟩ => ⟨c1, c2, h0, h1.mono hk hs, FieldsR.mono hk hs h2⟩

/-- A list of fields as one struct. -/
theorem mk_sound : ∀ {l : List V} {cs : List Value} {y : V}, FieldsR S w l cs → V.mk' l = some y → Cells S w y.t y.x cs
 | [], _, _, _, h => by cases h
 | [v], cs, y, ⟨c1, c2, h0, h1, h2⟩, h => by
  simp only [V.mk', Option.some.injEq] at h
  subst h
  simp only [FieldsR] at h2
  subst h0 h2
  simpa using h1
 | v :: u :: r, cs, y, ⟨c1, c2, h0, h1, h2⟩, h => by
  simp only [V.mk'] at h
  split at h
  ·rename_i x hx
   simp only [Option.some.injEq] at h
   subst h
   exact ⟨c1, c2, h0, h1, mk_sound h2 hx⟩
  ·cases h

/-- The types of the fields and where they lie. -/
def FitF (T : Tys) : Nat → List (TypeId × Nat) → List V → Prop
 | _, [], l => l = []
 | o, (ft, off) :: r, l => ∃ v l', l = v :: l' ∧ off = o ∧ T.ty ft = some v.t ∧ FitF T (o + v.t.size) r l'

theorem FitF.set {fl : List (TypeId × Nat)} : ∀ {o : Nat} {l : List V} {i : Nat} {ft off : Nat} {t : Ty} {z : t.den}, FitF T o fl l → fl[i]? = some (ft, off) → T.ty ft = some t → FitF T o fl (l.set i ⟨t, z⟩) := by
 induction fl with
 | nil => intro o l i ft off t z h hf; simp at hf
 | cons p fl ih =>
  intro o l i ft off t z h hf ht
  obtain ⟨v, l', rfl, h1, h2, h3⟩ := h
  cases i with
  | zero =>
   simp only [List.getElem?_cons_zero, Option.some.injEq] at hf
   subst hf
   have : v.t = t := by rw [h2] at ht; exact Option.some.inj ht
   exact ⟨_, _, rfl, h1, ht, by simpa [this] using h3⟩
  | succ i => exact ⟨v, _, rfl, h1, h2, ih h3 (by simpa using hf) ht⟩

/-- One field laid over. -/
theorem FieldsR.set {fl : List (TypeId × Nat)} : ∀ {o : Nat} {l : List V} {cs : List Value} {i : Nat} {ft off : Nat} {t : Ty} {z : t.den} {d : List Value}, FitF T o fl l → FieldsR S w l cs → fl[i]? = some (ft, off) → T.ty ft = some t → Cells S w t z d →
  o ≤ off ∧ (off - o) + d.length ≤ cs.length ∧ FieldsR S w (l.set i ⟨t, z⟩) (cs.take (off - o) ++ d ++ cs.drop (off - o + d.length)) := by
 induction fl with
 | nil => intro o l cs i ft off t z d h hc hf; simp at hf
 | cons p fl ih =>
  intro o l cs i ft off t z d h hc hf ht hd
  obtain ⟨v, l', rfl, h1, h2, h3⟩ := h
  obtain ⟨c1, c2, rfl, k1, k2⟩ := hc
  have hl1 := k1.length
  cases i with
  | zero =>
   simp only [List.getElem?_cons_zero, Option.some.injEq] at hf
   subst hf
   have htt : v.t = t := by rw [h2] at ht; exact Option.some.inj ht
   subst h1
   have hld := hd.length
   rw [htt] at hl1
   refine ⟨Nat.le_refl _, by rw [List.length_append]; omega, ?_⟩
   simp only [Nat.sub_self, List.take_zero, List.nil_append, Nat.zero_add, List.set_cons_zero]
   rw [show d.length = c1.length by omega, List.drop_left]
   exact ⟨d, c2, rfl, hd, k2⟩
  | succ i =>
   obtain ⟨e1, e2, e3⟩ := ih h3 k2 (by simpa using hf) ht hd
   refine ⟨by omega, by rw [List.length_append]; omega, ?_⟩
   have hsub : off - o = c1.length + (off - (o + v.t.size)) := by omega
   have a1 : (c1 ++ c2).take (off - o) = c1 ++ c2.take (off - (o + v.t.size)) := by
    rw [hsub, List.take_append, List.take_of_length_le (by omega), Nat.add_sub_cancel_left]
   have a2 : (c1 ++ c2).drop (off - o + d.length) = c2.drop (off - (o + v.t.size) + d.length) := by
    rw [hsub, List.drop_append, List.drop_eq_nil_of_le (by omega), List.nil_append]
    congr 1
    omega
   rw [List.set_cons_succ, a1, a2]
   exact ⟨c1, _, by simp, k1, e3⟩

/-- What 'fill' does with one part. -/
theorem fill_one (v : List Value) : ∀ (off : Nat) (cells : Array Value) (k : Nat), off + k + v.length ≤ cells.size →
  ((v.zipIdx k).foldl (fun (cs : Array Value) (p : Value × Nat) => cs.setIfInBounds (off + p.2) p.1) cells).toList = cells.toList.take (off + k) ++ v ++ cells.toList.drop (off + k + v.length) := by
 induction v with
 | nil => intro off cells k h; simp
 | cons x v ih =>
  intro off cells k h
  simp only [List.length_cons] at h
  rw [List.zipIdx_cons, List.foldl_cons, ih off _ (k + 1) (by simp; omega)]
  simp only [Array.toList_setIfInBounds, List.length_cons]
  have hlt : off + k < cells.toList.length := by simp; omega
  rw [show off + (k + 1) = off + k + 1 by omega, List.take_succ_eq_append_getElem (by simp; omega), List.take_set_of_le (by omega), List.getElem_set_self]
  rw [List.drop_set_of_lt (by omega)]
  simp only [List.append_assoc, List.cons_append, List.nil_append]
  congr 3
  congr 1
  omega

theorem fill_step {place : Nat → Option (Nat × Nat)} {cells : Array Value} {i off size : Nat} {v : Value} {rest : List (Nat × Value)} (hp : place i = some (off, size)) (hs : v.cells.size = size) (hle : off + size ≤ cells.size) :
  ∃ cells', Instr.fill place cells ((i, v) :: rest) = Instr.fill place cells' rest ∧ cells'.toList = cells.toList.take off ++ v.cells.toList ++ cells.toList.drop (off + size) := by
 refine ⟨v.cells.zipIdx.foldl (fun cs (c, j) => cs.setIfInBounds (off + j) c) cells, ?_, ?_⟩
 ·simp only [Instr.fill, hp]
  rw [if_neg]
  simp [hs]
  omega
 ·have := fill_one v.cells.toList off cells 0 (by simp; omega)
  simp only [Nat.add_zero, Array.length_toList] at this
  rw [← hs, ← this]
  congr 1
  rw [← Array.foldl_toList, Array.toList_zipIdx]

/-! ### structs -/
theorem info_of {t : TypeId} {i : TI} (hT : TOk P T) (h : alook T t = some i) : ∃ it, P.info? t = some it ∧ it.size = i.ty.size ∧ it.zero = some (pack i.ty i.ty.zeros) := by
 have h1 := (hT t i h).size
 have h2 := (hT t i h).zero
 cases hi : P.info? t with
 | none => rw [hi] at h1; cases h1
 | some it =>
  rw [hi] at h1 h2
  exact ⟨it, rfl, by simpa using h1, by simpa using h2⟩

theorem places_of (hT : TOk P T) : ∀ {fs : List Field} {fl : List (TypeId × Nat)} {o0 : Nat} {l : List V}, fs.map (fun f => (f.type, f.offset)) = fl → FitF T o0 fl l →
  ∃ places, fs.mapM (fun f => (P.info? f.type).map fun i => (f.offset, i.size)) = some places ∧ ∀ (i : Nat) (v : V), l[i]? = some v → ∃ ft off, fl[i]? = some (ft, off) ∧ places[i]? = some (off, v.t.size)
 | [], fl, o0, l, h, hf => by subst h; simp only [List.map_nil, FitF] at hf; subst hf; exact ⟨[], by simp, fun i v hv => by simp at hv⟩
 | f :: fs, fl, o0, l, h, hf => by
  subst h
  obtain ⟨v, l', rfl, h1, h2, h3⟩ := hf
  obtain ⟨places, hp, hpl⟩ := places_of hT (fs := fs) rfl h3
  obtain ⟨i0, hi0, hit, _⟩ := ty_fits hT h2
  obtain ⟨it, hinf, hsz, _⟩ := info_of hT hi0
  refine ⟨(f.offset, v.t.size) :: places, ?_, ?_⟩
  ·simp [List.mapM_cons, hinf, hsz, hit, hp]
  ·intro i v' hv'
   cases i with
   | zero => simp only [List.getElem?_cons_zero, Option.some.injEq] at hv'; subst hv'; exact ⟨_, _, rfl, rfl⟩
   | succ i => simpa using hpl i v' (by simpa using hv')

theorem zeros_fit : ∀ {fl : List (TypeId × Nat)} {t : Ty} {o0 : Nat} {zs : List V}, fldsOk T t o0 fl = true → zerosOf T fl = some zs → FitF T o0 fl zs ∧ ∀ S w, FieldsR S w zs t.zeros
 | [], t, o0, zs, h, _ => by cases t <;> simp [fldsOk] at h
 | [(ft, off)], t, o0, zs, h, hz => by
  have h' : fldsOk T t o0 [(ft, off)] = (Nat.beq off o0 && (match T.ty ft with | some x => decide (x = t) | none => false) && Nat.blt 0 t.size) := by cases t <;> rfl
  rw [h'] at h
  simp only [Bool.and_eq_true] at h
  obtain ⟨⟨h1, h2⟩, _⟩ := h
  split at h2
  ·rename_i x hx
   have hxt := of_decide_eq_true h2
   subst hxt
   simp only [zerosOf, hx, Option.some.injEq] at hz
   subst hz
   exact ⟨⟨_, _, rfl, Nat.eq_of_beq_eq_true h1, hx, rfl⟩, fun S w => ⟨_, [], by simp, Cells.zero S w x, rfl⟩⟩
  ·cases h2
 | (ft, off) :: g :: fl, t, o0, zs, h, hz => by
  cases t <;> simp only [fldsOk] at h <;> try cases h
  rename_i p q
  simp only [Bool.and_eq_true] at h
  obtain ⟨⟨⟨h1, h2⟩, _⟩, h4⟩ := h
  split at h2
  ·rename_i x hx
   have hxt := of_decide_eq_true h2
   subst hxt
   rw [zerosOf] at hz
   simp only [hx] at hz
   cases hr : zerosOf T (g :: fl) with
   | none => rw [hr] at hz; cases hz
   | some l =>
    rw [hr] at hz
    simp only [Option.some.injEq] at hz
    subst hz
    obtain ⟨k1, k2⟩ := zeros_fit h4 hr
    exact ⟨⟨_, _, rfl, Nat.eq_of_beq_eq_true h1, hx, k1⟩, fun S w => ⟨_, _, rfl, Cells.zero S w x, k2 S w⟩⟩
  ·cases h2

theorem build_fill {fl : List (TypeId × Nat)} {places : List (Nat × Nat)} {S' : Nat → Prop} (hpl : ∀ (i : Nat) (l : List V) (v : V), FitF T 0 fl l → l[i]? = some v → ∃ ft off, fl[i]? = some (ft, off) ∧ places[i]? = some (off, v.t.size)) :
  ∀ {parts : List (Nat × Operand)} {acc vs : List V} {cells : Array Value}, FitF T 0 fl acc → FieldsR S' w acc cells.toList → buildV T E.vw fl parts acc = some vs →
   (∀ p ∈ parts, ∀ ty y, rd T E.vw ty p.2 = some y → ValR S' w y.t y.x (a.eval p.2)) →
   ∃ cells', Instr.fill (fun x => places[x]?) cells (parts.map fun p => (p.1, a.eval p.2)) = some cells' ∧ FieldsR S' w vs cells'.toList ∧ FitF T 0 fl vs
 | [], acc, vs, cells, hf, hc, hb, _ => by
  simp only [buildV, Option.some.injEq] at hb
  subst hb
  exact ⟨cells, by simp [Instr.fill], hc, hf⟩
 | (i, x) :: rest, acc, vs, cells, hf, hc, hb, hv => by
  simp only [buildV] at hb
  split at hb
  ·rename_i ft off hfl
   split at hb
   ·rename_i y t hy ht
    split at hb
    ·rename_i z hz
     have hyz := V.as_some hz
     subst hyz
     obtain ⟨cs, hcs, hcc, hpk⟩ := (hv (i, x) (by simp) _ _ hy).cells
     obtain ⟨_, e2, e3⟩ := FieldsR.set hf hc hfl ht hcs
     have hf' := hf.set (z := z) hfl ht
     -- where the place lies
     have hacc : ∃ v, acc[i]? = some v ∧ v.t = t := by
      have : ∀ {fl : List (TypeId × Nat)} {o0 : Nat} {l : List V} {i : Nat}, FitF T o0 fl l → fl[i]? = some (ft, off) → ∃ v, l[i]? = some v ∧ v.t = t := by
       intro fl
       induction fl with
       | nil => intro o0 l i _ h; simp at h
       | cons p fl ih =>
        intro o0 l i h1 h2
        obtain ⟨v, l', rfl, k1, k2, k3⟩ := h1
        cases i with
        | zero =>
         simp only [List.getElem?_cons_zero, Option.some.injEq] at h2
         subst h2
         exact ⟨v, rfl, by rw [k2] at ht; exact Option.some.inj ht⟩
        | succ i => simpa using ih k3 (by simpa using h2)
      exact this hf hfl
     obtain ⟨v, hv1, hv2⟩ := hacc
     obtain ⟨ft', off', g1, g2⟩ := hpl i acc v hf hv1
     rw [hfl] at g1
     simp only [Option.some.injEq, Prod.mk.injEq] at g1
     obtain ⟨rfl, rfl⟩ := g1
     have hsz : (a.eval x).cells.size = t.size := by rw [← Array.length_toList, hcc, hcs.length]
     have hlen : cs.length = t.size := hcs.length
     have hcl : cells.toList.length = cells.size := by simp
     obtain ⟨cells', hfe, hct⟩ := fill_step (place := fun x => places[x]?) (cells := cells) (i := i) (off := off) (size := t.size) (v := a.eval x) (rest := rest.map fun p => (p.1, a.eval p.2)) (by rw [g2, hv2]) hsz (by omega)
     have hc' : FieldsR S' w (acc.set i ⟨t, z⟩) cells'.toList := by
      rw [hct, hcc]
      simp only [Nat.sub_zero] at e3
      rw [← hlen]
      exact e3
     obtain ⟨cells2, h1, h2, h3⟩ := build_fill hpl hf' hc' hb (fun p hp => hv p (List.mem_cons_of_mem _ hp))
     exact ⟨cells2, by rw [List.map_cons, hfe]; exact h1, h2, h3⟩
    ·cases hb
   ·cases hb
  ·cases hb

theorem escs_run (v : Vw) : ∀ parts : List (Nat × Operand), escs v parts = (parts.filterMap fun p => src v p.2).map .fz
 | [] => rfl
 | p :: r => by
  simp only [escs, escC]
  cases hs : src v p.2 with
  | none => simp [hs, escs_run v r]
  | some s => simp [hs, escs_run v r]

/-- Values handed on for good, several. -/
theorem escs_sound (h : Sim P C S B E a w) (parts : List (Nat × Operand)) : ∃ S' B', Sim P C S' B' (E.run (escs E.vw parts)) a w ∧ (E.run (escs E.vw parts)).nt = E.nt ∧ (∀ b, S b → S' b) ∧
  (∀ p ∈ parts, ∀ ty y, rd T E.vw ty p.2 = some y → ValR S' w y.t y.x (a.eval p.2)) := by
 rw [escs_run]
 obtain ⟨S', B', h1, h2, _, h4, _⟩ := h.fzs (parts.filterMap fun p => src E.vw p.2)
 refine ⟨S', B', h1, ?_, h2, fun p hp ty y hy => rd_esc h hy h2 (fun s hs g hg => ?_)⟩
 ·have : ∀ (ss : List Nat) (E : Env), (E.run (ss.map .fz)).nt = E.nt := by
   intro ss
   induction ss with
   | nil => intro E; rfl
   | cons s ss ih =>
    intro E
    show ((E.fz s).run (ss.map .fz)).nt = E.nt
    rw [ih]
    unfold Env.fz
    split <;> rfl
  exact this _ _
 ·exact h4 s (List.mem_filterMap.2 ⟨p, hp, hs⟩) g (src_sound h hs).1 hg

theorem evBuild_ok (hT : TOk P T) (h : Sim P C S B E a w) {ty : TypeId} {parts : Array (Nat × Operand)} (ho : o.op = .build ty parts) (hk : evBuild T E.vw ty parts.toList o.dst K = some r) : Ok P C E a w o K r := by
 unfold evBuild at hk
 split at hk
 ·rename_i p q id eb fl hi
  split at hk
  ·rename_i zs hzs
   split at hk
   ·rename_i vs hvs
    split at hk
    ·rename_i y hy
     split at hk
     ·rename_i hyt
      obtain ⟨S', B', hs1, hnt, hsub, hval⟩ := escs_sound (T := T) h parts.toList
      obtain ⟨fs, hu, hfs, hok⟩ := und_struct hT hi rfl
      obtain ⟨it, hinf, _, hzero⟩ := info_of hT hi
      obtain ⟨hfit, hzr⟩ := zeros_fit hok hzs
      obtain ⟨places, hp1, hp2⟩ := places_of hT hfs hfit
      have hpl : ∀ (i : Nat) (l : List V) (v : V), FitF T 0 fl l → l[i]? = some v → ∃ ft off, fl[i]? = some (ft, off) ∧ places[i]? = some (off, v.t.size) := by
       intro i l v hl hv
       obtain ⟨places', hq1, hq2⟩ := places_of hT hfs hl
       rw [hp1] at hq1
       cases hq1
       exact hq2 i v hv
      have hz0 : FieldsR S' w zs (pack (Ty.pair p q) (Ty.pair p q).zeros).cells.toList := by
       simp only [pack, Ty.agg, if_true, Value.cells]
       exact hzr S' w
      obtain ⟨cells, hf1, hf2, _⟩ := build_fill hpl hfit hz0 hvs hval
      have hbuilt : P.built ty (parts.map fun (i, x) => (i, a.eval x)).toList = some cells := by
       simp only [Program.built, hinf, hu, hzero, hp1]
       rw [← hf1]
       simp
      have hrun : (execOp a.eval o).run P w = .ok (.value (.agg cells)) w := by
       simp only [execOp, ho, Sem.run_bind, run_build w ty _ cells hbuilt, Result.andThen_ok, Sem.run_pure]
      obtain ⟨d, hd, hlt, hk'⟩ := putC_some hk
      refine ⟨_, hk', Goes.value (S' := S') (B' := dropAt B' d) hrun ?_⟩
      rw [hd, run_cmds_append]
      refine hs1.putVal (by rw [hnt]; exact hlt) ⟨cells.toList, mk_sound hf2 hy, ?_⟩
      rw [hyt]
      simp [pack, Ty.agg]
     ·cases hk
    ·cases hk
   ·cases hk
  ·cases hk
 ·cases hk

/-- A struct of a number and of a row that is nil. -/
theorem evBuildN_ok (hT : TOk P T) (h : Sim P C S B E a w) {ty : TypeId} {parts : Array (Nat × Operand)} (ho : o.op = .build ty parts) (hk : evBuildN T E.vw ty parts.toList o.dst K = some r) : Ok P C E a w o K r := by
 unfold evBuildN at hk
 split at hk
 ·rename_i k e id eb f0 f1 hi
  split at hk
  ·rename_i e' id' eb' fl' k0 hf1 hf0
   split at hk
   ·rename_i hee
    obtain ⟨rfl, rfl⟩ := hee
    obtain ⟨fs, hu, hfs, hok⟩ := und_struct hT hi rfl
    obtain ⟨it, hinf, _, hzero⟩ := info_of hT hi
    have ht1 : T.ty f1 = some (.slice e') := by simp [Tys.ty, hf1]
    have hzs : zerosOf T [(f0, 0), (f1, 1)] = some [⟨.int k0, (0 : Int)⟩, ⟨.slice e', []⟩] := by
     simp only [zerosOf, hf0, ht1]; rfl
    obtain ⟨hfit, _⟩ := zeros_fit hok hzs
    obtain ⟨places, hp1, hp2⟩ := places_of hT hfs hfit
    have hput : ∀ {cells : Array Value} {y : Int}, cells.toList = [.int k0 y, .slice none 0 0] → (execOp a.eval o).run P w = .ok (.value (.agg cells)) w → putC E.vw o.dst [] (.agg [⟨.int k0, y⟩, ownV id' e' []]) K = some r → Ok P C E a w o K r := by
     intro cells y hc hrun hk
     obtain ⟨d, hd, hlt, hk'⟩ := putC_some hk
     refine ⟨_, hk', Goes.value' hrun ?_⟩
     rw [hd]
     have hdt : d < a.tmps.size := by rw [h.size]; exact hlt
     refine ⟨_, _, h.putPlain (sv := .agg [⟨.int k0, y⟩, ownV id' e' []]) hlt (Below.refl _ _) (fun _ hx => hx) (fun _ hx => .inl hx) h.sub ?_⟩
     refine ⟨cells, by rw [tv_put hdt, if_pos rfl], ?_⟩
     rw [hc]
     refine ⟨_, _, rfl, rfl, _, _, rfl, ?_, rfl⟩
     have : dropAt B d (.t d (0 + 1)) = none := by simp [dropAt, Loc.at, beq_self]
     show OwnR S w id' e' [] (.slice none 0 0) (dropAt B d (.t d (0 + 1)))
     rw [this]
     exact OwnR.nil id' e'
    have hbuilt : ∀ {ps : List (Nat × Value)} {cells : Array Value}, (parts.map fun (i, x) => (i, a.eval x)).toList = ps → Instr.fill (fun x => places[x]?) #[.int k0 0, .slice none 0 0] ps = some cells → (execOp a.eval o).run P w = .ok (.value (.agg cells)) w := by
     intro ps cells h1 h2
     have : P.built ty (parts.map fun (i, x) => (i, a.eval x)).toList = some cells := by
      simp only [Program.built, hinf, hu, hzero, hp1, h1]
      have e : (fun x : Nat => places.toArray[x]?) = fun x : Nat => places[x]? := by funext x; simp
      rw [e]
      exact h2
     simp only [execOp, ho, Sem.run_bind, run_build w ty _ cells this, Result.andThen_ok, Sem.run_pure]
    split at hk
    ·rename_i hps
     refine hput (cells := #[.int k0 0, .slice none 0 0]) rfl (hbuilt (ps := []) ?_ (by simp [Instr.fill])) hk
     rw [Array.toList_map, hps]; rfl
    ·rename_i x hps
     split at hk
     ·rename_i k' y hx
      split at hk
      ·rename_i hkk
       subst hkk
       have hv := rd_int h hx
       obtain ⟨ft, off, g1, g2⟩ := hp2 0 _ rfl
       simp only [List.getElem?_cons_zero, Option.some.injEq, Prod.mk.injEq] at g1
       obtain ⟨rfl, rfl⟩ := g1
       obtain ⟨cells', hfe, hct⟩ := fill_step (place := fun x => places[x]?) (cells := #[.int k' 0, .slice none 0 0]) (i := 0) (off := 0) (size := 1) (v := a.eval x) (rest := []) (by rw [g2]; rfl) (by rw [hv]; rfl) (by simp)
       refine hput (cells := cells') (y := y) ?_ (hbuilt (ps := [(0, a.eval x)]) ?_ (by rw [hfe]; simp [Instr.fill])) hk
       ·rw [hct, hv]; rfl
       ·rw [Array.toList_map, hps]; rfl
      ·cases hk
     ·cases hk
    ·cases hk
   ·cases hk
  ·cases hk
 ·cases hk

end
end Go.Proofs.YtecdijlfnnminaaGreatDoor.Eng
namespace Go.Proofs.YtecdijlfnnminaaGreatDoor.Eng
open Go Go.RowKit
set_option linter.unusedVariables false
set_option linter.unusedSimpArgs false

section
universe u
variable {R : Type u} {P : Program} {T : Tys} {C : Ctx} {S : Nat → Prop} {B : Loc → Option Nat} {E : Env} {a : Act} {w : World} {o : Oper} {r : R} {K : List Cmd → Option R}

theorem slice_fill {id : TypeId} {e : Ty} {S' : Nat → Prop} : ∀ {parts : List (Nat × Operand)} {i0 : Nat} {xs : List e.den} {cells : Array Value}, elemsOf T E.vw id e i0 parts = some xs → (i0 + parts.length) * e.size = cells.size →
  (∀ p ∈ parts, ∀ ty y, rd T E.vw ty p.2 = some y → ValR S' w y.t y.x (a.eval p.2)) →
  ∃ cells', Instr.fill (fun i => some (i * e.size, e.size)) cells (parts.map fun p => (p.1, a.eval p.2)) = some cells' ∧ ∃ cs, RowCells S' w e xs cs ∧ cells'.toList = cells.toList.take (i0 * e.size) ++ cs
 | [], i0, xs, cells, hx, hl, _ => by
  simp only [elemsOf, Option.some.injEq] at hx
  subst hx
  refine ⟨cells, by simp [Instr.fill], [], rfl, ?_⟩
  rw [List.take_of_length_le (by simp at hl ⊢; omega)]
  simp
 | (i, x) :: rest, i0, xs, cells, hx, hl, hv => by
  simp only [elemsOf] at hx
  split at hx
  ·rename_i hi
   subst hi
   split at hx
   ·rename_i xs' y h1 h2
    split at hx
    ·rename_i z hz
     simp only [Option.some.injEq] at hx
     subst hx
     have := V.as_some hz
     subst this
     obtain ⟨d, hd, hdc, _⟩ := (hv (i, x) (by simp) _ _ h2).cells
     have hdl : d.length = e.size := hd.length
     have hsz : (a.eval x).cells.size = e.size := by rw [← Array.length_toList, hdc, hdl]
     simp only [List.length_cons] at hl
     have hle : i * e.size + e.size ≤ cells.size := by rw [← hl, Nat.add_mul, Nat.add_mul]; omega
     obtain ⟨c1, hf1, hc1⟩ := fill_step (place := fun i => some (i * e.size, e.size)) (cells := cells) (i := i) (v := a.eval x) (rest := rest.map fun p => (p.1, a.eval p.2)) rfl hsz hle
     have hc1s : c1.size = cells.size := by
      rw [← Array.length_toList, hc1, hdc]; simp; omega
     obtain ⟨c2, hf2, cs, hcs, hc2⟩ := slice_fill (i0 := i + 1) (cells := c1) h1 (by rw [hc1s, ← hl]; congr 1; omega) (fun p hp => hv p (List.mem_cons_of_mem _ hp))
     refine ⟨c2, by rw [List.map_cons, hf1]; exact hf2, d ++ cs, ⟨d, cs, rfl, hd, hcs⟩, ?_⟩
     rw [hc2, hc1, hdc, ← List.append_assoc]
     congr 1
     rw [List.take_append_of_le_length (by simp; rw [Nat.add_mul]; omega), List.take_of_length_le (by simp; rw [Nat.add_mul]; omega)]
    ·cases hx
   ·cases hx
  ·cases hx

theorem alloc_below (w : World) (ob : Obj) : Below w.heap.size w (w.alloc ob) := (Below.refl _ _).alloc (Nat.le_refl _) ob

theorem size_alloc (w : World) (ob : Obj) : (w.alloc ob).heap.size = w.heap.size + 1 := by show (w.heap.push ob).size = _; simp

theorem elems_length {id : TypeId} {e : Ty} : ∀ {parts : List (Nat × Operand)} {i0 : Nat} {xs : List e.den}, elemsOf T E.vw id e i0 parts = some xs → xs.length = parts.length
 | [], i0, xs, hx => by simp only [elemsOf, Option.some.injEq] at hx; subst hx; rfl
 | (i, x) :: rest, i0, xs, hx => by
  simp only [elemsOf] at hx
  split at hx
  ·split at hx
   ·rename_i h1 h2
    split at hx
    ·simp only [Option.some.injEq] at hx; subst hx; simp [elems_length h1]
    ·cases hx
   ·cases hx
  ·cases hx

/-- A row newly made, put into a slot. -/
theorem Sim.putRow (h : Sim P C S B E a w) {d : Nat} (hd : d < E.nt) {id : TypeId} {e : Ty} {xs : List e.den} {cells : Array Value} (hr : RowCells S w e xs cells.toList) (hm : xs.length ≤ maxLen) :
  ∃ B', Sim P C S B' (E.set d (.own id e xs)) (a.put (some d) (.slice (some ⟨w.heap.size, 0, none⟩) xs.length xs.length)) (w.alloc (.cells cells id)) := by
 have hb := alloc_below w (.cells cells id)
 have hl := hr.length
 have ho := World.ownsRow_lit (base := 0) (e := id) (size := e.size) w cells xs.length (Nat.zero_le _) hm (by rw [← Array.length_toList]; exact hl)
 refine ⟨_, h.putOwn hd hb (fun _ hx => hx) (fun _ hx => .inl hx) (fun b hx => Nat.lt_of_lt_of_le (h.sub b hx) hb.size) ⟨cells.toList, ho, hr.mono (Keep.of_below hb) (fun _ hx => hx), rfl⟩ ?_⟩
 intro g hg
 simp only [Value.ownBlock, Option.some.injEq] at hg
 subst hg
 exact ⟨Nat.le_refl _, by rw [size_alloc]; omega, fun hx => absurd (h.sub _ hx) (Nat.lt_irrefl _)⟩

theorem evBuildSlice_ok (hT : TOk P T) (h : Sim P C S B E a w) {ty : TypeId} {len : Nat} {parts : Array (Nat × Operand)} (ho : o.op = .buildSlice ty len parts)
  (hk : evBuildSlice T E.vw ty len parts.toList o.dst K = some r) : Ok P C E a w o K r := by
 unfold evBuildSlice at hk
 split at hk
 ·rename_i e id eb fl hi
  split at hk
  ·rename_i xs hxs
   cases hc : (Nat.beq xs.length len && Nat.ble (len * e.size) 16777216)
   ·rw [hc] at hk; cases hk
   ·rw [hc, cond_true] at hk
    simp only [Bool.and_eq_true] at hc
    have hlen : xs.length = len := Nat.eq_of_beq_eq_true hc.1
    have hsm : len * e.size ≤ 16777216 := by simpa using hc.2
    obtain ⟨i, hi', hu, he, hpos, _⟩ := und_slice hT (t := ty) (e := e) (by unfold Tys.ty; rw [hi])
    have hii : i = ⟨.slice e, id, eb, fl⟩ := by rw [hi] at hi'; exact (Option.some.inj hi').symm
    subst hii
    obtain ⟨S', B', hs1, hnt, hsub, hval⟩ := escs_sound (T := T) h parts.toList
    obtain ⟨ei, hei, heit, _⟩ := ty_fits hT he
    obtain ⟨it, hinf, hisz, hzero⟩ := info_of hT hei
    have hpl : parts.toList.length = len := by rw [← hlen]; exact (elems_length hxs).symm
    let zc : Array Value := if len * e.size = 0 then #[] else (pack ei.ty ei.ty.zeros).cells
    obtain ⟨cells, hf, cs, hcs, hcc⟩ := slice_fill (cells := (Array.range (len * e.size)).map (zc[· % zc.size]!)) hxs (by simp [← hpl]) hval
    simp only [Nat.zero_mul, List.take_zero, List.nil_append] at hcc
    have hrun : (execOp a.eval o).run P w = .ok (.value (.slice (some ⟨w.heap.size, 0, none⟩) xs.length xs.length)) (w.alloc (.cells cells id)) := by
     have h24 : ¬ (len * e.size > 2 ^ 24) := by omega
     have hmap : (parts.map fun (i, x) => (i, a.eval x)).toList = parts.toList.map fun p => (p.1, a.eval p.2) := by simp
     have hzv : (zeroValue id).run P w = .ok (pack ei.ty ei.ty.zeros) w := by simp [zeroValue, typeInfo, hinf, hzero]
     by_cases h0 : len * e.size = 0
     ·have hzc : zc = #[] := by simp [zc, h0]
      rw [hzc] at hf
      simp only [execOp, ho, Instr.buildSlice, Sem.run_bind, run_underlying hu, Result.andThen_ok, size_of hT he, Sem.run_ite, if_neg h24, hmap, if_pos h0]
      rw [Sem.run_pure, Result.andThen_ok, hf]
      simp only [newRow, Sem.run_bind, run_newObj, Result.andThen_ok, Sem.run_pure, hlen]
      rfl
     ·have hzc : zc = (pack ei.ty ei.ty.zeros).cells := by simp [zc, h0]
      rw [hzc] at hf
      simp only [execOp, ho, Instr.buildSlice, Sem.run_bind, run_underlying hu, Result.andThen_ok, size_of hT he, Sem.run_ite, if_neg h24, hmap, if_neg h0, hzv]
      rw [Sem.run_pure, Result.andThen_ok, hf]
      simp only [newRow, Sem.run_bind, run_newObj, Result.andThen_ok, Sem.run_pure, hlen]
      rfl
    obtain ⟨d, hd, hlt, hk'⟩ := putC_some hk
    refine ⟨_, hk', Goes.value' hrun ?_⟩
    rw [hd, run_cmds_append]
    have hmx : xs.length ≤ maxLen := by
     have : xs.length * 1 ≤ xs.length * e.size := Nat.mul_le_mul_left _ hpos
     rw [hlen] at this ⊢
     unfold maxLen
     omega
    obtain ⟨B2, hs2⟩ := hs1.putRow (id := id) (by rw [hnt]; exact hlt) (cells := cells) (by rw [hcc]; exact hcs) hmx
    exact ⟨_, _, hs2⟩
  ·cases hk
 ·cases hk

/-! ### boxes -/
theorem dis_sound {ob : Nat → Option Nat} : ∀ {t : Ty} {x : t.den} {cs : List Value} {i : Nat}, Cells S w t x cs → LeavesR S w ob i (dis t x) cs
 | .pair p q, x, cs, i, h => by
  obtain ⟨c1, c2, rfl, h1, h2⟩ := h
  have app : ∀ {l1 l2 : List V} {d1 d2 : List Value} {i : Nat}, LeavesR S w ob i l1 d1 → (∀ j, LeavesR S w ob j l2 d2) → LeavesR S w ob i (l1 ++ l2) (d1 ++ d2) := by
   intro l1
   induction l1 with
   | nil => intro l2 d1 d2 i k1 k2; simp only [LeavesR] at k1; subst k1; exact k2 i
   | cons v l1 ih => intro l2 d1 d2 i ⟨u, r, e1, e2, e3⟩ k2; subst e1; exact ⟨u, _, rfl, e2, ih e3 k2⟩
  exact app (dis_sound h1) (fun j => dis_sound h2)
 | .unit, _, _, _, h => h
 | .int _, _, _, _, h => by simp only [Cells] at h; subst h; exact ⟨_, [], rfl, rfl, rfl⟩
 | .bool, _, _, _, h => by simp only [Cells] at h; subst h; exact ⟨_, [], rfl, rfl, rfl⟩
 | .str, _, _, _, h => by simp only [Cells] at h; subst h; exact ⟨_, [], rfl, rfl, rfl⟩
 | .slice _, _, _, _, h => by
  obtain ⟨v, rfl, hs⟩ := h
  exact ⟨v, [], rfl, ⟨v, rfl, hs⟩, rfl⟩

theorem rowL_dis : ∀ (t : Ty) (x : t.den), rowL (dis t x) = false
 | .pair a b, x => by
  have h1 := rowL_dis a x.1
  have h2 := rowL_dis b x.2
  show rowL (dis a x.1 ++ dis b x.2) = false
  cases hd : dis a x.1 with
  | nil => exact h2
  | cons v l => rw [hd] at h1; exact rowL_head (l := l) h1
 | .int _, _ => rfl
 | .bool, _ => rfl
 | .str, _ => rfl
 | .unit, _ => rfl
 | .slice _, _ => rfl

theorem g_newbox (E : Env) (b : Nat) (l : List V) (n : Nat) : (E.do1 (.newbox b l)).g n = dropBox b (E.g n) := by
 simp only [Env.do1, Env.g, alook_amap]
 cases alook E.sl n <;> rfl

theorem dropBox_own {sv : SV} (b : Nat) (h : sv.isOwn = true) : dropBox b sv = sv := by cases sv <;> simp_all [SV.isOwn, dropBox]

/-- The rows of a box given up. -/
def dropL (B : Loc → Option Nat) (b : Nat) : Loc → Option Nat
 | .l c i => if c = b then none else B (.l c i)
 | k => B k
theorem dropL_some {b g : Nat} : ∀ {k : Loc}, dropL B b k = some g → B k = some g
 | .l c i, h => by simp only [dropL] at h; split at h; cases h; exact h
 | .s _, h => h
 | .t _ _, h => h
 | .b _, h => h
theorem dropL_at {b n : Nat} : ∀ {k : Loc}, k.at n = true → dropL B b k = B k
 | .l c i, h => by cases h
 | .s _, _ => rfl
 | .t _ _, _ => rfl
 | .b _, _ => rfl
/-- A box newly made. -/
theorem Sim.newbox (h : Sim P C S B E a w) {b : Nat} (hlt : b < 1000000) {l : List V} {cells : Array Value} {id : TypeId} (hr0 : rowL l = false) (hl : LeavesR S w (fun _ => none) 0 l cells.toList) :
  Sim P C S (fun k => if k = .b b then some w.heap.size else dropL B b k) (E.do1 (.newbox b l)) a (w.alloc (.cells cells id)) := by
 have hb := alloc_below w (.cells cells id)
 have hk : Keep S w (w.alloc (.cells cells id)) := Keep.of_below hb
 have fresh : ∀ k g, B k = some g → g ≠ w.heap.size := fun k g hg he => absurd (h.free k g hg).2.1 (by rw [he]; exact Nat.lt_irrefl _)
 refine ⟨h.size, h.defers, h.keep_below hb, fun x hx => Nat.lt_of_lt_of_le (h.sub x hx) hb.size, h.frm, h.sup, ?_, ?_, ?_, ?_, fun c hc => ?_⟩
 ·intro k k' g h1 h2
  by_cases e1 : k = .b b <;> by_cases e2 : k' = .b b
  ·rw [e1, e2]
  ·simp only [e1, if_true, Option.some.injEq] at h1
   simp only [e2, if_false] at h2
   exact absurd h1.symm (fresh k' g (dropL_some h2))
  ·simp only [e2, if_true, Option.some.injEq] at h2
   simp only [e1, if_false] at h1
   exact absurd h2.symm (fresh k g (dropL_some h1))
  ·simp only [e1, e2, if_false] at h1 h2
   exact h.inj k k' g (dropL_some h1) (dropL_some h2)
 ·intro k g h1
  by_cases e1 : k = .b b
  ·simp only [e1, if_true, Option.some.injEq] at h1
   subst h1
   exact ⟨fun hx => absurd (h.sub _ hx) (Nat.lt_irrefl _), by rw [size_alloc]; omega, .inl h.kept.size⟩
  ·simp only [e1, if_false] at h1
   obtain ⟨f1, f2, f3⟩ := h.free k g (dropL_some h1)
   exact ⟨f1, Nat.lt_of_lt_of_le f2 hb.size, f3⟩
 ·intro n
  rw [g_newbox]
  by_cases hat : (E.g n).atBox b = true
  ·cases hn : E.g n with
   | ptr c off =>
    rw [hn] at hat
    have : Nat.beq c b = true := hat
    simp only [dropBox, this, cond_true]
    trivial
   | rref c len e =>
    rw [hn] at hat
    have : Nat.beq c b = true := hat
    simp only [dropBox, this, cond_true]
    trivial
   | fn ty f c =>
    rw [hn] at hat
    have : capsAt c b = true := hat
    simp only [dropBox, dropFn, this, cond_true]
    trivial
   | fp ty f c =>
    rw [hn] at hat
    have : capsAt c b = true := hat
    simp only [dropBox, dropFn, this, cond_true]
    trivial
   | rel c i e =>
    rw [hn] at hat
    have : Nat.beq c b = true := hat
    simp only [dropBox, this, cond_true]
    trivial
   | _ => rw [hn] at hat; simp [SV.atBox] at hat
  ·have hd : dropBox b (E.g n) = E.g n := by
    cases hn : E.g n with
    | ptr c off =>
     rw [hn] at hat; have : Nat.beq c b = false := by cases hq : Nat.beq c b; rfl; exact absurd hq hat
     simp [dropBox, this]
    | fn ty f c =>
     rw [hn] at hat; have : capsAt c b = false := by cases hq : capsAt c b; rfl; exact absurd hq hat
     simp [dropBox, dropFn, this]
    | fp ty f c =>
     rw [hn] at hat; have : capsAt c b = false := by cases hq : capsAt c b; rfl; exact absurd hq hat
     simp [dropBox, dropFn, this]
    | rref c len e =>
     rw [hn] at hat; have : Nat.beq c b = false := by cases hq : Nat.beq c b; rfl; exact absurd hq hat
     simp [dropBox, this]
    | rel c i e =>
     rw [hn] at hat; have : Nat.beq c b = false := by cases hq : Nat.beq c b; rfl; exact absurd hq hat
     simp [dropBox, this]
    | _ => rfl
   rw [hd]
   refine (h.slots n).move hk (fun _ hx => hx) rfl ?_ (fun k g _ hg => hb.block g (h.free k g hg).2.1) ?_ ?_
   ·intro k hn
    have : k ≠ .b b := by rintro rfl; have := SV.needs_at hn; cases this
    simp only [this, if_false]
    exact dropL_at (SV.needs_at hn)
   ·intro c hc
    have : Loc.b c ≠ .b b := by rintro he; injection he with he; subst he; exact hat hc
    simp [this, dropL]
   ·intro s hr
    have ho := (h.slots n).leans hr
    exact ⟨rfl, by rw [g_newbox, dropBox_own b ho], by simp [dropL]⟩
 ·intro c l' hc
  have hc' : alook (aset E.bx b l) c = some l' := hc
  rw [alook_aset] at hc'
  by_cases hbc : b = c
  ·subst hbc
   simp only [if_true, Option.some.injEq] at hc'
   subst hc'
   exact ⟨w.heap.size, by simp, cells, id, heap_alloc_new w _, .inl ⟨hr0, hl.move hk (fun _ hx => hx) (fun j v _ _ => ⟨by simp [dropL], fun g hg => by cases hg⟩)⟩⟩
  ·rw [if_neg hbc] at hc'
   obtain ⟨g, h1, h2⟩ := h.boxes c l' hc'
   have : Loc.b c ≠ .b b := by rintro he; injection he with he; exact hbc he.symm
   exact ⟨g, by simp [this, h1, dropL], h2.move hk (fun _ hx => hx) (hb.block g (h.free _ g h1).2.1) (fun j => ⟨by simp [dropL, Ne.symm hbc], fun g' hg' => hb.block g' (h.free _ g' hg').2.1⟩)⟩
 ·have : Loc.b c ≠ .b b := by rintro he; injection he with he; omega
  simp only [this, if_false]
  exact h.inb c hc

/-- A pointer to a box. -/
theorem Sim.putPtr (h : Sim P C S B E a w) {d b off g : Nat} (hd : d < E.nt) (hg : B (.b b) = some g) : Sim P C S (dropAt B d) (E.set d (.ptr b off)) (a.put (some d) (.pointer (some ⟨g, off, none⟩))) w := by
 have hdt : d < a.tmps.size := by rw [h.size]; exact hd
 exact h.putPlain hd (Below.refl _ _) (fun _ hx => hx) (fun _ hx => .inl hx) h.sub ⟨g, by rw [dropAt_b]; exact hg, by rw [tv_put hdt, if_pos rfl]⟩

theorem evBox_ok (hT : TOk P T) (h : Sim P C S B E a w) {ty : TypeId} {x : Operand} (ho : o.op = .box ty x) (hk : evBox T E.vw ty x o.dst K = some r) : Ok P C E a w o K r := by
 unfold evBox at hk
 split at hk
 ·rename_i y t d hy hty hd
  split at hk
  ·rename_i z hz
   have := V.as_some hz
   subst this
   cases hb6' : Nat.blt d 1000000
   ·rw [hb6'] at hk; cases hk
   have hb6 : d < 1000000 := by simpa [Nat.blt_eq] using hb6'
   rw [hb6', cond_true] at hk
   obtain ⟨S', B', hs1, hnt, hsub, hg, _⟩ := escC_sound h x
   obtain ⟨cs, hc, hcc, _⟩ := (rd_esc h hy hsub hg).cells
   obtain ⟨d', hd', hlt, hk'⟩ := putC_some hk
   have : d = d' := Option.some.inj (hd.symm.trans hd')
   subst this
   have hrun : (execOp a.eval o).run P w = .ok (.value (.pointer (some ⟨w.heap.size, 0, none⟩))) (w.alloc (.cells (a.eval x).cells ty)) := by
    simp only [execOp, ho, Instr.box, newVar, newRow, Sem.run_bind, run_newObj, Result.andThen_ok, Sem.run_pure]; rfl
   refine ⟨_, hk', Goes.value' hrun ?_⟩
   rw [hd, run_cmds_append, run_cmds_append]
   have hs2 := hs1.newbox (b := d) hb6 (l := dis t z) (cells := (a.eval x).cells) (id := ty) (rowL_dis _ _) (dis_sound (by rw [hcc]; exact hc))
   exact ⟨_, _, hs2.putPtr (b := d) (off := 0) (by show d < (E.run (escC E.vw x)).nt; rw [hnt]; exact hlt) (by simp)⟩
  ·cases hk
 ·cases hk

theorem evAlloc_ok (hT : TOk P T) (h : Sim P C S B E a w) {ty : TypeId} (ho : o.op = .alloc ty) (hk : evAlloc T E.vw ty o.dst K = some r) : Ok P C E a w o K r := by
 unfold evAlloc at hk
 split at hk
 ·rename_i t d hty hd
  cases hb6' : Nat.blt d 1000000
  ·rw [hb6'] at hk; cases hk
  have hb6 : d < 1000000 := by simpa [Nat.blt_eq] using hb6'
  rw [hb6', cond_true] at hk
  obtain ⟨i, hi, hit, _⟩ := ty_fits hT hty
  obtain ⟨it, hinf, _, hzero⟩ := info_of hT hi
  rw [hit] at hzero
  obtain ⟨d', hd', hlt, hk'⟩ := putC_some hk
  have : d = d' := Option.some.inj (hd.symm.trans hd')
  subst this
  have hz := Cells.zero S w t
  have hcc : (pack t t.zeros).cells.toList = t.zeros := by
   obtain ⟨cs, h1, h2, h3⟩ := (show ValR S w t t.zero (pack t t.zeros) from ⟨_, hz, rfl⟩).cells
   rw [h2]
   cases t with
   | pair p q =>
    simp only [pack, Ty.agg, if_true, Value.agg.injEq] at h3
    have := congrArg Array.toList h3
    simpa using this.symm
   | unit =>
    simp only [pack, Ty.agg, if_true, Value.agg.injEq] at h3
    have := congrArg Array.toList h3
    simpa using this.symm
   | slice e => obtain ⟨v, rfl, _⟩ := h1; simp only [pack, Ty.agg, Ty.zeros] at h3 ⊢; simpa using h3.symm
   | _ => exact h1
  have hrun : (execOp a.eval o).run P w = .ok (.value (.pointer (some ⟨w.heap.size, 0, none⟩))) (w.alloc (.cells (pack t t.zeros).cells ty)) := by
   simp only [execOp, ho, Instr.alloc, newVar, newRow, zeroValue, typeInfo, Sem.run_bind, run_program, hinf, hzero, run_newObj, Result.andThen_ok, Sem.run_pure]; rfl
  refine ⟨_, hk', Goes.value' hrun ?_⟩
  rw [hd]
  have hs2 := h.newbox (b := d) hb6 (l := dis t t.zero) (cells := (pack t t.zeros).cells) (id := ty) (rowL_dis _ _) (dis_sound (by rw [hcc]; exact hz))
  exact ⟨_, _, hs2.putPtr (b := d) (off := 0) hlt (by simp)⟩
 ·cases hk

/-- A box for a row that is nil. -/
theorem evAllocN_ok (hT : TOk P T) (h : Sim P C S B E a w) {ty : TypeId} (ho : o.op = .alloc ty) (hk : evAllocN T E.vw ty o.dst K = some r) : Ok P C E a w o K r := by
 unfold evAllocN at hk
 split at hk
 ·rename_i e id eb fl d hi hd
  cases hb6' : Nat.blt d 1000000
  ·rw [hb6'] at hk; cases hk
  have hb6 : d < 1000000 := by simpa [Nat.blt_eq] using hb6'
  rw [hb6', cond_true] at hk
  obtain ⟨it, hinf, _, hzero⟩ := info_of hT hi
  obtain ⟨d', hd', hlt, hk'⟩ := putC_some hk
  have : d = d' := Option.some.inj (hd.symm.trans hd')
  subst this
  have hrun : (execOp a.eval o).run P w = .ok (.value (.pointer (some ⟨w.heap.size, 0, none⟩))) (w.alloc (.cells #[.slice none 0 0] ty)) := by
   simp only [execOp, ho, Instr.alloc, newVar, newRow, zeroValue, typeInfo, Sem.run_bind, run_program, hinf, hzero, run_newObj, Result.andThen_ok, Sem.run_pure]; rfl
  refine ⟨_, hk', Goes.value' hrun ?_⟩
  rw [hd]
  have hs2 := h.newbox (b := d) hb6 (l := [ownV id e []]) (cells := #[.slice none 0 0]) (id := ty) rfl ⟨_, _, rfl, OwnR.nil id e, rfl⟩
  exact ⟨_, _, hs2.putPtr (b := d) (off := 0) hlt (by simp)⟩
 ·cases hk

/-- A row of one value. -/
theorem RowCells.reps {e : Ty} {x : e.den} {z : List Value} (hz : Cells S w e x z) (hpos : 0 < e.size) (n : Nat) : RowCells S w e (List.replicate n x) (madeCells z.toArray (n * e.size)).toList := by
 have h1 := RowCells.of_each (S := S) (w := w) (List.replicate n x) (fun m => z.toArray[m % z.toArray.size]!) (fun i hi => ?_)
 ·simp only [List.length_replicate] at h1
  simpa [madeCells] using h1
 ·refine ⟨z, by simpa using hz, fun j u hu => ?_⟩
  have hj : j < z.length := (List.getElem?_eq_some_iff.1 hu).1
  have hl := hz.length
  have : (i * e.size + j) % z.toArray.size = j := by
   rw [List.size_toArray, hl, Nat.mul_comm, Nat.mul_add_mod, Nat.mod_eq_of_lt (by omega)]
  rw [this]
  rw [List.getElem?_eq_getElem hj] at hu
  simp [hj, Option.some.inj hu]

theorem evMakeSlice_ok (hT : TOk P T) (h : Sim P C S B E a w) {ty : TypeId} {l c : Operand} (ho : o.op = .makeSlice ty l c) (hk : evMakeSlice T E.vw ty l c o.dst K = some r) : Ok P C E a w o K r := by
 unfold evMakeSlice at hk
 split at hk
 ·rename_i e id eb fl k1 n k2 m hi hl hc
  split at hk
  ·rename_i hnm
   subst hnm
   have h1 := rd_int h hl
   have h2 := rd_int h hc
   cases hr : reps n (appMax eb) e.zero with
   | none => rw [hr] at hk; cases hk
   | some xs =>
    rw [hr] at hk
    unfold reps at hr
    split at hr
    ·rename_i hb
     simp only [Option.some.injEq] at hr
     subst hr
     obtain ⟨i, hi', hu, he, hpos, hby⟩ := und_slice hT (t := ty) (e := e) (by unfold Tys.ty; rw [hi])
     have hii : i = ⟨.slice e, id, eb, fl⟩ := by rw [hi] at hi'; exact (Option.some.inj hi').symm
     subst hii
     obtain ⟨ei, hei, heit, _⟩ := ty_fits hT he
     obtain ⟨it, hinf, hisz, hzero⟩ := info_of hT hei
     have hinf' : P.info? id = some it := hinf
     have hbytes : it.bytes = eb := by
      have : (P.info? id).map (·.bytes) = some eb := hby
      rw [hinf'] at this
      simpa using this
     rw [heit] at hzero hisz
     have hle : eb * n.toNat ≤ 140737488355328 := by
      have := hb.2
      unfold appMax at this
      split at this
      ·rename_i h0; rw [h0]; omega
      ·exact Nat.le_trans (Nat.mul_le_mul_left _ this) (Nat.mul_div_le _ _)
     have hmax : n.toNat ≤ maxLen := by
      have := hb.2
      unfold appMax at this
      unfold maxLen
      split at this
      ·omega
      ·have := Nat.div_le_self 140737488355328 eb; omega
     have hm := run_make_full (P := P) w 0 ty id it (pack e e.zeros) e.size hu hinf' hzero hisz k1 k2 n.toNat (by rw [hbytes]; omega) hmax (Nat.zero_le _)
     have hn : ((n.toNat : Nat) : Int) = n := Int.toNat_of_nonneg hb.1
     rw [hn] at hm
     obtain ⟨w', hrun, hown, hgr⟩ := hm
     have hbel : Below w.heap.size w w' := ⟨hgr.os, hgr.tape, hgr.output, hgr.size, fun k hk => hgr.block k hk (by simp)⟩
     have hrow : RowCells S w e (List.replicate n.toNat e.zero) (madeCells (pack e e.zeros).cells (n.toNat * e.size)).toList := by
      obtain ⟨cs, c1, c2, c3⟩ := (show ValR S w e e.zero (pack e e.zeros) from ⟨_, Cells.zero S w e, rfl⟩).cells
      have : (pack e e.zeros).cells = cs.toArray := by rw [← c2]
      rw [this]
      exact RowCells.reps c1 hpos n.toNat
     have hlt' : w.heap.size < w'.heap.size := by
      rcases hown.2 with ⟨hx, _⟩ | ⟨g, cap, cur, hx, _, hg, _⟩
      ·cases hx
      ·simp only [Value.slice.injEq, Option.some.injEq, Addr.mk.injEq] at hx
       rw [hx.1.1]
       exact (Array.getElem?_eq_some_iff.1 hg).1
     obtain ⟨d, hd, hlt, hk'⟩ := putC_some hk
     refine ⟨_, hk', Goes.value' (v := .slice (some ⟨w.heap.size, 0, none⟩) n.toNat n.toNat) (w' := w') ?_ ?_⟩
     ·simp only [execOp, ho, h1, h2, Sem.run_bind, hrun, Result.andThen_ok, Sem.run_pure]
     ·rw [hd]
      refine ⟨_, _, h.putOwn hlt hbel (fun _ hx => hx) (fun _ hx => .inl hx) (fun b hx => Nat.lt_of_lt_of_le (h.sub b hx) hbel.size) ⟨_, ?_, hrow.mono (Keep.of_below hbel) (fun _ hx => hx), rfl⟩ ?_⟩
      ·simpa using hown
      ·intro g hg
       simp only [Value.ownBlock, Option.some.injEq] at hg
       subst hg
       exact ⟨Nat.le_refl _, hlt', fun hx => absurd (h.sub _ hx) (Nat.lt_irrefl _)⟩
    ·cases hr
  ·cases hk
 ·cases hk

end
end Go.Proofs.YtecdijlfnnminaaGreatDoor.Eng
namespace Go.Proofs.YtecdijlfnnminaaGreatDoor.Eng
open Go Go.RowKit
set_option linter.unusedVariables false
set_option linter.unusedSimpArgs false

section
universe u
variable {R : Type u} {P : Program} {T : Tys} {C : Ctx} {S : Nat → Prop} {B : Loc → Option Nat} {E : Env} {a : Act} {w : World} {o : Oper} {r : R} {K : List Cmd → Option R}

/-- The cells of a row that is read. -/
theorem SliceR.cells {Q : Nat → Prop} {e : Ty} {xs : List e.den} {v : Value} (h : SliceR Q w e.size (Cells S w e) xs v) (hpos : 0 < e.size) :
  ∃ cs, RowCells S w e xs cs ∧ ((v = .slice none 0 0 ∧ xs = []) ∨ ∃ ad cap, v = .slice (some ad) xs.length cap ∧ xs.length ≤ cap ∧ cap ≤ maxLen ∧ ∀ j u, cs[j]? = some u → w.cell? (ad.add j) = some u) := by
 rcases h with ⟨ad, hv, hx⟩ | ⟨b, off, cap, hv, hc, hm, hb, hl, he⟩
 ·subst hx
  cases ad with
  | none => exact ⟨[], rfl, .inl ⟨hv, rfl⟩⟩
  | some ad => exact ⟨[], rfl, .inr ⟨ad, 0, hv, Nat.le_refl _, Nat.zero_le _, fun j u hu => by simp at hu⟩⟩
 ·refine ⟨_, RowCells.of_each xs (fun m => (w.cell? ⟨b, off + m, none⟩).getD Go.undef) (fun i hi => ?_), .inr ⟨⟨b, off, none⟩, cap, hv, hc, hm, fun j u hu => ?_⟩⟩
  ·obtain ⟨cs, h1, h2⟩ := he i hi
   refine ⟨cs, h1, fun j u hu => ?_⟩
   have := h2 j u hu
   rw [← Nat.add_assoc, this]; rfl
  ·rw [List.getElem?_map] at hu
   have hj : j < xs.length * e.size := by
    cases hq : (List.range (xs.length * e.size))[j]? with
    | none => rw [hq] at hu; cases hu
    | some z => have := (List.getElem?_eq_some_iff.1 hq).1; simpa using this
   rw [List.getElem?_range hj] at hu
   simp only [Option.map_some, Option.some.injEq] at hu
   have hi : j / e.size < xs.length := Nat.div_lt_of_lt_mul (by rw [Nat.mul_comm]; exact hj)
   obtain ⟨cs, h1, h2⟩ := he _ hi
   have hk : j % e.size < cs.length := by rw [h1.length]; exact Nat.mod_lt _ hpos
   have := h2 (j % e.size) _ (List.getElem?_eq_getElem hk)
   have hdm : j / e.size * e.size + j % e.size = j := by rw [Nat.mul_comm]; exact Nat.div_add_mod j e.size
   rw [Nat.add_assoc, hdm] at this
   rw [Addr.add_lit, ← hu, this]; rfl

/-- What append does, and where its row lies. -/
theorem append_run {t ty id : TypeId} {it : TypeInfo} {z : Value} {sz eb : Nat} (ht : P.underlying t = some (.slice id)) (hi : P.info? id = some it) (hz : it.zero = some z) (hsz : it.size = sz) (hby : it.bytes = eb) (hzs : z.cells.size = sz) (hpos : 0 < sz)
  {v : Value} {n : Nat} {xs : List Value} (hown : w.ownsRow 0 id sz v n xs) {vy : Value} {m : Nat} {ds : List Value} (hl : ds.length = m * sz) (h1 : ∀ u ∈ ds, u.oneCell' = true)
  (hy : (vy = .slice none 0 0 ∧ m = 0) ∨ ∃ ad cap, vy = .slice (some ad) m cap ∧ ∀ j u, ds[j]? = some u → w.cell? (ad.add j) = some u)
  (h63 : n + m ≤ maxLen) (hbytes : (n + m) * eb ≤ 140737488355328) :
  ∃ v' w', (Builtin.append_ #[t, t] ty #[v, vy]).run P w = .ok v' w' ∧ w'.ownsRow 0 id sz v' (n + m) (xs ++ ds) ∧ w.grownBy w' v.ownBlock ∧ (v'.ownBlock = v.ownBlock ∨ ∃ g, v'.ownBlock = some g ∧ w.heap.size ≤ g) := by
 rcases hy with ⟨rfl, rfl⟩ | ⟨ad, cap, rfl, hj⟩
 ·have hd : ds = [] := List.eq_nil_of_length_eq_zero (by simpa using hl)
  subst hd
  refine ⟨v, w, run_append_owned_none (P := P) w 0 t ty id it sz ht hi v n xs hown, by simpa using hown, ⟨rfl, rfl, rfl, Nat.le_refl _, fun _ _ _ => rfl⟩, .inl rfl⟩
 ·obtain ⟨v', w', hr, h2, h3, _⟩ := run_append_own (P := P) w 0 t ty id it z sz eb ht hi hz hsz hby hzs hpos v n xs hown ad m cap ds hl hj h1 h63 hbytes (Nat.zero_le _)
  refine ⟨v', w', hr, h2, h3, ?_⟩
  rcases hown.2 with ⟨hv, hn⟩ | ⟨g, cp, cur, hv, _, hg, hnc, hcm, hcs, htake⟩
  ·-- from nothing: all is new
   have hxs : xs = [] := List.eq_nil_of_length_eq_zero (by rw [hown.1, hn]; simp)
   subst hv hn hxs
   obtain ⟨v2, w2, hr2, k2, _, _⟩ := run_append_own (P := P) w w.heap.size t ty id it z sz eb ht hi hz hsz hby hzs hpos _ 0 [] (World.ownsRow_nil w w.heap.size id sz) ad m cap ds hl hj h1 h63 hbytes (Nat.le_refl _)
   rw [hr] at hr2
   simp only [Result.ok.injEq] at hr2
   obtain ⟨rfl, rfl⟩ := hr2
   rcases k2.2 with ⟨e, _⟩ | ⟨g, _, _, e, hb, _⟩
   ·rw [e]; exact .inl rfl
   ·rw [e]; exact .inr ⟨g, rfl, hb⟩
  ·subst hv
   by_cases hroom : n + m ≤ cp
   ·obtain ⟨w2, hr2, _, _⟩ := run_append_fits (P := P) w 0 t ty id it sz ht hi hsz g n cp xs hown ad m cap ds hl hj h1 hroom
    rw [hr] at hr2
    simp only [Result.ok.injEq] at hr2
    rw [hr2.1]
    exact .inl rfl
   ·have holds : ∀ j u, xs[j]? = some u → w.cell? ((⟨g, 0, none⟩ : Addr).add j) = some u := hown.cells (g := g) rfl
    have hmx : n + m ≤ 9223372036854775807 := by simp only [maxLen] at h63; omega
    have hr2 := run_append_grow (P := P) w t ty id it z ht hi hz ⟨g, 0, none⟩ n cp xs (by rw [hsz]; exact hown.1) holds ad m cap ds (by rw [hsz]; exact hl) hj (by omega) (by omega) (growslice_fits (by omega) (by rw [hby]; exact hbytes))
    rw [hr] at hr2
    simp only [Result.ok.injEq] at hr2
    rw [hr2.1]
    exact .inr ⟨_, rfl, Nat.le_refl _⟩

/-- A row of slot s grown into slot d. -/
theorem Sim.grow (h : Sim P C S B E a w) {s d : Nat} (hd : d < E.nt) {w' : World} {v' : Value} {id : TypeId} {e : Ty} {zs : List e.den} {cs : List Value} (hnn : (E.g s).isOwn = true)
  (hob : (tv a s).ownBlock = B (.s s)) (hg : w.grownBy w' (tv a s).ownBlock) (ho : w'.ownsRow 0 id e.size v' zs.length cs) (hr : RowCells S w e zs cs) (hb : v'.ownBlock = (tv a s).ownBlock ∨ ∃ g, v'.ownBlock = some g ∧ w.heap.size ≤ g) :
  ∃ B', Sim P C S B' ((E.set s .undef).set d (.own id e zs)) (a.put (some d) v') w' := by
 have hat : (Loc.s d).at d = true := beq_self d
 have hkept : KeptBut (fun g => B (.s s) = some g) w w' := ⟨hg.os, hg.tape, hg.output, hg.size, fun k hk hn => hg.block k hk (by rw [hob]; exact fun e => hn e.symm)⟩
 have hlt : ∀ g, v'.ownBlock = some g → g < w'.heap.size := fun g hgv => (ho.lt g hgv).2
 have keepS : Keep S w w' := ⟨hg.size, fun b hb hbl => hg.block b hbl (by rw [hob]; exact fun e => (h.free _ b e.symm).1 hb)⟩
 let B' : Loc → Option Nat := fun l => if l = .s d then v'.ownBlock else if l = .s s then none else dropAt B d l
 refine ⟨B', (h.forget s).put2 (F := fun l => l = .s s) hd hkept (fun g hm => ⟨_, rfl, hm⟩) ?_ (fun _ hb => hb) (fun _ hb => .inl hb) (fun b hb => Nat.lt_of_lt_of_le (h.sub b hb) hg.size) ?_ ?_ ?_ ?_ ?_⟩
 ·rintro l rfl
  refine ⟨fun n hn => ?_, rfl⟩
  rw [Env.g_set]
  by_cases hsn : s = n
  ·rw [if_pos hsn]; rfl
  ·rw [if_neg hsn]
   split
   ·rfl
   ·cases hnn : (E.g n).needs n (.s s)
    ·rfl
    ·exact absurd (Nat.eq_of_beq_eq_true (SV.needs_at hnn)) hsn
 ·intro l hld hlF
  have hne : l ≠ .s d := by rintro rfl; rw [hat] at hld; cases hld
  simp [B', hne, hlF, dropAt, hld]
 ·intro l hld hlF
  have hne : l ≠ .s d := by rintro rfl; rw [hat] at hld; cases hld
  simp only [B']
  rw [if_neg hne, if_pos hlF]
 ·intro l g hld hbb
  by_cases hne : l = .s d
  ·subst hne
   simp only [B', if_true] at hbb
   refine ⟨?_, hlt g hbb, ?_⟩
   ·rcases hb with hb | ⟨g', hb, hge⟩
    ·rw [hb, hob] at hbb; exact .inr ⟨_, rfl, hbb⟩
    ·rw [hb] at hbb; cases hbb; exact .inl hge
   ·intro hx
    rcases hb with hb | ⟨g', hb, hge⟩
    ·rw [hb, hob] at hbb; exact (h.free _ g hbb).1 hx
    ·rw [hb] at hbb; cases hbb; exact absurd (h.sub _ hx) (Nat.not_lt_of_le hge)
  ·simp only [B', hne, if_false, dropAt, hld, if_true] at hbb
   split at hbb <;> cases hbb
 ·intro l l' g hld hld' hb1 hb2
  have key : ∀ k : Loc, k.at d = true → B' k = some g → k = .s d := fun k hkd hbk => by
   by_cases hne : k = .s d
   ·exact hne
   ·simp only [B', hne, if_false, dropAt, hkd, if_true] at hbk
    split at hbk <;> cases hbk
  rw [key l hld hb1, key l' hld' hb2]
 ·show OwnR S w' id e zs _ _
  simp only [B', if_true]
  rw [tv_put (by rw [h.size]; exact hd), if_pos rfl]
  exact ⟨cs, ho, hr.mono keepS (fun _ hx => hx), rfl⟩

theorem catI_some {α : Type} {n : Nat} {xs ys zs : List α} (h : catI n xs ys = some zs) : xs.length + ys.length ≤ n ∧ zs = xs ++ ys := by
 unfold catI at h
 split at h
 ·exact ⟨‹_›, by cases h; rfl⟩
 ·cases h

theorem appMax_bytes {eb n : Nat} (h : n ≤ appMax eb) : n * eb ≤ 140737488355328 ∧ n ≤ 140737488355328 := by
 unfold appMax at h
 split at h
 ·rename_i h0; subst h0; omega
 ·have := Nat.div_le_self 140737488355328 eb
  refine ⟨Nat.le_trans (Nat.mul_le_mul_right _ h) ?_, by omega⟩
  rw [Nat.mul_comm]; exact Nat.mul_div_le _ _

theorem zero_cells {t : Ty} : (pack t t.zeros).cells.size = t.size := by
 obtain ⟨cs, h1, h2, _⟩ := (show ValR (fun _ => False) default t t.zero (pack t t.zeros) from ⟨_, Cells.zero _ _ t, rfl⟩).cells
 rw [← Array.length_toList, h2, h1.length]

theorem evAppend_ok (hT : TOk P T) (h : Sim P C S B E a w) {c : Call} {ty : TypeId} {x y : Operand} (ho : o.op = .call c) (hc : c.callee = .builtin .append) (hxs : c.args.toList = [x, y]) (hts : c.argTypes.toList = [ty, ty])
  (hk : evAppend T E.vw ty x y o.dst K = some r) : Ok P C E a w o K r := by
 obtain ⟨cs, hrun⟩ := run_builtin (P := P) (w := w) (a := a) ho hc
 rw [toList_two hxs, toList_two hts] at hrun
 unfold evAppend at hk
 split at hk
 ·rename_i e id eb fl p hi hp
  split at hk
  ·cases hk
  ·rename_i ys hys
   have := V.as_some hys
   subst this
   obtain ⟨i, hi', hu, he, hpos, hby⟩ := und_slice hT (t := ty) (e := e) (by unfold Tys.ty; rw [hi])
   have hii : i = ⟨.slice e, id, eb, fl⟩ := by rw [hi] at hi'; exact (Option.some.inj hi').symm
   subst hii
   obtain ⟨ei, hei, heit, _⟩ := ty_fits hT he
   obtain ⟨it, hinf, hisz, hzero⟩ := info_of hT hei
   have hinf' : P.info? id = some it := hinf
   have hbytes : it.bytes = eb := by
    have : (P.info? id).map (·.bytes) = some eb := hby
    rw [hinf'] at this
    simpa using this
   rw [heit] at hzero hisz
   -- what is appended
   obtain ⟨ds, hrow, hyv⟩ := (rd_slice h hp).cells hpos
   have hdl := hrow.length
   have hy' : (a.eval y = .slice none 0 0 ∧ ys.length = 0) ∨ ∃ ad cap, a.eval y = .slice (some ad) ys.length cap ∧ ∀ j u, ds[j]? = some u → w.cell? (ad.add j) = some u := by
    rcases hyv with ⟨h1, h2⟩ | ⟨ad, cap, h1, _, _, h2⟩
    ·exact .inl ⟨h1, by rw [h2]; rfl⟩
    ·exact .inr ⟨ad, cap, h1, h2⟩
   split at hk
   ·rename_i s hs
    obtain ⟨hown, hv⟩ := src_sound h hs
    obtain ⟨id', e', xs, hg⟩ := own_of hown
    have hg' : E.vw.g s = .own id' e' xs := hg
    rw [hg'] at hk
    dsimp only at hk
    split at hk
    ·rename_i hee
     obtain ⟨rfl, rfl⟩ := hee
     cases hcat : catI (appMax eb) xs ys with
     | none => rw [hcat] at hk; cases hk
     | some zs =>
      rw [hcat] at hk
      obtain ⟨hle, rfl⟩ := catI_some hcat
      obtain ⟨hb1, hb2⟩ := appMax_bytes hle
      have hsl := h.slots s
      rw [hg] at hsl
      obtain ⟨cs0, ho0, hr0, hob0⟩ := hsl
      obtain ⟨v', w', hr1, ho1, hg1, hbl⟩ := append_run (P := P) (ty := o.type) hu hinf' hzero hisz hbytes zero_cells hpos ho0 hdl hrow.one hy' (by unfold maxLen; omega) hb1
      obtain ⟨d, hd, hlt, hk'⟩ := putC_some hk
      rw [← List.length_append] at ho1
      obtain ⟨B', hs'⟩ := h.grow (s := s) hlt hown hob0 hg1 ho1 (hrow.append hr0) hbl
      refine ⟨_, hk', Goes.value (w' := w') (v := v') ?_ (by rw [hd]; exact hs')⟩
      rw [hrun]
      simp only [builtin, Sem.run_bind, List.map_toArray, List.map_cons, List.map_nil, hv, hr1, Result.andThen_ok, Sem.run_pure]
    ·cases hk
   ·rename_i hs
    split at hk
    ·rename_i cv
     split at hk
     ·rename_i e' xs hrd
      split at hk
      ·rename_i hemp
       cases hcat : catI (appMax eb) [] ys with
       | none => rw [hcat] at hk; cases hk
       | some zs =>
        rw [hcat] at hk
        obtain ⟨hle, hzs⟩ := catI_some hcat
        simp only [List.length_nil, Nat.zero_add, List.nil_append] at hle hzs
        subst hzs
        obtain ⟨hb1, hb2⟩ := appMax_bytes hle
        have hcv : cv = .slice none 0 0 := by
         simp only [rd] at hrd
         cases hcc : constSV T ty cv with
         | none => rw [hcc] at hrd; cases hrd
         | some sv =>
          rw [hcc] at hrd
          rcases const_slot (Q := fun _ => False) hcc with ⟨t1, x1, rfl, hvv⟩ | ⟨id1, e1, rfl, rfl⟩
          ·simp only [SV.view, Option.some.injEq] at hrd
           cases hrd
           unfold constSV at hcc
           split at hcc <;> first | cases hcc | skip
           split at hcc <;> cases hcc
          ·rfl
        subst hcv
        obtain ⟨v', w', hr1, ho1, hg1, hbl⟩ := append_run (P := P) (ty := o.type) hu hinf' hzero hisz hbytes zero_cells hpos (World.ownsRow_nil w 0 id e.size) hdl hrow.one hy' (by unfold maxLen; omega) (by rw [Nat.zero_add]; exact hb1)
        simp only [Nat.zero_add, List.nil_append] at ho1
        have hbel : Below w.heap.size w w' := ⟨hg1.os, hg1.tape, hg1.output, hg1.size, fun k hk => hg1.block k hk (by simp [Value.ownBlock])⟩
        obtain ⟨d, hd, hlt, hk'⟩ := putC_some hk
        refine ⟨_, hk', Goes.value' (w' := w') (v := v') ?_ ?_⟩
        ·rw [hrun]
         have : a.eval (.const (.slice none 0 0)) = .slice none 0 0 := rfl
         simp only [builtin, Sem.run_bind, List.map_toArray, List.map_cons, List.map_nil, this, hr1, Result.andThen_ok, Sem.run_pure]
        ·rw [hd]
         refine ⟨_, _, h.putOwn hlt hbel (fun _ hx => hx) (fun _ hx => .inl hx) (fun b hx => Nat.lt_of_lt_of_le (h.sub b hx) hbel.size) ⟨_, ho1, hrow.mono (Keep.of_below hbel) (fun _ hx => hx), rfl⟩ ?_⟩
         intro g hgv
         rcases hbl with hbl | ⟨g', hbl, hge⟩
         ·rw [hbl] at hgv; cases hgv
         ·rw [hbl] at hgv; cases hgv
          exact ⟨hge, (ho1.lt g hbl).2, fun hx => absurd (h.sub _ hx) (Nat.not_lt_of_le hge)⟩
      ·cases hk
     ·cases hk
    ·rename_i t
     split at hk
     ·rename_i e' xs hgt
      split at hk
      ·rename_i hee
       subst hee
       split at hk
       ·cases hk
       ·rename_i hne
        cases hcat : catI (appMax eb) xs ys with
        | none => rw [hcat] at hk; cases hk
        | some zs =>
         rw [hcat] at hk
         obtain ⟨hle, rfl⟩ := catI_some hcat
         obtain ⟨hb1, hb2⟩ := appMax_bytes hle
         have hsl := h.slots t
         have hgt' : E.g t = .full e' xs := hgt
         rw [hgt'] at hsl
         obtain ⟨hsl1, hfull⟩ := hsl
         obtain ⟨os, hor, hov⟩ := hsl1.cells hpos
         have hm1 : 0 < ys.length := List.length_pos_iff.2 hne
         obtain ⟨ad, cap, hay, hady⟩ := hy'.resolve_left (by rintro ⟨_, h0⟩; omega)
         have e1 : a.eval (.tmp t) = tv a t := rfl
         have key : ∃ c2 : Nat, ∃ tail : Array Value, ∃ nw : World, nw = w.drew.alloc (.cells (os.toArray ++ ds.toArray ++ tail) id) ∧
           (Builtin.append_ #[ty, ty] o.type #[tv a t, a.eval y]).run P w = .ok (.slice (some ⟨w.heap.size, 0, none⟩) (xs.length + ys.length) c2) nw ∧ xs.length + ys.length ≤ c2 ∧ c2 ≤ maxLen ∧ tail.size = (c2 - (xs.length + ys.length)) * e'.size := by
          rcases hov with ⟨hv0, hx0⟩ | ⟨ad0, cap0, hv0, hc0, _, hj0⟩
          ·subst hx0
           simp only [RowCells] at hor
           subst hor
           have hr1 := run_append_nil (P := P) w ty o.type id it _ hu hinf' hzero ad ys.length cap ds (by rw [hisz]; exact hdl) hady hm1 (by omega) (by rw [hbytes]; simp only [List.length_nil, Nat.zero_add] at hb1; omega)
           refine ⟨grownCap w ys.length 0 id, _, _, rfl, by rw [hv0, hay]; simpa using hr1, by simpa using grownCap_ge w ys.length 0 id, grownCap_le_maxLen w _ _ _ (by unfold maxLen; omega), ?_⟩
           rw [size_zeroCells, zero_cells]; simp
          ·have hcc : cap0 = xs.length := hfull _ _ _ hv0
           subst hcc
           have hr1 := run_append_grow (P := P) w ty o.type id it _ hu hinf' hzero ad0 xs.length xs.length os (by rw [hisz]; exact hor.length) hj0 ad ys.length cap ds (by rw [hisz]; exact hdl) hady (by omega) (by omega) (growslice_fits (by omega) (by rw [hbytes]; exact hb1))
           refine ⟨grownCap w (xs.length + ys.length) xs.length id, _, _, rfl, by rw [hv0, hay]; exact hr1, grownCap_ge w _ _ id, grownCap_le_maxLen w _ _ _ (by unfold maxLen; omega), ?_⟩
           rw [size_zeroCells, zero_cells]
         obtain ⟨c2, tail, nw, hnw, hr1, hge, hcm, hts⟩ := key
         have hrowA := hrow.append hor
         have hal := hrowA.length
         have hbel : Below w.heap.size w nw := by rw [hnw]; exact ((Below.refl _ _).drew).alloc (Nat.le_refl _) _
         have hsz2 : (os.toArray ++ ds.toArray ++ tail).size = c2 * e'.size := by
          rw [Array.size_append, Array.size_append, hts]
          simp only [List.size_toArray]
          rw [List.length_append] at hal
          rw [hal, List.length_append, ← Nat.add_mul]
          congr 1
          omega
         have ho1 : nw.ownsRow 0 id e'.size (.slice (some ⟨w.heap.size, 0, none⟩) (xs.length + ys.length) c2) (xs ++ ys).length (os ++ ds) := by
          rw [List.length_append]
          refine ⟨by rw [hal, List.length_append], .inr ⟨w.heap.size, c2, _, rfl, Nat.zero_le _, by rw [hnw]; exact heap_alloc_new w.drew _, hge, hcm, hsz2, ?_⟩⟩
          simp only [Array.toList_append, List.toList_toArray]
          rw [← List.length_append, ← hal]
          exact List.take_left
         obtain ⟨d, hd, hlt, hk'⟩ := putC_some hk
         refine ⟨_, hk', Goes.value' (w' := nw) (v := .slice (some ⟨w.heap.size, 0, none⟩) (xs.length + ys.length) c2) ?_ ?_⟩
         ·rw [hrun]
          simp only [builtin, Sem.run_bind, List.map_toArray, List.map_cons, List.map_nil, e1, hr1, Result.andThen_ok, Sem.run_pure]
         ·rw [hd]
          refine ⟨_, _, h.putOwn hlt hbel (fun _ hx => hx) (fun _ hx => .inl hx) (fun b hx => Nat.lt_of_lt_of_le (h.sub b hx) hbel.size) ⟨_, ho1, hrowA.mono (Keep.of_below hbel) (fun _ hx => hx), rfl⟩ ?_⟩
          intro g hgv
          simp only [Value.ownBlock, Option.some.injEq] at hgv
          subst hgv
          refine ⟨Nat.le_refl _, ?_, fun hx => absurd (h.sub _ hx) (Nat.lt_irrefl _)⟩
          rw [hnw, size_alloc]; exact Nat.lt_succ_self _
      ·cases hk
     ·cases hk
    ·cases hk
 ·cases hk

end
end Go.Proofs.YtecdijlfnnminaaGreatDoor.Eng
namespace Go.Proofs.YtecdijlfnnminaaGreatDoor.Eng
open Go Go.RowKit
set_option linter.unusedVariables false
set_option linter.unusedSimpArgs false

section
universe u
variable {R : Type u} {P : Program} {T : Tys} {C : Ctx} {S : Nat → Prop} {B : Loc → Option Nat} {E : Env} {a : Act} {w : World} {o : Oper} {r : R} {K : List Cmd → Option R}

/-- One block written: what does not lean on it stays. -/
theorem Sim.wr (h : Sim P C S B E a w) {k0 : Loc} {g0 : Nat} (hb : B k0 = some g0) {w' : World} (hw : KeptBut (fun g => g = g0) w w') {E' : Env} (hnt : E'.nt = E.nt)
  (hslots : ∀ n, (E'.g n = E.g n ∧ (E.g n).needs n k0 = false ∧ ∀ s, (E.g n).refs s = true → E'.g s = E.g s) ∨ SlotR P S B E' a w' n (E'.g n))
  (hk0 : ∀ b i, k0 ≠ .l b i)
  (hboxes : ∀ b l, alook E'.bx b = some l → (k0 ≠ .b b ∧ alook E.bx b = some l) ∨ ∃ g, B (.b b) = some g ∧ BoxR S w' (fun i => B (.l b i)) l g) : Sim P C S B E' a w' := by
 have keepS : Keep S w w' := ⟨hw.size, fun b hs hl => hw.block b hl (by rintro rfl; exact (h.free _ _ hb).1 hs)⟩
 have other : ∀ k g, k ≠ k0 → B k = some g → w'.heap[g]? = w.heap[g]? := fun k g hk hg => hw.block g (h.free k g hg).2.1 (by rintro rfl; exact hk (h.inj k k0 g hg hb))
 refine ⟨by rw [hnt]; exact h.size, h.defers, ?_, fun b hs => Nat.lt_of_lt_of_le (h.sub b hs) hw.size, h.frm, h.sup, h.inj, ?_, ?_, ?_, h.inb⟩
 ·refine ⟨hw.os.trans h.kept.os, hw.tape.trans h.kept.tape, hw.output.trans h.kept.output, Nat.le_trans h.kept.size hw.size, fun k hk ho => ?_⟩
  refine (hw.block k (Nat.lt_of_lt_of_le hk h.kept.size) ?_).trans (h.kept.block k hk ho)
  rintro rfl
  rcases (h.free _ _ hb).2.2 with h3 | h3
  ·omega
  ·exact ho h3
 ·intro k g hg
  obtain ⟨f1, f2, f3⟩ := h.free k g hg
  exact ⟨f1, Nat.lt_of_lt_of_le f2 hw.size, f3⟩
 ·intro n
  rcases hslots n with ⟨h1, h2, h3⟩ | h1
  ·rw [h1]
   exact (h.slots n).move keepS (fun _ hx => hx) rfl (fun _ _ => rfl) (fun k g hn hg => other k g (by rintro rfl; rw [h2] at hn; cases hn) hg) (fun _ _ => rfl) (fun s hr => ⟨rfl, h3 s hr, rfl⟩)
  ·exact h1
 ·intro b l hl
  rcases hboxes b l hl with ⟨h1, h2⟩ | h1
  ·obtain ⟨g, hg, hx⟩ := h.boxes b l h2
   exact ⟨g, hg, hx.move keepS (fun _ hx => hx) (other _ g (Ne.symm h1) hg) (fun j => ⟨rfl, fun g' hg' => other _ g' (Ne.symm (hk0 b j)) hg'⟩)⟩
  ·exact h1

theorem run_storeVar (hT : TOk P T) {t : TypeId} {ty : Ty} (h : T.ty t = some ty) {v : Value} {d : List Value} (hv : v.cells.toList = d) (hd : d.length = ty.size) (h1 : ∀ u ∈ d, u.oneCell' = true) {g off : Nat} {cur : Array Value} {id : TypeId}
  (hg : w.heap[g]? = some (.cells cur id (0, 0))) (hle : off + d.length ≤ cur.size) :
  (storeVar t ⟨g, off, none⟩ v).run P w = .ok () (w.setRow g (cur.toList.take off ++ d ++ cur.toList.drop (off + d.length)).toArray) := by
 have hsz : v.cells.size = ty.size := by rw [← Array.length_toList, hv, hd]
 have := run_storeCells_at (P := P) g off id d 0 cur w hg (by omega) h1
 simp only [Nat.add_zero] at this
 simp only [storeVar, Sem.run_bind, size_of hT h, Result.andThen_ok, hsz, ne_eq, not_true, if_false, hv, this]

theorem setRow_kept {g : Nat} {cs : Array Value} : KeptBut (fun k => k = g) w (w.setRow g cs) :=
 ⟨rfl, rfl, rfl, by simp, fun k _ hk => setRow_other w g k cs hk⟩

theorem fz_own {s s' : Nat} {id : TypeId} {e : Ty} {xs : List e.den} (hne : s ≠ s') (h : E.g s = .own id e xs) : (E.fz s').g s = .own id e xs := by
 unfold Env.fz
 cases hs : E.g s' with
 | own id' e' xs' =>
  simp only [Env.g, alook_aset, alook_amap, Ne.symm hne, if_false] at h ⊢
  cases hq : alook E.sl s with
  | none => rw [hq] at h; cases h
  | some u => rw [hq] at h; simp only at h; subst h; rfl
 | _ => exact h
theorem fz_eref {s s' t : Nat} {i : Int} {e : Ty} {x : Option e.den} (hne : s ≠ s') (ht : t ≠ s') (h : E.g t = .eref s i e x) : (E.fz s').g t = .eref s i e x := by
 unfold Env.fz
 cases hs : E.g s' with
 | own id' e' xs' =>
  simp only [Env.g, alook_aset, alook_amap, Ne.symm ht, if_false] at h ⊢
  cases hq : alook E.sl t with
  | none => rw [hq] at h; cases h
  | some u =>
   rw [hq] at h; simp only at h; subst h
   simp [fzF, beq_false hne]
 | _ => exact h
theorem fz_ptr {s' t b off : Nat} (h : E.g t = .ptr b off) : (E.fz s').g t = .ptr b off := by
 unfold Env.fz
 cases hs : E.g s' with
 | own id' e' xs' =>
  have ht : s' ≠ t := by rintro rfl; rw [h] at hs; cases hs
  simp only [Env.g, alook_aset, alook_amap, ht, if_false] at h ⊢
  cases hq : alook E.sl t with
  | none => rw [hq] at h; cases h
  | some u => rw [hq] at h; simp only at h; subst h; rfl
 | _ => exact h
theorem fz_bx {s' : Nat} : (E.fz s').bx = E.bx := by unfold Env.fz; split <;> rfl

theorem LeavesR.reidx {S' : Nat → Prop} {w' : World} (hk : Keep S w w') (hs : ∀ x, S x → S' x) {ob ob' : Nat → Option Nat} : ∀ {l : List V} {i i' : Nat} {cs : List Value}, LeavesR S w ob i l cs → (∀ j, j < l.length → ob' (i' + j) = ob (i + j) ∧ ∀ g, ob (i + j) = some g → w'.heap[g]? = w.heap[g]?) → LeavesR S' w' ob' i' l cs
 | [], _, _, _, h, _ => h
 | v :: l, i, i', _, ⟨u, r, e, h1, h2⟩, ho => by
  have h0 := ho 0 (by simp)
  rw [Nat.add_zero, Nat.add_zero] at h0
  refine ⟨u, r, e, by rw [h0.1]; exact h1.move hk hs h0.2, LeavesR.reidx hk hs h2 (fun j hj => ?_)⟩
  have := ho (j + 1) (by simp; omega)
  rw [show i' + 1 + j = i' + (j + 1) by omega, show i + 1 + j = i + (j + 1) by omega]
  exact this

/-- What is given to a box. -/
theorem give_sound (h : Sim P C S B E a w) {x y : Operand} {s : Nat} {ls : List V} (hg : giveOf E.vw x y = some (s, ls)) :
  ∃ (d : List Value) (ob : Nat → Option Nat), (a.eval y).cells.toList = d ∧ (∀ u ∈ d, u.oneCell' = true) ∧ LeavesR S w ob 0 ls d ∧ (∀ j g, ob j = some g → ∃ k : Loc, B k = some g ∧ k.at s = true) ∧ (∀ j j' g, ob j = some g → ob j' = some g → j = j') ∧ ((E.g s).isOwn = true ∨ ∃ l, E.g s = .agg l) := by
 unfold giveOf at hg
 split at hg
 ·rename_i tx t
  have hgt : E.vw.g t = E.g t := rfl
  rw [hgt] at hg
  split at hg
  ·rename_i ls' hag
   simp only [Option.some.injEq, Prod.mk.injEq] at hg
   obtain ⟨rfl, rfl⟩ := hg
   have hsl := h.slots t
   rw [hag] at hsl
   obtain ⟨vs, h1, h2⟩ := hsl
   have he : a.eval (.tmp t) = .agg vs := h1
   refine ⟨vs.toList, fun j => B (.t t j), by rw [he]; rfl, h2.one, h2, fun j g hj => ⟨_, hj, beq_self t⟩, fun j j' g hj hj' => by have := h.inj _ _ g hj hj'; injection this, .inr ⟨_, hag⟩⟩
  ·split at hg
   ·rename_i s' b off hsrc hx
    split at hg
    ·rename_i id e xs l hown hl
     split at hg
     ·rename_i u hu
      cases hodd : u.odd
      ·rw [hodd] at hg; cases hg
      rw [hodd, cond_true] at hg
      simp only [Option.some.injEq, Prod.mk.injEq] at hg
      obtain ⟨rfl, rfl⟩ := hg
      obtain ⟨ho1, he⟩ := src_sound h hsrc
      have hown' : E.g s' = .own id e xs := hown
      have hsl := h.slots s'
      rw [hown'] at hsl
      have hown2 : OwnR S w id e xs (tv a s') (B (.s s')) := hsl
      have hcc : (tv a s').cells.toList = [tv a s'] := by
       obtain ⟨cs, h1, _, _⟩ := hown2
       rcases h1.2 with ⟨hv, _⟩ | ⟨g, cap, cur, hv, _⟩ <;> rw [hv] <;> rfl
      refine ⟨[tv a s'], fun j => if j = 0 then B (.s s') else none, by rw [he]; exact hcc, fun u hu => ?_, ⟨_, _, rfl, ?_, rfl⟩, fun j g hj => ?_, fun j j' g hj hj' => ?_, .inl ho1⟩
      ·simp only [List.mem_singleton] at hu
       subst hu
       exact hown2.one'
      ·exact hown2
      ·dsimp only at hj
       by_cases h0 : j = 0
       ·rw [if_pos h0] at hj; exact ⟨_, hj, beq_self s'⟩
       ·rw [if_neg h0] at hj; cases hj
      ·dsimp only at hj hj'
       by_cases h0 : j = 0
       ·by_cases h1 : j' = 0
        ·omega
        ·rw [if_neg h1] at hj'; cases hj'
       ·rw [if_neg h0] at hj; cases hj
     ·cases hg
    ·cases hg
   ·cases hg
 ·cases hg

/-- A store that gives rows of its own to a box. -/
theorem evGive_ok (hT : TOk P T) (h : Sim P C S B E a w) {ty : TypeId} {x y : Operand} {s : Nat} {ls : List V} (ho : o.op = .store ty x y) (hgv : giveOf E.vw x y = some (s, ls)) (hk : evGive T E.vw ty x s ls o.dst K = some r) : Ok P C E a w o K r := by
 unfold evGive at hk
 split at hk
 ·rename_i tx tt hty hdst
  have hgt : E.vw.g tx = E.g tx := rfl
  rw [hgt] at hk
  split at hk
  ·rename_i b off hn
   split at hk
   ·rename_i l hl0
    have hl : alook E.bx b = some l := hl0
    cases hrl : (rowL l || rowL ls)
    case true => rw [hrl] at hk; cases hk
    rw [hrl, cond_false] at hk
    simp only [Bool.or_eq_false_iff] at hrl
    split at hk
    ·rename_i hle0
     obtain ⟨hle0, hsz⟩ := hle0
     obtain ⟨d, ob, hdc, hd1, hLd, hob, hoi, hbig⟩ := give_sound h hgv
     have hst := h.slots tx
     rw [hn] at hst
     obtain ⟨g, k1, k2⟩ := hst
     obtain ⟨g', hb', cells, id, hgg, hL0⟩ := h.boxes b l hl
     have hL := hL0.leaves hrl.1
     have : g' = g := by rw [hb'] at k1; exact Option.some.inj k1
     subst this
     have hll := hL.length
     have hdl : d.length = ls.length := hLd.length
     have hle : off + d.length ≤ cells.size := by rw [hdl, ← Array.length_toList, hll]; exact hle0
     have e1 : a.eval (.tmp tx) = .pointer (some ⟨g', off, none⟩) := k2
     have hrun := run_storeVar (w := w) hT hty hdc (by rw [hdl]; exact hsz) hd1 hgg hle
     refine ⟨_, hk, ?_⟩
     intro Kw Q hKw
     refine wp_none (w' := w.setRow g' (cells.toList.take off ++ d ++ cells.toList.drop (off + d.length)).toArray) ?_ ?_
     ·simp only [execOp, ho, Instr.storeAt, e1, Instr.sureAddr, Sem.run_bind, Sem.run_pure, Result.andThen_ok, hrun]
     rw [hdst]
     show Kw a _
     let B' : Loc → Option Nat := fun k => match k with
      | .l c i => if c = b then (if i < off then B (.l b i) else if i < off + ls.length then ob (i - off) else B (.l b i)) else B (.l c i)
      | .t m i => if m = s then none else B (.t m i)
      | .s m => if m = s then none else B (.s m)
      | .b m => B (.b m)
     have hB' : ∀ k x, B' k = some x → (∃ i, k = .l b (off + i) ∧ i < ls.length ∧ ob i = some x) ∨ (B k = some x ∧ k.at s = false ∧ ∀ i, i < ls.length → k ≠ .l b (off + i)) := fun k x hk => by
      cases k with
      | l c i =>
       simp only [B'] at hk
       by_cases hc : c = b
       ·subst hc
        rw [if_pos rfl] at hk
        split at hk
        ·exact .inr ⟨hk, rfl, fun i' _ he => by injection he with _ he; omega⟩
        ·split at hk
         ·exact .inl ⟨i - off, by congr 1; omega, by omega, hk⟩
         ·exact .inr ⟨hk, rfl, fun i' _ he => by injection he with _ he; omega⟩
       ·rw [if_neg hc] at hk
        exact .inr ⟨hk, rfl, fun i' _ he => by injection he with he _; exact hc he⟩
      | s m =>
       simp only [B'] at hk
       split at hk
       ·cases hk
       ·rename_i hm; exact .inr ⟨hk, beq_false hm, fun i _ he => by cases he⟩
      | t m i =>
       simp only [B'] at hk
       split at hk
       ·cases hk
       ·rename_i hm; exact .inr ⟨hk, beq_false hm, fun i _ he => by cases he⟩
      | b m => exact .inr ⟨hk, rfl, fun i _ he => by cases he⟩
     have hBk : ∀ k : Loc, k.at s = false → (∀ i, k ≠ .l b i) → B' k = B k := fun k hat hne => by
      cases k with
      | l c i =>
       have : c ≠ b := by rintro rfl; exact hne i rfl
       simp [B', this]
      | s m =>
       have : m ≠ s := by rintro rfl; simp [Loc.at, beq_self] at hat
       simp [B', this]
      | t m i =>
       have : m ≠ s := by rintro rfl; simp [Loc.at, beq_self] at hat
       simp [B', this]
      | b m => rfl
     have old : ∀ k x, B' k = some x → ∃ k0, B k0 = some x := fun k x hk => by
      rcases hB' k x hk with ⟨i, _, _, h1⟩ | ⟨h1, _⟩
      ·obtain ⟨k0, h2, _⟩ := hob i x h1
       exact ⟨k0, h2⟩
      ·exact ⟨_, h1⟩
     generalize hw' : w.setRow g' (cells.toList.take off ++ d ++ cells.toList.drop (off + d.length)).toArray = w'
     have hkept : KeptBut (fun k => k = g') w w' := by rw [← hw']; exact setRow_kept
     have keepS : Keep S w w' := ⟨hkept.size, fun k hb hl2 => hkept.block k hl2 (by rintro rfl; exact (h.free _ _ hb').1 hb)⟩
     have other : ∀ k x, k ≠ .b b → B k = some x → w'.heap[x]? = w.heap[x]? := fun k x hk hx => hkept.block x (h.free k x hx).2.1 (by rintro rfl; exact hk (h.inj k _ _ hx hb'))
     have hEg : ∀ n, (E.run [.set s .undef, .box b (V.over l off ls)]).g n = (E.set s .undef).g n := fun n => rfl
     apply hKw S B'
     refine ⟨h.size, h.defers, ?_, fun x hx => Nat.lt_of_lt_of_le (h.sub x hx) hkept.size, h.frm, h.sup, ?_, ?_, ?_, ?_, ?_⟩
     ·refine ⟨hkept.os.trans h.kept.os, hkept.tape.trans h.kept.tape, hkept.output.trans h.kept.output, Nat.le_trans h.kept.size hkept.size, fun k hk2 hno => ?_⟩
      refine (hkept.block k (Nat.lt_of_lt_of_le hk2 h.kept.size) ?_).trans (h.kept.block k hk2 hno)
      rintro rfl
      rcases (h.free _ _ hb').2.2 with h3 | h3
      ·omega
      ·exact hno h3
     ·intro k k' x h1 h2
      rcases hB' k x h1 with ⟨i, e1, a1, a2⟩ | ⟨a1, a2, a3⟩
      ·rcases hB' k' x h2 with ⟨i', f1, b1, b2⟩ | ⟨b1, b2, b3⟩
       ·rw [e1, f1, hoi i i' x a2 b2]
       ·obtain ⟨k0, c1, c2⟩ := hob i x a2
        have := h.inj _ _ x b1 c1
        subst this
        rw [c2] at b2; cases b2
      ·rcases hB' k' x h2 with ⟨i', f1, b1, b2⟩ | ⟨b1, b2, b3⟩
       ·obtain ⟨k0, c1, c2⟩ := hob i' x b2
        have := h.inj _ _ x a1 c1
        subst this
        rw [c2] at a2; cases a2
       ·exact h.inj _ _ x a1 b1
     ·intro k x h1
      obtain ⟨k0, h0⟩ := old k x h1
      obtain ⟨f1, f2, f3⟩ := h.free k0 x h0
      exact ⟨f1, Nat.lt_of_lt_of_le f2 hkept.size, f3⟩
     ·intro n
      rw [hEg, Env.g_set]
      by_cases hsn : s = n
      ·rw [if_pos hsn]; trivial
      ·rw [if_neg hsn]
       split
       ·trivial
       ·rename_i hno
        have hat : ∀ k : Loc, (E.g n).needs n k = true → k.at s = false ∧ ∀ i, k ≠ .l b i := fun k hk => by
         have := SV.needs_at hk
         cases k with
         | b _ => cases this
         | l _ _ => cases this
         | s m => have := Nat.eq_of_beq_eq_true this; subst this; exact ⟨beq_false (Ne.symm hsn), fun i => by simp⟩
         | t m i => have := Nat.eq_of_beq_eq_true this; subst this; exact ⟨beq_false (Ne.symm hsn), fun i => by simp⟩
        refine (h.slots n).move keepS (fun _ hx => hx) rfl (fun k hk => hBk k (hat k hk).1 (hat k hk).2) (fun k x hk hx => other k x (by rintro rfl; have := SV.needs_at hk; cases this) hx) (fun c _ => rfl) (fun s' hr => ?_)
        have hso := (h.slots n).leans hr
        have hss : s' ≠ s := by
         rintro rfl
         exact hno ⟨hso, hr⟩
        refine ⟨rfl, ?_, by simp [B', hss]⟩
        rw [hEg, Env.g_set, if_neg (Ne.symm hss)]
        split
        ·rename_i hh; rw [isOwn_refs hso] at hh; cases hh.2
        ·rfl
     ·intro c l' hc
      have hc' : alook (aset E.bx b (V.over l off ls)) c = some l' := hc
      rw [alook_aset] at hc'
      by_cases hbc : b = c
      ·subst hbc
       simp only [if_true, Option.some.injEq] at hc'
       subst hc'
       refine ⟨g', hb', _, id, by rw [← hw']; exact setRow_heap w g' cells _ id _ hgg, .inl ⟨rowL_over hrl.1 hrl.2, ?_⟩⟩
       rw [List.toList_toArray]
       unfold V.over
       have p1 : LeavesR S w' (fun i => B' (.l b i)) 0 (l.take off) (cells.toList.take off) := (hL.take off).reidx keepS (fun _ hx => hx) (fun j hj => by
        have hjo : j < off := by rw [List.length_take] at hj; omega
        exact ⟨by simp [B', hjo], fun x hx => other _ x (by simp) hx⟩)
       have p2 : LeavesR S w' (fun i => B' (.l b i)) off ls d := hLd.reidx keepS (fun _ hx => hx) (fun j hj => by
        refine ⟨?_, fun x hx => ?_⟩
        ·have e2 : ¬ off + j < off := by omega
         have e3 : off + j < off + ls.length := by omega
         simp only [B', if_true]
         rw [if_neg e2, if_pos e3, Nat.zero_add]
         congr 1
         omega
        ·obtain ⟨k0, c1, c2⟩ := hob _ x hx
         exact other k0 x (by rintro rfl; cases c2) c1)
       have p3 : LeavesR S w' (fun i => B' (.l b i)) (off + ls.length) (l.drop (off + ls.length)) (cells.toList.drop (off + d.length)) := by
        rw [hdl]
        have := hL.drop (off + ls.length)
        rw [Nat.zero_add] at this
        refine this.reidx keepS (fun _ hx => hx) (fun j hj => ⟨?_, fun x hx => other _ x (by simp) hx⟩)
        have e2 : ¬ off + ls.length + j < off := by omega
        have e3 : ¬ off + ls.length + j < off + ls.length := by omega
        simp only [B', if_true]
        rw [if_neg e2, if_neg e3]
       have hlt : (l.take off).length = off := by rw [List.length_take]; omega
       refine (p1.app (by rw [hlt, Nat.zero_add]; exact p2)).app ?_
       rw [List.length_append, hlt, Nat.zero_add]
       exact p3
      ·rw [if_neg hbc] at hc'
       obtain ⟨g2, h1, h2⟩ := h.boxes c l' hc'
       refine ⟨g2, h1, h2.move keepS (fun _ hx => hx) (other _ g2 (by rintro he; injection he with he; exact hbc he.symm) h1) (fun j => ⟨by simp [B', Ne.symm hbc], fun x hx => other _ x (by simp) hx⟩)⟩
     ·intro c hc
      exact h.inb c hc
    ·cases hk
   ·cases hk
  ·cases hk
 ·cases hk

theorem evStore_ok (hT : TOk P T) (h : Sim P C S B E a w) {ty : TypeId} {x y : Operand} (ho : o.op = .store ty x y) (hk : evStore T E.vw ty x y o.dst K = some r) : Ok P C E a w o K r := by
 unfold evStore at hk
 split at hk
 ·rename_i s ls hgv
  exact evGive_ok hT h ho hgv hk
 rename_i hgn
 split at hk
 ·rename_i t tt p hty hp hdst
  split at hk
  ·rename_i z hz
   have := V.as_some hz
   subst this
   obtain ⟨S', B', hs1, hnt, hsub, hg, _⟩ := escC_sound h y
   obtain ⟨d, hd, hdc, _⟩ := (rd_esc h hp hsub hg).cells
   have hdl : d.length = tt.size := hd.length
   have hgt : E.vw.g t = E.g t := rfl
   rw [hgt] at hk
   have e1 : a.eval (.tmp t) = tv a t := rfl
   split at hk
   ·rename_i s i e0 ex hn
    have hgs : E.vw.g s = E.g s := rfl
    rw [hgs] at hk
    split at hk
    ·rename_i id e' xs hown
     split at hk
     ·rename_i hcond
      obtain ⟨htt, hsrc⟩ := hcond
      subst htt
      refine ⟨_, hk, ?_⟩
      -- the state behind the handing on
      have hg1 : (E.run (escC E.vw y)).g s = .own id tt xs := by
       unfold escC
       cases hq : src E.vw y with
       | none => exact hown
       | some s' => exact fz_own (by rintro rfl; exact hsrc hq) hown
      have hg2 : (E.run (escC E.vw y)).g t = .eref s i e0 ex := by
       unfold escC
       cases hq : src E.vw y with
       | none => exact hn
       | some s' =>
        refine fz_eref (by rintro rfl; exact hsrc hq) ?_ hn
        rintro rfl
        obtain ⟨ho', _⟩ := src_sound h hq
        rw [hn] at ho'; cases ho'
      generalize hE1 : E.run (escC E.vw y) = E1 at hs1 hnt hg1 hg2
      have hsl := hs1.slots s
      rw [hg1] at hsl
      have hst := hs1.slots t
      rw [hg2] at hst
      obtain ⟨id2, xs2, g, k1, k2, k3, k4, _, k6⟩ := hst
      rw [hg1] at k1
      simp only [SV.own.injEq] at k1
      obtain ⟨rfl, rfl, hxs⟩ := k1
      have hxs' := eq_of_heq hxs
      subst hxs'
      obtain ⟨cs, ho1, hr1, hob⟩ := hsl
      rcases ho1.2 with ⟨_, hz0⟩ | ⟨g', cap, cur, hv, _, hgg, hnc, hcm, hcs, htake⟩
      ·omega
      ·have : g' = g := by rw [hv, k2] at hob; simpa [Value.ownBlock] using hob
       subst this
       have hd' : Cells S' w tt z d := hd
       obtain ⟨l, rr, hlr, hll, hset⟩ := RowCells.set hd' hr1 i.toNat k4
       have hcl : cs.length = xs.length * tt.size := hr1.length
       have hle : i.toNat * tt.size + d.length ≤ cur.size := by
        rw [hdl, hcs]
        have : (i.toNat + 1) * tt.size ≤ cap * tt.size := Nat.mul_le_mul_right _ (by omega)
        rw [Nat.add_mul] at this; omega
       have hrun := run_storeVar (w := w) hT hty hdc hdl hd.one hgg hle
       have hcur : cur.toList = l ++ rr ++ cur.toList.drop (xs.length * tt.size) := by rw [← hlr, ← htake, List.take_append_drop]
       have hnew : cur.toList.take (i.toNat * tt.size) ++ d ++ cur.toList.drop (i.toNat * tt.size + d.length) = (l ++ d ++ rr.drop tt.size) ++ cur.toList.drop (xs.length * tt.size) := by
        have hrl : tt.size ≤ rr.length := by
         have : (l ++ rr).length = xs.length * tt.size := by rw [← hlr]; exact hcl
         rw [List.length_append, hll] at this
         have h2 : (i.toNat + 1) * tt.size ≤ xs.length * tt.size := Nat.mul_le_mul_right _ (by omega)
         rw [Nat.add_mul] at h2; omega
        rw [hdl]
        conv => lhs; rw [hcur]
        rw [List.append_assoc l rr, List.take_append_of_le_length (by omega), List.take_of_length_le (by omega)]
        rw [List.drop_append, List.drop_eq_nil_of_le (by omega), List.nil_append, hll, Nat.add_sub_cancel_left, List.drop_append_of_le_length hrl]
        simp
       have hnl : (l ++ d ++ rr.drop tt.size).length = xs.length * tt.size := by
        have := hset.length
        rw [List.length_set] at this
        exact this
       intro Kw Q hKw
       refine wp_none (w' := w.setRow g' (cur.toList.take (i.toNat * tt.size) ++ d ++ cur.toList.drop (i.toNat * tt.size + d.length)).toArray) ?_ ?_
       ·simp only [execOp, ho, Instr.storeAt, e1, k6, Instr.sureAddr, Sem.run_bind, Sem.run_pure, Result.andThen_ok, hrun]
       ·rw [hdst]
        show Kw a _
        apply hKw S' B'
        rw [run_cmds_append, hE1]
        show Sim P C S' B' (E1.set s _) a _
        have keepS : Keep S' w (w.setRow g' (cur.toList.take (i.toNat * tt.size) ++ d ++ cur.toList.drop (i.toNat * tt.size + d.length)).toArray) :=
         ⟨by simp, fun b hb hl => setRow_other w g' b _ (by rintro rfl; exact (hs1.free _ _ k2).1 hb)⟩
        refine hs1.wr k2 setRow_kept rfl (fun n => ?_) (fun _ _ h => by cases h) (fun b l' hb => .inl ⟨by simp, hb⟩)
        rw [Env.g_set]
        by_cases hsn : s = n
        ·subst hsn
         right
         rw [if_pos rfl]
         refine ⟨l ++ d ++ rr.drop tt.size, ?_, hset.mono keepS (fun _ hx => hx), by rw [hv, k2]; rfl⟩
         rw [List.length_set]
         refine ⟨hnl, .inr ⟨g', cap, _, hv, Nat.zero_le _, setRow_heap w g' cur _ _ _ hgg, hnc, hcm, ?_, ?_⟩⟩
         ·rw [hnew]
          show ((l ++ d ++ rr.drop tt.size) ++ cur.toList.drop (xs.length * tt.size)).length = _
          rw [List.length_append, hnl, List.length_drop]
          have h5 : cur.toList.length = cap * tt.size := by rw [Array.length_toList, hcs]
          have : xs.length * tt.size ≤ cap * tt.size := Nat.mul_le_mul_right _ hnc
          omega
         ·rw [hnew, ← hnl]
          exact List.take_left
        ·rw [if_neg hsn]
         split
         ·right; trivial
         ·rename_i hno
          left
          refine ⟨rfl, ?_, fun s' hr => ?_⟩
          ·cases hnn : (E1.g n).needs n (.s s)
           ·rfl
           ·exact absurd (Nat.eq_of_beq_eq_true (SV.needs_at hnn)) hsn
          ·have ho' := (hs1.slots n).leans hr
           have hss : s ≠ s' := by
            rintro rfl
            exact hno ⟨ho', hr⟩
           rw [Env.g_set, if_neg hss]
           split
           ·rename_i hh; rw [isOwn_refs ho'] at hh; cases hh.2
           ·rfl
     ·cases hk
    ·cases hk
   ·rename_i b off hn
    split at hk
    ·rename_i l hl
     cases hrl : rowL l
     case true => rw [hrl] at hk; cases hk
     rw [hrl, cond_false] at hk
     split at hk
     ·rename_i hle0
      refine ⟨_, hk, ?_⟩
      have hg2 : (E.run (escC E.vw y)).g t = .ptr b off := by
       unfold escC
       cases hq : src E.vw y with
       | none => exact hn
       | some s' => exact fz_ptr hn
      have hbx : alook (E.run (escC E.vw y)).bx b = some l := by
       unfold escC
       cases hq : src E.vw y with
       | none => exact hl
       | some s' => show alook (E.fz s').bx b = _; rw [fz_bx]; exact hl
      generalize hE1 : E.run (escC E.vw y) = E1 at hs1 hnt hg2 hbx
      have hst := hs1.slots t
      rw [hg2] at hst
      obtain ⟨g, k1, k2⟩ := hst
      obtain ⟨g', hb', cells, id, hgg, hL0⟩ := hs1.boxes b l hbx
      have hL := hL0.leaves hrl
      have : g' = g := by rw [hb'] at k1; exact Option.some.inj k1
      subst this
      have hll := hL.length
      have hle : off + d.length ≤ cells.size := by rw [hdl, ← Array.length_toList, hll]; exact hle0
      have hrun := run_storeVar (w := w) hT hty hdc hdl hd.one hgg hle
      have hdis : ∀ j, LeavesR S' w (fun i => B' (.l b i)) j (dis tt z) d := fun j => dis_sound hd
      have hdisl : d.length = (dis tt z).length := (hdis 0).length
      intro Kw Q hKw
      refine wp_none (w' := w.setRow g' (cells.toList.take off ++ d ++ cells.toList.drop (off + d.length)).toArray) ?_ ?_
      ·simp only [execOp, ho, Instr.storeAt, e1, k2, Instr.sureAddr, Sem.run_bind, Sem.run_pure, Result.andThen_ok, hrun]
      ·rw [hdst]
       show Kw a _
       apply hKw S' B'
       rw [run_cmds_append, hE1]
       show Sim P C S' B' ⟨E1.nt, E1.sl, aset E1.bx b _⟩ a _
       have keepS : Keep S' w (w.setRow g' (cells.toList.take off ++ d ++ cells.toList.drop (off + d.length)).toArray) :=
        ⟨by simp, fun k hb hl => setRow_other w g' k _ (by rintro rfl; exact (hs1.free _ _ hb').1 hb)⟩
       refine hs1.wr hb' setRow_kept rfl (fun n => .inl ⟨rfl, ?_, fun _ _ => rfl⟩) (fun _ _ h => by cases h) (fun c l' hc => ?_)
       ·cases hnn : (E1.g n).needs n (.b b)
        ·rfl
        ·have := SV.needs_at hnn; cases this
       ·have hc' : alook (aset E1.bx b (V.over l off (dis tt z))) c = some l' := hc
        rw [alook_aset] at hc'
        by_cases hbc : b = c
        ·subst hbc
         simp only [if_true, Option.some.injEq] at hc'
         subst hc'
         right
         refine ⟨g', hb', _, id, setRow_heap w g' cells _ id _ hgg, ?_⟩
         rw [List.toList_toArray]
         have := ((hL.take off).app (hdis _)).app (l2 := l.drop (off + d.length)) (d2 := cells.toList.drop (off + d.length)) (by
          have := hL.drop (off + d.length)
          rw [show 0 + (List.take off l ++ dis tt z).length = 0 + (off + d.length) by rw [List.length_append, List.length_take, ← hdisl]; omega]
          exact this)
         have hrn : rowL (V.over l off (dis tt z)) = false := rowL_over hrl (rowL_dis tt z)
         refine .inl ⟨hrn, ?_⟩
         unfold V.over
         rw [← hdisl]
         exact this.move keepS (fun _ hx => hx) (fun j v _ _ => ⟨rfl, fun g1 hg1 => setRow_other w g' g1 _ (by rintro rfl; have := hs1.inj _ _ _ hg1 hb'; cases this)⟩)
        ·rw [if_neg hbc] at hc'
         exact .inl ⟨by intro he; injection he with he; exact hbc he, hc'⟩
     ·cases hk
    ·cases hk
   ·rename_i k0 i e0 hn
    split at hk
    ·rename_i xs hxs
     cases hsrc : src E.vw y with
     | some s0 => rw [hsrc] at hk; cases hk
     | none =>
      rw [hsrc] at hk
      simp only [Option.isNone_none, cond_true] at hk
      have hesc : escC E.vw y = [] := by unfold escC; rw [hsrc]
      split at hk
      ·rename_i hee; subst hee
       cases hr : rdI xs i with
       | none => rw [hr] at hk; cases hk
       | some q =>
        rw [hr] at hk
        simp only [Option.bind_some] at hk
        obtain ⟨j0, j1, j2⟩ := rdI_some hr
        rw [hesc] at hs1 hnt
        have hs1 : Sim P C S' B' E a w := hs1
        have hst := hs1.slots t
        have hn' : E.g t = .rel k0 i e0 := hn
        rw [hn'] at hst
        obtain ⟨g, k1, k2, k3⟩ := hst
        obtain ⟨l, hl, hrow⟩ := rowAt_some hxs
        obtain ⟨g', hb', cells, id, hgg, hL0⟩ := hs1.boxes k0 l hl
        have : g' = g := by rw [hb'] at k1; exact Option.some.inj k1
        subst this
        subst hrow
        have hRC := hL0.row
        have hd' : Cells S' w e0 z d := hd
        obtain ⟨l0, rr, hlr, hll, hset⟩ := RowCells.set hd' hRC i.toNat j1
        have hcl := hRC.length
        have hcs : xs.length * e0.size ≤ cells.size := by
         have h9 : min (xs.length * e0.size) cells.toList.length = xs.length * e0.size := by rw [← List.length_take]; exact hcl
         have h8 : cells.toList.length = cells.size := Array.length_toList
         omega
        have hi1 : (i.toNat + 1) * e0.size ≤ xs.length * e0.size := Nat.mul_le_mul_right _ (by omega)
        rw [Nat.add_mul] at hi1
        have hle : i.toNat * e0.size + d.length ≤ cells.size := by rw [hdl]; omega
        have hrun := run_storeVar (w := w) hT hty hdc hdl hd.one hgg hle
        have hcur : cells.toList = l0 ++ rr ++ cells.toList.drop (xs.length * e0.size) := by rw [← hlr, List.take_append_drop]
        have hrl : e0.size ≤ rr.length := by
         have : (l0 ++ rr).length = xs.length * e0.size := by rw [← hlr]; exact hcl
         rw [List.length_append, hll] at this
         omega
        have hnew : cells.toList.take (i.toNat * e0.size) ++ d ++ cells.toList.drop (i.toNat * e0.size + d.length) = (l0 ++ d ++ rr.drop e0.size) ++ cells.toList.drop (xs.length * e0.size) := by
         rw [hdl]
         conv => lhs; rw [hcur]
         rw [List.append_assoc l0 rr, List.take_append_of_le_length (by omega), List.take_of_length_le (by omega)]
         rw [List.drop_append, List.drop_eq_nil_of_le (by omega), List.nil_append, hll, Nat.add_sub_cancel_left, List.drop_append_of_le_length hrl]
         simp
        have hnl : (l0 ++ d ++ rr.drop e0.size).length = xs.length * e0.size := by
         have := hset.length
         rw [List.length_set] at this
         exact this
        refine ⟨_, hk, ?_⟩
        intro Kw Q hKw
        refine wp_none (w' := w.setRow g' (cells.toList.take (i.toNat * e0.size) ++ d ++ cells.toList.drop (i.toNat * e0.size + d.length)).toArray) ?_ ?_
        ·simp only [execOp, ho, Instr.storeAt, e1, k3, Instr.sureAddr, Sem.run_bind, Sem.run_pure, Result.andThen_ok, hrun]
        ·rw [hdst]
         show Kw a _
         apply hKw S' B'
         show Sim P C S' B' ⟨E.nt, E.sl, aset E.bx k0 _⟩ a _
         have keepS : Keep S' w (w.setRow g' (cells.toList.take (i.toNat * e0.size) ++ d ++ cells.toList.drop (i.toNat * e0.size + d.length)).toArray) :=
          ⟨by simp, fun k hb hl => setRow_other w g' k _ (by rintro rfl; exact (hs1.free _ _ hb').1 hb)⟩
         refine hs1.wr hb' setRow_kept rfl (fun n => .inl ⟨rfl, ?_, fun _ _ => rfl⟩) (fun _ _ h => by cases h) (fun c l' hc => ?_)
         ·cases hnn : (E.g n).needs n (.b k0)
          ·rfl
          ·have := SV.needs_at hnn; cases this
         ·have hc' : alook (aset E.bx k0 [rowV e0 (xs.set i.toNat z)]) c = some l' := hc
          rw [alook_aset] at hc'
          by_cases hbc : k0 = c
          ·subst hbc
           simp only [if_true, Option.some.injEq] at hc'
           subst hc'
           right
           refine ⟨g', hb', _, id, setRow_heap w g' cells _ id _ hgg, .inr ⟨e0, _, rfl, ?_⟩⟩
           have htk : ((cells.toList.take (i.toNat * e0.size) ++ d ++ cells.toList.drop (i.toNat * e0.size + d.length)).toArray.toList.take ((xs.set i.toNat z).length * e0.size)) = l0 ++ d ++ rr.drop e0.size := by
            rw [List.toList_toArray, hnew, List.length_set, ← hnl, List.take_left]
           rw [htk]
           exact hset.mono keepS (fun _ hx => hx)
          ·rw [if_neg hbc] at hc'
           exact .inl ⟨by intro he; injection he with he; exact hbc he, hc'⟩
      ·cases hk
    ·cases hk
   ·cases hk
  ·cases hk
 ·cases hk

end
end Go.Proofs.YtecdijlfnnminaaGreatDoor.Eng
namespace Go.Proofs.YtecdijlfnnminaaGreatDoor.Eng
open Go Go.RowKit
set_option linter.unusedVariables false
set_option linter.unusedSimpArgs false

/-- The blocks of a box's own rows. -/
def blks (ob : Nat → Option Nat) : Nat → List V → List Nat
 | _, [] => []
 | i, v :: l => (bif v.isOwn then (match ob i with | some g => [g] | none => []) else []) ++ blks ob (i + 1) l

/-- The boxes that come in, by the names that the function called gives them. -/
def boxIds : Nat → List A → List Nat
 | _, [] => []
 | i, .bx _ :: r => (1000000 + i) :: boxIds (i + 1) r
 | i, .io _ _ _ :: r => (1000000 + i) :: boxIds (i + 1) r
 | i, _ :: r => boxIds (i + 1) r

/-- Arguments by what is told of them; X: the boxes handed over, Y: the blocks of the rows in them. bb: whose the boxes are. -/
def ArgsT (P : Program) (S : Nat → Prop) (w : World) (bb : Nat → Option Nat) : List A → List Value → List Nat → List Nat → Prop
 | [], vs, X, Y => vs = [] ∧ X = [] ∧ Y = []
 | .v t x :: l, vs, X, Y => ∃ u r, vs = u :: r ∧ ValR S w t x u ∧ ArgsT P S w bb l r X Y
 | .bx bl :: l, vs, X, Y => ∃ g r X' Y' ob, vs = .pointer (some ⟨g, 0, none⟩) :: r ∧ X = g :: X' ∧ Y = blks ob 0 bl ++ Y' ∧ BoxR S w ob bl g ∧ ArgsT P S w bb l r X' Y'
 | .cr t x :: l, vs, X, Y => ∃ u r, vs = u :: r ∧ CrefR S w t x u ∧ ArgsT P S w bb l r X Y
 | .clo φ :: l, vs, X, Y => ∃ u r, vs = u :: r ∧ CloR P S w u φ ∧ ArgsT P S w bb l r X Y
 | .nl _ :: l, vs, X, Y => ∃ u r, vs = u :: r ∧ u = .slice none 0 0 ∧ ArgsT P S w bb l r X Y
 | .io len e xs :: l, vs, X, Y => ∃ g cap r X', vs = .slice (some ⟨g, 0, none⟩) len cap :: r ∧ X = g :: X' ∧ BoxR S w (fun _ => none) [rowV e xs] g ∧ ArgsT P S w bb l r X' Y
 | .fp ty f c :: l, vs, X, Y => ∃ g us r, vs = .pointer (some ⟨g, 0, none⟩) :: r ∧ CapsR bb g c us.toList ∧ FnAt P S w ty f us g ∧ ArgsT P S w bb l r X Y
def ArgsR (P : Program) (S : Nat → Prop) (w : World) (l : List A) (vs : List Value) (X Y : List Nat) : Prop := ArgsT P S w (alook ((boxIds 0 l).zip X)) l vs X Y

def OutsR (S : Nat → Prop) (w : World) (Bo : Nat → Nat → Option Nat) : Nat → List (List V) → List Nat → Prop
 | _, [], X => X = []
 | k, l :: ls, X => ∃ g X', X = g :: X' ∧ BoxR S w (Bo k) l g ∧ OutsR S w Bo (k + 1) ls X'

/-- Whose the rows in the boxes are, behind a call. -/
structure RowsAt (n0 : Nat) (Y : List Nat) (w' : World) (S' : Nat → Prop) (B' : Nat → Option Nat) (Bo : Nat → Nat → Option Nat) : Prop where
 free : ∀ k i g, Bo k i = some g → (n0 ≤ g ∨ g ∈ Y) ∧ g < w'.heap.size ∧ ¬ S' g
 inj : ∀ k i k' i' g, Bo k i = some g → Bo k' i' = some g → k = k' ∧ i = i'
 res : ∀ j k i g, B' j = some g → Bo k i ≠ some g
theorem RowsAt.none (n0 : Nat) (Y : List Nat) (w' : World) (S' : Nat → Prop) (B' : Nat → Option Nat) : RowsAt n0 Y w' S' B' (fun _ _ => none) := by
 refine ⟨?_, ?_, ?_⟩
 ·intro k i g h; cases h
 ·intro k i k' i' g h; cases h
 ·intro j k i g _ h; cases h

/-- Behind a call. -/
def After (S : Nat → Prop) (w : World) (X Y : List Nat) (res : List SV) (outs : List (List V)) (e : Ending) (w' : World) : Prop :=
 ∃ rv S' B' Bo, e = .returned rv ∧ KeptBut (fun g => g ∈ X ∨ g ∈ Y) w w' ∧ ResAt S w.heap.size Y w' res rv S' B' ∧ OutsR S' w' Bo 0 outs X ∧ (∀ g ∈ X, ¬ S' g) ∧ RowsAt w.heap.size Y w' S' B' Bo

/-- What is known of the world at each call (the library's variables, say): of the blocks in S alone. -/
abbrev Inv := (Nat → Prop) → World → Prop
def InvOk (I : Inv) : Prop := ∀ (S S' : Nat → Prop) (w w' : World), I S w → Keep S w w' → (∀ b, S b → S' b) → I S' w'
theorem InvOk.true : InvOk (fun _ _ => True) := fun _ _ _ _ _ _ _ => trivial

structure SpecOk (P : Program) (I : Inv) (f : FuncId) (sp : CSpec) : Prop where
 enters : ∃ fn, P.funcs[f]? = some fn ∧ (fn.name == "runtime.NumGoroutine") = false ∧ fn.body.isNone = false
 calls : ∀ (S : Nat → Prop) (w : World) (l : List A) (vs : List Value) (X Y : List Nat) (r : (sp l).R), I S w → (∀ b, S b → b < w.heap.size) → (X ++ Y).Nodup → (∀ g ∈ X ++ Y, ¬ S g ∧ g < w.heap.size) → ArgsR P S w l vs X Y → (sp l).o = some r →
  Calls P f vs.toArray w (After S w X Y ((sp l).res r) ((sp l).out r))

def GOkI (P : Program) (I : Inv) (G : Gam) : Prop := ∀ f sp, alook G f = some sp → SpecOk P I f sp

theorem GOkI.nil (P : Program) (I : Inv) : GOkI P I [] := fun f sp h => by cases h
theorem GOkI.cons {P : Program} {I : Inv} {G : Gam} {f : FuncId} {sp : CSpec} (hG : GOkI P I G) (h : SpecOk P I f sp) : GOkI P I ((f, sp) :: G) := fun f' sp' h' => by
 rw [alook_cons] at h'
 split at h'
 ·rename_i e; subst e; cases h'; exact h
 ·exact hG f' sp' h'

/-- The same, inside a call. -/
structure SpecIn (P : Program) (C : Ctx) (f : FuncId) (sp : CSpec) : Prop where
 enters : ∃ fn, P.funcs[f]? = some fn ∧ (fn.name == "runtime.NumGoroutine") = false ∧ fn.body.isNone = false
 calls : ∀ (S : Nat → Prop) (w : World) (l : List A) (vs : List Value) (X Y : List Nat) (r : (sp l).R), (∀ b, C.S0 b → S b) → Keep C.S0 C.w0 w → (∀ b, S b → b < w.heap.size) → (X ++ Y).Nodup → (∀ g ∈ X ++ Y, ¬ S g ∧ g < w.heap.size) → ArgsR P S w l vs X Y → (sp l).o = some r →
  Calls P f vs.toArray w (After S w X Y ((sp l).res r) ((sp l).out r))
structure GOk (P : Program) (C : Ctx) (G : Gam) : Prop where
 dis : ∀ b, C.S0 b → ¬ C.O b
 ok : ∀ f sp, alook G f = some sp → SpecIn P C f sp
theorem GOkI.at {P : Program} {I : Inv} {G : Gam} (hG : GOkI P I G) (hI : InvOk I) {C : Ctx} (hd : ∀ b, C.S0 b → ¬ C.O b) (h0 : I C.S0 C.w0) : GOk P C G :=
 ⟨hd, fun f sp hf => ⟨(hG f sp hf).enters, fun S w l vs X Y r hs hk => (hG f sp hf).calls S w l vs X Y r (hI _ _ _ _ h0 hk hs)⟩⟩
theorem Sim.keep0 {P : Program} {C : Ctx} {S : Nat → Prop} {B : Loc → Option Nat} {E : Env} {a : Act} {w : World} (h : Sim P C S B E a w) (hd : ∀ b, C.S0 b → ¬ C.O b) : Keep C.S0 C.w0 w :=
 ⟨h.kept.size, fun b hb hl => h.kept.block b hl (hd b hb)⟩

section
universe u
variable {R : Type u} {P : Program} {T : Tys} {C : Ctx} {S : Nat → Prop} {B : Loc → Option Nat} {E : Env} {a : Act} {w : World} {o : Oper} {r : R} {K : List Cmd → Option R}

/-! ### what is flat leans on nothing -/
theorem Cells.flat {S2 : Nat → Prop} {w2 : World} : ∀ {t : Ty} {x : t.den} {cs : List Value}, t.flat = true → Cells S w t x cs → Cells S2 w2 t x cs
 | .int _, _, _, _, h => h
 | .bool, _, _, _, h => h
 | .str, _, _, _, h => h
 | .unit, _, _, _, h => h
 | .pair p q, _, _, hf, ⟨c1, c2, e, h1, h2⟩ => by
  simp only [Ty.flat, Bool.and_eq_true] at hf
  exact ⟨c1, c2, e, Cells.flat hf.1 h1, Cells.flat hf.2 h2⟩
 | .slice _, _, _, hf, _ => by cases hf
theorem RowCells.flat {S2 : Nat → Prop} {w2 : World} {e : Ty} (hf : e.flat = true) : ∀ {xs : List e.den} {cs : List Value}, RowCells S w e xs cs → RowCells S2 w2 e xs cs
 | [], _, h => h
 | _ :: _, _, ⟨c1, c2, h0, h1, h2⟩ => ⟨c1, c2, h0, h1.flat hf, RowCells.flat hf h2⟩
theorem allFlat_at : ∀ {l : List SV} {i : Nat} {sv : SV}, allFlat l = true → l[i]? = some sv → sv.flat = true
 | [], i, sv, _, h => by simp at h
 | x :: l, 0, sv, hf, h => by simp only [List.getElem?_cons_zero, Option.some.injEq] at h; subst h; simp only [allFlat, Bool.and_eq_true] at hf; exact hf.1
 | x :: l, i + 1, sv, hf, h => by simp only [allFlat, Bool.and_eq_true] at hf; exact allFlat_at hf.2 (by simpa using h)
theorem LeafR.flat {S2 : Nat → Prop} {w2 : World} {o : Option Nat} {v : V} {u : Value} (hf : leafFlat v = true) (hw : w2 = w) (h : LeafR S w o v u) : LeafR S2 w2 o v u := by
 subst hw
 unfold LeafR at h ⊢
 split at h
 ·obtain ⟨cs, h1, h2, h3⟩ := h
  exact ⟨cs, h1, h2.flat hf, h3⟩
 ·exact h
 ·rename_i t x h1 h2
  have hf' : t.flat = true := by
   unfold leafFlat at hf
   split at hf
   ·rename_i k e p hh
    injection hh with hh _
    subst hh
    exact (h1 k e x rfl HEq.rfl).elim
   ·exact hf
  exact h.flat hf'
theorem LeavesR.flat {S2 : Nat → Prop} {ob : Nat → Option Nat} : ∀ {l : List V} {cs : List Value} {i : Nat}, leavesFlat l = true → LeavesR S w ob i l cs → LeavesR S2 w ob i l cs
 | [], _, _, _, h => h
 | v :: l, _, _, hf, ⟨u, rr, e, h1, h2⟩ => by
  simp only [leavesFlat, Bool.and_eq_true] at hf
  exact ⟨u, rr, e, h1.flat hf.1 rfl, LeavesR.flat hf.2 h2⟩
theorem CompR.flat {S2 : Nat → Prop} {sv : SV} {v : Value} {ob : Option Nat} (hf : sv.flat = true) (h : CompR S w sv v ob) : CompR S2 w sv v ob := by
 cases sv <;> simp only [CompR] at h ⊢
 ·obtain ⟨cs, h1, h2⟩ := h
  exact ⟨cs, h1.flat hf, h2⟩
 ·obtain ⟨cs, h1, h2, h3⟩ := h
  exact ⟨cs, h1, h2.flat hf, h3⟩
 ·obtain ⟨h0, vs, h1, h2⟩ := h
  exact ⟨h0, vs, h1, h2.flat hf⟩
theorem ContR.flat {S2 : Nat → Prop} {ob : Nat → Option Nat} {l : List V} {cs : List Value} (hf : leavesFlat l = true) (h : ContR S w ob l cs) : ContR S2 w ob l cs := by
 rcases h with ⟨h1, h2⟩ | ⟨e, xs, h1, h2⟩
 ·exact .inl ⟨h1, h2.flat hf⟩
 ·subst h1
  simp [leavesFlat, leafFlat, rowV, Ty.flat] at hf
theorem OutsR.flat {S2 : Nat → Prop} {Bo : Nat → Nat → Option Nat} : ∀ {ls : List (List V)} {X : List Nat} {k : Nat}, outsFlat ls = true → OutsR S w Bo k ls X → OutsR S2 w Bo k ls X
 | [], _, _, _, h => h
 | l :: ls, _, _, hf, ⟨g, X', e, h1, h2⟩ => by
  simp only [outsFlat, Bool.and_eq_true] at hf
  obtain ⟨cells, id, k1, k2⟩ := h1
  exact ⟨g, X', e, ⟨cells, id, k1, k2.flat hf.1⟩, OutsR.flat hf.2 h2⟩
theorem OutsR.mono {S2 : Nat → Prop} {Bo : Nat → Nat → Option Nat} (hs : ∀ b, S b → S2 b) : ∀ {ls : List (List V)} {X : List Nat} {k : Nat}, OutsR S w Bo k ls X → OutsR S2 w Bo k ls X
 | [], _, _, h => h
 | l :: ls, _, _, ⟨g, X', e, h1, h2⟩ => ⟨g, X', e, h1.move (Keep.refl _ _) hs rfl (fun _ => ⟨rfl, fun _ _ => rfl⟩), OutsR.mono hs h2⟩

/-- The boxes' blocks, and those of the rows in them. -/
def BlocksOf (B : Loc → Option Nat) (E : Env) : List Nat → List Nat → List Nat → Prop
 | [], X, Y => X = [] ∧ Y = []
 | b :: bs, X, Y => ∃ g X' Y', X = g :: X' ∧ B (.b b) = some g ∧ Y = blks (fun i => B (.l b i)) 0 ((alook E.bx b).getD []) ++ Y' ∧ BlocksOf B E bs X' Y'

theorem blks_mem {ob : Nat → Option Nat} : ∀ {l : List V} {i g : Nat}, g ∈ blks ob i l → ∃ j, ob j = some g ∧ i ≤ j
 | [], _, _, h => by simp [blks] at h
 | v :: l, i, g, h => by
  simp only [blks, List.mem_append] at h
  rcases h with h | h
  ·cases hv : v.isOwn
   ·rw [hv] at h; cases h
   ·rw [hv, cond_true] at h
    cases ho : ob i with
    | none => rw [ho] at h; cases h
    | some g' => rw [ho] at h; simp only [List.mem_singleton] at h; subst h; exact ⟨i, ho, Nat.le_refl _⟩
  ·obtain ⟨j, h1, h2⟩ := blks_mem h
   exact ⟨j, h1, by omega⟩
theorem blks_of {ob : Nat → Option Nat} : ∀ {l : List V} {i j g : Nat} {v : V}, l[j]? = some v → v.isOwn = true → ob (i + j) = some g → g ∈ blks ob i l
 | [], _, _, _, _, h, _, _ => by simp at h
 | v :: l, i, 0, g, x, h, h1, h2 => by
  simp only [List.getElem?_cons_zero, Option.some.injEq] at h
  subst h
  rw [Nat.add_zero] at h2
  simp [blks, h1, h2]
 | v :: l, i, j + 1, g, x, h, h1, h2 => by
  simp only [blks, List.mem_append]
  exact .inr (blks_of (i := i + 1) (by simpa using h) h1 (by rw [← h2]; congr 1; omega))
theorem blks_nodup {ob : Nat → Option Nat} (hi : ∀ i j g, ob i = some g → ob j = some g → i = j) : ∀ {l : List V} {i : Nat}, (blks ob i l).Nodup
 | [], _ => List.nodup_nil
 | v :: l, i => by
  simp only [blks]
  refine List.nodup_append.2 ⟨?_, blks_nodup hi, ?_⟩
  ·cases v.isOwn
   ·exact List.nodup_nil
   ·simp only [cond_true]
    split <;> simp
  ·intro g h1 g' h2 he
   subst he
   obtain ⟨j, k1, k2⟩ := blks_mem h2
   cases hv : v.isOwn
   ·rw [hv] at h1; cases h1
   ·rw [hv, cond_true] at h1
    cases ho : ob i with
    | none => rw [ho] at h1; cases h1
    | some g2 =>
     rw [ho] at h1
     simp only [List.mem_singleton] at h1
     subst h1
     have := hi _ _ _ ho k1
     omega
theorem BlocksOf.mem {bs : List Nat} : ∀ {X Y : List Nat}, BlocksOf B E bs X Y → (∀ g ∈ X, ∃ b ∈ bs, B (.b b) = some g) ∧ ∀ g ∈ Y, ∃ b ∈ bs, ∃ i, B (.l b i) = some g := by
 induction bs with
 | nil => intro X Y h; simp only [BlocksOf] at h; obtain ⟨rfl, rfl⟩ := h; simp
 | cons b bs ih =>
  rintro X Y ⟨g0, X', Y', rfl, h1, rfl, h2⟩
  obtain ⟨i1, i2⟩ := ih h2
  refine ⟨fun g hg => ?_, fun g hg => ?_⟩
  ·rcases List.mem_cons.1 hg with rfl | hg
   ·exact ⟨b, by simp, h1⟩
   ·obtain ⟨b', hb', h3⟩ := i1 g hg
    exact ⟨b', by simp [hb'], h3⟩
  ·rcases List.mem_append.1 hg with hg | hg
   ·obtain ⟨j, hj, _⟩ := blks_mem hg
    exact ⟨b, by simp, j, hj⟩
   ·obtain ⟨b', hb', h3⟩ := i2 g hg
    exact ⟨b', by simp [hb'], h3⟩

end
end Go.Proofs.YtecdijlfnnminaaGreatDoor.Eng
namespace Go.Proofs.YtecdijlfnnminaaGreatDoor.Eng
open Go Go.RowKit
set_option linter.unusedVariables false
set_option linter.unusedSimpArgs false

section
universe u
variable {R : Type u} {P : Program} {T : Tys} {C : Ctx} {S : Nat → Prop} {B : Loc → Option Nat} {E : Env} {a : Act} {w : World} {o : Oper} {r : R} {K : List Cmd → Option R}

theorem distinct_cons {b : Nat} {bs : List Nat} (h : distinct (b :: bs) = true) : b ∉ bs ∧ distinct bs = true := by
 simp only [distinct, Bool.and_eq_true, Bool.not_eq_true'] at h
 exact ⟨by simpa using h.1, h.2⟩

theorem boxCmds_run : ∀ (bs : List Nat) (ls : List (List V)) (E : Env), (E.run (boxCmds bs ls)).sl = E.sl ∧ (E.run (boxCmds bs ls)).nt = E.nt
 | [], ls, E => by cases ls <;> exact ⟨rfl, rfl⟩
 | b :: bs, [], E => ⟨rfl, rfl⟩
 | b :: bs, l :: ls, E => boxCmds_run bs ls (E.do1 (.box b l))

def posOf : List Nat → Nat → Option Nat
 | [], _ => none
 | b :: r, c => if b = c then some 0 else (posOf r c).map (· + 1)
theorem posOf_none : ∀ {bs : List Nat} {c : Nat}, c ∉ bs → posOf bs c = none
 | [], _, _ => rfl
 | b :: r, c, h => by
  simp only [posOf]
  rw [if_neg (fun e => h (by simp [e])), posOf_none (fun e => h (by simp [e]))]
  rfl
theorem posOf_at : ∀ {bs : List Nat} {p c : Nat}, distinct bs = true → bs[p]? = some c → posOf bs c = some p
 | [], _, _, _, h => by simp at h
 | b :: r, 0, c, _, h => by simp only [List.getElem?_cons_zero, Option.some.injEq] at h; simp [posOf, h]
 | b :: r, p + 1, c, hd, h => by
  obtain ⟨h1, h2⟩ := distinct_cons hd
  have h' : r[p]? = some c := by simpa using h
  have hne : b ≠ c := by rintro rfl; exact h1 (List.mem_of_getElem? h')
  simp only [posOf]
  rw [if_neg hne, posOf_at h2 h']
  rfl
theorem posOf_mem : ∀ {bs : List Nat} {p c : Nat}, posOf bs c = some p → bs[p]? = some c
 | [], _, _, h => by cases h
 | b :: r, p, c, h => by
  simp only [posOf] at h
  split at h
  ·rename_i e; cases h; simp [e]
  ·cases hp : posOf r c with
   | none => rw [hp] at h; cases h
   | some q =>
    rw [hp] at h
    simp only [Option.map_some, Option.some.injEq] at h
    subst h
    simpa using posOf_mem hp
/-- Whose the blocks are behind a call. -/
def afterB (B : Loc → Option Nat) (bs : List Nat) (Bo : Nat → Nat → Option Nat) : Loc → Option Nat
 | .l c i => match posOf bs c with | some p => Bo p i | none => B (.l c i)
 | l => B l

/-- The boxes behind a call. -/
theorem boxCmds_look {S2 : Nat → Prop} {w' : World} {E0 : Env} {Bo : Nat → Nat → Option Nat} : ∀ {bs : List Nat} {ls : List (List V)} {X Y : List Nat} {E : Env} {k : Nat}, distinct bs = true → BlocksOf B E0 bs X Y → OutsR S2 w' Bo k ls X → ∀ c l, alook (E.run (boxCmds bs ls)).bx c = some l →
  (c ∉ bs ∧ alook E.bx c = some l) ∨ ∃ p g, bs[p]? = some c ∧ B (.b c) = some g ∧ BoxR S2 w' (Bo (k + p)) l g
 | [], ls, X, Y, E, k, _, hb, ho, c, l, hc => by cases ls <;> exact .inl ⟨by simp, hc⟩
 | b :: bs, [], X, Y, E, k, _, ⟨g, X', Y', e, _⟩, ho, c, l, hc => by simp only [OutsR] at ho; rw [ho] at e; cases e
 | b :: bs, l0 :: ls, X, Y, E, k, hd, ⟨g, X', Y', e, h1, _, h2⟩, ⟨g', X2, e', h3, h4⟩, c, l, hc => by
  subst e
  injection e' with e1 e2
  subst e1 e2
  obtain ⟨hnb, hd'⟩ := distinct_cons hd
  rcases boxCmds_look (E := E.do1 (.box b l0)) hd' h2 h4 c l hc with ⟨k1, k2⟩ | ⟨p, g2, q1, q2, q3⟩
  ·have k2' : alook (aset E.bx b l0) c = some l := k2
   rw [alook_aset] at k2'
   by_cases hbc : b = c
   ·subst hbc
    simp only [if_true, Option.some.injEq] at k2'
    subst k2'
    exact .inr ⟨0, g, rfl, h1, h3⟩
   ·rw [if_neg hbc] at k2'
    exact .inl ⟨by simp [k1, Ne.symm hbc], k2'⟩
  ·exact .inr ⟨p + 1, g2, by simpa using q1, q2, by rw [show k + (p + 1) = k + 1 + p by omega]; exact q3⟩

/-- The state behind a call, its result not yet put anywhere. -/
theorem Sim.callW (h : Sim P C S B E a w) {bs X Y : List Nat} {ls : List (List V)} {w' : World} {S2 : Nat → Prop} {Br : Nat → Option Nat} {Bo : Nat → Nat → Option Nat} (hd : distinct bs = true) (hX : BlocksOf B E bs X Y) (hw : KeptBut (fun g => g ∈ X ∨ g ∈ Y) w w')
  (hs : ∀ b, S b → S2 b) (hn : ∀ b, S2 b → S b ∨ w.heap.size ≤ b ∨ b ∈ Y) (hl : ∀ b, S2 b → b < w'.heap.size) (ho : OutsR S2 w' Bo 0 ls X) (hXS : ∀ g ∈ X, ¬ S2 g) (hR : RowsAt w.heap.size Y w' S2 Br Bo) : Sim P C S2 (afterB B bs Bo) (E.run (boxCmds bs ls)) a w' := by
 obtain ⟨mX, mY⟩ := hX.mem
 have own : ∀ g, (g ∈ X ∨ g ∈ Y) → ∃ b ∈ bs, ∃ l, B l = some g ∧ (l = .b b ∨ ∃ i, l = .l b i) := by
  rintro g (hg | hg)
  ·obtain ⟨b, hb, hB⟩ := mX g hg
   exact ⟨b, hb, _, hB, .inl rfl⟩
  ·obtain ⟨b, hb, i, hB⟩ := mY g hg
   exact ⟨b, hb, _, hB, .inr ⟨i, rfl⟩⟩
 have notXY : ∀ k g, (∀ b ∈ bs, k ≠ .b b ∧ ∀ i, k ≠ .l b i) → B k = some g → ¬ (g ∈ X ∨ g ∈ Y) := fun k g hk hg hx => by
  obtain ⟨b, hb, l, hB, hl⟩ := own g hx
  have := h.inj _ _ g hg hB
  subst this
  rcases hl with rfl | ⟨i, rfl⟩
  ·exact (hk b hb).1 rfl
  ·exact (hk b hb).2 i rfl
 have keepS : Keep S w w' := ⟨hw.size, fun b hb hlt => hw.block b hlt (fun hx => by obtain ⟨_, _, l, hB, _⟩ := own b hx; exact (h.free _ _ hB).1 hb)⟩
 obtain ⟨hsl, hnt⟩ := boxCmds_run bs ls E
 have hg : ∀ n, (E.run (boxCmds bs ls)).g n = E.g n := fun n => by unfold Env.g; rw [hsl]
 -- what a location behind the call is
 have back : ∀ k g, afterB B bs Bo k = some g → (B k = some g ∧ (∀ b ∈ bs, ∀ i, k ≠ .l b i)) ∨ ∃ c i p, k = .l c i ∧ posOf bs c = some p ∧ Bo p i = some g := by
  intro k g hk
  cases k with
  | l c i =>
   simp only [afterB] at hk
   cases hp : posOf bs c with
   | none =>
    rw [hp] at hk
    exact .inl ⟨hk, fun b hb i' he => by injection he with he _; subst he; obtain ⟨p, hp'⟩ := List.getElem?_of_mem hb; rw [posOf_at hd hp'] at hp; cases hp⟩
   | some p => rw [hp] at hk; exact .inr ⟨c, i, p, rfl, hp, hk⟩
  | s _ => exact .inl ⟨hk, fun _ _ _ he => by cases he⟩
  | t _ _ => exact .inl ⟨hk, fun _ _ _ he => by cases he⟩
  | b _ => exact .inl ⟨hk, fun _ _ _ he => by cases he⟩
 have cross : ∀ k g c i p, B k = some g → (∀ b ∈ bs, ∀ i, k ≠ .l b i) → posOf bs c = some p → Bo p i = some g → False := by
  intro k g c i p h1 h2 h3 h4
  obtain ⟨f1, f2, f3⟩ := hR.free p i g h4
  rcases f1 with f1 | f1
  ·exact absurd (h.free k g h1).2.1 (Nat.not_lt_of_le f1)
  ·obtain ⟨b, hb, i', hB⟩ := mY g f1
   exact h2 b hb i' (h.inj _ _ g h1 hB)
 refine ⟨by rw [hnt]; exact h.size, h.defers, ?_, hl, ?_, fun b hb => hs b (h.sup b hb), ?_, ?_, ?_, ?_, h.inb⟩
 ·refine ⟨hw.os.trans h.kept.os, hw.tape.trans h.kept.tape, hw.output.trans h.kept.output, Nat.le_trans h.kept.size hw.size, fun k hk hno => ?_⟩
  refine (hw.block k (Nat.lt_of_lt_of_le hk h.kept.size) (fun hx => ?_)).trans (h.kept.block k hk hno)
  obtain ⟨_, _, l, hB, _⟩ := own k hx
  rcases (h.free _ _ hB).2.2 with h3 | h3
  ·omega
  ·exact hno h3
 ·intro b hb
  rcases hn b hb with hb | hb | hb
  ·exact h.frm b hb
  ·exact .inr (.inl (Nat.le_trans h.kept.size hb))
  ·obtain ⟨_, _, i, hB⟩ := mY b hb
   exact .inr (h.free _ _ hB).2.2
 ·intro k k' g h1 h2
  rcases back k g h1 with ⟨a1, a2⟩ | ⟨c, i, p, rfl, a2, a3⟩
  ·rcases back k' g h2 with ⟨b1, b2⟩ | ⟨c', i', p', rfl, b2, b3⟩
   ·exact h.inj k k' g a1 b1
   ·exact (cross k g c' i' p' a1 a2 b2 b3).elim
  ·rcases back k' g h2 with ⟨b1, b2⟩ | ⟨c', i', p', rfl, b2, b3⟩
   ·exact (cross k' g c i p b1 b2 a2 a3).elim
   ·obtain ⟨e1, e2⟩ := hR.inj p i p' i' g a3 b3
    subst e1 e2
    have q1 := posOf_mem a2
    have q2 := posOf_mem b2
    rw [q1] at q2
    rw [Option.some.inj q2]
 ·intro k g hk
  rcases back k g hk with ⟨a1, a2⟩ | ⟨c, i, p, rfl, a2, a3⟩
  ·obtain ⟨f1, f2, f3⟩ := h.free k g a1
   refine ⟨fun hx => ?_, Nat.lt_of_lt_of_le f2 hw.size, f3⟩
   rcases hn g hx with hx' | hx' | hx'
   ·exact f1 hx'
   ·omega
   ·obtain ⟨b, hb, i, hB⟩ := mY g hx'
    exact a2 b hb i (h.inj _ _ g a1 hB)
  ·obtain ⟨f1, f2, f3⟩ := hR.free p i g a3
   refine ⟨f3, f2, ?_⟩
   rcases f1 with f1 | f1
   ·exact .inl (Nat.le_trans h.kept.size f1)
   ·obtain ⟨_, _, i, hB⟩ := mY g f1
    exact (h.free _ _ hB).2.2
 ·intro n
  rw [hg]
  have plain : ∀ k : Loc, (E.g n).needs n k = true → afterB B bs Bo k = B k ∧ ∀ b ∈ bs, k ≠ .b b ∧ ∀ i, k ≠ .l b i := fun k hk => by
   have := SV.needs_at hk
   cases k with
   | s m => exact ⟨rfl, fun _ _ => ⟨by simp, by simp⟩⟩
   | t m i => exact ⟨rfl, fun _ _ => ⟨by simp, by simp⟩⟩
   | b m => cases this
   | l m i => cases this
  exact (h.slots n).move keepS hs rfl (fun k hk => (plain k hk).1) (fun k g hn' hk => hw.block g (h.free k g hk).2.1 (notXY k g (plain k hn').2 hk)) (fun _ _ => rfl) (fun s _ => ⟨rfl, hg s, rfl⟩)
 ·intro c l hc
  rcases boxCmds_look (B := B) hd hX ho c l hc with ⟨k1, k2⟩ | ⟨p, g, q1, q2, q3⟩
  ·obtain ⟨g, h1, h2⟩ := h.boxes c l k2
   have hp := posOf_none k1
   refine ⟨g, h1, h2.move keepS hs (hw.block g (h.free _ g h1).2.1 (notXY _ g (fun b hb => ⟨by rintro he; injection he with he; subst he; exact k1 hb, by simp⟩) h1)) (fun j => ⟨by simp [afterB, hp], fun g' hg' => hw.block g' (h.free _ g' hg').2.1 (notXY _ g' (fun b hb => ⟨by simp, fun i he => by injection he with he _; subst he; exact k1 hb⟩) hg')⟩)⟩
  ·refine ⟨g, q2, ?_⟩
   rw [Nat.zero_add] at q3
   have hp := posOf_at hd q1
   have : (fun i => afterB B bs Bo (.l c i)) = Bo p := by funext i; simp [afterB, hp]
   rw [this]
   exact q3

/-- What kind of result. -/
inductive RK where
 | one | ag (l : List V) | many
def rk : List SV → RK
 | [.agg l] => .ag l
 | [_] => .one
 | _ => .many
/-- Where the blocks of a result are owned. -/
def resB (q : RK) (Br : Nat → Option Nat) : Loc → Option Nat
 | .s _ => match q with | .one => Br 0 | _ => none
 | .t _ i => match q with
  | .ag l => (match l[i]? with | some v => bif v.isOwn then Br 0 else none | none => none)
  | .one => none
  | .many => Br i
 | _ => none
theorem resB_some {q : RK} {Br : Nat → Option Nat} {k : Loc} {g : Nat} (h : resB q Br k = some g) : ∃ i, Br i = some g := by
 cases k with
 | s m => cases q <;> simp only [resB] at h <;> first | exact ⟨0, h⟩ | cases h
 | t m i =>
  cases q with
  | one => cases h
  | many => exact ⟨i, h⟩
  | ag l =>
   simp only [resB] at h
   cases hl : l[i]? with
   | none => rw [hl] at h; cases h
   | some v =>
    rw [hl] at h
    cases hv : v.isOwn
    ·simp only [hv, cond_false] at h; cases h
    ·simp only [hv, cond_true] at h; exact ⟨0, h⟩
 | b m => cases h
 | l m i => cases h
theorem resB_inj {q : RK} {Br : Nat → Option Nat} (hinj : ∀ i j g, Br i = some g → Br j = some g → i = j) (hag : ∀ l, q = .ag l → owns l ≤ 1) {d : Nat} : ∀ {k k' : Loc} {g : Nat}, k.at d = true → k'.at d = true → resB q Br k = some g → resB q Br k' = some g → k = k'
 | .b _, _, _, h, _, _, _ => by cases h
 | .l _ _, _, _, h, _, _, _ => by cases h
 | .s _, .b _, _, _, h, _, _ => by cases h
 | .s _, .l _ _, _, _, h, _, _ => by cases h
 | .t _ _, .b _, _, _, h, _, _ => by cases h
 | .t _ _, .l _ _, _, _, h, _, _ => by cases h
 | .s m, .s m', _, h1, h2, _, _ => by
  have := Nat.eq_of_beq_eq_true h1; subst this
  have := Nat.eq_of_beq_eq_true h2; subst this
  rfl
 | .s m, .t m' i, g, h1, h2, h3, h4 => by cases q <;> first | cases h3 | cases h4
 | .t m i, .s m', g, h1, h2, h3, h4 => by cases q <;> first | cases h4 | cases h3
 | .t m i, .t m' i', g, h1, h2, h3, h4 => by
  have := Nat.eq_of_beq_eq_true h1; subst this
  have := Nat.eq_of_beq_eq_true h2; subst this
  cases q with
  | one => cases h3
  | many => rw [hinj i i' g h3 h4]
  | ag l =>
   simp only [resB] at h3 h4
   cases hl : l[i]? with
   | none => rw [hl] at h3; cases h3
   | some v =>
    cases hl' : l[i']? with
    | none => rw [hl'] at h4; cases h4
    | some v' =>
     rw [hl] at h3
     rw [hl'] at h4
     cases e1 : v.isOwn
     ·simp only [e1, cond_false] at h3; cases h3
     ·cases e2 : v'.isOwn
      ·simp only [e2, cond_false] at h4; cases h4
      ·rw [owns_one (hag l rfl) hl e1 hl' e2]

/-- The result of a call put into a slot. -/
theorem Sim.putRes (h : Sim P C S B E a w) {d : Nat} (hd : d < E.nt) {res : List SV} {rv : Value} {Br : Nat → Option Nat} (hform : isRes res.length rv)
  (hinj : ∀ i j g, Br i = some g → Br j = some g → i = j) (hfree : ∀ i g, Br i = some g → (C.w0.heap.size ≤ g ∨ C.O g) ∧ g < w.heap.size ∧ ¬ S g) (hdis : ∀ i g, Br i = some g → ∀ k, B k ≠ some g)
  (hc : ∀ i sv, res[i]? = some sv → CompR S w sv (compVal res.length rv i) (Br i)) : ∃ B', Sim P C S B' (E.set d (resSV res)) (a.put (some d) rv) w := by
 have hdt : d < a.tmps.size := by rw [h.size]; exact hd
 have hag : ∀ l, rk res = .ag l → owns l ≤ 1 := by
  intro l hl
  rcases res with _ | ⟨x, _ | ⟨y, r⟩⟩
  ·cases hl
  ·cases x <;> cases hl
   have := (hc 0 _ rfl).1
   exact Nat.le_of_ble_eq_true this
  ·simp [rk] at hl
 let B' : Loc → Option Nat := fun k => if k.at d = true then resB (rk res) Br k else B k
 have hsv : SlotR P S B' (E.set d (resSV res)) (a.put (some d) rv) w d (resSV res) := by
  have htv : tv (a.put (some d) rv) d = rv := by rw [tv_put hdt, if_pos rfl]
  rcases res with _ | ⟨x, _ | ⟨y, l⟩⟩
  ·obtain h1 | ⟨vs, h1, h2⟩ := hform
   ·cases h1
   ·refine ⟨vs, by rw [htv]; exact h1, h2, fun i sv hi => by simp at hi⟩
  ·have := hc 0 x rfl
   simp only [List.length_singleton, compVal, if_true] at this
   show SlotR P S B' _ _ w d x
   cases x <;> simp only [CompR, SlotR] at this ⊢
   ·rw [htv]; exact this
   ·rename_i id e xs
    have hb0 : B' (.s d) = Br 0 := by simp [B', Loc.at, beq_self, resB, rk]
    rw [htv, hb0]; exact this
   ·rename_i l
    obtain ⟨_, vs, h1, h2⟩ := this
    refine ⟨vs, by rw [htv]; exact h1, h2.move (Keep.refl _ _) (fun _ hx => hx) (fun j v hj hv => ⟨?_, fun _ _ => rfl⟩)⟩
    simp [B', Loc.at, beq_self, resB, rk, hj, hv]
  ·obtain h1 | ⟨vs, h1, h2⟩ := hform
   ·simp at h1
   ·refine ⟨vs, by rw [htv]; exact h1, h2, fun i sv hi => ?_⟩
    have := hc i sv hi
    have hne : ¬ (x :: y :: l).length = 1 := by simp
    simp only [compVal, hne, if_false, h1] at this
    have hbi : B' (.t d i) = Br i := by simp [B', Loc.at, beq_self, resB, rk]
    rw [hbi]
    exact this
 refine ⟨B', ?_⟩
 have old : ∀ k g, k.at d = false → B' k = some g → B k = some g := fun k g hk hg => by simpa [B', hk] using hg
 have new : ∀ k g, k.at d = true → B' k = some g → ∃ i, Br i = some g := fun k g hk hg => by
  simp only [B', hk, if_true] at hg
  exact resB_some hg
 refine ⟨by rw [size_put]; exact h.size, h.defers, h.kept, h.sub, h.frm, h.sup, ?_, ?_, ?_, ?_, fun b hb => (show B' (.b b) = B (.b b) by simp [B', Loc.at]).trans (h.inb b hb)⟩
 ·intro k k' g h1 h2
  cases e1 : k.at d <;> cases e2 : k'.at d
  ·exact h.inj k k' g (old k g e1 h1) (old k' g e2 h2)
  ·obtain ⟨i, hi⟩ := new k' g e2 h2
   exact absurd (old k g e1 h1) (hdis i g hi k)
  ·obtain ⟨i, hi⟩ := new k g e1 h1
   exact absurd (old k' g e2 h2) (hdis i g hi k')
  ·simp only [B', e1, e2, if_true] at h1 h2
   exact resB_inj hinj hag e1 e2 h1 h2
 ·intro k g h1
  cases e1 : k.at d
  ·exact h.free k g (old k g e1 h1)
  ·obtain ⟨i, hi⟩ := new k g e1 h1
   obtain ⟨f1, f2, f3⟩ := hfree i g hi
   exact ⟨f3, f2, f1⟩
 ·intro n
  rw [Env.g_set]
  by_cases hdn : d = n
  ·subst hdn; rw [if_pos rfl]; exact hsv
  ·rw [if_neg hdn]
   split
   ·trivial
   ·rename_i hno
    have hat : ∀ (m : Nat) (k : Loc), m ≠ d → k.at m = true → k.at d = false := by
     intro m k hm hk
     cases k with
     | b _ => rfl
     | l _ _ => rfl
     | s j => have := Nat.eq_of_beq_eq_true hk; subst this; exact beq_false hm
     | t j i => have := Nat.eq_of_beq_eq_true hk; subst this; exact beq_false hm
    have hdn' : n ≠ d := Ne.symm hdn
    refine (h.slots n).move (Keep.refl _ _) (fun _ hx => hx) ?_ (fun k hk => by simp [B', hat n k hdn' (SV.needs_at hk)]) (fun _ _ _ _ => rfl) (fun b _ => by simp [B', Loc.at]) ?_
    ·rw [tv_put hdt, if_neg hdn']
    ·intro s hr
     have hso := (h.slots n).leans hr
     have hds : s ≠ d := by rintro rfl; exact hno ⟨hso, hr⟩
     refine ⟨by rw [tv_put hdt, if_neg hds], ?_, by simp [B', Loc.at, beq_false hds]⟩
     rw [Env.g_set, if_neg (Ne.symm hds)]
     split
     ·rename_i hh; rw [isOwn_refs hso] at hh; cases hh.2
     ·rfl
 ·intro b l hb
  have hb' : alook E.bx b = some l := hb
  obtain ⟨g, h1, h2⟩ := h.boxes b l hb'
  exact ⟨g, by simp [B', Loc.at, h1], h2.move (Keep.refl _ _) (fun _ hx => hx) rfl (fun j => ⟨by simp [B', Loc.at], fun _ _ => rfl⟩)⟩

theorem callPut_some {v : Vw} {dst : Option Nat} {pre : List Cmd} {sv : SV} (h : callPut v dst pre sv K = some r) :
  (∃ d, dst = some d ∧ d < v.nt ∧ K (pre ++ [.set d sv]) = some r) ∨ (dst = none ∧ K pre = some r) := by
 cases dst with
 | none => exact .inr ⟨rfl, h⟩
 | some d =>
  simp only [callPut] at h
  cases hb : Nat.blt d v.nt
  ·rw [hb] at h; cases h
  ·rw [hb] at h; exact .inl ⟨d, rfl, by simpa [Nat.blt_eq] using hb, h⟩

theorem fzs_nt : ∀ (ss : List Nat) (E : Env), (E.run (ss.map .fz)).nt = E.nt := by
 intro ss
 induction ss with
 | nil => intro E; rfl
 | cons s ss ih =>
  intro E
  show ((E.fz s).run (ss.map .fz)).nt = E.nt
  rw [ih]
  unfold Env.fz
  split <;> rfl

theorem fzs_bx : ∀ (ss : List Nat) (E : Env), (E.run (ss.map .fz)).bx = E.bx := by
 intro ss
 induction ss with
 | nil => intro E; rfl
 | cons s ss ih =>
  intro E
  show ((E.fz s).run (ss.map .fz)).bx = E.bx
  rw [ih]
  unfold Env.fz
  split <;> rfl

/-- A call, whatever is called. -/
theorem call_ok (h : Sim P C S B E a w) {f : FuncId} {args : Array Value} {lent bs X Y : List Nat} {res : List SV} {outs : List (List V)} {fl : Bool}
  (hrun : (execOp a.eval o).run P w = .ok (.enter f args) w) (hlent : ∀ s ∈ lent, (E.g s).isOwn = true) (hd : distinct bs = true) (hX : BlocksOf B E bs X Y) (hfl : fl = true → allFlat res = true ∧ outsFlat outs = true)
  (hC : Calls P f args w (After (fun b => S b ∨ ∃ s ∈ lent, B (.s s) = some b) w X Y res outs))
  (hk : callPut E.vw o.dst ((bif fl then [] else lent.map .fz) ++ boxCmds bs outs) (resSV res) K = some r) : Ok P C E a w o K r := by
 have main : ∃ S1 B1, Sim P C S1 B1 (E.run (bif fl then [] else lent.map .fz)) a w ∧ (∀ b, S b → S1 b) ∧ (fl = false → ∀ s ∈ lent, ∀ g, B (.s s) = some g → S1 g) ∧ (∀ l : Loc, l.isB = true → B1 l = B l) ∧ (E.run (bif fl then [] else lent.map .fz)).nt = E.nt ∧ (E.run (bif fl then [] else lent.map .fz)).bx = E.bx := by
  cases fl
  ·simp only [cond_false]
   obtain ⟨S1, B1, h1, h2, h3, h4, h5, h6⟩ := h.fzs lent
   exact ⟨S1, B1, h1, h2, fun _ s hs g hg => h4 s hs g (hlent s hs) hg, h6, fzs_nt _ _, fzs_bx _ _⟩
  ·exact ⟨S, B, h, fun _ hx => hx, (fun hx => by cases hx), (fun _ _ => rfl), rfl, rfl⟩
 obtain ⟨S1, B1, h1, hS1, hl1, hB1, hnt1, hbx1⟩ := main
 have hX1 : BlocksOf B1 (E.run (bif fl then [] else lent.map .fz)) bs X Y := by
  have : ∀ {bs X Y : List Nat}, BlocksOf B E bs X Y → BlocksOf B1 (E.run (bif fl then [] else lent.map .fz)) bs X Y := by
   intro bs
   induction bs with
   | nil => intro X Y h; exact h
   | cons b bs ih =>
    rintro X Y ⟨g, X', Y', e, k1, k2, k3⟩
    have e2 : (fun i => B1 (.l b i)) = fun i => B (.l b i) := by funext i; exact hB1 _ rfl
    exact ⟨g, X', Y', e, by rw [hB1 _ rfl]; exact k1, by rw [hbx1, e2]; exact k2, ih k3⟩
  exact this hX
 obtain ⟨mX, mY⟩ := hX1.mem
 -- the state behind the call
 have post : ∀ {rv : Value} {w' : World} {S' : Nat → Prop} {B' : Nat → Option Nat} {Bo : Nat → Nat → Option Nat}, KeptBut (fun g => g ∈ X ∨ g ∈ Y) w w' → ResAt (fun b => S b ∨ ∃ s ∈ lent, B (.s s) = some b) w.heap.size Y w' res rv S' B' → OutsR S' w' Bo 0 outs X → (∀ g ∈ X, ¬ S' g) → RowsAt w.heap.size Y w' S' B' Bo →
   ∃ S2, Sim P C S2 (afterB B1 bs Bo) ((E.run (bif fl then [] else lent.map .fz)).run (boxCmds bs outs)) a w' ∧ (∀ i sv, res[i]? = some sv → CompR S2 w' sv (compVal res.length rv i) (B' i)) ∧ (∀ i g, B' i = some g → (C.w0.heap.size ≤ g ∨ C.O g) ∧ g < w'.heap.size ∧ ¬ S2 g) ∧ ∀ i g, B' i = some g → ∀ k, afterB B1 bs Bo k ≠ some g := by
  intro rv w' S' B' Bo hkept hres houts hXS hR
  let S2 : Nat → Prop := fun b => S1 b ∨ (S' b ∧ (w.heap.size ≤ b ∨ b ∈ Y))
  have hup : fl = false → ∀ b, S' b → S2 b := fun hf b hb => by
   rcases hres.frm b hb with (hx | ⟨s, hs, hx⟩) | hx
   ·exact .inl (hS1 b hx)
   ·exact .inl (hl1 hf s hs b hx)
   ·exact .inr ⟨hb, hx⟩
  have nS1 : ∀ g, (w.heap.size ≤ g ∨ g ∈ Y) → ¬ S1 g := by
   rintro g (hg | hg) hx
   ·exact absurd (h1.sub g hx) (Nat.not_lt_of_le hg)
   ·obtain ⟨_, _, i, hB⟩ := mY g hg
    exact (h1.free _ _ hB).1 hx
  have hR2 : RowsAt w.heap.size Y w' S2 B' Bo := ⟨fun k i g hg => by
   obtain ⟨f1, f2, f3⟩ := hR.free k i g hg
   refine ⟨f1, f2, ?_⟩
   rintro (hx | hx)
   ·exact nS1 g f1 hx
   ·exact f3 hx.1, hR.inj, hR.res⟩
  have houts2 : OutsR S2 w' Bo 0 outs X := by
   cases hf : fl
   ·exact houts.mono (hup hf)
   ·exact houts.flat (hfl hf).2
  have hXS2 : ∀ g ∈ X, ¬ S2 g := by
   rintro g hg (hx | hx)
   ·obtain ⟨_, _, hB⟩ := mX g hg
    exact (h1.free _ _ hB).1 hx
   ·exact hXS g hg hx.1
  have hnew : ∀ i g, B' i = some g → (C.w0.heap.size ≤ g ∨ C.O g) ∧ g < w'.heap.size ∧ ¬ S2 g := fun i g hg => by
   obtain ⟨f1, f2, f3⟩ := hres.free i g hg
   refine ⟨?_, f2, ?_⟩
   ·rcases f1 with f1 | f1
    ·exact .inl (Nat.le_trans h.kept.size f1)
    ·obtain ⟨_, _, i, hB⟩ := mY g f1
     exact (h1.free _ _ hB).2.2
   ·rintro (hx | hx)
    ·exact nS1 g f1 hx
    ·exact f3 hx.1
  refine ⟨S2, h1.callW hd hX1 hkept (fun b hb => .inl hb) ?_ ?_ houts2 hXS2 hR2, fun i sv hi => ?_, hnew, fun i g hg k hk => ?_⟩
  ·rintro b (hb | hb)
   ·exact .inl hb
   ·exact .inr hb.2
  ·rintro b (hb | hb)
   ·exact Nat.lt_of_lt_of_le (h1.sub b hb) hkept.size
   ·exact hres.lt b hb.1
  ·have := hres.comps i sv hi
   cases hf : fl
   ·exact this.move (Keep.refl _ _) (hup hf) (fun _ _ => rfl)
   ·exact this.flat (allFlat_at (hfl hf).1 hi)
  ·-- a result's block is nobody's
   obtain ⟨f1, _, _⟩ := hres.free i g hg
   have key : ∀ k, B1 k = some g → (∀ b ∈ bs, ∀ i, k ≠ .l b i) → False := fun k hB hne => by
    rcases f1 with f1 | f1
    ·exact absurd (h1.free k g hB).2.1 (Nat.not_lt_of_le f1)
    ·obtain ⟨b, hb, i', hB'⟩ := mY g f1
     exact hne b hb i' (h1.inj _ _ g hB hB')
   cases k with
   | s m => exact key _ hk (fun _ _ _ he => by cases he)
   | t m j => exact key _ hk (fun _ _ _ he => by cases he)
   | b m => exact key _ hk (fun _ _ _ he => by cases he)
   | l c j =>
    simp only [afterB] at hk
    cases hp : posOf bs c with
    | none =>
     rw [hp] at hk
     exact key _ hk (fun b hb i' he => by injection he with he _; subst he; obtain ⟨p, hp'⟩ := List.getElem?_of_mem hb; rw [posOf_at hd hp'] at hp; cases hp)
    | some p => rw [hp] at hk; exact hR.res i p j g hg hk
 rcases callPut_some hk with ⟨d, hdst, hlt, hk'⟩ | ⟨hdst, hk'⟩
 ·refine ⟨_, hk', fun Kw Q hKw => ?_⟩
  unfold Oper.wp
  rw [hrun, Oper.upon_enter]
  refine hC.mono ?_
  rintro e w' ⟨rv, S', B', Bo, rfl, hkept, hres, houts, hXS, hR⟩
  obtain ⟨S2, hs2, hc2, hf2, hd2⟩ := post hkept hres houts hXS hR
  have hnt2 : ((E.run (bif fl then [] else lent.map .fz)).run (boxCmds bs outs)).nt = E.nt := by rw [(boxCmds_run bs outs _).2, hnt1]
  obtain ⟨B2, hs3⟩ := hs2.putRes (d := d) (by rw [hnt2]; exact hlt) hres.form hres.inj hf2 hd2 hc2
  show Kw (a.put o.dst rv) w'
  rw [hdst]
  apply hKw S2 B2
  rw [run_cmds_append, run_cmds_append]
  exact hs3
 ·refine ⟨_, hk', fun Kw Q hKw => ?_⟩
  unfold Oper.wp
  rw [hrun, Oper.upon_enter]
  refine hC.mono ?_
  rintro e w' ⟨rv, S', B', Bo, rfl, hkept, hres, houts, hXS, hR⟩
  obtain ⟨S2, hs2, _, _⟩ := post hkept hres houts hXS hR
  show Kw (a.put o.dst rv) w'
  rw [hdst]
  apply hKw S2 (afterB B1 bs Bo)
  rw [run_cmds_append]
  exact hs2

end
end Go.Proofs.YtecdijlfnnminaaGreatDoor.Eng
namespace Go.Proofs.YtecdijlfnnminaaGreatDoor.Eng
open Go Go.RowKit
set_option linter.unusedVariables false
set_option linter.unusedSimpArgs false

section
universe u
variable {R : Type u} {P : Program} {T : Tys} {C : Ctx} {S : Nat → Prop} {B : Loc → Option Nat} {E : Env} {a : Act} {w : World} {o : Oper} {r : R} {K : List Cmd → Option R}

/-- Arguments that are memory of all. -/
def CrefsR (S : Nat → Prop) (w : World) : List A → List Value → Prop
 | [], vs => vs = []
 | .cr t x :: l, vs => ∃ u r, vs = u :: r ∧ CrefR S w t x u ∧ CrefsR S w l r
 | _ :: _, _ => False

theorem CrefsR.mono {S' : Nat → Prop} {w' : World} (hk : Keep S w w') (hs : ∀ b, S b → S' b) : ∀ {l : List A} {vs : List Value}, CrefsR S w l vs → CrefsR S' w' l vs
 | [], _, h => h
 | .cr _ _ :: _, _, ⟨u, r, e, h1, h2⟩ => ⟨u, r, e, h1.mono hk hs, CrefsR.mono hk hs h2⟩
 | .v _ _ :: _, _, h => h.elim
 | .bx _ :: _, _, h => h.elim
 | .clo _ :: _, _, h => h.elim
 | .nl _ :: _, _, h => h.elim
 | .io _ _ _ :: _, _, h => h.elim
 | .fp _ _ _ :: _, _, h => h.elim

theorem vals_args {bb : Nat → Option Nat} {caps : List A} {cv : List Value} (hc : CrefsR S w caps cv) : ∀ {xs : List V} {vs : List Value}, ValsR S w xs vs → ArgsT P S w bb (xs.map (fun y => A.v y.t y.x) ++ caps) (vs ++ cv) [] []
 | [], vs, h => by
  simp only [ValsR] at h
  subst h
  have : ∀ {l : List A} {vs : List Value}, CrefsR S w l vs → ArgsT P S w bb l vs [] [] := by
   intro l
   induction l with
   | nil => intro vs h; exact ⟨h, rfl, rfl⟩
   | cons x l ih =>
    intro vs h
    cases x with
    | cr t x => obtain ⟨u, r, e, h1, h2⟩ := h; exact ⟨u, r, e, h1, ih h2⟩
    | v _ _ => exact h.elim
    | bx _ => exact h.elim
    | clo _ => exact h.elim
    | nl _ => exact h.elim
    | io _ _ _ => exact h.elim
    | fp _ _ _ => exact h.elim
  exact this hc
 | _ :: _, _, ⟨u, r, e, h1, h2⟩ => by
  subst e
  exact ⟨u, _, rfl, h1, vals_args hc h2⟩

theorem allVal_sv : ∀ {l : List SV}, closure.allVal l = true → (svToV l).map (fun y => SV.val y.t y.x) = l
 | [], _ => rfl
 | .val t x :: l, h => by
  simp only [closure.allVal] at h
  simp only [svToV, List.map_cons, allVal_sv h]
 | .undef :: _, h => by cases h
 | .own _ _ _ :: _, h => by cases h
 | .full _ _ :: _, h => by cases h
 | .alias _ :: _, h => by cases h
 | .cref _ _ :: _, h => by cases h
 | .eref _ _ _ _ :: _, h => by cases h
 | .ptr _ _ :: _, h => by cases h
 | .rref _ _ _ :: _, h => by cases h
 | .rel _ _ _ :: _, h => by cases h
 | .clo _ :: _, h => by cases h
 | .tup _ :: _, h => by cases h
 | .agg _ :: _, h => by cases h
 | .lenN _ :: _, h => by cases h
 | .fn _ _ _ :: _, h => by cases h
 | .fp _ _ _ :: _, h => by cases h

/-- A function of the program as a value. -/
theorem clo_sound {G : Gam} (hG : GOk P C G) {f : FuncId} {sp : CSpec} (hsp : alook G f = some sp) {caps : Array Value} {l : List A} (hcr : CrefsR S w l caps.toList) (hsup : ∀ b, C.S0 b → S b) (hkeep : Keep C.S0 C.w0 w) :
  CloR P S w (.func (.func f) #[] caps) (closure sp l) := by
 have hok := hG.ok f sp hsp
 refine ⟨f, #[], caps, rfl, hok.enters, fun S2 w2 vs xs y hk2 hs2 hl2 hvs hy => ?_⟩
 have hy' : ∃ q : (sp (xs.map (fun y => A.v y.t y.x) ++ l)).R, (sp (xs.map (fun y => A.v y.t y.x) ++ l)).o = some q ∧ y = q ∧ closure.allVal ((sp (xs.map (fun y => A.v y.t y.x) ++ l)).res q) = true ∧ ((sp (xs.map (fun y => A.v y.t y.x) ++ l)).out q).isEmpty = true := by
  simp only [closure] at hy
  cases hq : (sp (xs.map (fun y => A.v y.t y.x) ++ l)).o with
  | none => rw [hq] at hy; cases hy
  | some q =>
   rw [hq] at hy
   simp only [Option.bind_some] at hy
   cases hc : (closure.allVal ((sp (xs.map (fun y => A.v y.t y.x) ++ l)).res q) && ((sp (xs.map (fun y => A.v y.t y.x) ++ l)).out q).isEmpty)
   ·rw [hc] at hy; cases hy
   ·rw [hc] at hy
    simp only [cond_true] at hy
    simp only [Bool.and_eq_true] at hc
    exact ⟨q, rfl, (Option.some.inj hy).symm, hc.1, hc.2⟩
 obtain ⟨q, hq, rfl, hv1, hv2⟩ := hy'
 have hA : ArgsR P S2 w2 (xs.map (fun y => A.v y.t y.x) ++ l) (vs ++ caps.toList) [] [] := vals_args (P := P) (hcr.mono hk2 hs2) hvs
 have hC := hok.calls S2 w2 _ _ [] [] _ (fun b hb => hs2 b (hsup b hb)) (hkeep.trans hk2 hsup) hl2 List.nodup_nil (by simp) hA hq
 have hargs : (vs ++ caps.toList).toArray = #[] ++ vs.toArray ++ caps := by
  apply Array.ext'; simp
 rw [hargs] at hC
 refine hC.mono ?_
 rintro e w' ⟨rv, S3, B3, Bo, rfl, hkept, hres, _⟩
 refine ⟨rv, S3, B3, rfl, ⟨hkept.os, hkept.tape, hkept.output, hkept.size, fun k hk => hkept.block k hk (by simp)⟩, ?_⟩
 have : ((closure sp l xs).res y).map (fun y => SV.val y.t y.x) = (sp (xs.map (fun y => A.v y.t y.x) ++ l)).res y := allVal_sv hv1
 rw [this]
 exact hres

/-! ### the arguments -/
theorem args_sound {G : Gam} (hG : GOk P C G) (h : Sim P C S B E a w) (lent : List Nat) : ∀ {xs : List Operand} {ts : List TypeId} {l : List A}, argsOf T E.vw G ts xs = some l → (∀ s ∈ lentOf E.vw xs, s ∈ lent) →
  ∃ X Y, (∀ bb, ArgsT P (fun b => S b ∨ ∃ s ∈ lent, B (.s s) = some b) w bb l (xs.map a.eval) X Y) ∧ BlocksOf B E (boxesOf E.vw xs) X Y
 | [], ts, l, hl, _ => by simp only [argsOf, Option.some.injEq] at hl; subst hl; exact ⟨[], [], fun _ => ⟨rfl, rfl, rfl⟩, rfl, rfl⟩
 | x :: xs, ts, l, hl, hs => by
  simp only [argsOf] at hl
  split at hl
  ·rename_i y l' hy hl'
   simp only [Option.some.injEq] at hl
   subst hl
   have hs' : ∀ s ∈ lentOf E.vw xs, s ∈ lent := fun s hx => hs s (by simp only [lentOf]; split <;> simp [hx])
   obtain ⟨X, Y, hA, hX⟩ := args_sound hG h lent hl' hs'
   have hup : ∀ b, S b → (S b ∨ ∃ s ∈ lent, B (.s s) = some b) := fun b hb => .inl hb
   have val : ∀ {v : V}, rd T E.vw (ts.headD 0) x = some v → boxesOf E.vw (x :: xs) = boxesOf E.vw xs → y = .v v.t v.x → ∃ X Y, (∀ bb, ArgsT P (fun b => S b ∨ ∃ s ∈ lent, B (.s s) = some b) w bb (y :: l') ((x :: xs).map a.eval) X Y) ∧ BlocksOf B E (boxesOf E.vw (x :: xs)) X Y := by
    intro v hv hb he
    subst he
    refine ⟨X, Y, fun bb => ⟨_, _, rfl, rd_esc h hv hup ?_, hA bb⟩, by rw [hb]; exact hX⟩
    intro s hsrc g hg
    exact .inr ⟨s, hs s (by simp only [lentOf, hsrc]; simp), hg⟩
   unfold argOf at hy
   split at hy
   ·rename_i t
    have hgt : E.vw.g t = E.g t := rfl
    have hsl := h.slots t
    rw [hgt] at hy
    split at hy
    ·rename_i b hn
     split at hy
     ·rename_i bl hbl
      simp only [Option.some.injEq] at hy
      subst hy
      rw [hn] at hsl
      obtain ⟨g, k1, k2⟩ := hsl
      obtain ⟨g', k3, k4⟩ := h.boxes b bl hbl
      have : g' = g := by rw [k3] at k1; exact Option.some.inj k1
      subst this
      refine ⟨g' :: X, blks (fun i => B (.l b i)) 0 bl ++ Y, fun bb => ⟨g', _, X, Y, fun i => B (.l b i), by show tv a t :: _ = _; rw [k2], rfl, rfl, k4.move (Keep.refl _ _) hup rfl (fun _ => ⟨rfl, fun _ _ => rfl⟩), hA bb⟩, ?_⟩
      have : boxesOf E.vw (.tmp t :: xs) = b :: boxesOf E.vw xs := by simp only [boxesOf, hgt, hn]
      rw [this]
      have hbl' : alook E.bx b = some bl := hbl
      exact ⟨g', X, Y, rfl, k3, by rw [hbl']; rfl, hX⟩
     ·cases hy
    ·rename_i t' yy hn
     simp only [Option.some.injEq] at hy
     subst hy
     rw [hn] at hsl
     have : boxesOf E.vw (.tmp t :: xs) = boxesOf E.vw xs := by simp only [boxesOf, hgt, hn]
     exact ⟨X, Y, fun bb => ⟨_, _, rfl, CrefR.mono hsl (Keep.refl _ _) hup, hA bb⟩, by rw [this]; exact hX⟩
    ·rename_i φ hn
     simp only [Option.some.injEq] at hy
     subst hy
     rw [hn] at hsl
     have : boxesOf E.vw (.tmp t :: xs) = boxesOf E.vw xs := by simp only [boxesOf, hgt, hn]
     exact ⟨X, Y, fun bb => ⟨_, _, rfl, CloR.mono hsl (Keep.refl _ _) hup, hA bb⟩, by rw [this]; exact hX⟩
    ·rename_i h1 h2 h3
     split at hy
     ·rename_i v hv
      simp only [Option.some.injEq] at hy
      refine val hv ?_ hy.symm
      simp only [boxesOf, hgt]
     ·cases hy
   ·split at hy
    ·simp only [Option.some.injEq] at hy
     subst hy
     exact ⟨X, Y, fun bb => ⟨_, _, rfl, rfl, hA bb⟩, hX⟩
    ·cases hy
   ·rename_i f
    split at hy
    ·rename_i sp hsp
     simp only [Option.some.injEq] at hy
     subst hy
     have hcl : CloR P S w (.func (.func f) #[] #[]) (closure sp []) := clo_sound hG hsp (caps := #[]) rfl h.sup (h.keep0 hG.dis)
     exact ⟨X, Y, fun bb => ⟨_, _, rfl, CloR.mono hcl (Keep.refl _ _) hup, hA bb⟩, hX⟩
    ·cases hy
   ·split at hy
    ·rename_i v hv
     simp only [Option.some.injEq] at hy
     refine val hv ?_ hy.symm
     cases x with
     | tmp t => rename_i hne _ _; exact absurd rfl (hne t)
     | const c => rfl
     | global g => rfl
     | func f => rfl
    ·cases hy
  ·cases hl

theorem BlocksOf.nodup (h : Sim P C S B E a w) : ∀ {bs X Y : List Nat}, distinct bs = true → BlocksOf B E bs X Y → (X ++ Y).Nodup
 | [], X, Y, _, hX => by simp only [BlocksOf] at hX; obtain ⟨rfl, rfl⟩ := hX; exact List.nodup_nil
 | b :: bs, X, Y, hd, ⟨g, X', Y', e, h1, e2, h2⟩ => by
  subst e e2
  obtain ⟨k1, k2⟩ := distinct_cons hd
  have ih := BlocksOf.nodup h k2 h2
  obtain ⟨mX, mY⟩ := h2.mem
  obtain ⟨n1, n2, n3⟩ := List.nodup_append.1 ih
  have inb : ∀ g' ∈ blks (fun i => B (.l b i)) 0 ((alook E.bx b).getD []), ∃ i, B (.l b i) = some g' := fun g' hg' => by
   obtain ⟨i, hi, _⟩ := blks_mem hg'
   exact ⟨i, hi⟩
  have hnd : (blks (fun i => B (.l b i)) 0 ((alook E.bx b).getD [])).Nodup := blks_nodup (fun i j g' hi hj => by have := h.inj _ _ g' hi hj; injection this)
  refine List.nodup_append.2 ⟨List.nodup_cons.2 ⟨fun hx => ?_, n1⟩, List.nodup_append.2 ⟨hnd, n2, ?_⟩, ?_⟩
  ·obtain ⟨b', hb', h3⟩ := mX g hx
   have := h.inj _ _ g h1 h3
   injection this with this
   subst this
   exact k1 hb'
  ·intro g1 hg1 g2 hg2 he
   subst he
   obtain ⟨i, hi⟩ := inb g1 hg1
   obtain ⟨b', hb', i', h3⟩ := mY g1 hg2
   have := h.inj _ _ g1 hi h3
   injection this with this _
   subst this
   exact k1 hb'
  ·intro g1 hg1 g2 hg2 he
   subst he
   rcases List.mem_cons.1 hg1 with rfl | hg1
   ·rcases List.mem_append.1 hg2 with hg2 | hg2
    ·obtain ⟨i, hi⟩ := inb g1 hg2
     have := h.inj _ _ g1 h1 hi
     cases this
    ·obtain ⟨b', hb', i', h3⟩ := mY g1 hg2
     have := h.inj _ _ g1 h1 h3
     cases this
   ·rcases List.mem_append.1 hg2 with hg2 | hg2
    ·obtain ⟨i, hi⟩ := inb g1 hg2
     obtain ⟨b', hb', h3⟩ := mX g1 hg1
     have := h.inj _ _ g1 hi h3
     cases this
    ·exact n3 g1 hg1 g1 hg2 rfl

theorem run_callF {f : FuncId} {c : Call} (ho : o.op = .call c) (hc : c.callee = .value (.func f)) {fn : Func} (hf : P.funcs[f]? = some fn) (hn : (fn.name == "runtime.NumGoroutine") = false) (hb : fn.body.isNone = false) :
  (execOp a.eval o).run P w = .ok (.enter f (c.args.map a.eval)) w := by
 have e1 : a.eval (.func f) = .func (.func f) #[] #[] := rfl
 have hn' : ¬ fn.name = "runtime.NumGoroutine" := by simpa using hn
 have hb' : ¬ fn.body = none := by intro e; rw [e] at hb; cases hb
 simp [execOp, ho, resolve, hc, e1, Deferred.ofValue, invoke, callFunc, hf, hn', hb']

theorem lent_own (h : Sim P C S B E a w) : ∀ {xs : List Operand}, ∀ s ∈ lentOf E.vw xs, (E.g s).isOwn = true
 | [], s, hs => by simp [lentOf] at hs
 | x :: xs, s, hs => by
  simp only [lentOf] at hs
  split at hs
  ·rename_i s' hs'
   rcases List.mem_cons.1 hs with rfl | hs
   ·exact (src_sound h hs').1
   ·exact lent_own h s hs
  ·exact lent_own h s hs

theorem evCall_ok {G : Gam} (hG : GOk P C G) (h : Sim P C S B E a w) {c : Call} {f : FuncId} (ho : o.op = .call c) (hc : c.callee = .value (.func f))
  (hk : evCall T E.vw G f c.argTypes.toList c.args.toList o.dst K = some r) : Ok P C E a w o K r := by
 unfold evCall at hk
 split at hk
 ·rename_i sp l hsp hl
  have hok := hG.ok f sp hsp
  obtain ⟨fn, hf, hn, hb⟩ := hok.enters
  cases hr : (sp l).o with
  | none => rw [hr] at hk; cases hk
  | some y =>
   rw [hr] at hk
   simp only [Option.bind_some] at hk
   cases hd : (distinct (boxesOf E.vw c.args.toList) && Nat.beq ((sp l).out y).length (boxesOf E.vw c.args.toList).length)
   ·rw [hd] at hk; cases hk
   ·rw [hd, cond_true] at hk
    simp only [Bool.and_eq_true] at hd
    obtain ⟨X, Y, hA, hX⟩ := args_sound hG h (lentOf E.vw c.args.toList) hl (fun _ hx => hx)
    have hfree : ∀ g ∈ X ++ Y, ¬ (S g ∨ ∃ s ∈ lentOf E.vw c.args.toList, B (.s s) = some g) ∧ g < w.heap.size := by
     intro g hg
     have hown : ∃ l, B l = some g ∧ ∀ s, l ≠ .s s := by
      rcases List.mem_append.1 hg with hg | hg
      ·obtain ⟨b, _, hb⟩ := hX.mem.1 g hg
       exact ⟨_, hb, fun s he => by cases he⟩
      ·obtain ⟨b, _, i, hb⟩ := hX.mem.2 g hg
       exact ⟨_, hb, fun s he => by cases he⟩
     obtain ⟨l, hb, hl⟩ := hown
     obtain ⟨f1, f2, _⟩ := h.free _ g hb
     refine ⟨?_, f2⟩
     rintro (hx | ⟨s, _, hx⟩)
     ·exact f1 hx
     ·exact hl s (h.inj _ _ g hb hx)
    have hbd : ∀ b, (S b ∨ ∃ s ∈ lentOf E.vw c.args.toList, B (.s s) = some b) → b < w.heap.size := by
     rintro b (hx | ⟨s, _, hx⟩)
     ·exact h.sub b hx
     ·exact (h.free _ b hx).2.1
    have hC := hok.calls _ w l _ X Y y (fun b hb => .inl (h.sup b hb)) (h.keep0 hG.dis) hbd (hX.nodup h hd.1) hfree (hA _) hr
    have hargs : (c.args.toList.map a.eval).toArray = c.args.map a.eval := by apply Array.ext'; simp
    rw [hargs] at hC
    refine call_ok h (fl := allFlat ((sp l).res y) && outsFlat ((sp l).out y)) (run_callF ho hc hf hn hb) (lent_own h) hd.1 hX (fun hfl => by simpa using hfl) hC hk
 ·cases hk

theorem vals_sound (h : Sim P C S B E a w) (lent : List Nat) : ∀ {xs : List Operand} {ts : List TypeId} {l : List V}, rds T E.vw ts xs = some l → (∀ s ∈ lentOf E.vw xs, s ∈ lent) →
  ValsR (fun b => S b ∨ ∃ s ∈ lent, B (.s s) = some b) w l (xs.map a.eval)
 | [], ts, l, hl, _ => by simp only [rds, Option.some.injEq] at hl; subst hl; rfl
 | x :: xs, ts, l, hl, hs => by
  simp only [rds] at hl
  split at hl
  ·rename_i y l' hy hl'
   simp only [Option.some.injEq] at hl
   subst hl
   refine ⟨_, _, rfl, rd_esc h hy (fun b hb => .inl hb) (fun s hsrc g hg => .inr ⟨s, hs s (by simp only [lentOf, hsrc]; simp), hg⟩), vals_sound h lent hl' (fun s hx => hs s ?_)⟩
   simp only [lentOf]; split <;> simp [hx]
  ·cases hl

theorem evCallV_ok (h : Sim P C S B E a w) {c : Call} {t : Nat} (ho : o.op = .call c) (hc : c.callee = .value (.tmp t))
  (hk : evCallV T E.vw t c.argTypes.toList c.args.toList o.dst K = some r) : Ok P C E a w o K r := by
 unfold evCallV at hk
 split at hk
 ·rename_i φ ys hφ hys
  have hφ' : E.g t = .clo φ := hφ
  have hsl := h.slots t
  rw [hφ'] at hsl
  obtain ⟨f, first, caps, hv, ⟨fn, hf, hn, hb⟩, hcl⟩ := hsl
  cases hr : (φ ys).o with
  | none => rw [hr] at hk; cases hk
  | some y =>
   rw [hr] at hk
   simp only [Option.bind_some] at hk
   have hup : ∀ b, S b → (S b ∨ ∃ s ∈ lentOf E.vw c.args.toList, B (.s s) = some b) := fun b hx => .inl hx
   have hbd : ∀ b, (S b ∨ ∃ s ∈ lentOf E.vw c.args.toList, B (.s s) = some b) → b < w.heap.size := by
    rintro b (hx | ⟨s, _, hx⟩)
    ·exact h.sub b hx
    ·exact (h.free _ b hx).2.1
   have hC := hcl _ w _ ys y (Keep.refl _ _) hup hbd (vals_sound h _ hys (fun _ hx => hx)) hr
   have hrun : (execOp a.eval o).run P w = .ok (.enter f (first ++ (c.args.toList.map a.eval).toArray ++ caps)) w := by
    have e1 : a.eval (.tmp t) = .func (.func f) first caps := hv
    have hargs : c.args.map a.eval = (c.args.toList.map a.eval).toArray := by apply Array.ext'; simp
    have hn' : ¬ fn.name = "runtime.NumGoroutine" := by simpa using hn
    have hb' : ¬ fn.body = none := by intro e; rw [e] at hb; cases hb
    simp [execOp, ho, resolve, hc, e1, Deferred.ofValue, invoke, callFunc, hf, hn', hb', hargs]
   refine call_ok h (bs := []) (X := []) (Y := []) (outs := []) (fl := allFlat (vToSV ((φ ys).res y))) hrun (lent_own h) rfl ⟨rfl, rfl⟩ (fun hfl => ⟨hfl, rfl⟩) ?_ (by simpa [boxCmds] using hk)
   refine hC.mono ?_
   rintro e w' ⟨rv, S', B', rfl, hbel, hres⟩
   exact ⟨rv, S', B', fun _ _ => none, rfl, KeptBut.of_below hbel, hres, rfl, (fun _ h => by cases h), RowsAt.none _ _ _ _ _⟩
 ·cases hk

end
end Go.Proofs.YtecdijlfnnminaaGreatDoor.Eng
namespace Go.Proofs.YtecdijlfnnminaaGreatDoor.Eng
open Go Go.RowKit
set_option linter.unusedVariables false
set_option linter.unusedSimpArgs false

section
universe u
variable {R : Type u} {P : Program} {T : Tys} {C : Ctx} {S : Nat → Prop} {B : Loc → Option Nat} {E : Env} {a : Act} {w : World} {o : Oper} {r : R} {K : List Cmd → Option R}

/-! ### a call that changes its first argument's row in place -/

theorem BoxR.rowOb {ob ob' : Nat → Option Nat} {S' : Nat → Prop} {w' : World} {e : Ty} {xs : List e.den} {g : Nat} (h : BoxR S w ob [rowV e xs] g) (hk : Keep S w w') (hs : ∀ b, S b → S' b) (hg : w'.heap[g]? = w.heap[g]?) : BoxR S' w' ob' [rowV e xs] g := by
 obtain ⟨cells, id, h1, h2⟩ := h
 exact ⟨cells, id, by rw [hg]; exact h1, .inr ⟨e, xs, rfl, h2.row.mono hk hs⟩⟩

/-- What nothing tells of may turn. -/
theorem Sim.turn (h : Sim P C S B E a w) {M : Nat → Prop} {w' : World} (hw : KeptBut M w w') (hM : ∀ g, M g → ¬ S g ∧ (∀ l, B l ≠ some g) ∧ (C.w0.heap.size ≤ g ∨ C.O g)) : Sim P C S B E a w' := by
 have keepS : Keep S w w' := ⟨hw.size, fun b hs hl => hw.block b hl (fun hm => (hM b hm).1 hs)⟩
 have other : ∀ k g, B k = some g → w'.heap[g]? = w.heap[g]? := fun k g hg => hw.block g (h.free k g hg).2.1 (fun hm => (hM g hm).2.1 k hg)
 refine ⟨h.size, h.defers, ?_, fun b hs => Nat.lt_of_lt_of_le (h.sub b hs) hw.size, h.frm, h.sup, h.inj, ?_, ?_, ?_, h.inb⟩
 ·refine ⟨hw.os.trans h.kept.os, hw.tape.trans h.kept.tape, hw.output.trans h.kept.output, Nat.le_trans h.kept.size hw.size, fun k hk ho => ?_⟩
  refine (hw.block k (Nat.lt_of_lt_of_le hk h.kept.size) (fun hm => ?_)).trans (h.kept.block k hk ho)
  rcases (hM k hm).2.2 with h3 | h3
  ·omega
  ·exact ho h3
 ·intro k g hg
  obtain ⟨f1, f2, f3⟩ := h.free k g hg
  exact ⟨f1, Nat.lt_of_lt_of_le f2 hw.size, f3⟩
 ·intro n
  exact (h.slots n).move keepS (fun _ hx => hx) rfl (fun _ _ => rfl) (fun k g hn hg => other k g hg) (fun _ _ => rfl) (fun s hr => ⟨rfl, rfl, rfl⟩)
 ·intro b l hl
  obtain ⟨g, hg, hx⟩ := h.boxes b l hl
  exact ⟨g, hg, hx.move keepS (fun _ hx => hx) (other _ g hg) (fun j => ⟨rfl, fun g' hg' => other _ g' hg'⟩)⟩

theorem evCallR_ok {G : Gam} (hG : GOk P C G) (h : Sim P C S B E a w) {c : Call} {f : FuncId} (ho : o.op = .call c) (hc : c.callee = .value (.func f))
  (hk : evCallR T E.vw G f c.argTypes.toList c.args.toList o.dst K = some r) : Ok P C E a w o K r := by
 unfold evCallR at hk
 split at hk
 ·rename_i t rest hxs
  split at hk
  ·rename_i sp as hsp has hbo hle
   have hok := hG.ok f sp hsp
   obtain ⟨fn, hf, hn, hb⟩ := hok.enters
   obtain ⟨X', Y', hA, hX⟩ := args_sound hG h [] has (fun s hs => by rw [hle] at hs; exact hs)
   rw [hbo] at hX
   simp only [BlocksOf] at hX
   obtain ⟨rfl, rfl⟩ := hX
   have hS0 : ∀ b, (S b ∨ ∃ s ∈ ([] : List Nat), B (.s s) = some b) → S b := by
    rintro b (hx | ⟨s, hs, _⟩)
    ·exact hx
    ·cases hs
   have hargs : ∀ v, a.eval (.tmp t) = v → (v :: rest.map a.eval).toArray = c.args.map a.eval := by
    intro v hv
    apply Array.ext'
    rw [Array.toList_map, hxs]
    simp [hv]
   split at hk
   ·rename_i k0 len e hn0
    split at hk
    ·rename_i ys hys
     obtain ⟨l, hl, hrow⟩ := rowAt_some hys
     subst hrow
     have hsl := h.slots t
     have hn0' : E.g t = .rref k0 len e := hn0
     rw [hn0'] at hsl
     obtain ⟨g, cap, hB, hv⟩ := hsl
     obtain ⟨g', hb', hbox⟩ := h.boxes k0 _ hl
     have : g' = g := by rw [hb'] at hB; exact Option.some.inj hB
     subst this
     cases hr : (sp (.io len e ys :: as)).o with
     | none => rw [hr] at hk; cases hk
     | some y =>
      rw [hr] at hk
      simp only [Option.bind_some] at hk
      split at hk
      ·rename_i o1 hres hout
       have hA' : ArgsR P (fun b => S b ∨ ∃ s ∈ ([] : List Nat), B (.s s) = some b) w (.io len e ys :: as) (.slice (some ⟨g', 0, none⟩) len cap :: rest.map a.eval) [g'] [] :=
        ⟨g', cap, _, [], rfl, rfl, hbox.rowOb (Keep.refl _ _) (fun b hb => .inl hb) rfl, hA _⟩
       have hC := hok.calls _ w _ _ [g'] [] y (fun b hb => .inl (h.sup b hb)) (h.keep0 hG.dis) (fun b hb => h.sub b (hS0 b hb)) (by simp) (by
        intro g2 hg2
        simp only [List.append_nil, List.mem_singleton] at hg2
        subst hg2
        exact ⟨fun hx => (h.free _ _ hb').1 (hS0 _ hx), (h.free _ _ hb').2.1⟩) hA' hr
       rw [hargs _ hv, hres, hout] at hC
       exact call_ok h (lent := []) (bs := [k0]) (X := [g']) (Y := []) (res := []) (outs := [o1]) (fl := false) (run_callF ho hc hf hn hb) (fun s hs => by cases hs) rfl ⟨g', [], [], rfl, hb', by rw [hl]; simp [blks, rowV, V.isOwn], rfl, rfl⟩ (fun hx => by cases hx) hC hk
      ·cases hk
    ·cases hk
   ·split at hk
    ·rename_i s hs
     obtain ⟨hown, hv⟩ := src_sound h hs
     split at hk
     ·rename_i id e ys hg0
      have hg : E.g s = .own id e ys := hg0
      cases hfl : e.flat
      ·rw [hfl] at hk; cases hk
      rw [hfl, cond_true] at hk
      split at hk
      ·rename_i hpos
       cases hr : (sp (.io ys.length e ys :: as)).o with
       | none => rw [hr] at hk; cases hk
       | some y =>
        rw [hr] at hk
        simp only [Option.bind_some] at hk
        split at hk
        ·rename_i e' x hres hout
         split at hk
         ·rename_i hee
          subst hee
          split at hk
          ·rename_i hlen
           have hsl := h.slots s
           rw [hg] at hsl
           obtain ⟨cs, hown', hrow, hob⟩ := hsl
           rcases hown'.2 with ⟨_, hz⟩ | ⟨g, cap, cur, hvv, _, hgg, hnc, hcm, hcsz, htake⟩
           ·omega
           ·have hB : B (.s s) = some g := by rw [← hob, hvv]; rfl
            obtain ⟨f1, f2, f3⟩ := h.free _ g hB
            have hbox : BoxR S w (fun _ => none) [rowV e' ys] g := ⟨cur, id, hgg, .inr ⟨e', ys, rfl, by rw [htake]; exact hrow⟩⟩
            have hA' : ArgsR P (fun b => S b ∨ ∃ s ∈ ([] : List Nat), B (.s s) = some b) w (.io ys.length e' ys :: as) (.slice (some ⟨g, 0, none⟩) ys.length cap :: rest.map a.eval) [g] [] :=
             ⟨g, cap, _, [], rfl, rfl, hbox.rowOb (Keep.refl _ _) (fun b hb => .inl hb) rfl, hA _⟩
            have hC := hok.calls _ w _ _ [g] [] y (fun b hb => .inl (h.sup b hb)) (h.keep0 hG.dis) (fun b hb => h.sub b (hS0 b hb)) (by simp) (by
             intro g2 hg2
             simp only [List.append_nil, List.mem_singleton] at hg2
             subst hg2
             exact ⟨fun hx => f1 (hS0 _ hx), f2⟩) hA' hr
            rw [hargs _ (hv.trans hvv), hres, hout] at hC
            -- nothing tells of the row while the call goes
            have hU : Sim P C S (dropAt B s) (E.set s .undef) a w := h.tell (fun _ _ _ => trivial)
            have hnone : ∀ l, dropAt B s l ≠ some g := by
             intro l hl
             unfold dropAt at hl
             split at hl
             ·cases hl
             ·rename_i hat
              have := h.inj _ _ g hl hB
              subst this
              exact hat (beq_self s)
            have hrun := run_callF (P := P) (w := w) (a := a) ho hc hf hn hb
            -- the state behind the call
            have post : ∀ {w' : World} {S' : Nat → Prop} {Bo : Nat → Nat → Option Nat}, KeptBut (fun g2 => g2 ∈ [g] ∨ g2 ∈ ([] : List Nat)) w w' → (∀ b, S' b → b < w'.heap.size) → OutsR S' w' Bo 0 [[⟨.pair .unit (.slice e'), x⟩]] [g] →
              ∃ S2 B2, Sim P C S2 B2 (E.set s (.val (.slice e') x.2)) a w' := by
             intro w' S' Bo hkept _ hout'
             obtain ⟨g2, X2, hX2, hbx, _⟩ := hout'
             have hg2 : g2 = g := by simpa using (List.head_eq_of_cons_eq hX2).symm
             subst hg2
             obtain ⟨cells, id', hgc, hcont⟩ := hbx
             have hRC : RowCells S' w' e' x.2 (cells.toList.take (x.2.length * e'.size)) := ContR.row (ob := Bo 0) (xs := x.2) (by
              have : (⟨.pair .unit (.slice e'), x⟩ : V) = rowV e' x.2 := rfl
              rw [this] at hcont; exact hcont)
             have hT := hU.turn (M := fun g3 => g3 = g2) ⟨hkept.os, hkept.tape, hkept.output, hkept.size, fun k hk hne => hkept.block k hk (by simpa using hne)⟩
              (fun g3 hg3 => by subst hg3; exact ⟨f1, hnone, f3⟩)
             have hM := hT.more (S' := fun b => S b ∨ b = g2) (fun b hb => .inl hb) (fun b hb => by
              rcases hb with hb | rfl
              ·exact .inl hb
              ·exact .inr ⟨Nat.lt_of_lt_of_le f2 hkept.size, f3, hnone⟩)
             have hE : (E.set s .undef).set s (.val (.slice e') x.2) = E.set s (.val (.slice e') x.2) := by
              have e1 : ((E.set s .undef).g s).isOwn = false := by rw [Env.g_set, if_pos rfl]; rfl
              unfold Env.set at e1 ⊢
              rw [e1]
              cases (E.g s).isOwn <;> simp [aset_aset]
             refine ⟨_, _, hE ▸ hM.tell (s := s) (sv := .val (.slice e') x.2) (fun B' _ _ => ?_)⟩
             show ValR _ w' (.slice e') x.2 (tv a s)
             rw [ValR.slice]
             have hvs : tv a s = .slice (some ⟨g2, 0, none⟩) ys.length cap := hvv
             refine .inr ⟨g2, 0, cap, by rw [hvs, hlen], by omega, hcm, .inr rfl, Nat.lt_of_lt_of_le f2 hkept.size, fun i hi => ?_⟩
             obtain ⟨c1, hc1, hj⟩ := (RowCells.flat (S2 := fun b => S b ∨ b = g2) (w2 := w') hfl hRC).at i hi
             refine ⟨c1, hc1, fun j u hu => ?_⟩
             have := hj j u hu
             rw [cell_of_row w' g2 _ cells id' (0, 0) hgc, Nat.zero_add]
             rw [List.getElem?_take] at this
             split at this
             ·simpa using this
             ·cases this
            rcases callPut_some hk with ⟨d, hdst, hlt, hk'⟩ | ⟨hdst, hk'⟩
            ·refine ⟨_, hk', fun Kw Q hKw => ?_⟩
             unfold Oper.wp
             rw [hrun, Oper.upon_enter]
             refine hC.mono ?_
             rintro e2 w' ⟨rv, S', B', Bo, rfl, hkept, hres', houts, _⟩
             obtain ⟨S2, B2, hs2⟩ := post hkept hres'.lt houts
             obtain ⟨B3, hs3⟩ := hs2.putRes (d := d) hlt (res := []) (rv := rv) (Br := fun _ => none) hres'.form (fun i j g3 h1 => by cases h1) (fun i g3 h1 => by cases h1) (fun i g3 h1 => by cases h1) (fun i sv hi => by simp at hi)
             show Kw (a.put o.dst rv) w'
             rw [hdst]
             apply hKw S2 B3
             rw [run_cmds_append]
             exact hs3
            ·refine ⟨_, hk', fun Kw Q hKw => ?_⟩
             unfold Oper.wp
             rw [hrun, Oper.upon_enter]
             refine hC.mono ?_
             rintro e2 w' ⟨rv, S', B', Bo, rfl, hkept, hres', houts, _⟩
             obtain ⟨S2, B2, hs2⟩ := post hkept hres'.lt houts
             show Kw (a.put o.dst rv) w'
             rw [hdst]
             apply hKw S2 B2
             exact hs2
          ·cases hk
         ·cases hk
        ·cases hk
      ·cases hk
     ·cases hk
    ·cases hk
  ·cases hk
 ·cases hk

end
end Go.Proofs.YtecdijlfnnminaaGreatDoor.Eng
namespace Go.Proofs.YtecdijlfnnminaaGreatDoor.Eng
open Go Go.RowKit
set_option linter.unusedVariables false
set_option linter.unusedSimpArgs false

section
universe u
variable {R : Type u} {P : Program} {T : Tys} {C : Ctx} {S : Nat → Prop} {B : Loc → Option Nat} {E : Env} {a : Act} {w : World} {o : Oper} {r : R} {K : List Cmd → Option R}

theorem both_some {α : Type u} {A B : Option α} {r : α} (h : both A B = some r) : A = some r ∧ B = some r := by
 unfold both at h
 split at h
 ·rename_i e; exact ⟨h, e ▸ h⟩
 ·cases h

theorem eqGuard_slice {op : BinOp} {t : TypeId} {x y : Operand} {ad : Option Addr} {n c : Nat} {b : Value} : (eqGuard op t x y (.slice ad n c) b).run P w = .ok () w := by
 cases op <;> simp [eqGuard]

theorem equal_nil {t id : TypeId} (hu : P.underlying t = some (.slice id)) (ad : Option Addr) (n c : Nat) : (Op.equal t (.slice ad n c) (.slice none 0 0)).run P w = .ok ad.isNone w := by
 have h : ∀ d, (Op.equalIn (d + 1) t (.slice ad n c) (.slice none 0 0)).run P w = .ok ad.isNone w := fun d => by
  cases ad <;> simp [Op.equalIn, run_underlying hu]
 exact h 9999
theorem binOp_nil {t id : TypeId} (hu : P.underlying t = some (.slice id)) (ad : Option Addr) (n c : Nat) : (binOp .eql t (.slice ad n c) (.slice none 0 0)).run P w = .ok (.bool ad.isNone) w := by
 simp [binOp, equal_nil hu]
theorem evNil_ok (hT : TOk P T) (h : Sim P C S B E a w) {op : BinOp} {xt yt : TypeId} {x y : Operand} (ho : o.op = .binOp op xt x y yt) (hn : isNil op y = true) (hk : evNil T E.vw xt x o.dst K = some r) : Ok P C E a w o K r := by
 unfold isNil at hn
 split at hn
 ·unfold evNil at hk
  split at hk
  ·rename_i e0 e xs d hty hx hd
   cases hlt : Nat.blt d E.nt
   ·have : Nat.blt d E.vw.nt = false := hlt
    rw [this] at hk; cases hk
   have hlt2 : Nat.blt d E.vw.nt = true := hlt
   rw [hlt2, cond_true] at hk
   have hltd : d < E.nt := by simpa [Nat.blt_eq] using hlt
   obtain ⟨i, _, hu, _⟩ := und_slice hT hty
   have key : ∀ b : Bool, (binOp .eql xt (a.eval x) (.slice none 0 0)).run P w = .ok (.bool b) w → K [.set d (.val .bool b)] = some r → Ok P C E a w o K r := by
    intro b hb hk'
    have hsl := rd_slice h hx
    obtain ⟨ad, cap, hv⟩ := hsl.form
    have hg : (eqGuard .eql xt x (.const (.slice none 0 0)) (a.eval x) (.slice none 0 0)).run P w = .ok () w := by rw [hv]; exact eqGuard_slice
    refine ⟨_, hk', Goes.value (v := .bool b) ?_ (by rw [hd]; exact h.putVal hltd (ValR.bool.2 rfl))⟩
    have e1 : a.eval (.const (.slice none 0 0)) = .slice none 0 0 := rfl
    simp [execOp, ho, e1, hg, hb]
   have hsl := rd_slice h hx
   rcases hsl with ⟨ad, hv, hxs⟩ | ⟨b, off, cap, hv, h1, h2, h3, h4, h5⟩
   ·subst hxs
    have hk2 : both (K [.set d (.val .bool true)]) (K [.set d (.val .bool false)]) = some r := hk
    obtain ⟨k1, k2⟩ := both_some hk2
    cases ad with
    | none => exact key true (by rw [hv]; exact binOp_nil hu _ _ _) k1
    | some ad => exact key false (by rw [hv]; exact binOp_nil hu _ _ _) k2
   ·have hb : (binOp .eql xt (a.eval x) (.slice none 0 0)).run P w = .ok (.bool false) w := by rw [hv]; exact binOp_nil hu _ _ _
    cases xs with
    | nil =>
     have hk2 : both (K [.set d (.val .bool true)]) (K [.set d (.val .bool false)]) = some r := hk
     exact key false hb (both_some hk2).2
    | cons y ys => exact key false hb hk
  ·cases hk
 ·cases hn

/-! ### function values that hold boxes -/
theorem fnCaps_sound (h : Sim P C S B E a w) : ∀ {xs : List Operand} {cs : List (Option Nat)}, fnCaps E.vw xs = some cs → CapsR (fun b => B (.b b)) 0 cs (xs.map a.eval) ∧ capsSelf cs = false
 | [], cs, hc => by simp only [fnCaps, Option.some.injEq] at hc; subst hc; exact ⟨rfl, rfl⟩
 | x :: xs, cs, hc => by
  cases x with
  | tmp t =>
   simp only [fnCaps] at hc
   split at hc
   ·rename_i b l hn hl
    simp only [Option.some.injEq] at hc
    subst hc
    obtain ⟨k1, k2⟩ := fnCaps_sound h hl
    have hn' : E.g t = .ptr b 0 := hn
    have hs := h.slots t
    rw [hn'] at hs
    obtain ⟨g, h1, h2⟩ := hs
    exact ⟨⟨g, _, by show tv a t :: _ = _; rw [h2], h1, k1⟩, k2⟩
   ·cases hc
  | _ => simp [fnCaps] at hc

theorem evMakeFn_ok (h : Sim P C S B E a w) {fn : Fn} {first caps : Array Operand} (ho : o.op = .makeFunc fn first caps) (hk : evMakeFn E.vw fn first.toList caps.toList o.dst K = some r) : Ok P C E a w o K r := by
 unfold evMakeFn at hk
 split at hk
 ·rename_i f cs hfirst hcs
  obtain ⟨d, hd, hltd, hk'⟩ := putC_some hk
  have hfe : first = #[] := by apply Array.ext'; simpa using hfirst
  have hrun : (execOp a.eval o).run P w = .ok (.value (.func (.func f) #[] (caps.map a.eval))) w := by
   simp [execOp, ho, hfe, Instr.makeFunc]
  refine ⟨_, hk', Goes.value (S' := S) (B' := dropAt B d) hrun ?_⟩
  rw [hd]
  have hdt : d < a.tmps.size := by rw [h.size]; exact hltd
  refine h.putPlain hltd (Below.refl _ _) (fun _ hx => hx) (fun _ hx => .inl hx) h.sub ?_
  obtain ⟨k1, k2⟩ := fnCaps_sound h hcs
  refine ⟨0, caps.map a.eval, by rw [tv_put hdt, if_pos rfl], ?_, fun hx => by rw [k2] at hx; cases hx⟩
  rw [Array.toList_map]
  exact k1.move (fun b _ => dropAt_b)
 ·cases hk

theorem ArgsT.append {bb : Nat → Option Nat} {cs : List A} {us : List Value} {X2 Y2 : List Nat} (h2 : ArgsT P S w bb cs us X2 Y2) : ∀ {l : List A} {vs : List Value} {X Y : List Nat}, ArgsT P S w bb l vs X Y → ArgsT P S w bb (l ++ cs) (vs ++ us) (X ++ X2) (Y ++ Y2)
 | [], _, _, _, ⟨e1, e2, e3⟩ => by subst e1 e2 e3; exact h2
 | .v _ _ :: l, _, _, _, ⟨u, r, e, h, t⟩ => by subst e; exact ⟨u, _, rfl, h, ArgsT.append h2 t⟩
 | .cr _ _ :: l, _, _, _, ⟨u, r, e, h, t⟩ => by subst e; exact ⟨u, _, rfl, h, ArgsT.append h2 t⟩
 | .clo _ :: l, _, _, _, ⟨u, r, e, h, t⟩ => by subst e; exact ⟨u, _, rfl, h, ArgsT.append h2 t⟩
 | .nl _ :: l, _, _, _, ⟨u, r, e, h, t⟩ => by subst e; exact ⟨u, _, rfl, h, ArgsT.append h2 t⟩
 | .bx bl :: l, _, _, _, ⟨g, r, X', Y', ob, e, e2, e3, h, t⟩ => by subst e e2 e3; exact ⟨g, _, _, _, ob, rfl, rfl, by rw [List.append_assoc], h, ArgsT.append h2 t⟩
 | .io _ _ _ :: l, _, _, _, ⟨g, cap, r, X', e, e2, h, t⟩ => by subst e e2; exact ⟨g, cap, _, _, rfl, rfl, h, ArgsT.append h2 t⟩
 | .fp _ _ _ :: l, _, _, _, ⟨g, us, r, e, h, h', t⟩ => by subst e; exact ⟨g, us, _, rfl, h, h', ArgsT.append h2 t⟩
theorem ArgsT.boxes {bb : Nat → Option Nat} : ∀ {l : List A} {i : Nat} {vs : List Value} {X Y : List Nat}, ArgsT P S w bb l vs X Y → X.length = (boxIds i l).length
 | [], i, vs, X, Y, ⟨_, e, _⟩ => by rw [e]; rfl
 | .v t x :: l, i, vs, X, Y, ⟨u, r, e, _, h2⟩ => ArgsT.boxes (l := l) h2
 | .cr t x :: l, i, vs, X, Y, ⟨u, r, e, _, h2⟩ => ArgsT.boxes (l := l) h2
 | .clo t :: l, i, vs, X, Y, ⟨u, r, e, _, h2⟩ => ArgsT.boxes (l := l) h2
 | .nl t :: l, i, vs, X, Y, ⟨u, r, e, _, h2⟩ => ArgsT.boxes (l := l) h2
 | .fp _ _ _ :: l, i, vs, X, Y, ⟨_, _, r, e, _, _, h2⟩ => ArgsT.boxes (l := l) h2
 | .bx bl :: l, i, vs, X, Y, ⟨g, r, X', Y', ob, e, e2, _, _, h2⟩ => by rw [e2]; simp [boxIds, ArgsT.boxes (i := i + 1) h2]
 | .io _ _ _ :: l, i, vs, X, Y, ⟨g, cap, r, X', e, e2, _, h2⟩ => by rw [e2]; simp [boxIds, ArgsT.boxes (i := i + 1) h2]
theorem boxIds_append : ∀ (l cs : List A) (i : Nat), boxIds i (l ++ cs) = boxIds i l ++ boxIds (i + l.length) cs
 | [], cs, i => rfl
 | x :: l, cs, i => by
  have ih := boxIds_append l cs (i + 1)
  rw [show i + 1 + l.length = i + (x :: l).length by simp; omega] at ih
  cases x <;> simp only [List.cons_append, boxIds, ih]
theorem boxIds_lt : ∀ {l : List A} {i b : Nat}, b ∈ boxIds i l → b < 1000000 + i + l.length
 | [], _, _, h => by cases h
 | x :: l, i, b, h => by
  have ih : b ∈ boxIds (i + 1) l → b < 1000000 + i + (x :: l).length := fun hx => by have := boxIds_lt hx; simp only [List.length_cons]; omega
  cases x <;> simp only [boxIds] at h <;> first
   | exact ih h
   | (
    rcases List.mem_cons.1 h with rfl | h
    ·simp only [List.length_cons]; omega
    ·exact ih h)
theorem BlocksOf.append {bs2 X2 Y2 : List Nat} (h2 : BlocksOf B E bs2 X2 Y2) : ∀ {bs X Y : List Nat}, BlocksOf B E bs X Y → BlocksOf B E (bs ++ bs2) (X ++ X2) (Y ++ Y2)
 | [], _, _, ⟨e1, e2⟩ => by subst e1 e2; exact h2
 | b :: bs, _, _, ⟨g, X', Y', e1, e2, e3, t⟩ => by subst e1 e3; exact ⟨g, _, _, rfl, e2, by rw [List.append_assoc], BlocksOf.append h2 t⟩
theorem argsOf_length {G : Gam} {v : Vw} : ∀ {xs : List Operand} {ts : List TypeId} {l : List A}, argsOf T v G ts xs = some l → l.length = xs.length
 | [], _, _, h => by simp only [argsOf, Option.some.injEq] at h; subst h; rfl
 | x :: xs, ts, l, h => by
  simp only [argsOf] at h
  split at h
  ·rename_i y l' _ hl'
   simp only [Option.some.injEq] at h
   subst h
   simp [argsOf_length hl']
  ·cases h
theorem alook_app {α : Type u} {b : Nat} : ∀ {l r : List (Nat × α)}, (∀ p ∈ l, p.1 ≠ b) → alook (l ++ r) b = alook r b
 | [], _, _ => rfl
 | (k, x) :: l, r, h => by
  rw [List.cons_append, alook_cons, if_neg (h (k, x) (by simp)), alook_app (fun p hp => h p (by simp [hp]))]
theorem reCap_ge : ∀ {c : List (Option Nat)} {n b : Nat}, capsAt (reCap n c) b = true → 1000000 + n ≤ b
 | [], _, _, h => by cases h
 | none :: c, n, b, h => by have := reCap_ge (c := c) (n := n + 1) h; omega
 | some _ :: c, n, b, h => by
  simp only [reCap, capsAt, Bool.or_eq_true] at h
  rcases h with h | h
  ·have := Nat.eq_of_beq_eq_true h; omega
  ·have := reCap_ge h; omega
theorem reCap_sound {ty f g : Nat} {tot : List (Option Nat)} : ∀ {caps : List (Option Nat)} {cs : List A} {us : List Value} {X Y : List Nat} {n : Nat}, capArgs E.vw ty f tot caps = some cs → CapsR (fun b => B (.b b)) g caps us → BlocksOf B E (capBoxes caps) X Y →
  CapsR (alook ((boxIds n cs).zip X)) g (reCap n caps) us
 | [], cs, us, X, Y, n, _, h, _ => h
 | none :: caps, cs, us, X, Y, n, hc, ⟨us', e, h⟩, hX => by
  simp only [capArgs] at hc
  split at hc
  ·rename_i as has
   simp only [Option.some.injEq] at hc
   subst hc
   exact ⟨us', e, reCap_sound (n := n + 1) has h hX⟩
  ·cases hc
 | some b :: caps, cs, us, X, Y, n, hc, ⟨g1, us', e, h1, h⟩, ⟨g2, X', Y', e2, h2, _, hX⟩ => by
  simp only [capArgs] at hc
  split at hc
  ·rename_i l as hl has
   simp only [Option.some.injEq] at hc
   subst hc
   subst e2
   have : g2 = g1 := by have h1' : B (.b b) = some g1 := h1; rw [h1'] at h2; exact (Option.some.inj h2).symm
   subst this
   have ih := reCap_sound (n := n + 1) has h hX
   refine ⟨g2, us', e, by simp [boxIds, alook_cons], ih.move (fun b' hb' => ?_)⟩
   have := reCap_ge hb'
   simp only [boxIds, List.zip_cons_cons, alook_cons]
   rw [if_neg (by omega)]
  ·cases hc
theorem capArgs_sound (h : Sim P C S B E a w) {S' : Nat → Prop} (hs : ∀ b, S b → S' b) {bb : Nat → Option Nat} {ty f g : Nat} {tot : List (Option Nat)} {US : Array Value} (htot : CapsR bb g tot US.toList) : ∀ {caps : List (Option Nat)} {cs : List A} {us : List Value},
  capArgs E.vw ty f tot caps = some cs → CapsR (fun b => B (.b b)) g caps us → (capsSelf caps = true → FnAt P S w ty f US g) → ∀ {X Y : List Nat}, BlocksOf B E (capBoxes caps) X Y → ArgsT P S' w bb cs us X Y
 | [], cs, us, hc, h1, _, X, Y, ⟨e1, e2⟩ => by
  simp only [capArgs, Option.some.injEq] at hc
  subst hc e1 e2
  exact ⟨h1, rfl, rfl⟩
 | none :: caps, cs, us, hc, ⟨us', e, h1⟩, hf, X, Y, hX => by
  simp only [capArgs] at hc
  split at hc
  ·rename_i as has
   simp only [Option.some.injEq] at hc
   subst hc
   exact ⟨g, US, us', e, htot, (hf rfl).mono (Keep.refl _ _) hs, capArgs_sound h hs htot has h1 (fun _ => hf rfl) hX⟩
  ·cases hc
 | some b :: caps, cs, us, hc, ⟨g1, us', e, k1, h1⟩, hf, X, Y, ⟨g2, X', Y', e2, k2, e3, hX⟩ => by
  simp only [capArgs] at hc
  split at hc
  ·rename_i l as hl has
   simp only [Option.some.injEq] at hc
   subst hc
   subst e2
   have hl' : alook E.bx b = some l := hl
   have : g2 = g1 := by have k1' : B (.b b) = some g1 := k1; rw [k1'] at k2; exact (Option.some.inj k2).symm
   subst this
   obtain ⟨g3, k3, k4⟩ := h.boxes b l hl'
   have : g3 = g2 := by rw [k3] at k2; exact Option.some.inj k2
   subst this
   rw [hl'] at e3
   exact ⟨g3, us', X', Y', _, e, rfl, e3, k4.move (Keep.refl _ _) hs rfl (fun _ => ⟨rfl, fun _ _ => rfl⟩), capArgs_sound h hs htot has h1 (fun hx => hf hx) hX⟩
  ·cases hc
theorem capBlocks (h : Sim P C S B E a w) {ty f g : Nat} {tot : List (Option Nat)} : ∀ {caps : List (Option Nat)} {cs : List A} {us : List Value}, capArgs E.vw ty f tot caps = some cs → CapsR (fun b => B (.b b)) g caps us → ∃ X Y, BlocksOf B E (capBoxes caps) X Y
 | [], _, _, _, _ => ⟨[], [], rfl, rfl⟩
 | none :: caps, cs, us, hc, ⟨us', e, h1⟩ => by
  simp only [capArgs] at hc
  split at hc
  ·rename_i as has
   obtain ⟨X, Y, hX⟩ := capBlocks (caps := caps) h has h1
   exact ⟨X, Y, hX⟩
  ·cases hc
 | some b :: caps, cs, us, hc, ⟨g1, us', e, k1, h1⟩ => by
  simp only [capArgs] at hc
  split at hc
  ·rename_i l as hl has
   obtain ⟨X, Y, hX⟩ := capBlocks h has h1
   exact ⟨g1 :: X, _, g1, X, Y, rfl, k1, rfl, hX⟩
  ·cases hc

theorem evCallF_ok {G : Gam} (hG : GOk P C G) (h : Sim P C S B E a w) {c : Call} {t ty f : Nat} {caps : List (Option Nat)} (ho : o.op = .call c) (hc : c.callee = .value (.tmp t)) (hn : E.g t = .fn ty f caps)
  (hk : evCallF T E.vw G ty f caps c.argTypes.toList c.args.toList o.dst K = some r) : Ok P C E a w o K r := by
 unfold evCallF at hk
 split at hk
 ·rename_i sp as cs hsp has hcs
  have hok := hG.ok f sp hsp
  obtain ⟨fn, hf, hnm, hb⟩ := hok.enters
  cases hr : (sp (as ++ cs)).o with
  | none => rw [hr] at hk; cases hk
  | some y =>
   rw [hr] at hk
   simp only [Option.bind_some] at hk
   cases hd : (distinct (boxesOf E.vw c.args.toList ++ capBoxes caps) && Nat.beq ((sp (as ++ cs)).out y).length (boxesOf E.vw c.args.toList ++ capBoxes caps).length)
   ·rw [hd] at hk; cases hk
   ·rw [hd, cond_true] at hk
    simp only [Bool.and_eq_true] at hd
    have hsl := h.slots t
    rw [hn] at hsl
    obtain ⟨g, US, hv, hcaps, hself⟩ := hsl
    have hup : ∀ b, S b → (S b ∨ ∃ s ∈ lentOf E.vw c.args.toList, B (.s s) = some b) := fun b hx => .inl hx
    obtain ⟨X1, Y1, hA1, hX1⟩ := args_sound hG h (lentOf E.vw c.args.toList) has (fun _ hx => hx)
    obtain ⟨X2, Y2, hX2⟩ := capBlocks h hcs hcaps
    have hX := BlocksOf.append hX2 hX1
    have hlen : as.length = c.args.toList.length := argsOf_length has
    have hL1 : X1.length = (boxIds 0 as).length := (hA1 (fun _ => none)).boxes
    have htot : CapsR (alook ((boxIds 0 (as ++ cs)).zip (X1 ++ X2))) g (reCap c.args.toList.length caps) US.toList := by
     refine (reCap_sound (n := c.args.toList.length) hcs hcaps hX2).move (fun b hb => ?_)
     have hge := reCap_ge hb
     rw [boxIds_append, Nat.zero_add, hlen, List.zip_append hL1.symm]
     refine alook_app (fun p hp => ?_)
     have := boxIds_lt (List.of_mem_zip hp).1
     omega
    have hA2 := capArgs_sound h hup htot hcs hcaps hself hX2
    have hA : ArgsR P (fun b => S b ∨ ∃ s ∈ lentOf E.vw c.args.toList, B (.s s) = some b) w (as ++ cs) (c.args.toList.map a.eval ++ US.toList) (X1 ++ X2) (Y1 ++ Y2) := ArgsT.append hA2 (hA1 _)
    have hfree : ∀ g ∈ (X1 ++ X2) ++ (Y1 ++ Y2), ¬ (S g ∨ ∃ s ∈ lentOf E.vw c.args.toList, B (.s s) = some g) ∧ g < w.heap.size := by
     intro g hg
     have hown : ∃ l, B l = some g ∧ ∀ s, l ≠ .s s := by
      rcases List.mem_append.1 hg with hg | hg
      ·obtain ⟨b, _, hb⟩ := hX.mem.1 g hg
       exact ⟨_, hb, fun s he => by cases he⟩
      ·obtain ⟨b, _, i, hb⟩ := hX.mem.2 g hg
       exact ⟨_, hb, fun s he => by cases he⟩
     obtain ⟨l, hb, hl⟩ := hown
     obtain ⟨f1, f2, _⟩ := h.free _ g hb
     refine ⟨?_, f2⟩
     rintro (hx | ⟨s, _, hx⟩)
     ·exact f1 hx
     ·exact hl s (h.inj _ _ g hb hx)
    have hbd : ∀ b, (S b ∨ ∃ s ∈ lentOf E.vw c.args.toList, B (.s s) = some b) → b < w.heap.size := by
     rintro b (hx | ⟨s, _, hx⟩)
     ·exact h.sub b hx
     ·exact (h.free _ b hx).2.1
    have hC := hok.calls _ w _ _ _ _ y (fun b hb => .inl (h.sup b hb)) (h.keep0 hG.dis) hbd (hX.nodup h hd.1) hfree hA hr
    have hrun : (execOp a.eval o).run P w = .ok (.enter f (c.args.toList.map a.eval ++ US.toList).toArray) w := by
     have e1 : a.eval (.tmp t) = .func (.func f) #[] US := hv
     have hargs : (c.args.toList.map a.eval ++ US.toList).toArray = c.args.map a.eval ++ US := by apply Array.ext'; simp
     have hn' : ¬ fn.name = "runtime.NumGoroutine" := by simpa using hnm
     have hb' : ¬ fn.body = none := by intro e; rw [e] at hb; cases hb
     rw [hargs]
     simp [execOp, ho, resolve, hc, e1, Deferred.ofValue, invoke, callFunc, hf, hn', hb']
    exact call_ok h (fl := allFlat ((sp (as ++ cs)).res y) && outsFlat ((sp (as ++ cs)).out y)) hrun (lent_own h) hd.1 hX (fun hfl => by simpa using hfl) hC hk
 ·cases hk

theorem evCallX_ok {G : Gam} (hG : GOk P C G) (h : Sim P C S B E a w) {c : Call} {t : Nat} (ho : o.op = .call c) (hc : c.callee = .value (.tmp t))
  (hk : evCallX T E.vw G t c.argTypes.toList c.args.toList o.dst K = some r) : Ok P C E a w o K r := by
 unfold evCallX at hk
 split at hk
 ·rename_i ty f caps hn
  exact evCallF_ok hG h ho hc hn hk
 ·exact evCallV_ok h ho hc hk

end
end Go.Proofs.YtecdijlfnnminaaGreatDoor.Eng
namespace Go.Proofs.YtecdijlfnnminaaGreatDoor.Eng
open Go Go.RowKit
set_option linter.unusedVariables false
set_option linter.unusedSimpArgs false

section
universe u
variable {R : Type u} {P : Program} {T : Tys} {C : Ctx} {S : Nat → Prop} {B : Loc → Option Nat} {E : Env} {a : Act} {w : World} {o : Oper} {r : R} {K : List Cmd → Option R}

theorem alook_boxOut (b : Nat) (c : Nat) : ∀ l : List (Nat × List V), alook (boxOut l b) c = if b = c then none else alook l c
 | [] => by simp [boxOut, alook]
 | (k, v) :: r => by
  simp only [boxOut]
  by_cases hk : k = b
  ·subst hk
   simp only [beq_self, cond_true, alook_boxOut k c r, alook_cons]
   split <;> simp_all
  ·simp only [beq_false hk, cond_false, alook_cons, alook_boxOut b c r]
   by_cases hkc : k = c
   ·subst hkc; simp [Ne.symm hk]
   ·simp [hkc]

theorem oddL_cons {v : V} {l : List V} (h : oddL (v :: l) = false) : oddL l = false ∧ ∀ (S : Nat → Prop) (w : World) (o : Option Nat) (u : Value), LeafR S w o v u → Cells S w v.t v.x [u] := by
 cases v with | mk vt vx =>
 cases vt with
 | pair p q => cases h
 | _ => exact ⟨h, fun _ _ _ _ hx => hx⟩
theorem oddL_row {l : List V} (h : oddL l = false) : rowL l = false := by
 cases l with
 | nil => rfl
 | cons v l =>
  cases v with | mk vt vx =>
  cases vt with
  | pair p q => cases h
  | _ => rfl
theorem leaves_fields {ob : Nat → Option Nat} : ∀ {l : List V} {cs : List Value} {i : Nat}, oddL l = false → LeavesR S w ob i l cs → FieldsR S w l cs
 | [], _, _, _, h => h
 | _ :: _, _, _, ho, ⟨u, r, e, h1, h2⟩ => ⟨[u], r, e, (oddL_cons ho).2 _ _ _ _ h1, leaves_fields (oddL_cons ho).1 h2⟩
theorem oddL_drop : ∀ {l : List V} (n : Nat), oddL l = false → oddL (l.drop n) = false
 | _, 0, h => h
 | [], n + 1, _ => rfl
 | v :: l, n + 1, h => oddL_drop (l := l) n (oddL_cons h).1

theorem boxRef_sound {ob : Nat → Option Nat} {l : List V} {g : Nat} (h : BoxR S w ob l g) (hS : S g) {off : Nat} {v : Value} (hv : v = .pointer (some ⟨g, off, none⟩)) :
  (∃ y, (if off = 0 then V.mk' l else l[off]?) = some y ∧ boxRef l off = .cref y.t y.x ∧ CrefR S w y.t y.x v) ∨ boxRef l off = .undef := by
 obtain ⟨cells, id, hg, hl0⟩ := h
 cases hrl : oddL l
 case true => right; unfold boxRef; rw [hrl]; rfl
 have hl := hl0.leaves (oddL_row hrl)
 have hlt : g < w.heap.size := (Array.getElem?_eq_some_iff.1 hg).1
 unfold boxRef
 rw [hrl, cond_false]
 cases hy : (if off = 0 then V.mk' l else l[off]?) with
 | none => exact .inr rfl
 | some y =>
  refine .inl ⟨y, rfl, rfl, ?_⟩
  by_cases h0 : off = 0
  ·rw [if_pos h0] at hy
   subst h0
   refine ⟨g, 0, cells.toList, hv, hS, hlt, mk_sound (leaves_fields hrl hl) hy, fun j u hu => ?_⟩
   rw [cell_of_row w g _ cells id (0, 0) hg, Nat.zero_add]
   simpa using hu
  ·rw [if_neg h0] at hy
   have hd := hl.drop off
   have hlo : off < l.length := (List.getElem?_eq_some_iff.1 hy).1
   have hld : l.drop off = y :: l.drop (off + 1) := by
    rw [List.drop_eq_getElem_cons hlo]
    rw [List.getElem?_eq_getElem hlo] at hy
    rw [Option.some.inj hy]
   have hod := oddL_drop off hrl
   rw [hld] at hd hod
   obtain ⟨u, rr, e, h1', _⟩ := hd
   have h1 := (oddL_cons hod).2 _ _ _ _ h1'
   refine ⟨g, off, [u], hv, hS, hlt, h1, fun j u' hu => ?_⟩
   cases j with
   | succ j => simp at hu
   | zero =>
    simp only [List.getElem?_cons_zero, Option.some.injEq] at hu
    subst hu
    rw [cell_of_row w g _ cells id (0, 0) hg, Nat.add_zero]
    have : (cells.toList.drop off)[0]? = some u := by rw [e]; rfl
    rw [List.getElem?_drop] at this
    simpa using this

theorem refBox_own {b : Nat} {l : List V} {sv : SV} (h : sv.isOwn = true) : refBox b l sv = sv := by cases sv <;> simp_all [SV.isOwn, refBox]

/-- A box becomes memory of all. -/
theorem Sim.fzbox (h : Sim P C S B E a w) {b : Nat} (hb : b < 1000000) : ∃ S' B', Sim P C S' B' (E.do1 (.fzbox b)) a w ∧ (∀ x, S x → S' x) ∧ (∀ g l, alook E.bx b = some l → B (.b b) = some g → S' g) ∧ (∀ k, k ≠ .b b → B' k = B k) := by
 cases hl : alook E.bx b with
 | none => exact ⟨S, B, by simp only [Env.do1, hl]; exact h, fun _ hx => hx, (fun g l he => by cases he), fun _ _ => rfl⟩
 | some l =>
  obtain ⟨g, hg, hbox⟩ := h.boxes b l hl
  have hge := (h.free _ g hg).2.2
  let S' : Nat → Prop := fun x => S x ∨ x = g
  let B' : Loc → Option Nat := fun k => if k = .b b then none else B k
  have hsub : ∀ x, S x → S' x := fun _ hx => .inl hx
  have hE : E.do1 (.fzbox b) = ⟨E.nt, amap (refBox b l) E.sl, boxOut E.bx b⟩ := by simp only [Env.do1, hl]
  have hgn : ∀ n, (E.do1 (.fzbox b)).g n = refBox b l (E.g n) := fun n => by
   rw [hE]; simp only [Env.g, alook_amap]
   cases alook E.sl n <;> rfl
  refine ⟨S', B', ?_, hsub, fun g' l' _ hg' => .inr (by rw [hg] at hg'; exact (Option.some.inj hg').symm), fun k hk => by simp [B', hk]⟩
  refine ⟨by rw [hE]; exact h.size, h.defers, h.kept, ?_, ?_, fun x hx => .inl (h.sup x hx), ?_, ?_, ?_, ?_, fun c hc => ?_⟩
  ·rintro x (hx | rfl)
   ·exact h.sub x hx
   ·exact (h.free _ _ hg).2.1
  ·rintro x (hx | rfl)
   ·exact h.frm x hx
   ·exact .inr hge
  ·intro k k' g' h1 h2
   have k1 : B k = some g' := by by_cases e : k = .b b <;> simp [B', e] at h1; exact h1
   have k2 : B k' = some g' := by by_cases e : k' = .b b <;> simp [B', e] at h2; exact h2
   exact h.inj k k' g' k1 k2
  ·intro k g' h1
   have hne : k ≠ .b b := by rintro rfl; simp [B'] at h1
   have k1 : B k = some g' := by simpa [B', hne] using h1
   obtain ⟨f1, f2, f3⟩ := h.free k g' k1
   refine ⟨?_, f2, f3⟩
   rintro (hx | rfl)
   ·exact f1 hx
   ·exact hne (h.inj k _ _ k1 hg)
  ·intro n
   rw [hgn]
   have hn := h.slots n
   by_cases hat : (E.g n).atBox b = true
   ·cases hnn : E.g n with
    | ptr c off =>
     rw [hnn] at hat hn
     have hcb := Nat.eq_of_beq_eq_true (show Nat.beq c b = true from hat)
     subst hcb
     obtain ⟨g', k1, k2⟩ := hn
     have : g' = g := by rw [hg] at k1; exact (Option.some.inj k1).symm
     subst this
     simp only [refBox, beq_self, cond_true]
     rcases boxRef_sound (S := S') (hbox.move (Keep.refl _ _) hsub rfl (fun _ => ⟨rfl, fun _ _ => rfl⟩)) (.inr rfl) k2 with ⟨y, _, h2, h3⟩ | h2
     ·rw [h2]; exact h3
     ·rw [h2]; trivial
    | rref c len e =>
     rw [hnn] at hat
     have hcb : Nat.beq c b = true := hat
     simp only [refBox, hcb, cond_true]; trivial
    | fn ty f c =>
     rw [hnn] at hat
     have hcb : capsAt c b = true := hat
     simp only [refBox, dropFn, hcb, cond_true]; trivial
    | fp ty f c =>
     rw [hnn] at hat
     have hcb : capsAt c b = true := hat
     simp only [refBox, dropFn, hcb, cond_true]; trivial
    | rel c i e =>
     rw [hnn] at hat
     have hcb : Nat.beq c b = true := hat
     simp only [refBox, hcb, cond_true]; trivial
    | _ => rw [hnn] at hat; simp [SV.atBox] at hat
   ·have hd : refBox b l (E.g n) = E.g n := by
     cases hnn : E.g n with
     | ptr c off =>
      rw [hnn] at hat
      have : Nat.beq c b = false := by cases hq : Nat.beq c b; rfl; exact absurd hq hat
      simp [refBox, this]
     | rref c len e =>
      rw [hnn] at hat
      have : Nat.beq c b = false := by cases hq : Nat.beq c b; rfl; exact absurd hq hat
      simp [refBox, this]
     | fn ty f c =>
      rw [hnn] at hat
      have : capsAt c b = false := by cases hq : capsAt c b; rfl; exact absurd hq hat
      simp [refBox, dropFn, this]
     | fp ty f c =>
      rw [hnn] at hat
      have : capsAt c b = false := by cases hq : capsAt c b; rfl; exact absurd hq hat
      simp [refBox, dropFn, this]
     | rel c i e =>
      rw [hnn] at hat
      have : Nat.beq c b = false := by cases hq : Nat.beq c b; rfl; exact absurd hq hat
      simp [refBox, this]
     | _ => rfl
    rw [hd]
    refine hn.move (Keep.refl _ _) hsub rfl ?_ (fun _ _ _ _ => rfl) ?_ ?_
    ·intro k hk
     have : k ≠ .b b := by rintro rfl; have := SV.needs_at hk; cases this
     simp [B', this]
    ·intro c hc
     have : Loc.b c ≠ .b b := by rintro he; injection he with he; subst he; exact hat hc
     simp [B', this]
    ·intro s hr
     have ho := hn.leans hr
     exact ⟨rfl, by rw [hgn, refBox_own ho], by simp [B']⟩
  ·intro c l' hc
   rw [hE] at hc
   have hc' : alook (boxOut E.bx b) c = some l' := hc
   rw [alook_boxOut] at hc'
   split at hc'
   ·cases hc'
   ·rename_i hbc
    obtain ⟨g', h1, h2⟩ := h.boxes c l' hc'
    have : Loc.b c ≠ .b b := by rintro he; injection he with he; exact hbc he.symm
    exact ⟨g', by simp [B', this, h1], h2.move (Keep.refl _ _) hsub rfl (fun j => ⟨by simp [B'], fun _ _ => rfl⟩)⟩
  ·have : Loc.b c ≠ .b b := by rintro he; injection he with he; omega
   exact (show B' (.b c) = B (.b c) by simp [B', this]).trans (h.inb c hc)

theorem Sim.fzboxes : ∀ (bs : List Nat) {S : Nat → Prop} {B : Loc → Option Nat} {E : Env}, Sim P C S B E a w → (∀ b ∈ bs, b < 1000000) →
  ∃ S' B', Sim P C S' B' (E.run (bs.map .fzbox)) a w ∧ (E.run (bs.map .fzbox)).nt = E.nt ∧ (∀ x, S x → S' x) ∧ ∀ b ∈ bs, ∀ g l, alook E.bx b = some l → B (.b b) = some g → S' g
 | [], S, B, E, h, _ => ⟨S, B, h, rfl, fun _ hx => hx, fun b hb => by simp at hb⟩
 | b :: bs, S, B, E, h, hlt => by
  obtain ⟨S1, B1, h1, a1, b1, c1⟩ := h.fzbox (hlt b (by simp))
  obtain ⟨S2, B2, h2, n2, a2, b2⟩ := Sim.fzboxes bs h1 (fun b' hb' => hlt b' (by simp [hb']))
  have hnt : (E.do1 (.fzbox b)).nt = E.nt := by simp only [Env.do1]; split <;> rfl
  refine ⟨S2, B2, h2, n2.trans hnt, fun x hx => a2 x (a1 x hx), fun b' hb' g l hl hg => ?_⟩
  by_cases hbb : b' = b
  ·subst hbb; exact a2 g (b1 g l hl hg)
  ·rcases List.mem_cons.1 hb' with hb' | hb'
   ·exact absurd hb' hbb
   ·refine b2 b' hb' g l ?_ (by rw [c1 _ (by intro he; injection he with he; exact hbb he)]; exact hg)
    simp only [Env.do1]
    cases hq : alook E.bx b with
    | none => exact hl
    | some l0 => show alook (boxOut E.bx b) b' = _; rw [alook_boxOut, if_neg (Ne.symm hbb)]; exact hl

theorem caps_sound (h : Sim P C S B E a w) {S' : Nat → Prop} (hs : ∀ b, S b → S' b) : ∀ {caps : List Operand} {l : List A}, capsOf E.vw caps = some l → (∀ b ∈ boxesOf E.vw caps, ∀ g bl, alook E.bx b = some bl → B (.b b) = some g → S' g) →
  CrefsR S' w l (caps.map a.eval)
 | [], l, hl, _ => by simp only [capsOf, Option.some.injEq] at hl; subst hl; rfl
 | x :: caps, l, hl, hb => by
  cases x with
  | tmp t =>
   have hgt : E.vw.g t = E.g t := rfl
   have hsl := h.slots t
   simp only [capsOf, hgt] at hl
   split at hl
   ·rename_i b l' hn hl'
    split at hl
    ·rename_i bl hbl
     cases hrl : oddL bl
     case true => rw [hrl] at hl; cases hl
     rw [hrl, cond_false] at hl
     split at hl
     ·rename_i y hy
      simp only [Option.some.injEq] at hl
      subst hl
      rw [hn] at hsl
      obtain ⟨g, k1, k2⟩ := hsl
      obtain ⟨g', k3, k4⟩ := h.boxes b bl hbl
      have : g' = g := by rw [k3] at k1; exact Option.some.inj k1
      subst this
      have hbx : boxesOf E.vw (.tmp t :: caps) = b :: boxesOf E.vw caps := by simp only [boxesOf, hgt, hn]
      rw [hbx] at hb
      have hSg := hb b (by simp) g' bl hbl k3
      have hcr : CrefR S' w y.t y.x (tv a t) := by
       rcases boxRef_sound (k4.move (Keep.refl _ _) hs rfl (fun _ => ⟨rfl, fun _ _ => rfl⟩)) hSg k2 with ⟨y', h1, _, h3⟩ | h2
       ·simp only [if_true] at h1
        rw [hy] at h1
        cases h1
        exact h3
       ·simp [boxRef, hy, hrl] at h2
      exact ⟨_, _, rfl, hcr, caps_sound h hs hl' (fun b' hb' => hb b' (by simp [hb']))⟩
     ·cases hl
    ·cases hl
   ·rename_i t' y l' hn hl'
    simp only [Option.some.injEq] at hl
    subst hl
    rw [hn] at hsl
    have hbx : boxesOf E.vw (.tmp t :: caps) = boxesOf E.vw caps := by simp only [boxesOf, hgt, hn]
    rw [hbx] at hb
    exact ⟨_, _, rfl, CrefR.mono hsl (Keep.refl _ _) hs, caps_sound h hs hl' hb⟩
   ·cases hl
  | _ => simp [capsOf] at hl

theorem evMakeFunc_ok {G : Gam} (hG : GOk P C G) (h : Sim P C S B E a w) {fn : Fn} {first caps : Array Operand} (ho : o.op = .makeFunc fn first caps) (hk : evMakeFunc E.vw G fn first.toList caps.toList o.dst K = some r) : Ok P C E a w o K r := by
 unfold evMakeFunc at hk
 split at hk
 ·rename_i f hfirst
  split at hk
  ·rename_i sp l hsp hl
   cases hall : (boxesOf E.vw caps.toList).all (fun b => Nat.blt b 1000000)
   ·rw [hall] at hk; cases hk
   ·rw [hall, cond_true] at hk
    have hlt : ∀ b ∈ boxesOf E.vw caps.toList, b < 1000000 := fun b hb => by
     have := List.all_eq_true.1 hall b hb
     simpa [Nat.blt_eq] using this
    obtain ⟨S', B', hs1, hnt, hsub, hbx⟩ := h.fzboxes _ hlt
    have hcr := caps_sound h hsub hl hbx
    have hok := hG.ok f sp hsp
    have hfe : first = #[] := by apply Array.ext'; simpa using hfirst
    have hrun : (execOp a.eval o).run P w = .ok (.value (.func (.func f) #[] (caps.map a.eval))) w := by
     simp [execOp, ho, hfe, Instr.makeFunc]
    obtain ⟨d, hd, hltd, hk'⟩ := putC_some hk
    refine ⟨_, hk', Goes.value (S' := S') (B' := dropAt B' d) hrun ?_⟩
    rw [hd, run_cmds_append]
    have hdt : d < a.tmps.size := by rw [h.size]; exact hltd
    refine hs1.putPlain (by rw [hnt]; exact hltd) (Below.refl _ _) (fun _ hx => hx) (fun _ hx => .inl hx) hs1.sub ?_
    show CloR P S' w _ _
    rw [tv_put hdt, if_pos rfl]
    exact clo_sound hG hsp (by rw [Array.toList_map]; exact hcr) hs1.sup (hs1.keep0 hG.dis)
  ·cases hk
 ·cases hk

/-- Every operation does what is told of it. -/
theorem evOp_ok (hT : TOk P T) {G : Gam} (hG : GOk P C G) (h : Sim P C S B E a w) {sh : List Nat} (hk : evOp T E.vw G sh o K = some r) : Ok P C E a w o K r := by
 unfold evOp at hk
 split at hk
 ·rename_i ho; exact evMove_ok h (by simp [execOp, ho]) hk
 ·rename_i ho; exact evAssign_ok h (by simp [execOp, ho]) hk
 ·rename_i ho; exact evPick2_ok h ho hk
 ·rename_i t0 ho
  cases hf : sh.contains (3000000 + o.dst.getD 0)
  ·rw [hf, cond_false] at hk; exact evAlloc_ok hT h ho hk
  ·rw [hf, cond_true] at hk; exact evAllocN_ok hT h ho hk
 ·rename_i ho; exact evBox_ok hT h ho hk
 ·rename_i t0 ps ho
  cases hf : sh.contains (3000000 + o.dst.getD 0)
  ·rw [hf, cond_false] at hk; exact evBuild_ok hT h ho hk
  ·rw [hf, cond_true] at hk; exact evBuildN_ok hT h ho hk
 ·rename_i ho; exact evBuildSlice_ok hT h ho hk
 ·rename_i ho; exact evLoad_ok hT h ho hk
 ·rename_i ho; exact evStore_ok hT h ho hk
 ·rename_i ho; exact evNilCheck_ok h ho hk
 ·rename_i ho; exact evBin_ok hT h ho hk
 ·rename_i ho; exact evUn_ok h ho hk
 ·rename_i ho; exact evConvert_ok hT h ho hk
 ·rename_i fn first caps ho
  cases hf : sh.contains (6000000 + o.dst.getD 0)
  ·rw [hf, cond_false] at hk; exact evMakeFunc_ok hG h ho hk
  ·rw [hf, cond_true] at hk; exact evMakeFn_ok h ho hk
 ·rename_i ho; exact evMakeSlice_ok hT h ho hk
 ·rename_i ho; exact evSlice_ok hT h ho hk
 ·rename_i ho; exact evFieldAddr_ok hT h ho hk
 ·rename_i ho; exact evField_ok hT h ho hk
 ·rename_i ho; exact evIndexAddr_ok hT h ho hk
 ·rename_i ho; exact evIndex_ok hT h ho hk
 ·rename_i ho; exact evExtract_ok hT h ho hk
 ·rename_i c ho
  split at hk
  ·rename_i f hc
   cases hrow : sh.contains (2000000 + f)
   ·rw [hrow, cond_false] at hk; exact evCall_ok hG h ho hc hk
   ·rw [hrow, cond_true] at hk; exact evCallR_ok hG h ho hc hk
  ·rename_i t hc; exact evCallX_ok hG h ho hc hk
  ·rename_i hc
   split at hk
   ·rename_i x y t t' hxs hts
    cases htt : Nat.beq t t'
    ·rw [htt] at hk; cases hk
    ·rw [htt] at hk
     have := Nat.eq_of_beq_eq_true htt
     subst this
     exact evAppend_ok hT h ho hc hxs hts hk
   ·cases hk
  ·rename_i hc
   split at hk
   ·rename_i x t hxs hts; exact evLen_ok hT h ho hc hxs hts hk
   ·cases hk
  ·rename_i hc; exact evMin_ok h ho hc hk
  ·rename_i hc; exact evMax_ok h ho hc hk
  ·cases hk
 ·cases hk

theorem evOpN_ok (hT : TOk P T) {G : Gam} (hG : GOk P C G) (h : Sim P C S B E a w) {sh : List Nat} (hk : evOpN T E.vw G sh o K = some r) : Ok P C E a w o K r := by
 unfold evOpN at hk
 split at hk
 ·rename_i op xt x y yt ho
  cases hf : isNil op y
  ·rw [hf, cond_false] at hk; exact evBin_ok hT h ho hk
  ·rw [hf, cond_true] at hk; exact evNil_ok hT h ho hf hk
 ·exact evOp_ok hT hG h hk

end
end Go.Proofs.YtecdijlfnnminaaGreatDoor.Eng
