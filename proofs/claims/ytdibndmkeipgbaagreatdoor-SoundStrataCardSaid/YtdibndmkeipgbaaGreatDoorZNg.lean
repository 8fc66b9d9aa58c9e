/- What is proved: A program of rules that stands in memory, read as a value. Conditions: those that stand in the statements. -/
import Derived.Test.YtdibndmkeipgbaaGreatDoorZRead
import Derived.Test.YtdibndmkeipgbaaGreatDoorZUlj
import Derived.KernelRfl
set_option linter.unusedSimpArgs false
set_option linter.unusedVariables false
set_option maxRecDepth 100000
namespace Go.Proofs.YtdibndmkeipgbaaGreatDoor
open Go.RowKit

section
variable {H : Type} {enc : TypeId × Value → H} {w : World}
theorem CellsR.appU {G : Gh} {a b : List Value} {xs ys : List VV} (h : CellsR G a xs) (k : CellsR G b ys) : CellsR G (a ++ b) (xs ++ ys) := by
  obtain ⟨h1, h2, h3⟩ := h
  obtain ⟨k1, k2, k3⟩ := k
  refine ⟨by simp [h1, k1], fun y hy => ?_, fun j v y hv hy => ?_⟩
  · rcases List.mem_append.1 hy with hy | hy
    · exact h2 y hy
    · exact k2 y hy
  · rcases Nat.lt_or_ge j a.length with hj | hj
    · rw [List.getElem?_append_left hj] at hv
      rw [List.getElem?_append_left (by omega)] at hy
      exact h3 j v y hv hy
    · rw [List.getElem?_append_right hj] at hv
      rw [List.getElem?_append_right (by omega), ← h1] at hy
      exact k3 _ v y hv hy
theorem rd_strsU {fuel : Nat} {cs : List Value} {x : DataW H × List MemPlace} (h : DataW.trod enc Tryz.prog w 0 (fun _ => true) true fuel 35 cs = some x) (hw : Wt Tryz.prog 35 x.1) :
    ∃ l : List (List UInt8), CellsR (GhW w) cs [.lst (strs l) .no] ∧ l.length ≤ 140737488355328 ∧ ∀ t, t ∈ l → t.length ≤ 140737488355328 := by
  obtain ⟨xss, h1, h2, h3⟩ := rd_slice (Q := fun xs => ∃ t : List UInt8, xs = [.str t] ∧ t.length ≤ 140737488355328) (sz := 1) Tryz.underlying35 (by kernel_rfl) (by omega) (by decide +kernel) h hw (fun n cs' y _ hy hwy => by
    obtain ⟨t, ht1, ht2⟩ := rd_str (GhW w) Tryz.underlying9 hy hwy
    exact ⟨[.str t], ht1, rfl, t, rfl, reach_le ht2⟩)
  obtain ⟨l, rfl, hl⟩ := list_of (C := fun t : List UInt8 => [VV.str t]) xss h2
  have e : strs l = l.map fun t => [VV.str t] := rfl
  refine ⟨l, ?_, by rw [List.length_map] at h3; exact reach_le h3, hl⟩
  rw [e]
  exact h1
theorem rd_trm {fuel : Nat} {cs : List Value} {x : DataW H × List MemPlace} (h : DataW.trod enc Tryz.prog w 0 (fun _ => true) true fuel 70 cs = some x) (hw : Wt Tryz.prog 70 x.1) :
    ∃ t : Trm, CellsR (GhW w) cs (trmC t) ∧ t.nm.length ≤ 140737488355328 ∧ -9223372036854775808 ≤ t.n ∧ t.n ≤ 9223372036854775807 := by
  obtain ⟨n, hn, hl, hf⟩ := rd_fields Tryz.underlying70 (by kernel_rfl) (fieldsOk_spec (by decide +kernel)) h hw
  obtain ⟨v0, y0, e0, t0, w0⟩ := hf 0 _ rfl
  obtain ⟨v1, y1, e1, t1, w1⟩ := hf 1 _ rfl
  obtain ⟨v2, y2, e2, t2, w2⟩ := hf 2 _ rfl
  obtain ⟨b, r0⟩ := rd_bool (GhW w) Tryz.underlying4 t0
  obtain ⟨d, r1, l1⟩ := rd_str (GhW w) Tryz.underlying9 t1 w1
  obtain ⟨k, r2, l2⟩ := rd_i64 (GhW w) Tryz.underlying3 t2
  refine ⟨⟨b, d, k⟩, CellsR.of (by rw [hl]; rfl) fun j y hy => ?_, reach_le l1, l2⟩
  simp only [trmC] at hy
  match j with
  | 0 => simp at hy; subst hy; exact ⟨v0, e0, r0.get1⟩
  | 1 => simp at hy; subst hy; exact ⟨v1, e1, r1.get1⟩
  | 2 => simp at hy; subst hy; exact ⟨v2, e2, r2.get1⟩
  | j + 3 => simp at hy
theorem rd_atm {fuel : Nat} {cs : List Value} {x : DataW H × List MemPlace} (h : DataW.trod enc Tryz.prog w 0 (fun _ => true) true fuel 47 cs = some x) (hw : Wt Tryz.prog 47 x.1) :
    ∃ a : Atm, CellsR (GhW w) cs (atmC a) ∧ AtmOk a := by
  obtain ⟨n, hn, hl, hf⟩ := rd_fields Tryz.underlying47 (by kernel_rfl) (fieldsOk_spec (by decide +kernel)) h hw
  obtain ⟨v0, y0, e0, t0, w0⟩ := hf 0 _ rfl
  obtain ⟨v1, y1, e1, t1, w1⟩ := hf 1 _ rfl
  obtain ⟨v2, y2, e2, t2, w2⟩ := hf 2 _ rfl
  obtain ⟨b, r0⟩ := rd_bool (GhW w) Tryz.underlying4 t0
  obtain ⟨d, r1, l1⟩ := rd_str (GhW w) Tryz.underlying9 t1 w1
  obtain ⟨xss, h1, h2, h3⟩ := rd_slice (Q := fun xs => ∃ t : Trm, xs = trmC t ∧ t.nm.length ≤ 140737488355328 ∧ -9223372036854775808 ≤ t.n ∧ t.n ≤ 9223372036854775807) (sz := 3) Tryz.underlying45 (by kernel_rfl) (by omega) (by decide +kernel) t2 w2 (fun n cs' y hn hy hwy => by
    obtain ⟨m, hs1, hs2⟩ := rd_trm hy hwy
    exact ⟨trmC m, hs1, rfl, m, rfl, hs2⟩)
  obtain ⟨ms, rfl, hms⟩ := list_of xss h2
  refine ⟨⟨b, d, ms⟩, CellsR.of (by rw [hl]; rfl) fun j y hy => ?_, reach_le l1, by rw [List.length_map] at h3; exact reach_le h3, hms⟩
  simp only [atmC] at hy
  match j with
  | 0 => simp at hy; subst hy; exact ⟨v0, e0, r0.get1⟩
  | 1 => simp at hy; subst hy; exact ⟨v1, e1, r1.get1⟩
  | 2 => simp at hy; subst hy; exact ⟨v2, e2, h1.get1⟩
  | j + 3 => simp at hy
theorem rd_rul {fuel : Nat} {cs : List Value} {x : DataW H × List MemPlace} (h : DataW.trod enc Tryz.prog w 0 (fun _ => true) true fuel 50 cs = some x) (hw : Wt Tryz.prog 50 x.1) :
    ∃ a : Rul, CellsR (GhW w) cs (rulC a) ∧ RulOk a := by
  obtain ⟨n, hn, hl, hf⟩ := rd_field Tryz.underlying50 h hw
  obtain ⟨y0, t0, w0⟩ := hf 0 _ rfl
  obtain ⟨y1, t1, w1⟩ := hf 1 _ rfl
  have c4 : Tryz.prog.cellsOf 50 = 4 := by kernel_rfl
  have c3 : Tryz.prog.cellsOf 47 = 3 := by kernel_rfl
  have c1 : Tryz.prog.cellsOf 48 = 1 := by kernel_rfl
  rw [c4] at hl
  have t0' : DataW.trod enc Tryz.prog w 0 (fun _ => true) true n 47 (cs.take 3) = some y0 := by rw [← c3]; exact t0
  have t1' : DataW.trod enc Tryz.prog w 0 (fun _ => true) true n 48 ((cs.drop 3).take 1) = some y1 := by rw [← c1]; exact t1
  obtain ⟨a, r0, l0⟩ := rd_atm t0' w0
  obtain ⟨xss, h1, h2, h3⟩ := rd_slice (Q := fun xs => ∃ t : Atm, xs = atmC t ∧ AtmOk t) (sz := 3) Tryz.underlying48 (by kernel_rfl) (by omega) (by decide +kernel) t1' w1 (fun n cs' y hn hy hwy => by
    obtain ⟨m, hs1, hs2⟩ := rd_atm hy hwy
    exact ⟨atmC m, hs1, rfl, m, rfl, hs2⟩)
  obtain ⟨ms, rfl, hms⟩ := list_of xss h2
  refine ⟨⟨a, ms⟩, ?_, l0, by rw [List.length_map] at h3; exact reach_le h3, hms⟩
  have e : cs = cs.take 3 ++ (cs.drop 3).take 1 := by
    rw [List.take_of_length_le (l := cs.drop 3) (by rw [List.length_drop]; omega), List.take_append_drop]
  rw [e]
  obtain ⟨an, ar, at_⟩ := a
  exact r0.appU h1
theorem rd_dm {fuel : Nat} {cs : List Value} {x : DataW H × List MemPlace} (h : DataW.trod enc Tryz.prog w 0 (fun _ => true) true fuel 42 cs = some x) (hw : Wt Tryz.prog 42 x.1) :
    ∃ t : Dm, CellsR (GhW w) cs (dmC t) ∧ DmOk t := by
  obtain ⟨n, hn, hl, hf⟩ := rd_fields Tryz.underlying42 (by kernel_rfl) (fieldsOk_spec (by decide +kernel)) h hw
  obtain ⟨v0, y0, e0, t0, w0⟩ := hf 0 _ rfl
  obtain ⟨v1, y1, e1, t1, w1⟩ := hf 1 _ rfl
  obtain ⟨d, r0, l0⟩ := rd_str (GhW w) Tryz.underlying9 t0 w0
  obtain ⟨k, r1, l1⟩ := rd_i64 (GhW w) Tryz.underlying3 t1
  refine ⟨⟨d, k⟩, CellsR.of (by rw [hl]; rfl) fun j y hy => ?_, reach_le l0, l1⟩
  simp only [dmC] at hy
  match j with
  | 0 => simp at hy; subst hy; exact ⟨v0, e0, r0.get1⟩
  | 1 => simp at hy; subst hy; exact ⟨v1, e1, r1.get1⟩
  | j + 2 => simp at hy
theorem rd_dcl {fuel : Nat} {cs : List Value} {x : DataW H × List MemPlace} (h : DataW.trod enc Tryz.prog w 0 (fun _ => true) true fuel 44 cs = some x) (hw : Wt Tryz.prog 44 x.1) :
    ∃ t : Dcl, CellsR (GhW w) cs (dclC t) ∧ DclOk t := by
  obtain ⟨n, hn, hl, hf⟩ := rd_fields Tryz.underlying44 (by kernel_rfl) (fieldsOk_spec (by decide +kernel)) h hw
  obtain ⟨v0, y0, e0, t0, w0⟩ := hf 0 _ rfl
  obtain ⟨v1, y1, e1, t1, w1⟩ := hf 1 _ rfl
  obtain ⟨d, r0, l0⟩ := rd_str (GhW w) Tryz.underlying9 t0 w0
  obtain ⟨l, r1, l1⟩ := rd_strsU t1 w1
  refine ⟨⟨d, l⟩, CellsR.of (by rw [hl]; rfl) fun j y hy => ?_, reach_le l0, l1⟩
  simp only [dclC] at hy
  match j with
  | 0 => simp at hy; subst hy; exact ⟨v0, e0, r0.get1⟩
  | 1 => simp at hy; subst hy; exact ⟨v1, e1, r1.get1⟩
  | j + 2 => simp at hy
/-- A program. -/
theorem rd_pgm {fuel : Nat} {cs : List Value} {x : DataW H × List MemPlace} (h : DataW.trod enc Tryz.prog w 0 (fun _ => true) true fuel 26 cs = some x) (hw : Wt Tryz.prog 26 x.1) :
    ∃ t : Pgm, CellsR (GhW w) cs (pgC t) ∧ PgmOk t := by
  obtain ⟨n, hn, hl, hf⟩ := rd_fields Tryz.underlying26 (by kernel_rfl) (fieldsOk_spec (by decide +kernel)) h hw
  obtain ⟨v0, y0, e0, t0, w0⟩ := hf 0 _ rfl
  obtain ⟨v1, y1, e1, t1, w1⟩ := hf 1 _ rfl
  obtain ⟨v2, y2, e2, t2, w2⟩ := hf 2 _ rfl
  obtain ⟨x0, r0, p0, q0⟩ := rd_slice (Q := fun xs => ∃ t : Dm, xs = dmC t ∧ DmOk t) (sz := 2) Tryz.underlying22 (by kernel_rfl) (by omega) (by decide +kernel) t0 w0 (fun n cs' y hn hy hwy => by
    obtain ⟨m, hs1, hs2⟩ := rd_dm hy hwy
    exact ⟨dmC m, hs1, rfl, m, rfl, hs2⟩)
  obtain ⟨x1, r1, p1, q1⟩ := rd_slice (Q := fun xs => ∃ t : Dcl, xs = dclC t ∧ DclOk t) (sz := 2) Tryz.underlying23 (by kernel_rfl) (by omega) (by decide +kernel) t1 w1 (fun n cs' y hn hy hwy => by
    obtain ⟨m, hs1, hs2⟩ := rd_dcl hy hwy
    exact ⟨dclC m, hs1, rfl, m, rfl, hs2⟩)
  obtain ⟨x2, r2, p2, q2⟩ := rd_slice (Q := fun xs => ∃ t : Rul, xs = rulC t ∧ RulOk t) (sz := 4) Tryz.underlying24 (by kernel_rfl) (by omega) (by decide +kernel) t2 w2 (fun n cs' y hn hy hwy => by
    obtain ⟨m, hs1, hs2⟩ := rd_rul hy hwy
    exact ⟨rulC m, hs1, rfl, m, rfl, hs2⟩)
  obtain ⟨m0, rfl, hm0⟩ := list_of x0 p0
  obtain ⟨m1, rfl, hm1⟩ := list_of x1 p1
  obtain ⟨m2, rfl, hm2⟩ := list_of x2 p2
  rw [List.length_map] at q0 q1 q2
  refine ⟨⟨m0, m1, m2⟩, CellsR.of (by rw [hl]; rfl) fun j y hy => ?_, reach_le q0, reach_le q1, reach_le q2, hm0, hm1, hm2⟩
  simp only [pgC] at hy
  match j with
  | 0 => simp at hy; subst hy; exact ⟨v0, e0, r0.get1⟩
  | 1 => simp at hy; subst hy; exact ⟨v1, e1, r1.get1⟩
  | 2 => simp at hy; subst hy; exact ⟨v2, e2, r2.get1⟩
  | j + 3 => simp at hy
end
end Go.Proofs.YtdibndmkeipgbaaGreatDoor
