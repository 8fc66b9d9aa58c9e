/- What is proved: A source that stands in memory, read as a value. Conditions: those that stand in the statements. -/
import Derived.Test.YtilpdejbldllbaaZRead
import Derived.Test.YtilpdejbldllbaaZOsj
import Derived.KernelRfl
set_option linter.unusedSimpArgs false
set_option linter.unusedVariables false
set_option maxRecDepth 100000
namespace Go.Proofs.Ytilpdejbldllbaa
open Go.RowKit

theorem CellsR.get1 {G : Gh} {v : Value} {y : VV} (h : CellsR G [v] [y]) : R G v y ∧ y.one = true := ⟨h.2.2 0 v y rfl rfl, h.2.1 y (by simp)⟩
theorem CellsR.of {G : Gh} {cs : List Value} {xs : List VV} (hl : cs.length = xs.length) (h : ∀ (j : Nat) (y : VV), xs[j]? = some y → ∃ v, cs[j]? = some v ∧ R G v y ∧ y.one = true) : CellsR G cs xs := by
  refine ⟨hl, fun y hy => ?_, fun j v y hv hy => ?_⟩
  · obtain ⟨j, hj, e⟩ := List.mem_iff_getElem.1 hy
    obtain ⟨_, _, _, h1⟩ := h j y (by rw [← e]; exact List.getElem?_eq_getElem hj)
    exact h1
  · obtain ⟨v', h1, h2, _⟩ := h j y hy
    rw [h1] at hv; injection hv with hv; subst hv; exact h2
theorem reach_le {n : Nat} (h : n ≤ reachBytes) : n ≤ 140737488355328 := Nat.le_trans h (by decide)

section
variable {H : Type} {enc : TypeId × Value → H} {w : World}
theorem rd_strs {fuel : Nat} {cs : List Value} {x : DataW H × List MemPlace} (h : DataW.trod enc Try.prog w 0 (fun _ => true) true fuel 37 cs = some x) (hw : Wt Try.prog 37 x.1) :
    ∃ l : List (List UInt8), CellsR (GhW w) cs [strsV l] ∧ TxOk l := by
  obtain ⟨xss, h1, h2, h3⟩ := rd_slice (Q := fun xs => ∃ t : List UInt8, xs = [.str t] ∧ t.length ≤ reachBytes) (sz := 1) Try.underlying37 (by kernel_rfl) (by omega) (by decide +kernel) h hw (fun n cs' y _ hy hwy => by
    obtain ⟨t, ht1, ht2⟩ := rd_str (GhW w) Try.underlying9 hy hwy
    exact ⟨[.str t], ht1, rfl, t, rfl, ht2⟩)
  have key : ∀ xss : List (List VV), (∀ z, z ∈ xss → ∃ t : List UInt8, z = [.str t] ∧ t.length ≤ reachBytes) → ∃ l : List (List UInt8), xss = l.map strC ∧ ∀ t, t ∈ l → t.length ≤ reachBytes := by
    intro xss
    induction xss with
    | nil => intro _; exact ⟨[], rfl, (fun t ht => by cases ht)⟩
    | cons z r ih =>
      intro hz
      obtain ⟨t, rfl, ht⟩ := hz z (by simp)
      obtain ⟨l, rfl, hl⟩ := ih fun y hy => hz y (by simp [hy])
      exact ⟨t :: l, rfl, fun u hu => by
        rcases List.mem_cons.1 hu with rfl | hu
        · exact ht
        · exact hl u hu⟩
  obtain ⟨l, rfl, hl⟩ := key xss h2
  exact ⟨l, h1, by rw [List.length_map] at h3; exact reach_le h3, fun t ht => reach_le (hl t ht)⟩
theorem list_stm : ∀ xss : List (List VV), (∀ z, z ∈ xss → ∃ s : Stm, z = stC s ∧ StmOk s) → ∃ l : List Stm, xss = stsC l ∧ StmsOk l
  | [], _ => ⟨[], rfl, trivial⟩
  | z :: r, h => by
    obtain ⟨s, rfl, hs⟩ := h z (by simp)
    obtain ⟨l, rfl, hl⟩ := list_stm r fun y hy => h y (by simp [hy])
    exact ⟨s :: l, rfl, hs, hl⟩
theorem rd_stms_of {fuel : Nat} {cs : List Value} {x : DataW H × List MemPlace} (hel : ∀ (n : Nat) (cs' : List Value) (y : DataW H × List MemPlace), n < fuel → DataW.trod enc Try.prog w 0 (fun _ => true) true n 93 cs' = some y → Wt Try.prog 93 y.1 →
      ∃ s : Stm, CellsR (GhW w) cs' (stC s) ∧ StmOk s) (h : DataW.trod enc Try.prog w 0 (fun _ => true) true fuel 60 cs = some x) (hw : Wt Try.prog 60 x.1) :
    ∃ l : List Stm, CellsR (GhW w) cs [.lst (stsC l) .no] ∧ l.length ≤ 140737488355328 ∧ StmsOk l := by
  obtain ⟨xss, h1, h2, h3⟩ := rd_slice (Q := fun xs => ∃ s : Stm, xs = stC s ∧ StmOk s) (sz := 8) Try.underlying60 (by kernel_rfl) (by omega) (by decide +kernel) h hw (fun n cs' y hn hy hwy => by
    obtain ⟨s, hs1, hs2⟩ := hel n cs' y hn hy hwy
    exact ⟨stC s, hs1, stC_len s, s, rfl, hs2⟩)
  obtain ⟨l, rfl, hl⟩ := list_stm xss h2
  exact ⟨l, h1, by rw [stsC_len] at h3; exact reach_le h3, hl⟩
theorem rd_stm : ∀ (fuel : Nat) (cs : List Value) (x : DataW H × List MemPlace), DataW.trod enc Try.prog w 0 (fun _ => true) true fuel 93 cs = some x → Wt Try.prog 93 x.1 → ∃ s : Stm, CellsR (GhW w) cs (stC s) ∧ StmOk s := by
  intro fuel
  induction fuel using Nat.strongRecOn with
  | _ fuel ih =>
    intro cs x h hw
    obtain ⟨n, hn, hl, hf⟩ := rd_fields Try.underlying93 (by kernel_rfl) (fieldsOk_spec (by decide +kernel)) h hw
    obtain ⟨v0, y0, e0, t0, w0⟩ := hf 0 _ rfl
    obtain ⟨v1, y1, e1, t1, w1⟩ := hf 1 _ rfl
    obtain ⟨v2, y2, e2, t2, w2⟩ := hf 2 _ rfl
    obtain ⟨v3, y3, e3, t3, w3⟩ := hf 3 _ rfl
    obtain ⟨v4, y4, e4, t4, w4⟩ := hf 4 _ rfl
    obtain ⟨v5, y5, e5, t5, w5⟩ := hf 5 _ rfl
    obtain ⟨v6, y6, e6, t6, w6⟩ := hf 6 _ rfl
    obtain ⟨v7, y7, e7, t7, w7⟩ := hf 7 _ rfl
    obtain ⟨k, r0⟩ := rd_int (GhW w) Try.underlying3 t0
    obtain ⟨d, r1, l1⟩ := rd_str (GhW w) Try.underlying9 t1 w1
    obtain ⟨s, r2, l2⟩ := rd_str (GhW w) Try.underlying9 t2 w2
    obtain ⟨c, r3, l3⟩ := rd_str (GhW w) Try.underlying9 t3 w3
    obtain ⟨m, r4, l4⟩ := rd_str (GhW w) Try.underlying9 t4 w4
    obtain ⟨ar, r5, l5⟩ := rd_strs t5 w5
    obtain ⟨o, r6, l6⟩ := rd_stms_of (fun n' cs' y hn' => ih n' (by omega) cs' y) t6 w6
    obtain ⟨t, r7, l7⟩ := rd_stms_of (fun n' cs' y hn' => ih n' (by omega) cs' y) t7 w7
    refine ⟨.mk k d s c m ar o t, CellsR.of (by rw [hl, stC_len]; rfl) fun j y hy => ?_, ⟨⟨reach_le l1, reach_le l2, reach_le l3, reach_le l4⟩, l5, l6, l7⟩⟩
    simp only [stC] at hy
    match j with
    | 0 => simp at hy; subst hy; exact ⟨v0, e0, r0.get1⟩
    | 1 => simp at hy; subst hy; exact ⟨v1, e1, r1.get1⟩
    | 2 => simp at hy; subst hy; exact ⟨v2, e2, r2.get1⟩
    | 3 => simp at hy; subst hy; exact ⟨v3, e3, r3.get1⟩
    | 4 => simp at hy; subst hy; exact ⟨v4, e4, r4.get1⟩
    | 5 => simp at hy; subst hy; exact ⟨v5, e5, r5.get1⟩
    | 6 => simp at hy; subst hy; exact ⟨v6, e6, r6.get1⟩
    | 7 => simp at hy; subst hy; exact ⟨v7, e7, r7.get1⟩
    | j + 8 => simp at hy
theorem rd_stms {fuel : Nat} {cs : List Value} {x : DataW H × List MemPlace} (h : DataW.trod enc Try.prog w 0 (fun _ => true) true fuel 60 cs = some x) (hw : Wt Try.prog 60 x.1) :
    ∃ l : List Stm, CellsR (GhW w) cs [.lst (stsC l) .no] ∧ l.length ≤ 140737488355328 ∧ StmsOk l := rd_stms_of (fun n cs' y _ => rd_stm n cs' y) h hw
theorem rd_mth {fuel : Nat} {cs : List Value} {x : DataW H × List MemPlace} (h : DataW.trod enc Try.prog w 0 (fun _ => true) true fuel 62 cs = some x) (hw : Wt Try.prog 62 x.1) : ∃ m : Mth, CellsR (GhW w) cs (mthC m) ∧ MthOk m := by
  obtain ⟨n, hn, hl, hf⟩ := rd_fields Try.underlying62 (by kernel_rfl) (fieldsOk_spec (by decide +kernel)) h hw
  obtain ⟨v0, y0, e0, t0, w0⟩ := hf 0 _ rfl
  obtain ⟨v1, y1, e1, t1, w1⟩ := hf 1 _ rfl
  obtain ⟨v2, y2, e2, t2, w2⟩ := hf 2 _ rfl
  obtain ⟨v3, y3, e3, t3, w3⟩ := hf 3 _ rfl
  obtain ⟨b, r0⟩ := rd_bool (GhW w) Try.underlying4 t0
  obtain ⟨d, r1, l1⟩ := rd_str (GhW w) Try.underlying9 t1 w1
  obtain ⟨ar, r2, l2⟩ := rd_strs t2 w2
  obtain ⟨o, r3, l3⟩ := rd_stms t3 w3
  refine ⟨⟨b, d, ar, o⟩, CellsR.of (by rw [hl]; rfl) fun j y hy => ?_, reach_le l1, l2, l3.1, l3.2⟩
  simp only [mthC, stsV] at hy
  match j with
  | 0 => simp at hy; subst hy; exact ⟨v0, e0, r0.get1⟩
  | 1 => simp at hy; subst hy; exact ⟨v1, e1, r1.get1⟩
  | 2 => simp at hy; subst hy; exact ⟨v2, e2, r2.get1⟩
  | 3 => simp at hy; subst hy; exact ⟨v3, e3, r3.get1⟩
  | j + 4 => simp at hy
theorem list_of {α : Type} {C : α → List VV} {Ok : α → Prop} : ∀ xss : List (List VV), (∀ z, z ∈ xss → ∃ s : α, z = C s ∧ Ok s) → ∃ l : List α, xss = l.map C ∧ ∀ s, s ∈ l → Ok s
  | [], _ => ⟨[], rfl, (fun s hs => by cases hs)⟩
  | z :: r, h => by
    obtain ⟨s, rfl, hs⟩ := h z (by simp)
    obtain ⟨l, rfl, hl⟩ := list_of r fun y hy => h y (by simp [hy])
    exact ⟨s :: l, rfl, fun u hu => by
      rcases List.mem_cons.1 hu with rfl | hu
      · exact hs
      · exact hl u hu⟩
theorem rd_cls {fuel : Nat} {cs : List Value} {x : DataW H × List MemPlace} (h : DataW.trod enc Try.prog w 0 (fun _ => true) true fuel 54 cs = some x) (hw : Wt Try.prog 54 x.1) : ∃ c : Cls, CellsR (GhW w) cs (clsC c) ∧ ClsOk c := by
  obtain ⟨n, hn, hl, hf⟩ := rd_fields Try.underlying54 (by kernel_rfl) (fieldsOk_spec (by decide +kernel)) h hw
  obtain ⟨v0, y0, e0, t0, w0⟩ := hf 0 _ rfl
  obtain ⟨v1, y1, e1, t1, w1⟩ := hf 1 _ rfl
  obtain ⟨v2, y2, e2, t2, w2⟩ := hf 2 _ rfl
  obtain ⟨d, r0, l0⟩ := rd_str (GhW w) Try.underlying9 t0 w0
  obtain ⟨s, r1, l1⟩ := rd_str (GhW w) Try.underlying9 t1 w1
  obtain ⟨xss, h1, h2, h3⟩ := rd_slice (Q := fun xs => ∃ m : Mth, xs = mthC m ∧ MthOk m) (sz := 4) Try.underlying52 (by kernel_rfl) (by omega) (by decide +kernel) t2 w2 (fun n cs' y hn hy hwy => by
    obtain ⟨m, hs1, hs2⟩ := rd_mth hy hwy
    exact ⟨mthC m, hs1, rfl, m, rfl, hs2⟩)
  obtain ⟨ms, rfl, hms⟩ := list_of xss h2
  refine ⟨⟨d, s, ms⟩, CellsR.of (by rw [hl]; rfl) fun j y hy => ?_, reach_le l0, reach_le l1, by rw [List.length_map] at h3; exact reach_le h3, hms⟩
  simp only [clsC] at hy
  match j with
  | 0 => simp at hy; subst hy; exact ⟨v0, e0, r0.get1⟩
  | 1 => simp at hy; subst hy; exact ⟨v1, e1, r1.get1⟩
  | 2 => simp at hy; subst hy; exact ⟨v2, e2, h1.get1⟩
  | j + 3 => simp at hy
/-- A source. -/
theorem rd_src {fuel : Nat} {cs : List Value} {x : DataW H × List MemPlace} (h : DataW.trod enc Try.prog w 0 (fun _ => true) true fuel 25 cs = some x) (hw : Wt Try.prog 25 x.1) :
    ∃ s : List Cls, CellsR (GhW w) cs [.lst (s.map clsC) .no] ∧ SrcOk s := by
  obtain ⟨n, hn, hl, hf⟩ := rd_fields Try.underlying25 (by kernel_rfl) (fieldsOk_spec (by decide +kernel)) h hw
  obtain ⟨v0, y0, e0, t0, w0⟩ := hf 0 _ rfl
  obtain ⟨xss, h1, h2, h3⟩ := rd_slice (Q := fun xs => ∃ m : Cls, xs = clsC m ∧ ClsOk m) (sz := 3) Try.underlying23 (by kernel_rfl) (by omega) (by decide +kernel) t0 w0 (fun n cs' y hn hy hwy => by
    obtain ⟨m, hs1, hs2⟩ := rd_cls hy hwy
    exact ⟨clsC m, hs1, rfl, m, rfl, hs2⟩)
  obtain ⟨ms, rfl, hms⟩ := list_of xss h2
  refine ⟨ms, CellsR.of (by rw [hl]; rfl) fun j y hy => ?_, by rw [List.length_map] at h3; exact reach_le h3, hms⟩
  match j with
  | 0 => simp at hy; subst hy; exact ⟨v0, e0, h1.get1⟩
  | j + 1 => simp at hy
end
end Go.Proofs.Ytilpdejbldllbaa
