/- What is proved: What stands in memory, read as data by the statement, read as values; A source that stands in memory, read as a value. Conditions: those that stand in the statements. -/
import Derived.Test.YtejlknplmfmceaaZGpj
import Derived.Deep.Slices
import Derived.SizedLaws
import Derived.DataShut
import Derived.Test.YtejlknplmfmceaaZOsj
import Derived.KernelRfl
set_option linter.unusedSimpArgs false
set_option linter.unusedVariables false
namespace Go.Proofs.Ytejlknplmfmceaa
open Go.RowKit

section
variable {H : Type} {enc : TypeId × Value → H} {P : Program} {w : World}
/-- Cells that stand for values. -/
def CellsR (G : Gh) (cs : List Value) (xs : List VV) : Prop := cs.length = xs.length ∧ (∀ y, y ∈ xs → y.one = true) ∧ ∀ (j : Nat) (v : Value) (y : VV), cs[j]? = some v → xs[j]? = some y → R G v y
theorem CellsR.one {G : Gh} {v : Value} {y : VV} (h : R G v y) (h1 : y.one = true) : CellsR G [v] [y] :=
  ⟨rfl, fun z hz => by rw [List.mem_singleton] at hz; subst hz; exact h1, fun j v' y' hv hy => by
    cases j with
    | zero => simp at hv hy; subst hv; subst hy; exact h
    | succ j => simp at hy⟩
/-- The bound on what is read: each text, and each row of a slice. -/
def Wt (P : Program) (t : TypeId) (d : DataW H) : Prop := ∀ n, n ∈ d.weights P t → n ≤ reachBytes
theorem Wt.slice {t e : TypeId} {elems spare : List (DataW H)} (ht : P.underlying t = some (.slice e)) (h : Wt P t (.slice elems spare)) : elems.length * P.bytesOf e ≤ reachBytes ∧ ∀ d, d ∈ elems → Wt P e d := by
  have key : ∀ (l : List (DataW H)) (d : DataW H), d ∈ l → ∀ n, n ∈ d.weights P e → n ∈ DataW.weightsAll P e l := by
    intro l
    induction l with
    | nil => intro d hd; cases hd
    | cons x l ih =>
      intro d hd n hn
      simp only [DataW.weightsAll, List.mem_append]
      rcases List.mem_cons.1 hd with rfl | hd
      · exact .inl hn
      · exact .inr (ih d hd n hn)
  unfold Wt at h
  simp only [DataW.weights, ht] at h
  refine ⟨?_, fun d hd n hn => h n (List.mem_cons_of_mem _ (List.mem_append_left _ (key elems d hd n hn)))⟩
  have := h _ (List.mem_cons_self ..)
  exact Nat.le_trans (Nat.mul_le_mul_right _ (by omega)) this
theorem Wt.str {t : TypeId} {l : List UInt8} (h : Wt P t (.lit (.string l) : DataW H)) : l.length ≤ reachBytes := h _ (by simp [DataW.weights])

theorem rd_str {t : TypeId} {fuel : Nat} {cs : List Value} {x : DataW H × List MemPlace} (G : Gh) (ht : P.underlying t = some .string) (h : DataW.trod enc P w 0 (fun _ => true) true fuel t cs = some x) (hw : Wt P t x.1) :
    ∃ l : List UInt8, CellsR G cs [.str l] ∧ l.length ≤ reachBytes := by
  obtain ⟨s, rfl, rfl, _⟩ := DataW.trod_string ht h
  obtain ⟨a⟩ := s
  exact ⟨a.toList, CellsR.one (.str a) rfl, hw.str⟩
theorem rd_int {t : TypeId} {k : IntKind} {fuel : Nat} {cs : List Value} {x : DataW H × List MemPlace} (G : Gh) (ht : P.underlying t = some (.int k)) (h : DataW.trod enc P w 0 (fun _ => true) true fuel t cs = some x) : ∃ n : Int, CellsR G cs [.int k n] := by
  obtain ⟨n, rfl, _, _⟩ := DataW.trod_int ht h
  exact ⟨n, CellsR.one (.int k n) rfl⟩
theorem rd_bool {t : TypeId} {fuel : Nat} {cs : List Value} {x : DataW H × List MemPlace} (G : Gh) (ht : P.underlying t = some .bool) (h : DataW.trod enc P w 0 (fun _ => true) true fuel t cs = some x) : ∃ b : Bool, CellsR G cs [.bool b] := by
  obtain ⟨b, rfl, _⟩ := DataW.trod_bool ht h
  exact ⟨b, CellsR.one (.bool b) rfl⟩

/-- A slice whose elements are read. -/
theorem rd_slice {t e : TypeId} {sz : Nat} {fuel : Nat} {cs : List Value} {x : DataW H × List MemPlace} {Q : List VV → Prop} (ht : P.underlying t = some (.slice e)) (hsz : P.cellsOf e = sz) (hpos : 0 < sz) (hby : 1 ≤ P.bytesOf e)
    (h : DataW.trod enc P w 0 (fun _ => true) true fuel t cs = some x) (hw : Wt P t x.1)
    (hel : ∀ (n : Nat) (cs' : List Value) (y : DataW H × List MemPlace), n < fuel → DataW.trod enc P w 0 (fun _ => true) true n e cs' = some y → Wt P e y.1 → ∃ xs, CellsR (GhW w) cs' xs ∧ xs.length = sz ∧ Q xs) :
    ∃ xss : List (List VV), CellsR (GhW w) cs [.lst xss .no] ∧ (∀ z, z ∈ xss → Q z) ∧ xss.length ≤ reachBytes := by
  rcases DataW.trod_slice ht h with ⟨rfl, _⟩ | ⟨a, len, cap, elems, rest, n, hn, rfl, rfl, _, hl, hm, hlen, hel', _, _⟩
  · exact ⟨[], CellsR.one (.emp none 0 .no (.inl rfl)) rfl, (fun z hz => by cases hz), by simp⟩
  · obtain ⟨hw1, hw2⟩ := hw.slice ht
    have hle : len ≤ reachBytes := by
      rw [List.length_map, hlen] at hw1
      exact Nat.le_trans (Nat.le_mul_of_pos_right _ (by omega)) hw1
    -- each element
    have each : ∀ i, i < len → ∃ q : List Value × List VV, w.cells? 0 (a.add (i * sz)) sz = some q.1 ∧ CellsR (GhW w) q.1 q.2 ∧ q.2.length = sz ∧ Q q.2 := fun i hi => by
      have h1 := hel' i hi
      rw [hsz, List.getElem?_eq_getElem (by omega)] at h1
      obtain ⟨cs', hc, hy⟩ := Option.bind_eq_some_iff.1 h1
      obtain ⟨xs, hx1, hx2, hx3⟩ := hel n cs' _ (by omega) hy (hw2 _ (List.mem_map.2 ⟨_, List.getElem_mem _, rfl⟩))
      exact ⟨(cs', xs), hc, hx1, hx2, hx3⟩
    obtain ⟨F, hF⟩ := Go.Deep.choose_lt each
    rcases Nat.eq_zero_or_pos len with h0 | h0
    · subst h0
      exact ⟨[], CellsR.one (.emp _ cap .no (.inl rfl)) rfl, (fun z hz => by cases hz), by simp⟩
    · have hspot : a.spot = none := by
        obtain ⟨h1, _⟩ := hF 0 h0
        have h2 := (World.cells?_some h1).2.2 0 (by omega)
        simp only [Nat.zero_mul, Addr.add, if_true] at h2
        have h3 : ((F 0).1)[0]? = some ((F 0).1)[0]! := by
          have : 0 < (F 0).1.length := by rw [(World.cells?_some h1).2.1]; exact hpos
          rw [List.getElem?_eq_getElem this]; simp [this]
        rw [h3] at h2
        unfold World.cell? at h2
        cases hs : a.spot with
        | none => rfl
        | some s => rw [hs] at h2; split at h2 <;> simp at h2
      obtain ⟨b, off, spot⟩ := a
      simp only at hspot
      subst hspot
      have hadd : ∀ k, (Addr.mk b off none).add k = ⟨b, off + k, none⟩ := fun k => by
        unfold Addr.add
        split
        · rename_i hk; subst hk; rfl
        · rfl
      have hcell : ∀ i j, i < len → j < sz → w.cell? ⟨b, off + (i * sz + j), none⟩ = some (((F i).1)[j]!) := fun i j hi hj => by
        obtain ⟨h1, _⟩ := hF i hi
        have h2 := (World.cells?_some h1).2.2 j hj
        have hlj : j < (F i).1.length := by rw [(World.cells?_some h1).2.1]; exact hj
        rw [hadd] at h2
        have h4 : (Addr.mk b (off + i * sz) none).add j = ⟨b, off + (i * sz + j), none⟩ := by
          unfold Addr.add
          split
          · rename_i hk; subst hk; simp
          · simp [Nat.add_assoc]
        rw [h4, List.getElem?_eq_getElem hlj] at h2
        rw [h2]; simp [hlj]
      refine ⟨(List.range len).map fun i => (F i).2, CellsR.one (.lst b off len cap sz _ .no (fun i j => ((F i).1)[j]!) (by simp) hl ?_ ?_ (fun i j hi hj => hcell i j hi hj) ?_ (.inl rfl)) rfl, ?_, by simpa using hle⟩
      · intro x hx
        obtain ⟨i, hi, rfl⟩ := List.mem_map.1 hx
        exact (hF i (List.mem_range.1 hi)).2.2.1
      · intro x hx
        obtain ⟨i, hi, rfl⟩ := List.mem_map.1 hx
        exact (hF i (List.mem_range.1 hi)).2.1.2.1
      · intro i j x y hx hy
        rw [List.getElem?_map] at hx
        obtain ⟨i', hi', rfl⟩ := Option.map_eq_some_iff.1 hx
        have hlt : i < len := by
          have := (List.getElem?_eq_some_iff.1 hi').1
          simpa using this
        have : i' = i := by
          rw [List.getElem?_range hlt] at hi'
          injection hi' with hi'; exact hi'.symm
        subst this
        obtain ⟨h1, h2, h3, _⟩ := hF i' hlt
        have hj : j < sz := by rw [← h3]; exact (List.getElem?_eq_some_iff.1 hy).1
        have hlj : j < (F i').1.length := by rw [(World.cells?_some h1).2.1]; exact hj
        exact h2.2.2 j _ y (by rw [List.getElem?_eq_getElem hlj]; simp [hlj]) hy
      · intro z hz
        obtain ⟨i, hi, rfl⟩ := List.mem_map.1 hz
        exact (hF i (List.mem_range.1 hi)).2.2.2

/-- A struct whose fields are of one cell each. -/
theorem rd_fields {t : TypeId} {fs : Array Field} {fuel : Nat} {cs : List Value} {x : DataW H × List MemPlace} (ht : P.underlying t = some (.struct fs)) (hk : P.cellsOf t = fs.size) (hf : ∀ (j : Nat) (f : Field), fs[j]? = some f → f.offset = j ∧ P.cellsOf f.type = 1)
    (h : DataW.trod enc P w 0 (fun _ => true) true fuel t cs = some x) (hw : Wt P t x.1) :
    ∃ n, n < fuel ∧ cs.length = fs.size ∧ ∀ (j : Nat) (f : Field), fs[j]? = some f → ∃ (v : Value) (y : DataW H × List MemPlace), cs[j]? = some v ∧ DataW.trod enc P w 0 (fun _ => true) true n f.type [v] = some y ∧ Wt P f.type y.1 := by
  obtain ⟨xs, n, hn, rfl, hl, hlen, hel⟩ := DataW.trod_struct ht h
  refine ⟨n, by omega, by rw [hl, hk], fun j f hj => ?_⟩
  have hjs : j < fs.size := (Array.getElem?_eq_some_iff.1 hj).1
  obtain ⟨h1, h2⟩ := hf j f hj
  have h3 := hel j f hj
  rw [h1, h2] at h3
  have hjc : j < cs.length := by rw [hl, hk]; exact hjs
  have hjx : j < xs.length := by omega
  rw [List.drop_eq_getElem_cons hjc, List.take_succ_cons, List.take_zero, List.getElem?_eq_getElem hjx] at h3
  refine ⟨cs[j], xs[j], List.getElem?_eq_getElem hjc, h3, fun m hm => hw m ?_⟩
  simp only [DataW.weights, ht]
  refine DataW.weights_mem_each (j := j) (t := f.type) (d := (xs[j]).1) ?_ ?_ m hm
  · rw [List.getElem?_map, Array.getElem?_toList, hj]; rfl
  · rw [List.getElem?_map, List.getElem?_eq_getElem hjx]; rfl
def fieldsOk (P : Program) (fs : Array Field) : Bool := (List.range fs.size).all fun j => match fs[j]? with | some f => f.offset == j && P.cellsOf f.type == 1 | none => true
theorem fieldsOk_spec {P : Program} {fs : Array Field} (h : fieldsOk P fs = true) : ∀ (j : Nat) (f : Field), fs[j]? = some f → f.offset = j ∧ P.cellsOf f.type = 1 := by
  intro j f hj
  have hjs : j < fs.size := (Array.getElem?_eq_some_iff.1 hj).1
  have := List.all_eq_true.1 h j (List.mem_range.2 hjs)
  rw [hj] at this
  simpa using this
end
theorem CellsR.get1 {G : Gh} {v : Value} {y : VV} (h : CellsR G [v] [y]) : R G v y ∧ y.one = true := ⟨h.2.2 0 v y rfl rfl, h.2.1 y (by simp)⟩
theorem CellsR.of {G : Gh} {cs : List Value} {xs : List VV} (hl : cs.length = xs.length) (h : ∀ (j : Nat) (y : VV), xs[j]? = some y → ∃ v, cs[j]? = some v ∧ R G v y ∧ y.one = true) : CellsR G cs xs := by
  refine ⟨hl, fun y hy => ?_, fun j v y hv hy => ?_⟩
  · obtain ⟨j, hj, e⟩ := List.mem_iff_getElem.1 hy
    obtain ⟨_, _, _, h1⟩ := h j y (by rw [← e]; exact List.getElem?_eq_getElem hj)
    exact h1
  · obtain ⟨v', h1, h2, _⟩ := h j y hy
    rw [h1] at hv; injection hv with hv; subst hv; exact h2
theorem reach_le {n : Nat} (h : n ≤ reachBytes) : n ≤ 140737488355328 := Nat.le_trans h (by decide)

theorem list_of {α : Type} {C : α → List VV} {Ok : α → Prop} : ∀ xss : List (List VV), (∀ z, z ∈ xss → ∃ s : α, z = C s ∧ Ok s) → ∃ l : List α, xss = l.map C ∧ ∀ s, s ∈ l → Ok s
  | [], _ => ⟨[], rfl, (fun s hs => by cases hs)⟩
  | z :: r, h => by
    obtain ⟨s, rfl, hs⟩ := h z (by simp)
    obtain ⟨l, rfl, hl⟩ := list_of r fun y hy => h y (by simp [hy])
    exact ⟨s :: l, rfl, fun u hu => by
      rcases List.mem_cons.1 hu with rfl | hu
      · exact hs
      · exact hl u hu⟩
end Go.Proofs.Ytejlknplmfmceaa
set_option maxRecDepth 100000
namespace Go.Proofs.Ytejlknplmfmceaa
open Go.RowKit

section
variable {H : Type} {enc : TypeId × Value → H} {w : World}
theorem rd_strs {fuel : Nat} {cs : List Value} {x : DataW H × List MemPlace} (h : DataW.trod enc Try.prog w 0 (fun _ => true) true fuel 29 cs = some x) (hw : Wt Try.prog 29 x.1) :
    ∃ l : List (List UInt8), CellsR (GhW w) cs [strsV l] ∧ TxOk l := by
  obtain ⟨xss, h1, h2, h3⟩ := rd_slice (Q := fun xs => ∃ t : List UInt8, xs = [.str t] ∧ t.length ≤ reachBytes) (sz := 1) Try.underlying29 (by kernel_rfl) (by omega) (by decide +kernel) h hw (fun n cs' y _ hy hwy => by
    obtain ⟨t, ht1, ht2⟩ := rd_str (GhW w) Try.underlying9 hy hwy
    exact ⟨[.str t], ht1, rfl, t, rfl, ht2⟩)
  have key : ∀ xss : List (List VV), (∀ z, z ∈ xss → ∃ t : List UInt8, z = [.str t] ∧ t.length ≤ reachBytes) → ∃ l : List (List UInt8), xss = l.map strC ∧ ∀ t, t ∈ l → t.length ≤ reachBytes := by
    intro xss
    induction xss with
    | nil => intro _; exact ⟨[], rfl, (fun t ht => by cases ht)⟩
    | cons z r ih =>
      intro hz
      obtain ⟨t, rfl, ht⟩ := hz z (by simp)
      obtain ⟨l, rfl, hl⟩ := ih fun y hy => hz y (by simp [hy])
      exact ⟨t :: l, rfl, fun u hu => by
        rcases List.mem_cons.1 hu with rfl | hu
        · exact ht
        · exact hl u hu⟩
  obtain ⟨l, rfl, hl⟩ := key xss h2
  exact ⟨l, h1, by rw [List.length_map] at h3; exact reach_le h3, fun t ht => reach_le (hl t ht)⟩
theorem list_stm : ∀ xss : List (List VV), (∀ z, z ∈ xss → ∃ s : Stm, z = stC s ∧ StmOk s) → ∃ l : List Stm, xss = stsC l ∧ StmsOk l
  | [], _ => ⟨[], rfl, trivial⟩
  | z :: r, h => by
    obtain ⟨s, rfl, hs⟩ := h z (by simp)
    obtain ⟨l, rfl, hl⟩ := list_stm r fun y hy => h y (by simp [hy])
    exact ⟨s :: l, rfl, hs, hl⟩
theorem rd_stms_of {fuel : Nat} {cs : List Value} {x : DataW H × List MemPlace} (hel : ∀ (n : Nat) (cs' : List Value) (y : DataW H × List MemPlace), n < fuel → DataW.trod enc Try.prog w 0 (fun _ => true) true n 58 cs' = some y → Wt Try.prog 58 y.1 →
      ∃ s : Stm, CellsR (GhW w) cs' (stC s) ∧ StmOk s) (h : DataW.trod enc Try.prog w 0 (fun _ => true) true fuel 39 cs = some x) (hw : Wt Try.prog 39 x.1) :
    ∃ l : List Stm, CellsR (GhW w) cs [.lst (stsC l) .no] ∧ l.length ≤ 140737488355328 ∧ StmsOk l := by
  obtain ⟨xss, h1, h2, h3⟩ := rd_slice (Q := fun xs => ∃ s : Stm, xs = stC s ∧ StmOk s) (sz := 8) Try.underlying39 (by kernel_rfl) (by omega) (by decide +kernel) h hw (fun n cs' y hn hy hwy => by
    obtain ⟨s, hs1, hs2⟩ := hel n cs' y hn hy hwy
    exact ⟨stC s, hs1, stC_len s, s, rfl, hs2⟩)
  obtain ⟨l, rfl, hl⟩ := list_stm xss h2
  exact ⟨l, h1, by rw [stsC_len] at h3; exact reach_le h3, hl⟩
theorem rd_stm : ∀ (fuel : Nat) (cs : List Value) (x : DataW H × List MemPlace), DataW.trod enc Try.prog w 0 (fun _ => true) true fuel 58 cs = some x → Wt Try.prog 58 x.1 → ∃ s : Stm, CellsR (GhW w) cs (stC s) ∧ StmOk s := by
  intro fuel
  induction fuel using Nat.strongRecOn with
  | _ fuel ih =>
    intro cs x h hw
    obtain ⟨n, hn, hl, hf⟩ := rd_fields Try.underlying58 (by kernel_rfl) (fieldsOk_spec (by decide +kernel)) h hw
    obtain ⟨v0, y0, e0, t0, w0⟩ := hf 0 _ rfl
    obtain ⟨v1, y1, e1, t1, w1⟩ := hf 1 _ rfl
    obtain ⟨v2, y2, e2, t2, w2⟩ := hf 2 _ rfl
    obtain ⟨v3, y3, e3, t3, w3⟩ := hf 3 _ rfl
    obtain ⟨v4, y4, e4, t4, w4⟩ := hf 4 _ rfl
    obtain ⟨v5, y5, e5, t5, w5⟩ := hf 5 _ rfl
    obtain ⟨v6, y6, e6, t6, w6⟩ := hf 6 _ rfl
    obtain ⟨v7, y7, e7, t7, w7⟩ := hf 7 _ rfl
    obtain ⟨k, r0⟩ := rd_int (GhW w) Try.underlying3 t0
    obtain ⟨d, r1, l1⟩ := rd_str (GhW w) Try.underlying9 t1 w1
    obtain ⟨s, r2, l2⟩ := rd_str (GhW w) Try.underlying9 t2 w2
    obtain ⟨c, r3, l3⟩ := rd_str (GhW w) Try.underlying9 t3 w3
    obtain ⟨m, r4, l4⟩ := rd_str (GhW w) Try.underlying9 t4 w4
    obtain ⟨ar, r5, l5⟩ := rd_strs t5 w5
    obtain ⟨o, r6, l6⟩ := rd_stms_of (fun n' cs' y hn' => ih n' (by omega) cs' y) t6 w6
    obtain ⟨t, r7, l7⟩ := rd_stms_of (fun n' cs' y hn' => ih n' (by omega) cs' y) t7 w7
    refine ⟨.mk k d s c m ar o t, CellsR.of (by rw [hl, stC_len]; rfl) fun j y hy => ?_, ⟨⟨reach_le l1, reach_le l2, reach_le l3, reach_le l4⟩, l5, l6, l7⟩⟩
    simp only [stC] at hy
    match j with
    | 0 => simp at hy; subst hy; exact ⟨v0, e0, r0.get1⟩
    | 1 => simp at hy; subst hy; exact ⟨v1, e1, r1.get1⟩
    | 2 => simp at hy; subst hy; exact ⟨v2, e2, r2.get1⟩
    | 3 => simp at hy; subst hy; exact ⟨v3, e3, r3.get1⟩
    | 4 => simp at hy; subst hy; exact ⟨v4, e4, r4.get1⟩
    | 5 => simp at hy; subst hy; exact ⟨v5, e5, r5.get1⟩
    | 6 => simp at hy; subst hy; exact ⟨v6, e6, r6.get1⟩
    | 7 => simp at hy; subst hy; exact ⟨v7, e7, r7.get1⟩
    | j + 8 => simp at hy
theorem rd_stms {fuel : Nat} {cs : List Value} {x : DataW H × List MemPlace} (h : DataW.trod enc Try.prog w 0 (fun _ => true) true fuel 39 cs = some x) (hw : Wt Try.prog 39 x.1) :
    ∃ l : List Stm, CellsR (GhW w) cs [.lst (stsC l) .no] ∧ l.length ≤ 140737488355328 ∧ StmsOk l := rd_stms_of (fun n cs' y _ => rd_stm n cs' y) h hw
theorem rd_mth {fuel : Nat} {cs : List Value} {x : DataW H × List MemPlace} (h : DataW.trod enc Try.prog w 0 (fun _ => true) true fuel 41 cs = some x) (hw : Wt Try.prog 41 x.1) : ∃ m : Mth, CellsR (GhW w) cs (mthC m) ∧ MthOk m := by
  obtain ⟨n, hn, hl, hf⟩ := rd_fields Try.underlying41 (by kernel_rfl) (fieldsOk_spec (by decide +kernel)) h hw
  obtain ⟨v0, y0, e0, t0, w0⟩ := hf 0 _ rfl
  obtain ⟨v1, y1, e1, t1, w1⟩ := hf 1 _ rfl
  obtain ⟨v2, y2, e2, t2, w2⟩ := hf 2 _ rfl
  obtain ⟨v3, y3, e3, t3, w3⟩ := hf 3 _ rfl
  obtain ⟨b, r0⟩ := rd_bool (GhW w) Try.underlying4 t0
  obtain ⟨d, r1, l1⟩ := rd_str (GhW w) Try.underlying9 t1 w1
  obtain ⟨ar, r2, l2⟩ := rd_strs t2 w2
  obtain ⟨o, r3, l3⟩ := rd_stms t3 w3
  refine ⟨⟨b, d, ar, o⟩, CellsR.of (by rw [hl]; rfl) fun j y hy => ?_, reach_le l1, l2, l3.1, l3.2⟩
  simp only [mthC, stsV] at hy
  match j with
  | 0 => simp at hy; subst hy; exact ⟨v0, e0, r0.get1⟩
  | 1 => simp at hy; subst hy; exact ⟨v1, e1, r1.get1⟩
  | 2 => simp at hy; subst hy; exact ⟨v2, e2, r2.get1⟩
  | 3 => simp at hy; subst hy; exact ⟨v3, e3, r3.get1⟩
  | j + 4 => simp at hy
theorem rd_cls {fuel : Nat} {cs : List Value} {x : DataW H × List MemPlace} (h : DataW.trod enc Try.prog w 0 (fun _ => true) true fuel 38 cs = some x) (hw : Wt Try.prog 38 x.1) : ∃ c : Cls, CellsR (GhW w) cs (clsC c) ∧ ClsOk c := by
  obtain ⟨n, hn, hl, hf⟩ := rd_fields Try.underlying38 (by kernel_rfl) (fieldsOk_spec (by decide +kernel)) h hw
  obtain ⟨v0, y0, e0, t0, w0⟩ := hf 0 _ rfl
  obtain ⟨v1, y1, e1, t1, w1⟩ := hf 1 _ rfl
  obtain ⟨v2, y2, e2, t2, w2⟩ := hf 2 _ rfl
  obtain ⟨d, r0, l0⟩ := rd_str (GhW w) Try.underlying9 t0 w0
  obtain ⟨s, r1, l1⟩ := rd_str (GhW w) Try.underlying9 t1 w1
  obtain ⟨xss, h1, h2, h3⟩ := rd_slice (Q := fun xs => ∃ m : Mth, xs = mthC m ∧ MthOk m) (sz := 4) Try.underlying36 (by kernel_rfl) (by omega) (by decide +kernel) t2 w2 (fun n cs' y hn hy hwy => by
    obtain ⟨m, hs1, hs2⟩ := rd_mth hy hwy
    exact ⟨mthC m, hs1, rfl, m, rfl, hs2⟩)
  obtain ⟨ms, rfl, hms⟩ := list_of xss h2
  refine ⟨⟨d, s, ms⟩, CellsR.of (by rw [hl]; rfl) fun j y hy => ?_, reach_le l0, reach_le l1, by rw [List.length_map] at h3; exact reach_le h3, hms⟩
  simp only [clsC] at hy
  match j with
  | 0 => simp at hy; subst hy; exact ⟨v0, e0, r0.get1⟩
  | 1 => simp at hy; subst hy; exact ⟨v1, e1, r1.get1⟩
  | 2 => simp at hy; subst hy; exact ⟨v2, e2, h1.get1⟩
  | j + 3 => simp at hy
/-- A source. -/
theorem rd_src {fuel : Nat} {cs : List Value} {x : DataW H × List MemPlace} (h : DataW.trod enc Try.prog w 0 (fun _ => true) true fuel 24 cs = some x) (hw : Wt Try.prog 24 x.1) :
    ∃ s : List Cls, CellsR (GhW w) cs [.lst (s.map clsC) .no] ∧ SrcOk s := by
  obtain ⟨n, hn, hl, hf⟩ := rd_fields Try.underlying24 (by kernel_rfl) (fieldsOk_spec (by decide +kernel)) h hw
  obtain ⟨v0, y0, e0, t0, w0⟩ := hf 0 _ rfl
  obtain ⟨xss, h1, h2, h3⟩ := rd_slice (Q := fun xs => ∃ m : Cls, xs = clsC m ∧ ClsOk m) (sz := 3) Try.underlying22 (by kernel_rfl) (by omega) (by decide +kernel) t0 w0 (fun n cs' y hn hy hwy => by
    obtain ⟨m, hs1, hs2⟩ := rd_cls hy hwy
    exact ⟨clsC m, hs1, rfl, m, rfl, hs2⟩)
  obtain ⟨ms, rfl, hms⟩ := list_of xss h2
  refine ⟨ms, CellsR.of (by rw [hl]; rfl) fun j y hy => ?_, by rw [List.length_map] at h3; exact reach_le h3, hms⟩
  match j with
  | 0 => simp at hy; subst hy; exact ⟨v0, e0, h1.get1⟩
  | j + 1 => simp at hy
end
end Go.Proofs.Ytejlknplmfmceaa
