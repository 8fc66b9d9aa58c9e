/- What is proved: That what is said of a region's operations holds of the model's: building, addressing, slicing, numbers, strings. Conditions: those that stand in the statements. -/
import Derived.Test.YtbfgdblebepgcaaDoorZSound
set_option linter.unusedSimpArgs false
set_option linter.unusedVariables false
namespace Go.Proofs.YtbfgdblebepgcaaDoor
open Go.RowKit

section
variable {P : Program} {N : Nat} {w0 w w' : World} {G G' : Gh} {s s' : St}

theorem foldl_splice (vs : List Value) : ∀ (off : Nat) (cs : Array Value) (n : Nat), off + n + vs.length ≤ cs.size →
    ((vs.zipIdx n).foldl (fun cs (c, j) => cs.setIfInBounds (off + j) c) cs).toList = splice cs.toList (off + n) vs := by
  induction vs with
  | nil => intro off cs n h; simp [splice]
  | cons v vs ih =>
    intro off cs n h
    simp only [List.length_cons] at h
    rw [List.zipIdx_cons, List.foldl_cons, ih off _ (n + 1) (by simp; omega)]
    apply List.ext_getElem?
    intro i
    rw [splice_get _ _ _ _ (by simp; omega), splice_get _ _ _ _ (by simp; omega)]
    simp only [Array.toList_setIfInBounds, List.length_cons]
    by_cases h1 : i = off + n
    · subst h1
      rw [if_neg (by omega), if_pos (by omega)]
      have : off + n < cs.size := by omega
      simp [this]
    · by_cases h2 : off + (n + 1) ≤ i ∧ i < off + (n + 1) + vs.length
      · rw [if_pos h2, if_pos (by omega)]
        have : i - (off + n) = (i - (off + (n + 1))) + 1 := by omega
        rw [this]; simp
      · rw [if_neg h2, if_neg (by omega), List.getElem?_set_ne (by omega)]

/-- Cells that stand for cells. -/
def RLs (G : Gh) (vs : Array Value) (xs : List VV) : Prop :=
  vs.size = xs.length ∧ (∀ y, y ∈ xs → y.one = true) ∧ ∀ (j : Nat) (v : Value) (y : VV), vs[j]? = some v → xs[j]? = some y → R G v y

theorem RLs.splice {vs us : Array Value} {xs ys : List VV} {off : Nat} (h : RLs G vs xs) (h' : RLs G us ys) (hle : off + ys.length ≤ xs.length) :
    RLs G (splice vs.toList off us.toList).toArray (splice xs off ys) := by
  have hv : vs.toList.length = xs.length := by simpa using h.1
  have hu : us.toList.length = ys.length := by simpa using h'.1
  refine ⟨by rw [List.size_toArray, splice_length _ _ _ (by omega), splice_length _ _ _ hle, hv], fun y hy => ?_, fun j v y hvj hyj => ?_⟩
  · obtain ⟨j, hj⟩ := List.mem_iff_getElem?.1 hy
    rw [splice_get _ _ _ _ hle] at hj
    split at hj
    · exact h'.2.1 y (List.mem_iff_getElem?.2 ⟨_, hj⟩)
    · exact h.2.1 y (List.mem_iff_getElem?.2 ⟨_, hj⟩)
  · rw [List.getElem?_toArray, splice_get _ _ _ _ (by omega), hu] at hvj
    rw [splice_get _ _ _ _ hle] at hyj
    split at hyj
    · rename_i hin
      rw [if_pos hin] at hvj
      exact h'.2.2 _ v y (by simpa using hvj) hyj
    · rename_i hin
      rw [if_neg hin] at hvj
      exact h.2.2 _ v y (by simpa using hvj) hyj

theorem RLs.of_cells {v : Value} {x : VV} (h : R G v x) (h1 : x.cells.all VV.one = true) : RLs G v.cells x.cells :=
  ⟨(cells_spec h h1).1, fun y hy => List.all_eq_true.1 h1 y hy, (cells_spec h h1).2.2⟩

theorem RLs.zero {T : TypeId} (h : (qi P T).zok = true) : ∃ z i d, P.info? T = some i ∧ P.underlying T = some d ∧ (qi P T).k = qkOf d ∧ (qi P T).sz = i.size ∧ i.zero = some z ∧ 0 < i.size ∧ z.cells.size = i.size ∧
    ((qkOf d).agg = !z.oneCell' ∧ notTup z = true) ∧ RLs G z.cells (qi P T).z := by
  obtain ⟨d, i, z, hd, hi, hk, hs, _, hz, hzs, hpos, hone, hag, hzz⟩ := qi_zero (P := P) T h
  refine ⟨z, i, d, hi, hd, hk, hs, hz, hpos, hzs, hag, by rw [hzz]; simp, fun y hy => ?_, fun j v y hv hy => ?_⟩
  · rw [hzz] at hy
    obtain ⟨u, hu, rfl⟩ := List.mem_map.1 hy
    rw [← (R.cv G u).one]
    exact hone u (by simpa using hu)
  · rw [hzz] at hy
    have : z.cells.toList[j]? = some v := by simpa using hv
    rw [List.getElem?_map, this] at hy
    simp at hy
    exact hy ▸ R.cv G v

/-- The parts of a struct, filled in. -/
theorem run_fill {T : TypeId} {fs : Array Field} (ht : P.underlying T = some (.struct fs)) (places : Array (Nat × Nat))
    (hpl : ∀ (j : Nat) (f : Field), fs[j]? = some f → ∃ i : TypeInfo, P.info? f.type = some i ∧ places[j]? = some (f.offset, i.size)) :
    ∀ (parts : List (Nat × VV)) (vps : List (Nat × Value)) (cs : List VV) (vs : Array Value) (cs' : List VV), RLs G vs cs →
      vps.length = parts.length → (∀ (i : Nat) (p : Nat × VV) (q : Nat × Value), parts[i]? = some p → vps[i]? = some q → p.1 = q.1 ∧ R G q.2 p.2) →
      vfill P T cs parts = some cs' → ∃ vs', Instr.fill (places[·]?) vs vps = some vs' ∧ RLs G vs' cs'
  | [], [], cs, vs, cs', h, _, _, hf => by
    simp only [vfill, Option.some.injEq] at hf
    subst hf
    exact ⟨vs, rfl, h⟩
  | (j, x) :: parts, (j', v) :: vps, cs, vs, cs', h, hl, hp, hf => by
    obtain ⟨e, hr⟩ := hp 0 _ _ rfl rfl
    simp only at e hr
    subst e
    simp only [vfill] at hf
    cases hq : qf P T j with
    | none => simp [hq] at hf
    | some q =>
      obtain ⟨off, sz, ag⟩ := q
      simp only [hq] at hf
      split at hf
      · rename_i hc
        obtain ⟨h1, h2, h3⟩ := hc
        have hpj : places[j]? = some (off, sz) := by
          unfold qf at hq
          simp only [ht] at hq
          cases hfj : fs[j]? with
          | none => simp [hfj] at hq
          | some f =>
            simp only [hfj] at hq
            obtain ⟨i, hi, hpp⟩ := hpl j f hfj
            cases hu : P.underlying f.type with
            | none => simp [hu] at hq
            | some d =>
              simp only [hu, hi] at hq
              split at hq
              · cases hq
              · simp only [Option.some.injEq, Prod.mk.injEq] at hq
                rw [hpp, ← hq.1, ← hq.2.1]
        have hcell := RLs.of_cells hr h3
        have hsz : v.cells.size = sz := hcell.1.trans h1
        have hlen : vs.size = cs.length := h.1
        have hle : off + x.cells.length ≤ cs.length := by omega
        have hstep := foldl_splice v.cells.toList off vs 0 (by simp; omega)
        have h' := h.splice hcell hle
        simp only [Nat.add_zero] at hstep
        rw [← hstep, Array.toArray_toList] at h'
        obtain ⟨vs', hv', hr'⟩ := run_fill ht places hpl parts vps _ _ cs' h' (by simpa using hl) (fun i p q hpi hqi => hp (i + 1) p q (by simpa using hpi) (by simpa using hqi)) hf
        refine ⟨vs', ?_, hr'⟩
        simp only [Instr.fill, hpj]
        rw [if_neg (by simp; omega)]
        rw [← hv', ← Array.foldl_toList, Array.toList_zipIdx]
      · cases hf

theorem run_mapM_places {fs : Array Field} (h : ∀ f, f ∈ fs → ∃ i, P.info? f.type = some i) :
    ∃ places : Array (Nat × Nat), (fs.mapM (m := Sem) fun f => do pure (f.offset, ← sizeOf f.type)).run P w = .ok places w ∧
      ∀ (j : Nat) (f : Field), fs[j]? = some f → ∃ i : TypeInfo, P.info? f.type = some i ∧ places[j]? = some (f.offset, i.size) := by
  have key : ∀ (l : List Field), (∀ f, f ∈ l → ∃ i, P.info? f.type = some i) →
      ∃ ps : List (Nat × Nat), (l.mapM (m := Sem) fun f => do pure (f.offset, ← sizeOf f.type)).run P w = .ok ps w ∧
        ∀ (j : Nat) (f : Field), l[j]? = some f → ∃ i : TypeInfo, P.info? f.type = some i ∧ ps[j]? = some (f.offset, i.size) := by
    intro l
    induction l with
    | nil => exact fun _ => ⟨[], by simp, fun j f hj => by simp at hj⟩
    | cons f l ih =>
      intro hl
      obtain ⟨i, hi⟩ := hl f (List.mem_cons_self)
      obtain ⟨ps, hps, hj⟩ := ih fun g hg => hl g (List.mem_cons_of_mem _ hg)
      refine ⟨(f.offset, i.size) :: ps, ?_, fun j g hg => ?_⟩
      · simp only [List.mapM_cons, Sem.run_bind, run_sizeOf hi, Result.andThen_ok, Sem.run_pure, hps]
      · cases j with
        | zero => simp at hg; subst hg; exact ⟨i, hi, rfl⟩
        | succ j => simpa using hj j g (by simpa using hg)
  obtain ⟨ps, hps, hj⟩ := key fs.toList (fun f hf => h f (by simpa using hf))
  refine ⟨ps.toArray, ?_, fun j f hf => by simpa using hj j f (by simpa using hf)⟩
  rw [Array.mapM_eq_mapM_toList]
  simp only [Sem.run_map, hps, Result.andThen_ok]

theorem run_build {T : TypeId} {parts : List (Nat × VV)} {vps : Array (Nat × Value)} {cs' : List VV} (hz : (qi P T).zok = true)
    (hl : vps.size = parts.length) (hp : ∀ (i : Nat) (p : Nat × VV) (q : Nat × Value), parts[i]? = some p → vps[i]? = some q → p.1 = q.1 ∧ R G q.2 p.2)
    (h : vfill P T (qi P T).z parts = some cs') (hst : fok P T = true) :
    ∃ vs', (Instr.build T vps).run P w = .ok (.agg vs') w ∧ RLs G vs' cs' := by
  obtain ⟨fs, ht, hfi⟩ : ∃ fs, P.underlying T = some (.struct fs) ∧ ∀ f, f ∈ fs → ∃ i, P.info? f.type = some i := by
    unfold fok at hst
    split at hst
    · rename_i fs ht
      refine ⟨fs, ht, fun f hf => ?_⟩
      obtain ⟨j, hj, rfl⟩ := Array.mem_iff_getElem.1 hf
      exact Option.isSome_iff_exists.1 (Array.all_eq_true.1 hst j hj)
    · cases hst
  obtain ⟨z, i, d, hi, hd, hk, hs, hzz, hpos, hzs, hag, hrl⟩ := RLs.zero (P := P) (G := G) hz
  obtain ⟨places, hpl, hpj⟩ := run_mapM_places (P := P) (w := w) hfi
  obtain ⟨vs', hv', hr'⟩ := run_fill (P := P) (G := G) ht places hpj parts vps.toList (qi P T).z z.cells cs' hrl (by simpa using hl)
    (fun i p q hpi hqi => hp i p q hpi (by simpa using hqi)) h
  refine ⟨vs', ?_, hr'⟩
  unfold Instr.build
  simp only [Sem.run_bind, zeroValue, typeInfo, run_program, Result.andThen_ok, hi, Sem.run_pure, hzz, run_underlying ht, hpl, hv']

theorem vrow_spec {sz : Nat} : ∀ (parts : List (Nat × VV)) (i : Nat) (xs : List (List VV)), vrow sz i parts = some xs →
    xs.length = parts.length ∧ (∀ x, x ∈ xs → x.length = sz) ∧ (∀ x, x ∈ xs → ∀ y, y ∈ x → y.one = true) ∧
      ∀ (j : Nat) (p : Nat × VV), parts[j]? = some p → p.1 = i + j ∧ xs[j]? = some p.2.cells ∧ p.2.cells.all VV.one = true
  | [], i, xs, h => by
    simp only [vrow, Option.some.injEq] at h
    subst h
    simp
  | (k, x) :: parts, i, xs, h => by
    simp only [vrow] at h
    split at h
    · rename_i hc
      obtain ⟨hk, hl, ho⟩ := hc
      cases hr : vrow sz (i + 1) parts with
      | none => simp [hr] at h
      | some ys =>
        simp only [hr, Option.map_some, Option.some.injEq] at h
        subst h
        obtain ⟨h1, h2, h3, h4⟩ := vrow_spec parts (i + 1) ys hr
        refine ⟨by simp [h1], fun z hz => ?_, fun z hz => ?_, fun j p hj => ?_⟩
        · rcases List.mem_cons.1 hz with rfl | hz
          · exact hl
          · exact h2 z hz
        · rcases List.mem_cons.1 hz with rfl | hz
          · exact fun y hy => List.all_eq_true.1 ho y hy
          · exact h3 z hz
        · cases j with
          | zero => simp at hj; subst hj; exact ⟨hk, rfl, ho⟩
          | succ j =>
            obtain ⟨a, b, c⟩ := h4 j p (by simpa using hj)
            exact ⟨by omega, by simpa using b, c⟩
    · cases h

/-- The rows of a slice, laid one behind the other. -/
theorem run_fillRow {sz : Nat} : ∀ (parts : List (Nat × VV)) (vps : List (Nat × Value)) (i : Nat) (xs : List (List VV)) (cs : Array Value), vrow sz i parts = some xs →
    vps.length = parts.length → (∀ (i : Nat) (p : Nat × VV) (q : Nat × Value), parts[i]? = some p → vps[i]? = some q → p.1 = q.1 ∧ R G q.2 p.2) →
    (i + parts.length) * sz ≤ cs.size →
    ∃ vs : Array Value, Instr.fill (fun i => some (i * sz, sz)) cs vps = some vs ∧ vs.size = cs.size ∧ (∀ k, k < i * sz → vs[k]? = cs[k]?) ∧
      ∀ (j m : Nat) (x : List VV) (y : VV), xs[j]? = some x → x[m]? = some y → ∃ v, vs[(i + j) * sz + m]? = some v ∧ R G v y
  | [], [], i, xs, cs, h, _, _, _ => by
    simp only [vrow, Option.some.injEq] at h
    subst h
    exact ⟨cs, rfl, rfl, fun _ _ => rfl, by simp⟩
  | (k, x) :: parts, (k', v) :: vps, i, xs, cs, h, hl, hp, hle => by
    simp only [vrow] at h
    split at h
    · rename_i hc
      obtain ⟨hk, hlx, ho⟩ := hc
      cases hr : vrow sz (i + 1) parts with
      | none => simp [hr] at h
      | some ys =>
        simp only [hr, Option.map_some, Option.some.injEq] at h
        subst h
        obtain ⟨e, hv⟩ := hp 0 _ _ rfl rfl
        simp only at e hv
        subst e
        subst hk
        obtain ⟨hvs, _, hvr⟩ := cells_spec hv ho
        have hmul : (k + 1) * sz ≤ (k + (parts.length + 1)) * sz := Nat.mul_le_mul_right _ (by omega)
        have hmul2 : (k + 1) * sz = k * sz + sz := Nat.succ_mul k sz
        simp only [List.length_cons] at hle
        have hfit : k * sz + v.cells.toList.length ≤ cs.size := by simp; omega
        have hstep := foldl_splice v.cells.toList (k * sz) cs 0 (by simpa using hfit)
        simp only [Nat.add_zero] at hstep
        have hlen1 : (splice cs.toList (k * sz) v.cells.toList).length = cs.size := by
          rw [splice_length _ _ _ (by simpa using hfit)]; simp
        obtain ⟨vs, hf, hs, hlow, hall⟩ := run_fillRow parts vps (k + 1) ys (splice cs.toList (k * sz) v.cells.toList).toArray hr (by simpa using hl)
          (fun i p q hpi hqi => hp (i + 1) p q (by simpa using hpi) (by simpa using hqi))
          (by rw [List.size_toArray, hlen1, show k + 1 + parts.length = k + (parts.length + 1) by omega]; exact hle)
        refine ⟨vs, ?_, by rw [hs, List.size_toArray, hlen1], fun q hq => ?_, fun j m z y hz hy => ?_⟩
        · simp only [Instr.fill]
          rw [if_neg (by simp at hfit ⊢; omega), ← hf, ← Array.foldl_toList, Array.toList_zipIdx, ← hstep, Array.toArray_toList]
        · rw [hlow q (by omega), List.getElem?_toArray, splice_get _ _ _ _ (by simpa using hfit), if_neg (by omega)]
          simp
        · cases j with
          | zero =>
            simp only [List.getElem?_cons_zero, Option.some.injEq] at hz
            subst hz
            have hm : m < x.cells.length := (List.getElem?_eq_some_iff.1 hy).1
            rw [Nat.add_zero, hlow _ (by omega), List.getElem?_toArray, splice_get _ _ _ _ (by simpa using hfit), if_pos (by simp; omega)]
            have hmv : m < v.cells.size := by omega
            refine ⟨v.cells[m], by simp [hmv], hvr m _ y (Array.getElem?_eq_getElem hmv) hy⟩
          | succ j =>
            obtain ⟨u, hu, hru⟩ := hall j m z y (by simpa using hz) hy
            exact ⟨u, by rw [← hu]; congr 3; omega, hru⟩
    · cases h

theorem run_buildSlice {T e : TypeId} {len : Nat} {parts : List (Nat × VV)} {vps : Array (Nat × Value)} {xs : List (List VV)} (hS : Sim w0 G w s)
    (hk : (qi P T).k = .slice e) (hz : (qi P e).zok = true) (hlen : parts.length = len) (hbig : len * (qi P e).sz ≤ 16777216)
    (hl : vps.size = parts.length) (hp : ∀ (i : Nat) (p : Nat × VV) (q : Nat × Value), parts[i]? = some p → vps[i]? = some q → p.1 = q.1 ∧ R G q.2 p.2)
    (h : vrow (qi P e).sz 0 parts = some xs) :
    ∃ v w' G', (Instr.buildSlice T len vps).run P w = .ok v w' ∧ G.le G' ∧ Sim w0 G' w' s ∧ R G' v (.lst xs (ownLit len)) := by
  obtain ⟨dT, iT, hdT, hiT, hkT, _⟩ := qi_spec (P := P) T (.inr (.inl (by rw [hk]; simp)))
  have hdT' : dT = .slice e := by
    rw [hk] at hkT
    cases dT <;> simp [qkOf] at hkT
    rw [hkT]
  subst hdT'
  obtain ⟨z, i, d, hi, hd, hke, hs, hzz, hpos, hzs, hag, hrl⟩ := RLs.zero (P := P) (G := G) hz
  obtain ⟨hxl, hx2, hx3, _⟩ := vrow_spec parts 0 xs h
  by_cases h00 : len = 0
  · subst h00
    have hp0 : parts = [] := List.eq_nil_of_length_eq_zero hlen
    subst hp0
    have hv0 : vps = #[] := by simpa using hl
    subst hv0
    have hx0 : xs = [] := by simpa [vrow] using h.symm
    subst hx0
    refine ⟨.slice (some ⟨w.heap.size, 0, none⟩) 0 0, _, G, ?_, Gh.le.refl G, hS.alloc (.cells #[] e), .emp _ _ _ (.inl rfl)⟩
    unfold Instr.buildSlice
    simp [run_underlying hdT, run_sizeOf hi, Instr.fill, newRow]
    rw [show (Array.range 0 : Array Nat) = #[] from Array.eq_empty_of_size_eq_zero (by simp), Array.map_empty]
  have h0 : 0 < len := by omega
  have hown : ownLit len = .full := by cases len with | zero => omega | succ n => rfl
  rw [hown]
  have hzne : len * i.size ≠ 0 := by
    have := Nat.mul_pos h0 hpos
    omega
  obtain ⟨vs, hf, hvs, _, hall⟩ := run_fillRow (G := G) parts vps.toList 0 xs ((Array.range (len * i.size)).map fun q => z.cells[q % z.cells.size]!) h
    (by simpa using hl) (fun i p q hpi hqi => hp i p q hpi (by simpa using hqi)) (by simp [hlen, hs])
  obtain ⟨hS', hG'⟩ := hS.alloc_know e vs
  refine ⟨.slice (some ⟨w.heap.size, 0, none⟩) len len, _, _, ?_, hG', hS', ?_⟩
  · unfold Instr.buildSlice
    simp only [Sem.run_bind, run_underlying hdT, Result.andThen_ok, run_sizeOf hi, Sem.run_ite]
    rw [if_neg (by rw [hs] at hbig; omega)]
    simp only [hzne, if_false, Sem.run_bind, zeroValue, typeInfo, run_program, hi, Result.andThen_ok, hzz, Sem.run_pure]
    rw [hs] at hf
    rw [hf]
    simp only [newRow, Sem.run_bind, run_newObj, Result.andThen_ok, Sem.run_pure]
    rfl
  · have hvsz : vs.size = len * i.size := by rw [hvs]; simp
    refine .lst w.heap.size 0 len len (qi P e).sz xs .full (fun a b => (vs[a * (qi P e).sz + b]?).getD default) (by omega) (Nat.le_refl _) hx2 hx3 (fun a b ha hb => ?_) (fun a b x y hxa hyb => ?_) (.inr (.inl ⟨rfl, rfl, by omega⟩))
    · rw [Gh.know_K, Nat.zero_add]
      have : a * (qi P e).sz + b < vs.size := by
        rw [hvsz, ← hs]
        have := Nat.mul_le_mul_right (qi P e).sz (show a + 1 ≤ len by omega)
        rw [Nat.succ_mul] at this
        omega
      simp [this]
    · obtain ⟨v, hv, hr⟩ := hall a b x y hxa hyb
      rw [Nat.zero_add] at hv
      simp only [hv, Option.getD_some]
      exact hr.mono hG'
end
end Go.Proofs.YtbfgdblebepgcaaDoor
