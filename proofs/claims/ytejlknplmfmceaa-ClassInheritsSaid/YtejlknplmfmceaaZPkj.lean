/- What is proved: Packed objects: a list that an object holds goes with its own row, which nobody else sees; What memory holds may be made weaker. Conditions: those that stand in the statements. -/
import Derived.Test.YtejlknplmfmceaaZGpj
import Derived.Test.YtejlknplmfmceaaZOoj
import Derived.Test.YtejlknplmfmceaaZFzj
set_option linter.unusedSimpArgs false
set_option linter.unusedVariables false
set_option linter.unusedVariables false
namespace Go.Proofs.Ytejlknplmfmceaa
open Go.RowKit

/-- Steps that the proof alone takes. -/
def GS (s s' : St) : Prop := ∀ (w0 : World) (G : Gh) (w : World), Sim w0 G w s → Sim w0 G w s'
theorem GS.refl (s : St) : GS s s := fun _ _ _ h => h
theorem GS.trans {a b c : St} (h : GS a b) (k : GS b c) : GS a c := fun w0 G w x => k w0 G w (h w0 G w x)
theorem GS.of_fg {s s' : St} (h : Fg s s') : GS s s' := fun _ _ _ x => x.forget h
section
variable {w0 w : World} {G : Gh} {s : St} {b : Nat} {T : TypeId} {xs : List VV} {rs rs' : List (Nat × TypeId × Nat)}
theorem GS.topk (hb : s b = .obj T xs) : GS s (s.set b (.pk T xs [])) := by
  intro w0 G w h
  have hob := h.ok b
  rw [hb] at hob
  refine ⟨h.below, h.K, h.cap, fun x => ?_, h.gl, ?_⟩
  · by_cases hx : x = b
    · subst hx; rw [St.set_same]; exact hob
    · rw [St.set_other _ _ hx]; exact h.ok x
  · obtain ⟨m, h1, h2, h3⟩ := h.rows
    refine ⟨m, h1, fun b' i g hm => ⟨?_, (h2 b' i g hm).2⟩, fun b' T' xs' rs' i T2 sz hx hr => ?_⟩
    · rw [St.set_other _ _ (by rintro rfl; have := (h2 b' i _ hm).1; rw [hb] at this; cases this)]
      exact (h2 b' i g hm).1
    · by_cases hxb : b' = b
      · subst hxb
        rw [St.set_same] at hx
        injection hx with e1 e2 e3
        subst e3
        cases hr
      · rw [St.set_other _ _ hxb] at hx
        exact h3 b' T' xs' rs' i T2 sz hx hr
theorem set_some {α : Type} {xs : List α} {i : Nat} {x y : α} (h : xs[i]? = some x) : (xs.set i y)[i]? = some y := by
  have := (List.getElem?_eq_some_iff.mp h).1
  simp [this]
/-- A list's own row goes into the object. -/
theorem GS.pack {i : Nat} {l : List (List VV)} {o : Own} {T' : TypeId} {sz : Nat} (hb : s b = .pk T xs rs) (hi : xs[i]? = some (.lst l o)) (ho : Owned s o T' sz l.length)
    (hrs : ∀ r, r ∈ rs' → r = (i, T', sz) ∨ (r ∈ rs ∧ r.1 ≠ i)) : GS s ((s.disown o).set b (.pk T (xs.set i (.lst l .no)) rs')) := by
  intro w0 G w h
  have hob := h.ok b
  rw [hb] at hob
  obtain ⟨hB, hn, c, hc, hsz, hx⟩ := hob
  obtain ⟨m, h1, h2, h3⟩ := h.rows
  obtain ⟨ho1, v, hv, hR⟩ := hx i _ hi
  have hkey : ∀ x, x ≠ b → ∀ c, CellOk w0.heap.size G w x c → CellOk w0.heap.size G w x c := fun _ _ _ h => h
  have hnb : NotOwn o b := by
    cases o with
    | at_ g => rintro rfl; simp only [Owned] at ho; rw [hb] at ho; cases ho
    | _ => trivial
  have hdis : ∀ x, x ≠ b → (s.disown o) x = s x ∨ (s.disown o) x = .free := fun x _ => by
    cases o with
    | at_ g =>
      simp only [St.disown, St.set]
      by_cases hg : x = g <;> simp [hg]
    | _ => exact .inl rfl
  have hcell : ∀ j x, (xs.set i (.lst l .no))[j]? = some x → x.one = true ∧ ∃ v, c[j]? = some v ∧ R G v x := fun j x hj => by
    by_cases hji : j = i
    · subst hji
      rw [set_some hi] at hj
      injection hj with hj
      subst hj
      exact ⟨rfl, v, hv, hR.unown⟩
    · rw [List.getElem?_set_ne (Ne.symm hji)] at hj
      exact hx j x hj
  have hmain : ∃ m' : Nat → Nat → Option Nat,
      (∀ b i b' i' g, m' b i = some g → m' b' i' = some g → b = b' ∧ i = i') ∧
      (∀ b' i' g, m' b' i' = some g → ((s.disown o).set b (.pk T (xs.set i (.lst l .no)) rs')) g = .free ∧ g < w.heap.size) ∧
      (∀ b' i', (b' ≠ b ∨ i' ≠ i) → m' b' i' = m b' i') ∧ RowAt w0.heap.size G w m' b T (xs.set i (.lst l .no)) i T' sz := by
    cases o with
    | no => exact ho.elim
    | full =>
      have hl : l = [] := List.eq_nil_of_length_eq_zero ho
      subst hl
      refine ⟨m, h1, fun b' i' g hm => ⟨?_, (h2 b' i' g hm).2⟩, fun _ _ _ => rfl, c, [], hc, set_some hi, .inl ⟨rfl, ?_⟩⟩
      · have := (h2 b' i' g hm).1
        rw [St.set_other _ _ (by rintro rfl; rw [hb] at this; cases this)]
        exact this
      · rw [hv]
        generalize hq : VV.lst [] .full = q at hR
        cases hR with
        | emp a cap o ho' =>
          injection hq with _ hq; subst hq
          rcases ho' with e | ⟨_, rfl, rfl⟩
          · cases e
          · rfl
        | lst b' off len cap sz' xs' o f hl hc' hz h1' hK hR' ho' =>
          injection hq with hq1 hq2; subst hq1; subst hq2
          rcases ho' with e | ⟨_, e1, e2⟩ | ⟨e, _⟩
          · cases e
          · simp at hl; omega
          · cases e
        | _ => cases hq
    | at_ g =>
      have hgv : s g = .vec T' sz l.length := ho
      have hgb : g ≠ b := fun e => (hnb : ¬ b = g) e.symm
      refine ⟨fun b' i' => if b' = b ∧ i' = i then some g else m b' i', fun b1 i1 b2 i2 g' e1 e2 => ?_, fun b' i' g' hm => ?_, fun b' i' hne => ?_, c, l, hc, set_some hi, .inr ?_⟩
      · by_cases hA : b1 = b ∧ i1 = i
        · by_cases hB' : b2 = b ∧ i2 = i
          · exact ⟨hA.1.trans hB'.1.symm, hA.2.trans hB'.2.symm⟩
          · simp only [if_pos hA, if_neg hB'] at e1 e2
            injection e1 with e1; subst e1
            have := (h2 _ _ _ e2).1; rw [hgv] at this; cases this
        · by_cases hB' : b2 = b ∧ i2 = i
          · simp only [if_neg hA, if_pos hB'] at e1 e2
            injection e2 with e2; subst e2
            have := (h2 _ _ _ e1).1; rw [hgv] at this; cases this
          · simp only [if_neg hA, if_neg hB'] at e1 e2
            exact h1 _ _ _ _ _ e1 e2
      · by_cases hA : b' = b ∧ i' = i
        · simp only [if_pos hA] at hm
          injection hm with hm; subst hm
          rw [St.set_other _ _ hgb]
          refine ⟨by simp [St.disown, St.set], h.lt (by rw [hgv]; simp)⟩
        · simp only [if_neg hA] at hm
          obtain ⟨a1, a2⟩ := h2 _ _ _ hm
          refine ⟨?_, a2⟩
          rw [St.set_other _ _ (by rintro rfl; rw [hb] at a1; cases a1)]
          simp only [St.disown, St.set]
          by_cases hgg : g' = g
          · simp [hgg]
          · simp [hgg, a1]
      · have : ¬ (b' = b ∧ i' = i) := by rintro ⟨e1, e2⟩; rcases hne with h | h; exact h e1; exact h e2
        simp only [if_neg this]
      · have hvec := h.ok g
        rw [hgv] at hvec
        generalize hq : VV.lst l (.at_ g) = q at hR
        cases hR with
        | emp a cap o ho' =>
          injection hq with _ hq; subst hq
          rcases ho' with e | ⟨e, _⟩ <;> cases e
        | lst b' off len cap sz' xs' o f hl hc' hz h1' hK hR' ho' =>
          injection hq with hq1 hq2; subst hq1; subst hq2
          rcases ho' with e | ⟨e, _⟩ | ⟨e, e1, e2⟩
          · cases e
          · cases e
          · injection e with e
            subst e; subst e1
            subst hl
            exact ⟨g, cap, by simp, hv, .lst g 0 _ cap sz' l (.at_ g) f rfl hc' hz h1' hK hR' (.inr (.inr ⟨rfl, rfl, e2⟩)), hvec⟩
        | _ => cases hq
  obtain ⟨m', n1, n2, n3, n4⟩ := hmain
  refine ⟨h.below, h.K, h.cap, fun x => ?_, h.gl, m', n1, n2, fun b' T2 xs2 rs2 j T3 sz3 hb' hr => ?_⟩
  · by_cases hxb : x = b
    · subst hxb
      rw [St.set_same]
      exact ⟨hB, hn, c, hc, by rw [hsz, List.length_set], hcell⟩
    · rw [St.set_other _ _ hxb]
      rcases hdis x hxb with e | e
      · rw [e]; exact h.ok x
      · rw [e]; trivial
  · by_cases hxb : b' = b
    · subst hxb
      rw [St.set_same] at hb'
      injection hb' with e1 e2 e3
      subst e1; subst e2; subst e3
      rcases hrs _ hr with e | ⟨hr1, hne⟩
      · injection e with e1 e2; injection e2 with e2 e3
        subst e1; subst e2; subst e3
        exact n4
      · obtain ⟨c', l', d1, d2, d3⟩ := h3 _ _ _ _ _ _ _ hb hr1
        exact ⟨c', l', d1, by rw [List.getElem?_set_ne (Ne.symm hne)]; exact d2, by rw [n3 b' j (.inr hne)]; exact d3⟩
    · rw [St.set_other _ _ hxb] at hb'
      have hb2 : s b' = .pk T2 xs2 rs2 := by
        rcases hdis b' hxb with e | e
        · rw [← e]; exact hb'
        · rw [e] at hb'; cases hb'
      obtain ⟨c', l', d1, d2, d3⟩ := h3 _ _ _ _ _ _ _ hb2 hr
      exact ⟨c', l', d1, d2, by rw [n3 b' j (.inl hxb)]; exact d3⟩
/-- .. and comes out. -/
theorem Sim.unpack (h : Sim w0 G w s) {i : Nat} {l : List (List VV)} {T' : TypeId} {sz : Nat} (hb : s b = .pk T xs rs) (hi : xs[i]? = some (.lst l .no)) (hr : (i, T', sz) ∈ rs)
    (hrs : ∀ r, r ∈ rs' → r ∈ rs ∧ r.1 ≠ i) : ∃ o, OwnOk s o l.length ∧ NotOwn o b ∧ Sim w0 G w ((s.own o T' sz l.length).set b (.pk T (xs.set i (.lst l o)) rs')) := by
  have hob := h.ok b
  rw [hb] at hob
  obtain ⟨hB, hn, c, hc, hsz, hx⟩ := hob
  obtain ⟨m, h1, h2, h3⟩ := h.rows
  obtain ⟨c', l', d1, d2, d3⟩ := h3 _ _ _ _ _ _ _ hb hr
  rw [hc] at d1
  injection d1 with d1; injection d1 with d1; subst d1
  rw [hi] at d2
  injection d2 with d2; injection d2 with d2; subst d2
  have hcell : ∀ o v, c[i]? = some v → R G v (.lst l o) → ∀ j x, (xs.set i (.lst l o))[j]? = some x → x.one = true ∧ ∃ v, c[j]? = some v ∧ R G v x := fun o v hv hR j x hj => by
    by_cases hji : j = i
    · subst hji
      rw [set_some hi] at hj
      injection hj with hj
      subst hj
      exact ⟨rfl, v, hv, hR⟩
    · rw [List.getElem?_set_ne (Ne.symm hji)] at hj
      exact hx j x hj
  rcases d3 with ⟨hl, hv⟩ | ⟨g, cap, hm, hv, hR, hvec⟩
  · subst hl
    refine ⟨.full, rfl, trivial, h.below, h.K, h.cap, fun x => ?_, h.gl, m, h1, fun b' i' g hm => ⟨?_, (h2 b' i' g hm).2⟩, fun b' T2 xs2 rs2 j T3 sz3 hb' hr' => ?_⟩
    · by_cases hxb : x = b
      · subst hxb
        rw [St.set_same]
        exact ⟨hB, hn, c, hc, by rw [hsz, List.length_set], hcell .full _ hv (.emp _ _ _ (.inr ⟨rfl, rfl, rfl⟩))⟩
      · rw [St.set_other _ _ hxb]; exact h.ok x
    · have := (h2 b' i' g hm).1
      rw [St.set_other _ _ (by rintro rfl; rw [hb] at this; cases this)]
      exact this
    · by_cases hxb : b' = b
      · subst hxb
        rw [St.set_same] at hb'
        injection hb' with e1 e2 e3
        subst e1; subst e2; subst e3
        obtain ⟨hr1, hne⟩ := hrs _ hr'
        obtain ⟨c', l', d1, d2, d3⟩ := h3 _ _ _ _ _ _ _ hb hr1
        exact ⟨c', l', d1, by rw [List.getElem?_set_ne (Ne.symm hne)]; exact d2, d3⟩
      · rw [St.set_other _ _ hxb] at hb'
        exact h3 _ _ _ _ _ _ _ hb' hr'
  · obtain ⟨hgf, hgl⟩ := h2 _ _ _ hm
    have hgb : g ≠ b := by rintro rfl; rw [hb] at hgf; cases hgf
    refine ⟨.at_ g, hgf, fun e => hgb e.symm, h.below, h.K, h.cap, fun x => ?_, h.gl, fun b' i' => if b' = b ∧ i' = i then none else m b' i', fun b1 i1 b2 i2 g' e1 e2 => ?_, fun b' i' g' hm' => ?_, fun b' T2 xs2 rs2 j T3 sz3 hb' hr' => ?_⟩
    · by_cases hxb : x = b
      · subst hxb
        rw [St.set_same]
        exact ⟨hB, hn, c, hc, by rw [hsz, List.length_set], hcell _ _ hv hR⟩
      · rw [St.set_other _ _ hxb]
        simp only [St.own, St.set]
        by_cases hxg : x = g
        · subst hxg; simp only [if_true]; exact hvec
        · simp only [if_neg hxg]; exact h.ok x
    · by_cases hA : b1 = b ∧ i1 = i
      · simp only [if_pos hA] at e1; cases e1
      · by_cases hB' : b2 = b ∧ i2 = i
        · simp only [if_pos hB'] at e2; cases e2
        · simp only [if_neg hA, if_neg hB'] at e1 e2
          exact h1 _ _ _ _ _ e1 e2
    · by_cases hA : b' = b ∧ i' = i
      · simp only [if_pos hA] at hm'; cases hm'
      · simp only [if_neg hA] at hm'
        obtain ⟨a1, a2⟩ := h2 _ _ _ hm'
        refine ⟨?_, a2⟩
        rw [St.set_other _ _ (by rintro rfl; rw [hb] at a1; cases a1)]
        simp only [St.own, St.set]
        rw [if_neg]
        · exact a1
        · rintro rfl
          exact hA (h1 _ _ _ _ _ hm' hm)
    · by_cases hxb : b' = b
      · subst hxb
        rw [St.set_same] at hb'
        injection hb' with e1 e2 e3
        subst e1; subst e2; subst e3
        obtain ⟨hr1, hne⟩ := hrs _ hr'
        obtain ⟨c', l', d1, d2, d3⟩ := h3 _ _ _ _ _ _ _ hb hr1
        refine ⟨c', l', d1, by rw [List.getElem?_set_ne (Ne.symm hne)]; exact d2, ?_⟩
        have hh : (if b' = b' ∧ j = i then none else m b' j) = m b' j := if_neg (fun hh => hne hh.2)
        rcases d3 with d3 | ⟨g1, cap1, d3, d4⟩
        · exact .inl d3
        · exact .inr ⟨g1, cap1, hh.trans d3, d4⟩
      · rw [St.set_other _ _ hxb] at hb'
        have hb2 : s b' = .pk T2 xs2 rs2 := by
          simp only [St.own, St.set] at hb'
          by_cases hxg : b' = g
          · subst hxg; simp at hb'
          · simpa only [if_neg hxg] using hb'
        obtain ⟨c', l', d1, d2, d3⟩ := h3 _ _ _ _ _ _ _ hb2 hr'
        refine ⟨c', l', d1, d2, ?_⟩
        simp only [if_neg (fun hh : b' = b ∧ j = i => hxb hh.1)]
        exact d3
theorem R.wkrow {v : Value} {l l' : List (List VV)} {o : Own} (hl : l'.length = l.length) (hw : ∀ (i : Nat) (x' : List VV), l'[i]? = some x' → ∃ x, l[i]? = some x ∧ WkL x x') (h : R G v (.lst l o)) : R G v (.lst l' o) := by
  generalize hq : VV.lst l o = q at h
  cases h with
  | emp a cap o2 ho =>
    injection hq with hq1 hq2; subst hq1; subst hq2
    obtain rfl : l' = [] := List.eq_nil_of_length_eq_zero hl
    exact .emp _ _ _ ho
  | lst b' off len cap sz' xs' o f hl2 hc' hz h1' hK hR' ho' =>
    injection hq with hq1 hq2; subst hq1; subst hq2
    refine .lst b' off len cap sz' l' _ f (hl.trans hl2) hc' (fun x hx => ?_) (fun x hx y hy => ?_) hK (fun i j x y hx hy => ?_) ho'
    · obtain ⟨i, hi⟩ := List.getElem?_of_mem hx
      obtain ⟨x0, h0, h2⟩ := hw i x hi
      rw [← hz x0 (List.mem_of_getElem? h0), h2.len]
    · obtain ⟨i, hi⟩ := List.getElem?_of_mem hx
      obtain ⟨j, hj⟩ := List.getElem?_of_mem hy
      obtain ⟨x0, h0, h2⟩ := hw i x hi
      obtain ⟨y0, h3, _, h4⟩ := h2.get j y hj
      exact h4 (h1' x0 (List.mem_of_getElem? h0) y0 (List.mem_of_getElem? h3))
    · obtain ⟨x0, h0, h2⟩ := hw i x hx
      obtain ⟨y0, h3, h4, _⟩ := h2.get j y hy
      exact h4 _ _ (hR' i j x0 y0 h0 h3)
  | _ => cases hq
/-- What a packed list holds may be made weaker. -/
theorem GS.wkrow {i : Nat} {l l' : List (List VV)} (hb : s b = .pk T xs rs) (hi : xs[i]? = some (.lst l .no)) (hl : l'.length = l.length) (hw : ∀ (i : Nat) (x' : List VV), l'[i]? = some x' → ∃ x, l[i]? = some x ∧ WkL x x') :
    GS s (s.set b (.pk T (xs.set i (.lst l' .no)) rs)) := by
  intro w0 G w h
  have hob := h.ok b
  rw [hb] at hob
  obtain ⟨hB, hn, c, hc, hsz, hx⟩ := hob
  obtain ⟨m, h1, h2, h3⟩ := h.rows
  refine ⟨h.below, h.K, h.cap, fun x => ?_, h.gl, m, h1, fun b' i' g hm => ⟨?_, (h2 b' i' g hm).2⟩, fun b' T2 xs2 rs2 j T3 sz3 hb' hr => ?_⟩
  · by_cases hxb : x = b
    · subst hxb
      rw [St.set_same]
      refine ⟨hB, hn, c, hc, by rw [hsz, List.length_set], fun j y hj => ?_⟩
      by_cases hji : j = i
      · subst hji
        rw [set_some hi] at hj
        injection hj with hj
        subst hj
        obtain ⟨_, v, hv, hR⟩ := hx j _ hi
        exact ⟨rfl, v, hv, hR.wkrow hl hw⟩
      · rw [List.getElem?_set_ne (Ne.symm hji)] at hj
        exact hx j y hj
    · rw [St.set_other _ _ hxb]; exact h.ok x
  · have := (h2 b' i' g hm).1
    rw [St.set_other _ _ (by rintro rfl; rw [hb] at this; cases this)]
    exact this
  · by_cases hxb : b' = b
    · subst hxb
      rw [St.set_same] at hb'
      injection hb' with e1 e2 e3
      subst e1; subst e2; subst e3
      obtain ⟨c', l0, d1, d2, d3⟩ := h3 _ _ _ _ _ _ _ hb hr
      by_cases hji : j = i
      · subst hji
        rw [hi] at d2
        injection d2 with d2; injection d2 with d2; subst d2
        refine ⟨c', l', d1, set_some hi, ?_⟩
        rcases d3 with ⟨d3, d4⟩ | ⟨g, cap, e1, e2, e3, e4⟩
        · subst d3
          exact .inl ⟨List.eq_nil_of_length_eq_zero hl, d4⟩
        · refine .inr ⟨g, cap, e1, ?_, ?_, ?_⟩
          · rw [hl]; exact e2
          · have := e3.wkrow hl hw
            rw [hl]; exact this
          · rw [hl]; exact e4
      · exact ⟨c', l0, d1, by rw [List.getElem?_set_ne (Ne.symm hji)]; exact d2, d3⟩
    · rw [St.set_other _ _ hxb] at hb'
      exact h3 _ _ _ _ _ _ _ hb' hr
end
section
variable {P : Program} {N : Nat} {D : List Deferred} {k : List Itm} {Q : Pst} {env : Env} {s : St} {c : Code}
theorem ownok_pk {o : Own} {n b : Nat} {T : TypeId} {xs : List VV} {rs : List (Nat × TypeId × Nat)} : OwnOk (s.set b (.pk T xs rs)) o n = (NotOwn o b ∧ OwnOk s o n) := by
  cases o with
  | at_ x =>
    simp only [OwnOk, NotOwn, St.set]
    by_cases h : x = b
    · simp [h]
    · have h' : ¬ b = x := fun e => h e.symm
      simp [h, h']
  | _ => simp [OwnOk, NotOwn]
theorem Kp_gs {s' : St} (hg : GS s s') (h : Kp P N D (.code c :: k) Q .norm env s') : Kp P N D (.code c :: k) Q .norm env s :=
  fun w0 G w a hfr hD hS => h w0 G w a hfr hD (hg _ _ _ hS)
theorem Kp_unpk (b i : Nat) {T : TypeId} {xs : List VV} {rs : List (Nat × TypeId × Nat)} {l : List (List VV)} {T' : TypeId} {sz : Nat} (rs' : List (Nat × TypeId × Nat))
    (hb : s b = .pk T xs rs) (hi : xs[i]? = some (.lst l .no)) (hr : (i, T', sz) ∈ rs) (hrs : ∀ r, r ∈ rs' → r ∈ rs ∧ r.1 ≠ i)
    (h : ∀ o, OwnOk s o l.length → NotOwn o b → Kp P N D (.code c :: k) Q .norm env ((s.own o T' sz l.length).set b (.pk T (xs.set i (.lst l o)) rs'))) : Kp P N D (.code c :: k) Q .norm env s :=
  fun w0 G w a hfr hD hS => let ⟨o, h1, h2, h3⟩ := hS.unpack hb hi hr hrs; h o h1 h2 w0 G w a hfr hD h3
theorem SCalls.gs {f : FuncId} {xs : List VV} {Q : SEnd → St → Prop} (h : SCalls P f xs s fun e t => ∃ t', GS t t' ∧ Q e t') : SCalls P f xs s Q := by
  intro w0 G w vs hS hR
  refine (h w0 G w vs hS hR).mono ?_
  rintro e w' ⟨G', s', x, hG, hS', hE, t', hg, hq⟩
  exact ⟨G', t', x, hG, hg _ _ _ hS', hE, hq⟩
/-- A loop, the proof's own steps being taken after each round. -/
theorem G_loopS (I : Nat → Env → St → Prop) (n : Nat) (h0 : ∃ s0, GS s s0 ∧ I n env s0)
    (hr : ∀ n env s, I n env s → Kp P N D (.code c :: .back (fun env' s' => ∃ s'', GS s' s'' ∧ ∃ m, m < n ∧ I m env' s'') :: k) Q .norm env s) :
    Kp P N D (.code (.loop c) :: k) Q .norm env s := by
  obtain ⟨s0, hf, h0⟩ := h0
  refine Kp_gs hf ?_
  refine L_loop (fun n env s' => ∃ s'', GS s' s'' ∧ I n env s'') n ⟨s0, GS.refl _, h0⟩ ?_
  rintro n env s' ⟨s'', hf, hI⟩
  refine Kp_gs hf ?_
  refine Kp_back_mono ?_ (hr n env s'' hI)
  rintro env s ⟨s3, h1, m, hm, h2⟩
  exact ⟨m, hm, s3, h1, h2⟩
end
end Go.Proofs.Ytejlknplmfmceaa
set_option maxRecDepth 100000
namespace Go.Proofs.Ytejlknplmfmceaa
open Go.RowKit

theorem GS.wkobj {s : St} {b : Nat} {T : TypeId} {xs ys : List VV} (hb : s b = .obj T xs) (hl : ys.length = xs.length)
    (hw : ∀ (j : Nat) (y : VV), ys[j]? = some y → ∃ x, xs[j]? = some x ∧ Wk x y ∧ (x.one = true → y.one = true)) : GS s (s.set b (.obj T ys)) := by
  intro w0 G w h
  have hob := h.ok b
  rw [hb] at hob
  obtain ⟨hB, hn, c, hc, hsz, hx⟩ := hob
  refine ⟨h.below, h.K, h.cap, fun x => ?_, h.gl, h.rows.keep' (Gh.le.refl G) (Nat.le_refl _) (fun g _ hg => ⟨?_, rfl, fun _ => rfl⟩) (fun b' T' xs' rs' hb' => ?_)⟩
  · by_cases e : x = b
    · subst e
      rw [St.set_same]
      refine ⟨hB, hn, c, hc, hsz.trans hl.symm, fun i y hy => ?_⟩
      obtain ⟨x0, h0, h1, h2⟩ := hw i y hy
      obtain ⟨h3, v, hv, hR⟩ := hx i x0 h0
      exact ⟨h2 h3, v, hv, h1 G v hR⟩
    · rw [St.set_other _ _ e]; exact h.ok x
  · rw [St.set_other _ _ (by rintro rfl; rw [hb] at hg; cases hg)]; exact hg
  · have hne : b' ≠ b := by rintro rfl; rw [St.set_same] at hb'; cases hb'
    rw [St.set_other _ _ hne] at hb'
    exact ⟨hb', rfl⟩
theorem Wk.rows {l l' : List (List VV)} {o : Own} (hl : l'.length = l.length) (hw : ∀ (i : Nat) (x' : List VV), l'[i]? = some x' → ∃ x, l[i]? = some x ∧ WkL x x') : Wk (.lst l o) (.lst l' o) :=
  fun _ _ h => h.wkrow hl hw
theorem OwnOk.fg {B T : St} {o : Own} {n : Nat} (h : OwnOk B o n) (hf : Fg B T) : OwnOk T o n := by
  cases o with
  | at_ b =>
    rcases hf b with e | e
    · exact e
    · exact e.trans h
  | _ => exact h
theorem Fg.free {B T : St} (h : Fg B T) {b : Nat} (hb : B b = .free) : T b = .free := by
  rcases h b with e | e
  · exact e
  · exact e.trans hb
end Go.Proofs.Ytejlknplmfmceaa
