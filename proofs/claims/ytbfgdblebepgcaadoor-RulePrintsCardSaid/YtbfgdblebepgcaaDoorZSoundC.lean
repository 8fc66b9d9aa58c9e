/- What is proved: That what is said of a region's operations holds of the model's: addresses, indexes, slices, lengths, append. Conditions: those that stand in the statements. -/
import Derived.Test.YtbfgdblebepgcaaDoorZSoundB
set_option linter.unusedSimpArgs false
set_option linter.unusedVariables false
namespace Go.Proofs.YtbfgdblebepgcaaDoor
open Go.RowKit

section
variable {P : Program} {N : Nat} {w0 w w' : World} {G G' : Gh} {s s' : St}

theorem qf_spec {T : TypeId} {j off sz : Nat} {ag : Bool} (h : qf P T j = some (off, sz, ag)) :
    ∃ fs f d i, P.underlying T = some (.struct fs) ∧ fs[j]? = some f ∧ P.underlying f.type = some d ∧ P.info? f.type = some i ∧ i.size ≠ 0 ∧ f.offset = off ∧ i.size = sz ∧ (qkOf d).agg = ag := by
  unfold qf at h
  split at h
  · rename_i fs hu
    split at h
    · rename_i f hf
      split at h
      · rename_i d i hd hi
        split at h
        · cases h
        · rename_i hz
          simp only [Option.some.injEq, Prod.mk.injEq] at h
          exact ⟨fs, f, d, i, hu, hf, hd, hi, hz, h.1, h.2.1, h.2.2⟩
      · cases h
    · cases h
  · cases h

theorem run_fieldAt {T : TypeId} {j off sz : Nat} {ag : Bool} (h : qf P T j = some (off, sz, ag)) (b o : Nat) :
    (Instr.fieldAt T (.pointer (some ⟨b, o, none⟩)) j).run P w = .ok (.pointer (some ⟨b, o + off, none⟩)) w := by
  obtain ⟨fs, f, d, i, hu, hf, hd, hi, hz, ho, hs, _⟩ := qf_spec h
  unfold Instr.fieldAt
  simp only [Sem.run_bind, run_underlying hu, Result.andThen_ok, hf, Instr.sureAddr, Sem.run_pure, fieldPlace, run_sizeOf hi, Sem.run_ite]
  rw [if_neg hz]
  simp [add_none, ho]

theorem R.eptr_drop {b o : Nat} {cs : List VV} (h : R G (.pointer (some ⟨b, o, none⟩)) (.eptr cs)) (off : Nat) : R G (.pointer (some ⟨b, o + off, none⟩)) (.eptr (cs.drop off)) := by
  cases h with
  | eptr b off' cs f h1 hK hR =>
    refine .eptr b (o + off) _ (fun j => f (off + j)) (fun y hy => h1 y (List.mem_of_mem_drop hy)) (fun j hj => ?_) (fun j y hy => ?_)
    · rw [List.length_drop] at hj
      rw [Nat.add_assoc]
      exact hK _ (by omega)
    · rw [List.getElem?_drop] at hy
      exact hR _ y hy

theorem run_field {T : TypeId} {j off sz : Nat} {ag : Bool} {cs : List VV} {v : Value} {x : VV} (h : qf P T j = some (off, sz, ag)) (hv : R G v (.agg cs)) (hx : partOf cs off sz ag = some x) :
    ∃ u, (Instr.field T v j).run P w = .ok u w ∧ R G u x := by
  obtain ⟨fs, f, d, i, hu, hf, hd, hi, hz, ho, hs, hag⟩ := qf_spec h
  cases hv with
  | agg vs xs hsz h1 hR =>
    unfold partOf at hx
    split at hx
    · rename_i hle
      unfold Instr.field
      simp only [Sem.run_bind, run_underlying hu, Result.andThen_ok, hf, asAgg, Sem.run_pure, part, run_isAgg hd, Sem.run_ite, run_sizeOf hi, hag, ho]
      cases ag with
      | true =>
        simp only [if_true, Option.some.injEq] at hx
        subst hx
        refine ⟨_, by simp; rfl, .agg _ _ (by simp; omega) (fun y hy => h1 y (List.mem_of_mem_drop (List.mem_of_mem_take hy))) (fun k v y hv hy => ?_)⟩
        rw [Array.getElem?_extract] at hv
        rw [List.getElem?_take] at hy
        split at hy
        · rw [List.getElem?_drop] at hy
          split at hv
          · exact hR _ v y hv hy
          · cases hv
        · cases hy
      | false =>
        simp only [Bool.false_eq_true, if_false] at hx ⊢
        split at hx
        · have hlt : off < vs.size := by have := (List.getElem?_eq_some_iff.1 hx).1; omega
          refine ⟨vs[off], by simp [hlt], hR off _ x (Array.getElem?_eq_getElem hlt) hx⟩
        · cases hx
    · cases hx

theorem kind_slice {T e : TypeId} (hk : (qi P T).k = .slice e) : P.underlying T = some (.slice e) := by
  obtain ⟨d, i, hd, hi, hkT, _⟩ := qi_spec (P := P) T (.inr (.inl (by rw [hk]; simp)))
  rw [hk] at hkT
  cases d <;> simp [qkOf] at hkT
  rw [hd, hkT]
theorem kind_str {T : TypeId} (hk : (qi P T).k = .str) : P.underlying T = some .string := by
  obtain ⟨d, i, hd, hi, hkT, _⟩ := qi_spec (P := P) T (.inr (.inl (by rw [hk]; simp)))
  rw [hk] at hkT
  cases d <;> simp [qkOf] at hkT
  exact hd
theorem kind_bool {T : TypeId} (hk : (qi P T).k = .bool) : P.underlying T = some .bool := by
  obtain ⟨d, i, hd, hi, hkT, _⟩ := qi_spec (P := P) T (.inr (.inl (by rw [hk]; simp)))
  rw [hk] at hkT
  cases d <;> simp [qkOf] at hkT
  exact hd
theorem kind_int {T : TypeId} {k : IntKind} (hk : (qi P T).k = .int k) : P.underlying T = some (.int k) := by
  obtain ⟨d, i, hd, hi, hkT, _⟩ := qi_spec (P := P) T (.inr (.inl (by rw [hk]; simp)))
  rw [hk] at hkT
  cases d <;> simp [qkOf] at hkT
  rw [hd, hkT]
theorem kind_map {T k e : TypeId} (hk : (qi P T).k = .map k e) : P.underlying T = some (.map k e) := by
  obtain ⟨d, i, hd, hi, hkT, _⟩ := qi_spec (P := P) T (.inr (.inl (by rw [hk]; simp)))
  rw [hk] at hkT
  cases d <;> simp [qkOf] at hkT
  rw [hd, hkT.1, hkT.2]

/-- An element's place. -/
theorem R.elem {v : Value} {xs : List (List VV)} {o : Own} {n : Nat} {cs : List VV} (h : R G v (.lst xs o)) (hx : xs[n]? = some cs) :
    ∃ b off len cap sz, v = .slice (some ⟨b, off, none⟩) len cap ∧ n < len ∧ cs.length = sz ∧ R G (.pointer (some ⟨b, off + n * sz, none⟩)) (.eptr cs) := by
  cases h with
  | emp a cap o ho => simp at hx
  | lst b off len cap sz xs o f hl hc hz h1 hK hR ho =>
    have hm : cs ∈ xs := List.mem_iff_getElem?.2 ⟨n, hx⟩
    have hn : n < xs.length := (List.getElem?_eq_some_iff.1 hx).1
    refine ⟨b, off, len, cap, sz, rfl, by omega, hz cs hm, .eptr b _ cs (f n) (h1 cs hm) (fun j hj => ?_) (fun j y hy => hR n j cs y hx hy)⟩
    rw [Nat.add_assoc]
    exact hK n j (by omega) (by have := hz cs hm; omega)

theorem run_vidx {T : TypeId} {v u : Value} {x i y : VV} (hv : R G v x) (hu : R G u i) (h : vidx (qi P T) (qi P (elemT (qi P T))).sz x i = some y) :
    ∃ p, (Instr.indexAt T v u).run P w = .ok p w ∧ R G p y := by
  unfold vidx at h
  split at h
  · rename_i e xs o k n hk
    split at h
    · rename_i h0
      cases hx : xs[n.toNat]? with
      | none => simp [hx] at h
      | some cs =>
        simp only [hx, Option.bind_some] at h
        split at h
        · rename_i hsz
          simp only [Option.some.injEq] at h
          subst h
          cases hu
          obtain ⟨b, off, len, cap, sz, rfl, hlt, hcs, hp⟩ := R.elem hv hx
          have hd := kind_slice hk
          have he : elemT (qi P T) = e := by simp [elemT, hk]
          rw [he] at hsz
          have hinfo : ∃ i, P.info? e = some i ∧ i.size = sz := by
            obtain ⟨d', i', _, hi', _, hs', _⟩ := qi_spec (P := P) e (.inl (by omega))
            exact ⟨i', hi', by omega⟩
          obtain ⟨ie, hie, hies⟩ := hinfo
          refine ⟨_, ?_, hp⟩
          unfold Instr.indexAt
          simp only [asIntOf, Sem.run_bind, Sem.run_pure, Result.andThen_ok, run_underlying hd]
          rw [if_pos ⟨h0, by omega⟩]
          simp only [Sem.run_bind, run_sizeOf hie, Result.andThen_ok, Sem.run_pure, add_none, hies]
        · cases h
    · cases h
  · cases h

theorem run_vat {T : TypeId} {v u : Value} {x i y : VV} (hv : R G v x) (hu : R G u i) (h : vat (qi P T) x i = some y) :
    ∃ p, (Instr.index T v u).run P w = .ok p w ∧ R G p y := by
  unfold vat at h
  split at h
  · rename_i l k n hk
    split at h
    · rename_i h0
      cases hx : l[n.toNat]? with
      | none => simp [hx] at h
      | some c =>
        simp only [hx, Option.map_some, Option.some.injEq] at h
        subst h
        cases hu
        cases hv with
        | str a =>
          refine ⟨.int .u8 c.toNat, ?_, .int _ _⟩
          have hg : (⟨a⟩ : ByteArray)[n.toNat]? = some c := by
            have := hx
            rw [Array.getElem?_toList] at this
            exact this
          unfold Instr.index
          simp only [asIntOf, Sem.run_bind, Sem.run_pure, Result.andThen_ok, run_underlying (kind_str hk), h0, if_true, hg]
    · cases h
  · cases h
/-- Two lists of operands that stand for one another. -/
def RO (G : Gh) : Option Value → Option VV → Prop
  | none, none => True
  | some v, some x => R G v x
  | _, _ => False

theorem run_bound {y : VV} {v : Value} {dflt b : Nat} {c : BoundsCode} {top : Nat} (h : vbound (some y) dflt = some b) (hr : R G v y) (hb : b ≤ top) :
    (Instr.sliceBound v top c).run P w = .ok b w := by
  cases y with
  | int k n =>
    cases hr
    simp only [vbound] at h
    split at h
    · rename_i h0
      simp only [Option.some.injEq] at h
      simp only [Instr.sliceBound, asIntOf, Sem.run_bind, Sem.run_pure, Result.andThen_ok]
      rw [if_pos ⟨h0, by omega⟩]
      simp [h]
    · cases h
  | _ => simp [vbound] at h

theorem run_bounds {isS : Bool} {len cap a b : Nat} {lo hi : Option VV} {ulo uhi : Option Value} (hlo : RO G ulo lo) (hhi : RO G uhi hi)
    (ha : vbound lo 0 = some a) (hb : vbound hi len = some b) (hab : a ≤ b) (hbc : b ≤ cap) :
    (Instr.sliceBounds isS len cap ulo uhi none).run P w = .ok (a, b, cap) w := by
  unfold Instr.sliceBounds
  cases hi with
  | none =>
    cases uhi with
    | some u => exact hhi.elim
    | none =>
      simp only [vbound, Option.some.injEq] at hb
      subst hb
      cases lo with
      | none =>
        cases ulo with
        | some u => exact hlo.elim
        | none =>
          simp only [vbound, Option.some.injEq] at ha
          simp [ha]
      | some y =>
        cases ulo with
        | none => exact hlo.elim
        | some u => simp [run_bound (P := P) (w := w) ha hlo hab]
  | some yh =>
    cases uhi with
    | none => exact hhi.elim
    | some uh =>
      cases lo with
      | none =>
        cases ulo with
        | some u => exact hlo.elim
        | none =>
          simp only [vbound, Option.some.injEq] at ha
          simp [run_bound (P := P) (w := w) hb hhi hbc, ha]
      | some y =>
        cases ulo with
        | none => exact hlo.elim
        | some u => simp [run_bound (P := P) (w := w) hb hhi hbc, run_bound (P := P) (w := w) ha hlo hab]

theorem R.sub {b off len cap lo hi sz : Nat} {xs : List (List VV)} {o : Own} (h : R G (.slice (some ⟨b, off, none⟩) len cap) (.lst xs o)) (hle : lo ≤ hi) (hlen : hi ≤ xs.length)
    (hsz : ∀ x, x ∈ xs → x.length = sz) : R G (.slice (if cap = lo then some ⟨b, off, none⟩ else some ⟨b, off + lo * sz, none⟩) (hi - lo) (cap - lo)) (.lst ((xs.take hi).drop lo) .no) := by
  by_cases heq : hi = lo
  · subst heq
    have : (xs.take hi).drop hi = [] := List.drop_eq_nil_of_le (by rw [List.length_take]; omega)
    rw [this, Nat.sub_self]
    exact .emp _ _ _ (.inl rfl)
  · cases h with
    | emp a cap o ho => simp at hlen; omega
    | lst b off len cap sz' xs o f hl hc hz h1 hK hR ho =>
      have hne : xs ≠ [] := by intro e; subst e; simp at hlen; omega
      have hs' : sz' = sz := by
        obtain ⟨x, hx⟩ := List.exists_mem_of_ne_nil xs hne
        rw [← hz x hx, hsz x hx]
      subst hs'
      rw [if_neg (by omega)]
      have hmem : ∀ x, x ∈ (xs.take hi).drop lo → x ∈ xs := fun x hx => List.mem_of_mem_take (List.mem_of_mem_drop hx)
      refine .lst b _ _ _ sz' _ .no (fun i j => f (lo + i) j) (by rw [List.length_drop, List.length_take]; omega) (by omega) (fun x hx => hz x (hmem x hx)) (fun x hx => h1 x (hmem x hx)) (fun i j hi' hj => ?_) (fun i j x y hx hy => ?_) (.inl rfl)
      · have := hK (lo + i) j (by omega) hj
        rw [Nat.add_mul] at this
        rw [← this]
        congr 1
        omega
      · rw [List.getElem?_drop, List.getElem?_take] at hx
        split at hx
        · exact hR _ j x y hx hy
        · cases hx

theorem extract_str (a : Array UInt8) (lo hi : Nat) : ((⟨a⟩ : ByteArray).extract lo hi) = ⟨((a.toList.take hi).drop lo).toArray⟩ := by
  have : ((⟨a⟩ : ByteArray).extract lo hi).data = ((a.toList.take hi).drop lo).toArray := by
    rw [ByteArray.data_extract]
    apply Array.toList_inj.1
    simp [List.drop_take]
  exact congrArg ByteArray.mk this

theorem run_vslice {T : TypeId} {v : Value} {x y : VV} {lo hi : Option VV} {ulo uhi : Option Value} (hv : R G v x) (hlo : RO G ulo lo) (hhi : RO G uhi hi)
    (h : vslice (qi P T) (qi P (elemT (qi P T))) x lo hi = some y) : ∃ p, (Instr.sliceAt T v ulo uhi none).run P w = .ok p w ∧ R G p y := by
  unfold vslice at h
  split at h
  · rename_i l hk
    split at h
    · rename_i a b ha hb
      split at h
      · rename_i hab
        simp only [Option.some.injEq] at h
        subst h
        cases hv with
        | str arr =>
          have hd := kind_str hk
          have hbs := run_bounds (P := P) (w := w) (isS := false) (cap := arr.size) hlo hhi ha hb hab.1 (by simpa using hab.2)
          refine ⟨.string ⟨((arr.toList.take b).drop a).toArray⟩, ?_, by simpa using R.str (G := G) ((arr.toList.take b).drop a).toArray⟩
          have hbs' : (Instr.sliceBounds false (ByteArray.mk arr).size (ByteArray.mk arr).size ulo uhi none).run P w = .ok (a, b, arr.size) w := by
            have e : (ByteArray.mk arr).size = arr.toList.length := by simp [ByteArray.size]
            rw [show (ByteArray.mk arr).size = arr.size from rfl]
            rw [show arr.toList.length = arr.size by simp] at hbs
            exact hbs
          unfold Instr.sliceAt
          simp only [Sem.run_bind, run_underlying hd, Result.andThen_ok]
          unfold Instr.slice
          simp only [Sem.run_bind, run_underlying hd, Result.andThen_ok, Option.isSome_none, Bool.false_eq_true, if_false, hbs', Sem.run_pure, extract_str]
      · cases h
    · cases h
  · rename_i e xs o hk
    split at h
    · rename_i a b ha hb
      split at h
      · rename_i hab
        obtain ⟨hab, hble, hpos, hall⟩ := hab
        simp only [Option.some.injEq] at h
        subst h
        have hd := kind_slice hk
        have he : elemT (qi P T) = e := by simp [elemT, hk]
        rw [he] at hpos hall
        obtain ⟨d', i', _, hi', _, hs', _⟩ := qi_spec (P := P) e (.inl (by omega))
        cases hv with
        | emp ad cap o ho =>
          have hbs := run_bounds (P := P) (w := w) (isS := true) (cap := cap) hlo hhi ha hb hab (by simp at hble; omega)
          simp only [List.length_nil] at hbs hble
          refine ⟨.slice (if cap = a then ad else ad.map (·.add (a * i'.size))) (b - a) (cap - a), ?_, ?_⟩
          · unfold Instr.sliceAt
            simp only [Sem.run_bind, run_underlying hd, Result.andThen_ok]
            unfold Instr.slice
            simp only [Sem.run_bind, run_underlying hd, Result.andThen_ok, hbs, run_sizeOf hi', Sem.run_pure]
          · have : b - a = 0 := by omega
            rw [this]
            have : (([] : List (List VV)).take b).drop a = [] := by simp
            rw [this]
            exact .emp _ _ _ (.inl rfl)
        | lst bb off len cap sz xs o f hl hc hz h1 hK hR ho =>
          have hbs := run_bounds (P := P) (w := w) (isS := true) (cap := cap) hlo hhi ha hb hab (by omega)
          rw [hl] at hbs
          refine ⟨_, ?_, R.sub (sz := i'.size) (R.lst bb off len cap sz xs o f hl hc hz h1 hK hR ho) hab hble (fun x hx => by rw [← hs']; exact hall x hx)⟩
          unfold Instr.sliceAt
          simp only [Sem.run_bind, run_underlying hd, Result.andThen_ok]
          unfold Instr.slice
          simp only [Sem.run_bind, run_underlying hd, Result.andThen_ok, hbs, run_sizeOf hi', Sem.run_pure]
          congr 2
          split
          · rfl
          · simp [add_none]
      · cases h
    · cases h
  · cases h

theorem run_vlen {T : TypeId} {v : Value} {x y : VV} {ty : TypeId} (hS : Sim w0 G w s) (hv : R G v x) (h : vlen (qi P T) x s = some y) :
    ∃ p, (Builtin.len_ #[T] ty #[v]).run P w = .ok p w ∧ R G p y := by
  unfold vlen at h
  split at h
  · rename_i l hk
    simp only [Option.some.injEq] at h
    subst h
    cases hv with
    | str a =>
      refine ⟨.int .i64 a.size, ?_, by simpa using R.int (G := G) .i64 (a.size : Int)⟩
      simp only [Builtin.len_, run_underlying (kind_str hk), goInt, Sem.run_bind, Result.andThen_ok, List.getElem?_toArray, List.getElem?_cons_zero]
      rfl
  · rename_i e xs o hk
    simp only [Option.some.injEq] at h
    subst h
    cases hv with
    | emp a cap o ho => exact ⟨.int .i64 0, by simp [Builtin.len_, run_underlying (kind_slice hk), goInt], .int _ _⟩
    | lst b off len cap sz xs o f hl hc hz h1 hK hR ho =>
      exact ⟨.int .i64 len, by simp [Builtin.len_, run_underlying (kind_slice hk), goInt], by rw [hl]; exact .int _ _⟩
  · rename_i k e b hk
    split at h
    · rename_i es hb
      simp only [Option.some.injEq] at h
      subst h
      cases hv
      have ho := hS.ok b
      rw [hb] at ho
      obtain ⟨_, c, clock, hh, hsz, _⟩ := ho
      refine ⟨.int .i64 c.size, ?_, by rw [hsz]; exact .int _ _⟩
      have : (getObj b).run P w = .ok (.map c clock) w := by simp [getObj, Sem.run, hh]
      simp [Builtin.len_, run_underlying (kind_map hk), goInt, this]
    · cases h
  · cases h
end
end Go.Proofs.YtbfgdblebepgcaaDoor
