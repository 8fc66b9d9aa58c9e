/- What is proved: A row whose elements have been stored one by one, known for ever from here on; Maps whose keys are texts. Conditions: those that stand in the statements. -/
import Derived.Test.YtdibndmkeipgbaaGreatDoorZGpj
set_option linter.unusedSimpArgs false
set_option linter.unusedVariables false
set_option maxRecDepth 100000
namespace Go.Proofs.YtdibndmkeipgbaaGreatDoor
open Go.RowKit

theorem Sim.frzO {w0 w : World} {G : Gh} {s : St} (h : Sim w0 G w s) {b : Nat} {T : TypeId} {xs : List VV} (hb : s b = .obj T xs) :
    ∃ G', G.le G' ∧ Sim w0 G' w (s.set b .free) ∧ ∀ (i : Nat) (y : VV), xs[i]? = some y → y.one = true ∧ ∃ v, G'.K b i = some v ∧ R G' v y := by
  have hok := h.ok b
  rw [hb] at hok
  obtain ⟨hB, hn, c, hh, hs, hx⟩ := hok
  have hle : G.le ⟨fun b' i => if b' = b then c[i]? else G.K b' i, G.cap⟩ := ⟨fun b' i v hv => by
    by_cases e : b' = b
    · subst e; rw [hn i] at hv; cases hv
    · simp only [if_neg e]; exact hv, fun _ _ hc => hc⟩
  refine ⟨_, hle, ⟨h.below, fun b' i v hv => ?_, h.cap, fun b' => ?_, h.gl, ?_⟩, fun i y hy => ?_⟩
  · by_cases e : b' = b
    · subst e
      simp only [if_true] at hv
      simp [World.cell?, hh, hv]
    · simp only [if_neg e] at hv
      exact h.K _ _ _ hv
  · by_cases e : b' = b
    · subst e; rw [St.set_same]; trivial
    · rw [St.set_other _ _ e]
      exact CellOk.keep (h.ok b') rfl hle (fun i => if_neg e)
  · refine Rows.keep h.rows hle (Nat.le_refl _) (fun g hg hs => ?_) (fun b' T' xs' rs hb' => ?_)
    · have hne : g ≠ b := by rintro rfl; rw [hb] at hs; cases hs
      exact ⟨by rw [St.set_other _ _ hne]; exact hs, rfl, fun i => if_neg hne⟩
    · have hne : b' ≠ b := by rintro rfl; rw [St.set_same] at hb'; cases hb'
      rw [St.set_other _ _ hne] at hb'
      exact ⟨xs', rs, hb', fun r hr => ⟨hr, rfl, fun c hc => ⟨c, hc, rfl⟩⟩⟩
  · obtain ⟨h1, v, hv, hr⟩ := hx i y hy
    exact ⟨h1, v, by simp only [if_true]; exact hv, hr.mono hle⟩
section
variable {P : Program} {N : Nat} {D : List Deferred} {c : Code} {k : List Itm} {Q : Pst} {env : Env} {s : St}
/-- A made row is known for ever from here on: the slot that holds it holds its values. -/
theorem Kp_frz (t b n : Nat) {T : TypeId} {xs : List VV} (hb : s b = .obj T xs) (ht : env t = .msl b n) (hn : xs.length = n)
    (h : Kp P N D (.code c :: k) Q .norm (upd env t (.lst (xs.map fun y => [y]) .no)) (s.set b .free)) : Kp P N D (.code c :: k) Q .norm env s := by
  intro w0 G w a hfr hD hS
  obtain ⟨G', hle, hS', hK⟩ := hS.frzO hb
  refine wp_mono (h w0 G' w a ⟨hfr.size, fun i => ?_⟩ hD hS') fun e a w => Up.back hle
  by_cases e : i = t
  · subst e
    have hr := hfr.rel i
    rw [ht] at hr
    simp only [upd, if_true]
    generalize a.tmps.getD i undef = v at hr
    cases hr
    rcases Nat.eq_zero_or_pos n with h0 | hpos
    · subst h0
      have : xs = [] := List.eq_nil_of_length_eq_zero hn
      subst this
      exact .emp _ _ _ (.inl rfl)
    · have hv : ∀ i, i < n → ∃ v, G'.K b i = some v ∧ ∀ y, xs[i]? = some y → R G' v y := fun i hi => by
        obtain ⟨_, v, h1, h2⟩ := hK i xs[i] (List.getElem?_eq_getElem (by omega))
        exact ⟨v, h1, fun y hy => by rw [List.getElem?_eq_getElem (by omega)] at hy; injection hy with hy; exact hy ▸ h2⟩
      refine .lst b 0 n n 1 _ .no (fun i _ => (G'.K b i).getD default) (by rw [List.length_map]; exact hn) (Nat.le_refl _) ?_ ?_ ?_ ?_ (.inl rfl)
      · intro x hx
        obtain ⟨y, _, rfl⟩ := List.mem_map.1 hx
        rfl
      · intro x hx y hy
        obtain ⟨z, hz, rfl⟩ := List.mem_map.1 hx
        rw [List.mem_singleton] at hy
        subst hy
        obtain ⟨i, hi⟩ := List.mem_iff_getElem?.1 hz
        exact (hK i y hi).1
      · intro i j hi hj
        obtain ⟨v, h1, _⟩ := hv i hi
        have : j = 0 := by omega
        subst this
        simp [h1]
      · intro i j x y hx hy
        rw [List.getElem?_map] at hx
        obtain ⟨z, hz, rfl⟩ := Option.map_eq_some_iff.1 hx
        have hi : i < n := by have := (List.getElem?_eq_some_iff.1 hz).1; omega
        obtain ⟨v, h1, h2⟩ := hv i hi
        have hj : j = 0 := by
          have := (List.getElem?_eq_some_iff.1 hy).1
          simp at this; exact this
        subst hj
        simp at hy
        subst hy
        rw [h1]
        exact h2 z hz
  · simp only [upd, if_neg e]
    exact (hfr.rel i).mono hle
/-- Numbers in a row. -/
def ints (l : List Int) : List VV := l.map fun n => VV.int .i64 n
theorem ints_set {l : List Int} {i : Nat} {n : Int} (h : i < l.length) : splice (ints l) i [.int .i64 n] = ints (l.set i n) := by
  simp only [splice, ints, List.map_set]
  rw [List.set_eq_take_append_cons_drop, if_pos (by rw [List.length_map]; exact h)]
  simp
def intsL (l : List Int) : List (List VV) := l.map fun n => [VV.int .i64 n]
theorem ints_frz {l : List Int} : (ints l).map (fun y => [y]) = intsL l := by simp [ints, intsL]
theorem intsL_len {l : List Int} : (intsL l).length = l.length := by simp [intsL]
theorem intsL_at {l : List Int} {i : Nat} {n : Int} (h : l[i]? = some n) : (intsL l)[i]? = some [.int .i64 n] := by simp [intsL, h]
end
end Go.Proofs.YtdibndmkeipgbaaGreatDoor
set_option maxRecDepth 100000
namespace Go.Proofs.YtdibndmkeipgbaaGreatDoor
open Go.RowKit

def lkA {α : Type} (k : List UInt8) : List (List UInt8 × α) → Option α
  | [] => none
  | (a, v) :: r => if k = a then some v else lkA k r
def ptA {α : Type} (k : List UInt8) (v : α) : List (List UInt8 × α) → List (List UInt8 × α)
  | [] => [(k, v)]
  | (a, w) :: r => if k = a then (k, v) :: r else (a, w) :: ptA k v r
/-- A map's entries: texts and values. -/
def mpV {α : Type} (enc : α → VV) (l : List (List UInt8 × α)) : List (VV × VV) := l.map fun p => (VV.str p.1, enc p.2)
def encI (n : Int) : VV := .int .i64 n
def encB (b : Bool) : VV := .bool b
theorem mget_mpV {α : Type} {enc : α → VV} (k : List UInt8) : ∀ l : List (List UInt8 × α), mget (.str k) (mpV enc l) = some ((lkA k l).map enc)
  | [] => rfl
  | (a, v) :: r => by
    have ih := mget_mpV (enc := enc) k r
    simp only [mpV, List.map_cons, mget, keyEq, lkA] at ih ⊢
    by_cases h : k = a
    · simp [h]
    · simp only [h, decide_false, if_false]; exact ih
theorem mput_mpV {α : Type} {enc : α → VV} (k : List UInt8) (v : α) : ∀ l : List (List UInt8 × α), mput (.str k) (enc v) (mpV enc l) = some (mpV enc (ptA k v l))
  | [] => rfl
  | (a, w) :: r => by
    have ih := mput_mpV (enc := enc) k v r
    simp only [mpV, List.map_cons, mput, keyEq, ptA] at ih ⊢
    by_cases h : k = a
    · simp [h]
    · simp only [h, decide_false, if_false, ih, Option.map_some, List.map_cons]
section
variable {q qe qk : QI} {s : St} {b : Nat} {k x : VV} {ok : Bool}
def vlkC (q qe qk : QI) (k : VV) (ok : Bool) (c : Cell) : Option VV :=
  match q.k with
  | .map _ _ =>
    match c, kfit qk.k k with
    | .map es, true =>
      match mget k es with
      | some (some x) => some (if ok then .tup [x, .bool true] else x)
      | some none => (vzero qe).map fun z => if ok then .tup [z, .bool false] else z
      | none => none
    | _, _ => none
  | _ => none
theorem p_lk : vlookup q qe qk (.mp b) k ok s = vlkC q qe qk k ok (s b) := by
  unfold vlookup vlkC
  cases q.k <;> rfl
theorem p_lkI {a e sz bt sz2 bt2 : Nat} {zo : Bool} {zz z2 : List VV} {zo2 : Bool} {t : List UInt8} {l : List (List UInt8 × Int)} :
    vlkC ⟨.map a e, sz, bt, zo, zz⟩ ⟨.int .i64, 1, 8, true, [.int .i64 0]⟩ ⟨.str, sz2, bt2, zo2, z2⟩ (.str t) ok (.map (mpV encI l)) = some (if ok then .tup [.int .i64 ((lkA t l).getD 0), .bool (lkA t l).isSome] else .int .i64 ((lkA t l).getD 0)) := by
  simp only [vlkC, kfit, mget_mpV]
  cases lkA t l with
  | none => cases ok <;> rfl
  | some n => cases ok <;> rfl
theorem p_lkB {a e sz bt sz2 bt2 : Nat} {zo : Bool} {zz z2 : List VV} {zo2 : Bool} {t : List UInt8} {l : List (List UInt8 × Bool)} :
    vlkC ⟨.map a e, sz, bt, zo, zz⟩ ⟨.bool, 1, 1, true, [.bool false]⟩ ⟨.str, sz2, bt2, zo2, z2⟩ (.str t) ok (.map (mpV encB l)) = some (if ok then .tup [.bool ((lkA t l).getD false), .bool (lkA t l).isSome] else .bool ((lkA t l).getD false)) := by
  simp only [vlkC, kfit, mget_mpV]
  cases lkA t l with
  | none => cases ok <;> rfl
  | some n => cases ok <;> rfl
def vlenC (q : QI) (c : Cell) : Option VV :=
  match q.k, c with
  | .map _ _, .map es => some (.int .i64 es.length)
  | _, _ => none
theorem p_lenM {a e sz bt : Nat} {zo : Bool} {zz : List VV} : vlen ⟨.map a e, sz, bt, zo, zz⟩ (.mp b) s = vlenC ⟨.map a e, sz, bt, zo, zz⟩ (s b) := by
  simp only [vlen, vlenC]
  cases s b <;> rfl
theorem p_lenM2 {α : Type} {enc : α → VV} {a e sz bt : Nat} {zo : Bool} {zz : List VV} {l : List (List UInt8 × α)} : vlenC ⟨.map a e, sz, bt, zo, zz⟩ (.map (mpV enc l)) = some (.int .i64 l.length) := by simp [vlenC, mpV]
def vupC (q qk : QI) (b : Nat) (k x : VV) (s : St) (c : Cell) : Option St :=
  match q.k with
  | .map _ _ =>
    match c, kfit qk.k k with
    | .map es, true => (mput k x es).map fun es' => s.set b (.map es')
    | _, _ => none
  | _ => none
theorem p_up : vupdate q qk (.mp b) k x s = vupC q qk b k x s (s b) := by
  unfold vupdate vupC
  cases q.k <;> rfl
theorem p_upI {a e sz bt sz2 bt2 : Nat} {zo : Bool} {zz z2 : List VV} {zo2 : Bool} {t : List UInt8} {n : Int} {l : List (List UInt8 × Int)} :
    vupC ⟨.map a e, sz, bt, zo, zz⟩ ⟨.str, sz2, bt2, zo2, z2⟩ b (.str t) (.int .i64 n) s (.map (mpV encI l)) = some (s.set b (.map (mpV encI (ptA t n l)))) := by
  have := mput_mpV (enc := encI) t n l
  simp only [encI] at this
  simp only [vupC, kfit]
  show (mput (.str t) (.int .i64 n) (mpV encI l)).map _ = _
  rw [show (VV.int .i64 n) = encI n from rfl, mput_mpV]
  rfl
theorem p_upB {a e sz bt sz2 bt2 : Nat} {zo : Bool} {zz z2 : List VV} {zo2 : Bool} {t : List UInt8} {n : Bool} {l : List (List UInt8 × Bool)} :
    vupC ⟨.map a e, sz, bt, zo, zz⟩ ⟨.str, sz2, bt2, zo2, z2⟩ b (.str t) (.bool n) s (.map (mpV encB l)) = some (s.set b (.map (mpV encB (ptA t n l)))) := by
  simp only [vupC, kfit]
  show (mput (.str t) (.bool n) (mpV encB l)).map _ = _
  rw [show (VV.bool n) = encB n from rfl, mput_mpV]
  rfl
end
attribute [go_sem] p_lk p_lkI p_lkB p_lenM p_lenM2 p_up p_upI p_upB
/-- A text's place in a list of texts. -/
def ixT (k : List UInt8) : List (List UInt8) → Option Nat
  | [] => none
  | a :: r => if k = a then some 0 else (ixT k r).map (· + 1)
end Go.Proofs.YtdibndmkeipgbaaGreatDoor
