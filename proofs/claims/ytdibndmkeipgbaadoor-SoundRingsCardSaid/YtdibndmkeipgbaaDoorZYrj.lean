/- What is proved: What SoundStages hands back. Conditions: what fits a memory; What a program without some of its rules comes to, once it is sound: plain facts; Other names of relations: plain facts. Conditions: those that stand in the statements; Relations in a ring: plain facts. Conditions: those that stand in the statements. Conditions: those that stand in the statements. -/
import Derived.Test.YtdibndmkeipgbaaDoorZYpj
import Derived.Test.YtdibndmkeipgbaaDoorZNaj
set_option linter.unusedSimpArgs false
set_option linter.unusedVariables false
set_option maxRecDepth 100000
namespace Go.Proofs.YtdibndmkeipgbaaDoor
open Go.RowKit

def iL (l : List Nat) : List (List VV) := intsL (List.map (fun n : Nat => (n : Int)) l)
theorem iL_len {l : List Nat} : (iL l).length = l.length := by simp [iL, intsL]
theorem iL_at {l : List Nat} {i : Nat} (h : i < l.length) : (iL l)[i]? = some [.int .i64 (gt l i : Int)] := by
  have := gt_eq h
  simp [iL, intsL, this]
/-- What the row of what is reached holds, some demands having been looked at. -/
def Rch (l : List Nat) (F : List Edg) (R : List Bool) : Prop := ∀ e, e ∈ F → gt l e.h = gt l e.b + e.w → R[e.h]? = some true
theorem Rch.step {l : List Nat} {F : List Edg} {R : List Bool} {e : Edg} {b : Bool} (H : Rch l F R) (hb : R[e.h]? = some b) : Rch l (F ++ [e]) (R.set e.h (b || decide (gt l e.h = gt l e.b + e.w))) := by
  have hlt : e.h < R.length := (List.getElem?_eq_some_iff.1 hb).1
  intro e' he' hg
  rw [List.getElem?_set]
  rcases List.mem_append.1 he' with h | h
  · have := H e' h hg
    by_cases hh : e.h = e'.h
    · rw [if_pos hh, if_pos hlt]
      rw [← hh, hb] at this
      injection this with this
      subst this
      simp
    · rw [if_neg hh]; exact this
  · rw [List.mem_singleton] at h
    subst h
    rw [if_pos rfl, if_pos hlt]
    simp [hg]
end Go.Proofs.YtdibndmkeipgbaaDoor
set_option maxRecDepth 100000
namespace Go.Proofs.YtdibndmkeipgbaaDoor
open Go.RowKit

theorem badR_none {p : Pgm} : ∀ (l : List Rul) (k : Nat), (∀ r, r ∈ l → ∃ Y, scopeS p r = .ok Y) → badR p k l = none
  | [], _, _ => rfl
  | a :: l, k, h => by
    obtain ⟨Y, hY⟩ := h a (by simp)
    simp only [badR]
    rw [hY]
    exact badR_none l (k + 1) fun r hr => h r (by simp [hr])
theorem edgP_mem {p : Pgm} {e : Edg} (h : e ∈ edgP p) : ∃ r, r ∈ p.rules ∧ e ∈ edgR p r := by
  unfold edgP at h
  obtain ⟨l, hl, he⟩ := List.mem_flatten.1 h
  obtain ⟨r, hr, rfl⟩ := List.mem_map.1 hl
  exact ⟨r, hr, he⟩
theorem edgP_of {p : Pgm} {e : Edg} {r : Rul} (hr : r ∈ p.rules) (he : e ∈ edgR p r) : e ∈ edgP p :=
  List.mem_flatten.2 ⟨_, List.mem_map.2 ⟨r, hr, rfl⟩, he⟩
theorem PgmOk.sub {x : Pgm} (h : PgmOk x) {rs : List Rul} (hs : ∀ r, r ∈ rs → r ∈ x.rules) (hl : rs.length ≤ x.rules.length) : PgmOk ⟨x.doms, x.decls, rs⟩ := by
  obtain ⟨h1, h2, h3, h4, h5, h6⟩ := h
  exact ⟨h1, h2, by simp only; omega, h4, h5, fun y hy => h6 y (hs y hy)⟩
end Go.Proofs.YtdibndmkeipgbaaDoor
set_option maxRecDepth 100000
namespace Go.Proofs.YtdibndmkeipgbaaDoor
open Go.RowKit

end Go.Proofs.YtdibndmkeipgbaaDoor
set_option maxRecDepth 100000
namespace Go.Proofs.YtdibndmkeipgbaaDoor
open Go.RowKit

def ringN (i : Nat) : List UInt8 := [114, UInt8.ofNat (97 + i % 16), UInt8.ofNat (97 + i / 16)]
def ringX : List Trm := [⟨true, [120], 0⟩]
def ringD (i : Nat) : Dcl := ⟨ringN i, [[86]]⟩
def ringR (n k i : Nat) : Rul := ⟨⟨false, ringN i, ringX⟩, [⟨false, ringN i, ringX⟩, ⟨decide (k = i), ringN ((i + 1) % n), ringX⟩]⟩
def ringP (n k : Nat) : Pgm := ⟨[⟨[86], 4⟩], (List.range n).map ringD, (List.range n).map (ringR n k)⟩
theorem ringN_name : ∀ i, i < 32 → nameB (ringN i) = true ∧ ringN i ≠ [100, 111, 109] ∧ ringN i ≠ [114, 101, 108] := by decide +kernel
theorem ringN_inj : ∀ i, i < 32 → ∀ j, j < 32 → ringN i = ringN j → i = j := by decide +kernel
section
variable {n k : Nat} (h0 : 0 < n) (hn : n ≤ 32)
include h0 hn
theorem ringB : pgmB (ringP n k) = true := by
  have hx : ringX.all trmB = true := by decide
  have ha : ∀ i w, i < n → atmB ⟨w, ringN i, ringX⟩ = true := by
    intro i w hi
    unfold atmB
    simp only [hx, (ringN_name i (by omega)).1]
    rfl
  simp only [pgmB, Bool.and_eq_true, decide_eq_true_eq, List.all_eq_true]
  refine ⟨⟨⟨⟨⟨by simp [ringP], by simp only [ringP, List.length_map, List.length_range]; omega⟩, by simp only [ringP, List.length_map, List.length_range]; omega⟩, ?_⟩, ?_⟩, ?_⟩
  · intro d hd
    simp only [ringP, List.mem_singleton] at hd
    subst hd
    decide
  · intro d hd
    obtain ⟨i, hi, rfl⟩ := List.mem_map.1 hd
    rw [List.mem_range] at hi
    have h1 : ([[86]] : List (List UInt8)).all nameB = true := by decide
    unfold dclB ringD
    simp only [(ringN_name i (by omega)).1, h1]
    rfl
  · intro r hr
    obtain ⟨i, hi, rfl⟩ := List.mem_map.1 hr
    rw [List.mem_range] at hi
    have hm : (i + 1) % n < n := Nat.mod_lt _ h0
    unfold rulB ringR
    simp only [ha i false hi, List.all_cons, List.all_nil, ha _ (decide (k = i)) hm, ne_eq, (ringN_name i (by omega)).2.1, (ringN_name i (by omega)).2.2, not_false_eq_true, decide_true]
    rfl
theorem ringNodup : ((ringP n k).decls.map (·.name)).Nodup := by
  have : (ringP n k).decls.map (·.name) = (List.range n).map ringN := by simp [ringP, ringD]
  rw [this]
  refine List.pairwise_map.2 ?_
  have hr : (List.range n).Nodup := List.nodup_range
  refine List.Pairwise.imp_of_mem (fun {a b} ha hb hab e => hab ?_) hr
  rw [List.mem_range] at ha hb
  exact ringN_inj _ (by omega) _ (by omega) e
theorem ring_read : readE (ringP n k) = 0 := by
  unfold readE
  rw [if_neg (by rw [ringB h0 hn]; simp), if_neg (by simp [ringP]), if_neg, if_neg]
  · simp only [List.any_eq_true, not_exists, not_and]
    intro d hd
    obtain ⟨i, hi, rfl⟩ := List.mem_map.1 hd
    simp [ringD, ringP, domZ]
  · have := ringNodup (k := k) h0 hn
    rintro (h | h)
    · exact h (by simp [ringP])
    · exact h this
theorem ring_rel {i : Nat} (hi : i < n) : relI (ringP n k).decls (ringN i) = some i := by
  unfold relI
  have hnd := ringNodup (k := k) h0 hn
  have hat : ((ringP n k).decls.map (·.name))[i]? = some (ringN i) := by
    simp [ringP, ringD, hi]
  generalize (ringP n k).decls.map (·.name) = l at *
  cases hx : ixT (ringN i) l with
  | none => exact absurd (List.mem_of_getElem? hat) (ixT_none.1 hx)
  | some j =>
    have hj := ixT_lt hx
    have h1 := (List.getElem?_eq_some_iff.1 hat).1
    congr 1
    exact ((List.getElem?_inj h1 hnd).1 (hat.trans hj.symm)).symm
theorem ring_atom0 {i : Nat} (hi : i < n) (w : Bool) : atomS (ringP n k) ⟨[], []⟩ ⟨w, ringN i, ringX⟩ = .ok ⟨[[120]], [[86]]⟩ := by
  have hd : (ringP n k).decls[i]? = some (ringD i) := by simp [ringP, hi]
  unfold atomS
  simp only [ring_rel h0 hn hi, hd]
  rfl
theorem ring_atom1 {i : Nat} (hi : i < n) (w : Bool) : atomS (ringP n k) ⟨[[120]], [[86]]⟩ ⟨w, ringN i, ringX⟩ = .ok ⟨[[120]], [[86]]⟩ := by
  have hd : (ringP n k).decls[i]? = some (ringD i) := by simp [ringP, hi]
  unfold atomS
  simp only [ring_rel h0 hn hi, hd]
  rfl
theorem ring_scope {i : Nat} (hi : i < n) : scopeS (ringP n k) (ringR n k i) = .ok ⟨[[120]], [[86]]⟩ := by
  unfold scopeS
  have h1 : atomS (ringP n k) ⟨[], []⟩ (ringR n k i).head = .ok ⟨[[120]], [[86]]⟩ := ring_atom0 h0 hn hi _
  have h2 : atomsS (ringP n k) ⟨[[120]], [[86]]⟩ (ringR n k i).body = .ok ⟨[[120]], [[86]]⟩ := by
    simp only [ringR, atomsS]
    rw [ring_atom1 h0 hn hi, eb_ok, ring_atom1 h0 hn (Nat.mod_lt _ h0), eb_ok]
  rw [h1, eb_ok, h2, eb_ok]
  have hg : givenB (ringR n k i).body [120] = true := by simp [givenB, ringR, ringX]
  have hw : ∀ a : Atm, a.ts = ringX → withB (ringR n k i).body a = true := by
    intro a ha
    unfold withB
    rw [ha]
    simp [ringX, hg]
  have hb : (ringR n k i).body.all (withB (ringR n k i).body) = true := by
    rw [List.all_eq_true]
    intro a ha
    refine hw a ?_
    simp only [ringR, List.mem_cons, List.not_mem_nil, or_false] at ha
    rcases ha with rfl | rfl <;> rfl
  rw [hw _ rfl, hb]
  rfl
theorem ring_bad : badR (ringP n k) 0 (ringP n k).rules = none := by
  refine badR_none _ _ fun r hr => ?_
  obtain ⟨i, hi, rfl⟩ := List.mem_map.1 hr
  rw [List.mem_range] at hi
  exact ⟨_, ring_scope h0 hn hi⟩
theorem ring_edg {e : Edg} : e ∈ edgP (ringP n k) ↔ ∃ i, i < n ∧ (e = ⟨i, i, 0⟩ ∨ e = ⟨i, (i + 1) % n, if k = i then 1 else 0⟩) := by
  have key : ∀ i, i < n → edgR (ringP n k) (ringR n k i) = [⟨i, i, 0⟩, ⟨i, (i + 1) % n, if k = i then 1 else 0⟩] := by
    intro i hi
    have hm : (i + 1) % n < n := Nat.mod_lt _ h0
    simp only [edgR, ringR, List.map_cons, List.map_nil, ixR, ring_rel h0 hn hi, ring_rel h0 hn hm, Option.getD_some, Bool.false_eq_true, if_false, decide_eq_true_eq]
  constructor
  · intro he
    obtain ⟨r, hr, he⟩ := edgP_mem he
    obtain ⟨i, hi, rfl⟩ := List.mem_map.1 hr
    rw [List.mem_range] at hi
    rw [key i hi] at he
    exact ⟨i, hi, by simpa using he⟩
  · rintro ⟨i, hi, he⟩
    refine edgP_of (r := ringR n k i) (List.mem_map.2 ⟨i, List.mem_range.2 hi, rfl⟩) ?_
    rw [key i hi]
    simpa using he
theorem ring_ok (hk : n ≤ k) : soundP (ringP n k) = (-1, 0, List.replicate n 0) := by
  have hg : ∀ i, gt (List.replicate n 0) i = 0 := by
    intro i
    unfold gt
    rw [List.getElem?_replicate]
    split <;> rfl
  have hL : Least n (edgP (ringP n k)) (List.replicate n 0) := by
    refine ⟨by simp, ?_, under_zero _ _, fun i hi => by rw [hg]; omega⟩
    intro e he
    obtain ⟨i, hi, he⟩ := (ring_edg h0 hn).1 he
    rw [hg, hg]
    rcases he with rfl | rfl
    · exact Nat.le_refl _
    · simp only
      rw [if_neg (by omega)]
      exact Nat.le_refl _
  have hst : stgP (ringP n k) = some (List.replicate n 0) := by
    unfold stgP
    rw [show (ringP n k).decls.length = n by simp [ringP]]
    exact stg_some hL
  unfold soundP
  rw [if_neg (by rw [ring_read h0 hn]; simp), ring_bad h0 hn, hst]
theorem ring_no (hk : k < n) : soundP (ringP n k) = (-1, 126, []) := by
  have hN : NoSol n (edgP (ringP n k)) := by
    intro f hf
    exfalso
    have step : ∀ i, i < n → f ((i + 1) % n) + (if k = i then 1 else 0) ≤ f i := fun i hi => hf ⟨i, (i + 1) % n, if k = i then 1 else 0⟩ ((ring_edg h0 hn).2 ⟨i, hi, .inr rfl⟩)
    have walk : ∀ m, f ((k + 1 + m) % n) ≤ f ((k + 1) % n) := by
      intro m
      induction m with
      | zero => exact Nat.le_refl _
      | succ m ih =>
        have h1 := step ((k + 1 + m) % n) (Nat.mod_lt _ h0)
        rw [show ((k + 1 + m) % n + 1) % n = (k + 1 + (m + 1)) % n by rw [Nat.mod_add_mod]; rfl] at h1
        omega
    have h1 := walk (n - 1)
    rw [show k + 1 + (n - 1) = k + n by omega, Nat.add_mod_right, Nat.mod_eq_of_lt hk] at h1
    have h2 := step k hk
    rw [if_pos rfl] at h2
    omega
  have hst : stgP (ringP n k) = none := by
    unfold stgP
    rw [show (ringP n k).decls.length = n by simp [ringP]]
    exact stg_none hN
  unfold soundP
  rw [if_neg (by rw [ring_read h0 hn]; simp), ring_bad h0 hn, hst]
end
end Go.Proofs.YtdibndmkeipgbaaDoor
