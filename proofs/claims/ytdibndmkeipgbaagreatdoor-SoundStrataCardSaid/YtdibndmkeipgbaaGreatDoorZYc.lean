/- What is proved: What a sound program is, as data: plain facts. Conditions: those that stand in the statements. -/
import Derived.Test.YtdibndmkeipgbaaGreatDoorZYbj
import Derived.Test.YtdibndmkeipgbaaGreatDoorZUlj
set_option linter.unusedSimpArgs false
set_option linter.unusedVariables false
set_option maxRecDepth 100000
namespace Go.Proofs.YtdibndmkeipgbaaGreatDoor
open Go.RowKit

/-- A domain's size; 0: there is none such. -/
def domZ : List Dm → List UInt8 → Int
  | [], _ => 0
  | d :: r, n => if n = d.name then d.size else domZ r n
def relI (cs : List Dcl) (n : List UInt8) : Option Nat := ixT n (cs.map (·.name))
def readE (p : Pgm) : Int :=
  if pgmB p = false then 1
  else if p.doms.any (fun d => decide (d.size < 1) || decide (1073741824 < d.size)) = true then 1
  else if ¬ (p.doms.map (·.name)).Nodup ∨ ¬ (p.decls.map (·.name)).Nodup then 120
  else if p.decls.any (fun d => d.doms.any fun s => decide (domZ p.doms s = 0)) = true then 121
  else 0
structure Scp where
  vs : List (List UInt8)
  ds : List (List UInt8)
def termS (dz : List UInt8 → Int) (x : Scp) (t : Trm) (d : List UInt8) : Except Int Scp :=
  if t.var = false then (if dz d ≤ t.n then .error 123 else .ok x)
  else match ixT t.nm x.vs with
    | none => .ok ⟨x.vs ++ [t.nm], x.ds ++ [d]⟩
    | some i => if x.ds[i]? = some d then .ok x else .error 124
def eb {α β : Type} (x : Except Int α) (k : α → Except Int β) : Except Int β :=
  match x with
  | .ok a => k a
  | .error e => .error e
def termsS (dz : List UInt8 → Int) : Scp → List Trm → List (List UInt8) → Except Int Scp
  | x, t :: ts, d :: ds => eb (termS dz x t d) fun x => termsS dz x ts ds
  | x, _, _ => .ok x
def atomS (p : Pgm) (x : Scp) (a : Atm) : Except Int Scp :=
  match relI p.decls a.rel with
  | none => .error 121
  | some k =>
    match p.decls[k]? with
    | none => .error 121
    | some d => if a.ts.length ≠ d.doms.length then .error 122 else termsS (domZ p.doms) x a.ts d.doms
def atomsS (p : Pgm) : Scp → List Atm → Except Int Scp
  | x, [] => .ok x
  | x, a :: l => eb (atomS p x a) fun x => atomsS p x l
def givenB (body : List Atm) (n : List UInt8) : Bool := body.any fun a => !a.not && a.ts.any fun t => t.var && decide (t.nm = n)
def withB (body : List Atm) (a : Atm) : Bool := a.ts.all fun t => !t.var || givenB body t.nm
def scopeS (p : Pgm) (r : Rul) : Except Int Scp :=
  eb (atomS p ⟨[], []⟩ r.head) fun x => eb (atomsS p x r.body) fun x =>
    if (withB r.body r.head && r.body.all (withB r.body)) = false then .error 125 else if 8 < x.vs.length then .error 2 else .ok x
def badR (p : Pgm) : Nat → List Rul → Option (Nat × Int)
  | _, [] => none
  | k, r :: l => match scopeS p r with | .error e => some (k, e) | .ok _ => badR p (k + 1) l
def ixR (p : Pgm) (n : List UInt8) : Nat := (relI p.decls n).getD 0
def edgR (p : Pgm) (r : Rul) : List Edg := r.body.map fun a => ⟨ixR p r.head.rel, ixR p a.rel, if a.not = true then 1 else 0⟩
def edgP (p : Pgm) : List Edg := (p.rules.map (edgR p)).flatten
noncomputable def stgP (p : Pgm) : Option (List Nat) := stg p.decls.length (edgP p)
/-- Why a program is not sound, and by which rule; and its stages. -/
noncomputable def soundP (p : Pgm) : Int × Int × List Nat :=
  if readE p ≠ 0 then (-1, readE p, [])
  else match badR p 0 p.rules with
    | some (k, e) => (k, e, [])
    | none => match stgP p with
      | none => (-1, 126, [])
      | some l => (-1, 0, l)
theorem eb_ok {α β : Type} {a : α} {k : α → Except Int β} : eb (.ok a) k = k a := rfl
theorem eb_err {α β : Type} {e : Int} {k : α → Except Int β} : eb (.error e) k = .error e := rfl
theorem ixT_lt {k : List UInt8} : ∀ {l : List (List UInt8)} {i : Nat}, ixT k l = some i → l[i]? = some k
  | [], i, h => by cases h
  | a :: r, i, h => by
    simp only [ixT] at h
    split at h
    · rename_i e; injection h with h; subst h; simp [e]
    · obtain ⟨j, hj, rfl⟩ := Option.map_eq_some_iff.1 h
      simpa using ixT_lt hj
theorem ixT_none {k : List UInt8} : ∀ {l : List (List UInt8)}, ixT k l = none ↔ k ∉ l
  | [] => by simp [ixT]
  | a :: r => by
    have ih := ixT_none (k := k) (l := r)
    simp only [ixT]
    by_cases e : k = a
    · simp [e]
    · rw [if_neg e, Option.map_eq_none_iff, ih, List.mem_cons]
      simp [e]
theorem ixT_app {k : List UInt8} : ∀ {l m : List (List UInt8)}, ixT k (l ++ m) = match ixT k l with | some i => some i | none => (ixT k m).map (· + l.length)
  | [], m => by simp [ixT]
  | a :: r, m => by
    simp only [List.cons_append, ixT]
    by_cases e : k = a
    · simp [e]
    · rw [if_neg e, if_neg e, ixT_app]
      cases ixT k r with
      | some i => rfl
      | none => cases ixT k m <;> simp [Nat.add_assoc]
theorem lkA_ptA {α : Type} {k a : List UInt8} {v : α} : ∀ {l : List (List UInt8 × α)}, lkA a (ptA k v l) = if a = k then some v else lkA a l
  | [] => by simp [ptA, lkA]
  | (b, w) :: r => by
    have ih := lkA_ptA (k := k) (a := a) (v := v) (l := r)
    simp only [ptA]
    by_cases e : k = b
    · subst e
      rw [if_pos rfl]
      simp only [lkA]
      by_cases e2 : a = k <;> simp [e2]
    · rw [if_neg e]
      simp only [lkA]
      by_cases e2 : a = b
      · subst e2
        rw [if_pos rfl, if_pos rfl, if_neg (fun x => e x.symm)]
      · rw [if_neg e2, if_neg e2, ih]
theorem ptA_new {α : Type} {k : List UInt8} {v : α} : ∀ {l : List (List UInt8 × α)}, k ∉ l.map (·.1) → ptA k v l = l ++ [(k, v)]
  | [], _ => rfl
  | (b, w) :: r, h => by
    simp only [List.map_cons, List.mem_cons, not_or] at h
    simp only [ptA]
    rw [if_neg h.1, ptA_new h.2]
    rfl
theorem ptA_old {α : Type} {k : List UInt8} {v : α} : ∀ {l : List (List UInt8 × α)}, k ∈ l.map (·.1) → (ptA k v l).map (·.1) = l.map (·.1)
  | [], h => by cases h
  | (b, w) :: r, h => by
    simp only [List.map_cons, List.mem_cons] at h
    simp only [ptA]
    by_cases e : k = b
    · subst e; rw [if_pos rfl]; rfl
    · rw [if_neg e]
      simp only [List.map_cons]
      rw [ptA_old (h.resolve_left e)]
/-- What a map of named things holds, each put in one by one. -/
def putsA {α β : Type} (nm : α → List UInt8) (v : Nat → α → β) : Nat → List α → List (List UInt8 × β) → List (List UInt8 × β)
  | _, [], m => m
  | i, x :: l, m => putsA nm v (i + 1) l (ptA (nm x) (v i x) m)
def pairsA {α β : Type} (nm : α → List UInt8) (v : Nat → α → β) : Nat → List α → List (List UInt8 × β)
  | _, [] => []
  | i, x :: l => (nm x, v i x) :: pairsA nm v (i + 1) l
section
variable {α β : Type} {nm : α → List UInt8} {v : Nat → α → β}
theorem pairsA_keys : ∀ (i : Nat) (l : List α), (pairsA nm v i l).map (·.1) = l.map nm
  | _, [] => rfl
  | i, x :: l => by simp [pairsA, pairsA_keys (i + 1) l]
theorem pairsA_len (i : Nat) (l : List α) : (pairsA nm v i l).length = l.length := by
  have := congrArg List.length (pairsA_keys (nm := nm) (v := v) i l); simpa using this
theorem putsA_app : ∀ (i : Nat) (l : List α) (x : α) (m : List (List UInt8 × β)), putsA nm v i (l ++ [x]) m = ptA (nm x) (v (i + l.length) x) (putsA nm v i l m)
  | i, [], x, m => rfl
  | i, y :: l, x, m => by
    simp only [List.cons_append, putsA, putsA_app (i + 1) l x]
    rw [show i + 1 + l.length = i + (y :: l).length by simp; omega]
theorem putsA_nodup : ∀ (i : Nat) (l : List α) (m : List (List UInt8 × β)), (m.map (·.1) ++ l.map nm).Nodup → putsA nm v i l m = m ++ pairsA nm v i l
  | i, [], m, _ => by simp [putsA, pairsA]
  | i, x :: l, m, h => by
    simp only [putsA, pairsA]
    have hx : nm x ∉ m.map (·.1) := by
      intro hm
      rw [List.nodup_append] at h
      exact h.2.2 _ hm _ (by simp) rfl
    rw [ptA_new hx, putsA_nodup (i + 1) l]
    · simp
    · simpa using h
theorem putsA_le : ∀ (i : Nat) (l : List α) (m : List (List UInt8 × β)), (putsA nm v i l m).length ≤ m.length + l.length ∧ (¬ (m.map (·.1) ++ l.map nm).Nodup → (m.map (·.1)).Nodup → (putsA nm v i l m).length < m.length + l.length)
  | i, [], m => by simp only [putsA, List.map_nil, List.append_nil, List.length_nil]; exact ⟨by omega, fun h k => absurd k h⟩
  | i, x :: l, m => by
    simp only [putsA, List.length_cons]
    by_cases hx : nm x ∈ m.map (·.1)
    · have hk := ptA_old (v := v i x) hx
      have hl : (ptA (nm x) (v i x) m).length = m.length := by have := congrArg List.length hk; simpa using this
      have ih := putsA_le (i + 1) l (ptA (nm x) (v i x) m)
      rw [hl] at ih
      exact ⟨by omega, fun _ _ => by omega⟩
    · have hk := ptA_new (v := v i x) hx
      rw [hk]
      have ih := putsA_le (i + 1) l (m ++ [(nm x, v i x)])
      simp only [List.length_append, List.length_cons, List.length_nil, List.map_append, List.map_cons, List.map_nil] at ih
      refine ⟨by omega, fun h k => ?_⟩
      have := ih.2 (by simpa using h) (by
        rw [List.nodup_append]
        exact ⟨k, by simp, fun a ha b hb => by rw [List.mem_singleton] at hb; subst hb; rintro rfl; exact hx ha⟩)
      omega
/-- A map of named things has as many as there are, just if no two have one name. -/
theorem putsA_len (l : List α) : (putsA nm v 0 l []).length = l.length ↔ (l.map nm).Nodup := by
  constructor
  · intro h
    apply Classical.byContradiction
    intro hn
    have := (putsA_le (nm := nm) (v := v) 0 l []).2 (by simpa using hn) (by simp)
    simp only [List.length_nil, Nat.zero_add] at this
    omega
  · intro h
    rw [putsA_nodup 0 l [] (by simpa using h), List.nil_append, pairsA_len]
theorem lkA_pairs {k : List UInt8} : ∀ (i : Nat) (l : List α), lkA k (pairsA nm v i l) = match ixT k (l.map nm) with | some j => (l[j]?).map (v (i + j)) | none => none
  | i, [] => rfl
  | i, x :: l => by
    simp only [pairsA, lkA, List.map_cons, ixT]
    by_cases e : k = nm x
    · simp [e]
    · rw [if_neg e, if_neg e, lkA_pairs (i + 1) l]
      cases ixT k (l.map nm) with
      | none => rfl
      | some j => simp [Nat.add_assoc, Nat.add_comm 1 j]
end
def szA (ds : List Dm) : List (List UInt8 × Int) := pairsA (fun d : Dm => d.name) (fun _ d => d.size) 0 ds
def rlA (cs : List Dcl) : List (List UInt8 × Int) := pairsA (fun d : Dcl => d.name) (fun i _ => (i : Int)) 0 cs
theorem szA_lk {ds : List Dm} (n : List UInt8) : (lkA n (szA ds)).getD 0 = domZ ds n := by
  have : ∀ i (ds : List Dm), (lkA n (pairsA (fun d : Dm => d.name) (fun (_ : Nat) d => d.size) i ds)).getD 0 = domZ ds n := by
    intro i ds
    induction ds generalizing i with
    | nil => rfl
    | cons d r ih =>
      simp only [pairsA, lkA, domZ]
      by_cases e : n = d.name
      · rw [if_pos e, if_pos e]; rfl
      · rw [if_neg e, if_neg e, ih]
  exact this 0 ds
theorem rlA_lk {cs : List Dcl} (n : List UInt8) : lkA n (rlA cs) = Option.map (fun i : Nat => (i : Int)) (relI cs n) := by
  unfold rlA relI
  rw [lkA_pairs]
  cases h : ixT n (cs.map (·.name)) with
  | none => rfl
  | some j =>
    have hj := ixT_lt h
    rw [List.getElem?_map] at hj
    obtain ⟨d, hd, _⟩ := Option.map_eq_some_iff.1 hj
    simp [hd]
end Go.Proofs.YtdibndmkeipgbaaGreatDoor
