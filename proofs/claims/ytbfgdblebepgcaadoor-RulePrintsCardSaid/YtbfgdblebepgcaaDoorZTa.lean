/- What is proved: Signs of a text that is made of names, marks and blanks: plain facts. Conditions: those that stand in the statements. -/
import Derived.Test.YtbfgdblebepgcaaDoorZLexP
import Derived.Test.YtbfgdblebepgcaaDoorZOp
set_option linter.unusedSimpArgs false
set_option linter.unusedVariables false
set_option maxRecDepth 100000
namespace Go.Proofs.YtbfgdblebepgcaaDoor
open Go.RowKit

/-- What follows does not go on with a name. -/
def NP (r : List UInt8) : Prop := ∀ c t, r = c :: t → partB c = false
theorem NP.nil : NP [] := fun c t h => by cases h
theorem NP.cons {c : UInt8} {t : List UInt8} (h : partB c = false) : NP (c :: t) := fun c' t' e => by injection e with e1 e2; subst e1; exact h
theorem NP.app {b r : List UInt8} (h : NP b) (hb : b ≠ []) : NP (b ++ r) := by
  cases b with
  | nil => exact absurd rfl hb
  | cons c t => exact NP.cons (h c t rfl)
def Txt (A : List Sgn) (T : List (List UInt8)) : Prop := A.map (·.text) = T ∧ ∀ x, x ∈ A → signB x = true
theorem Txt.app {A B : List Sgn} {T U : List (List UInt8)} (h : Txt A T) (k : Txt B U) : Txt (A ++ B) (T ++ U) :=
  ⟨by rw [List.map_append, h.1, k.1], fun x hx => by rcases List.mem_append.1 hx with hx | hx; exact h.2 x hx; exact k.2 x hx⟩
/-- Whatever follows, these bytes are these signs. -/
def LexE (b : List UInt8) (T : List (List UInt8)) : Prop := ∀ (r : List UInt8) (a : Nat) (out L : List Sgn), lexR (b ++ r) a out = .ok L → ∃ (A : List Sgn) (a' : Nat), Txt A T ∧ lexR r a' (out ++ A) = .ok L
/-- The same, if no name goes on behind. -/
def LexN (b : List UInt8) (T : List (List UInt8)) : Prop := ∀ (r : List UInt8) (a : Nat) (out L : List Sgn), NP r → lexR (b ++ r) a out = .ok L → ∃ (A : List Sgn) (a' : Nat), Txt A T ∧ lexR r a' (out ++ A) = .ok L
theorem LexE.n {b : List UInt8} {T : List (List UInt8)} (h : LexE b T) : LexN b T := fun r a out L _ e => h r a out L e
theorem LexE.nil : LexE [] [] := fun r a out L h => ⟨[], a, ⟨rfl, fun x hx => by cases hx⟩, by simpa using h⟩
theorem LexE.app {b c : List UInt8} {T U : List (List UInt8)} (h : LexE b T) (k : LexE c U) : LexE (b ++ c) (T ++ U) := fun r a out L e => by
  rw [List.append_assoc] at e
  obtain ⟨A, a1, h1, h2⟩ := h _ _ _ _ e
  obtain ⟨B, a2, k1, k2⟩ := k _ _ _ _ h2
  exact ⟨A ++ B, a2, h1.app k1, by rw [← List.append_assoc]; exact k2⟩
theorem LexE.appN {b c : List UInt8} {T U : List (List UInt8)} (h : LexE b T) (k : LexN c U) : LexN (b ++ c) (T ++ U) := fun r a out L n e => by
  rw [List.append_assoc] at e
  obtain ⟨A, a1, h1, h2⟩ := h _ _ _ _ e
  obtain ⟨B, a2, k1, k2⟩ := k _ _ _ _ n h2
  exact ⟨A ++ B, a2, h1.app k1, by rw [← List.append_assoc]; exact k2⟩
theorem LexN.app {b c : List UInt8} {T U : List (List UInt8)} (h : LexN b T) (k : LexE c U) (hc : c ≠ []) (hp : NP c) : LexE (b ++ c) (T ++ U) := fun r a out L e => by
  rw [List.append_assoc] at e
  obtain ⟨A, a1, h1, h2⟩ := h _ _ _ _ (hp.app hc) e
  obtain ⟨B, a2, k1, k2⟩ := k _ _ _ _ h2
  exact ⟨A ++ B, a2, h1.app k1, by rw [← List.append_assoc]; exact k2⟩
theorem LexE.blank {c : UInt8} (h : blankB c = true) : LexE [c] [] := fun r a out L e => by
  rw [List.cons_append, List.nil_append, lexR_blank h] at e
  exact ⟨[], a + 1, ⟨rfl, fun x hx => by cases hx⟩, by simpa using e⟩
/-- One sign. -/
theorem lex_one {t r : List UInt8} {k : Nat} {a : Nat} {out L : List Sgn} (ht : t ≠ []) (hb : ∀ c s, t = c :: s → blankB c = false ∧ ¬ c.toNat = 35) (ho : oneK (t ++ r) = (k, t.length)) (ho2 : oneK t = (k, t.length)) (e : lexR (t ++ r) a out = .ok L) :
    ∃ (A : List Sgn) (a' : Nat), Txt A [t] ∧ lexR r a' (out ++ A) = .ok L := by
  cases t with
  | nil => exact absurd rfl ht
  | cons c s =>
    obtain ⟨h1, h2⟩ := hb c s rfl
    rw [List.cons_append] at ho e
    rw [lexR_sign h1 h2, ho] at e
    split at e
    · cases e
    · split at e
      · cases e
      · refine ⟨[⟨k, c :: s, a⟩], a + (c :: s).length, ⟨rfl, fun x hx => ?_⟩, ?_⟩
        · simp only [List.mem_singleton] at hx
          subst hx
          simp [signB, ho2]
        · rw [← List.cons_append, List.drop_left' rfl, List.take_left' rfl] at e
          exact e
theorem LexE.mark (c : UInt8) (h : c = 40 ∨ c = 41 ∨ c = 123 ∨ c = 125 ∨ c = 44 ∨ c = 46 ∨ c = 59 ∨ c = 61) : LexE [c] [[c]] := fun r a out L e => by
  refine lex_one (k := 3) (by simp) (fun c' s e => ?_) ?_ ?_ e
  · injection e with e1 e2; subst e1
    rcases h with rfl | rfl | rfl | rfl | rfl | rfl | rfl | rfl <;> exact ⟨by decide, by decide⟩
  · rcases h with rfl | rfl | rfl | rfl | rfl | rfl | rfl | rfl <;> simp [oneK, digB, partB, markN, List.isPrefixOf, marks] <;> decide
  · rcases h with rfl | rfl | rfl | rfl | rfl | rfl | rfl | rfl <;> decide
theorem LexE.colons : LexE [58, 58] [[58, 58]] := fun r a out L e => by
  refine lex_one (k := 3) (by simp) (fun c' s e => ?_) ?_ ?_ e
  · injection e with e1 e2; subst e1; exact ⟨by decide, by decide⟩
  · simp [oneK, digB, partB, markN, List.isPrefixOf]
  · decide
theorem runN_np {r : List UInt8} (h : NP r) : runN partB r = 0 := by
  cases r with
  | nil => rfl
  | cons c s => rw [runN_cons, h c s rfl]; rfl
theorem runN_full : ∀ (t r : List UInt8), runN partB t = t.length → NP r → runN partB (t ++ r) = t.length
  | [], r, _, h => runN_np h
  | c :: t, r, h, hr => by
    rw [List.cons_append, runN_cons]
    rw [runN_cons] at h
    cases hc : partB c with
    | false => rw [hc] at h; simp at h
    | true =>
      rw [hc] at h
      simp only [if_true, List.length_cons] at h ⊢
      have := runN_full t r (by omega) hr
      omega
theorem name_one {t : List UInt8} (h : signB ⟨1, t, 0⟩ = true) : ∃ c s, t = c :: s ∧ digB c = false ∧ partB c = true ∧ runN partB (c :: s) = (c :: s).length ∧ ¬ 32 < (c :: s).length := by
  simp only [signB, Bool.and_eq_true, decide_eq_true_eq] at h
  obtain ⟨h1, h2⟩ := h
  cases t with
  | nil => exact absurd rfl h1
  | cons c s =>
    refine ⟨c, s, rfl, ?_⟩
    simp only [oneK] at h2
    split at h2
    · split at h2 <;> simp at h2
    · rename_i hd
      split at h2
      · rename_i hp
        split at h2
        · simp at h2
        · rename_i h32
          injection h2 with _ h3
          exact ⟨by simpa using hd, hp, h3, by omega⟩
      · simp at h2
theorem part_plain {c : UInt8} (h : partB c = true) : blankB c = false ∧ ¬ c.toNat = 35 := by
  constructor
  · rw [blankB_mem, decide_eq_false_iff_not]
    rintro (rfl | rfl | rfl | rfl) <;> simp [partB, digB] at h
  · intro e
    have : c = 35 := UInt8.toNat_inj.1 e
    subst this
    simp [partB, digB] at h
theorem LexN.name {t : List UInt8} (h : signB ⟨1, t, 0⟩ = true) : LexN t [t] := fun r a out L hr e => by
  obtain ⟨c, s, rfl, hd, hp, hn, h32⟩ := name_one h
  have hn2 := runN_full (c :: s) r hn hr
  rw [List.cons_append] at hn2
  refine lex_one (k := 1) (by simp) (fun c' s' e => ?_) ?_ ?_ e
  · injection e with e1 e2; subst e1; exact part_plain hp
  · rw [List.cons_append]
    simp only [oneK, hd, hp, if_true, Bool.false_eq_true, if_false, hn2, if_neg h32]
  · simp only [oneK, hd, hp, if_true, Bool.false_eq_true, if_false, hn, if_neg h32]
end Go.Proofs.YtbfgdblebepgcaaDoor
