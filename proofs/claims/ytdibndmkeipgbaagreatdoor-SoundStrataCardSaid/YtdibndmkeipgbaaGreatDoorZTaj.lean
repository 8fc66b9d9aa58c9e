/- What is proved: Signs of a text that is made of names, marks and blanks: plain facts; Where signs stand, and signs with blanks between: plain facts. Conditions: those that stand in the statements. -/
import Derived.Test.YtdibndmkeipgbaaGreatDoorZLexP
import Derived.Test.YtdibndmkeipgbaaGreatDoorZOp
set_option linter.unusedSimpArgs false
set_option linter.unusedVariables false
set_option maxRecDepth 100000
namespace Go.Proofs.YtdibndmkeipgbaaGreatDoor
open Go.RowKit

/-- What follows does not go on with a name. -/
def NP (r : List UInt8) : Prop := ∀ c t, r = c :: t → partB c = false
theorem NP.nil : NP [] := fun c t h => by cases h
theorem NP.cons {c : UInt8} {t : List UInt8} (h : partB c = false) : NP (c :: t) := fun c' t' e => by injection e with e1 e2; subst e1; exact h
def Txt (A : List Sgn) (T : List (List UInt8)) : Prop := A.map (·.text) = T ∧ ∀ x, x ∈ A → signB x = true
/-- Whatever follows, these bytes are these signs. -/
def LexE (b : List UInt8) (T : List (List UInt8)) : Prop := ∀ (r : List UInt8) (a : Nat) (out L : List Sgn), lexR (b ++ r) a out = .ok L → ∃ (A : List Sgn) (a' : Nat), Txt A T ∧ lexR r a' (out ++ A) = .ok L
/-- The same, if no name goes on behind. -/
def LexN (b : List UInt8) (T : List (List UInt8)) : Prop := ∀ (r : List UInt8) (a : Nat) (out L : List Sgn), NP r → lexR (b ++ r) a out = .ok L → ∃ (A : List Sgn) (a' : Nat), Txt A T ∧ lexR r a' (out ++ A) = .ok L
theorem LexE.n {b : List UInt8} {T : List (List UInt8)} (h : LexE b T) : LexN b T := fun r a out L _ e => h r a out L e
theorem LexE.nil : LexE [] [] := fun r a out L h => ⟨[], a, ⟨rfl, fun x hx => by cases hx⟩, by simpa using h⟩
/-- One sign. -/
theorem lex_one {t r : List UInt8} {k : Nat} {a : Nat} {out L : List Sgn} (ht : t ≠ []) (hb : ∀ c s, t = c :: s → blankB c = false ∧ ¬ c.toNat = 35) (ho : oneK (t ++ r) = (k, t.length)) (ho2 : oneK t = (k, t.length)) (e : lexR (t ++ r) a out = .ok L) :
    ∃ (A : List Sgn) (a' : Nat), Txt A [t] ∧ lexR r a' (out ++ A) = .ok L := by
  cases t with
  | nil => exact absurd rfl ht
  | cons c s =>
    obtain ⟨h1, h2⟩ := hb c s rfl
    rw [List.cons_append] at ho e
    rw [lexR_sign h1 h2, ho] at e
    split at e
    · cases e
    · split at e
      · cases e
      · refine ⟨[⟨k, c :: s, a⟩], a + (c :: s).length, ⟨rfl, fun x hx => ?_⟩, ?_⟩
        · simp only [List.mem_singleton] at hx
          subst hx
          simp [signB, ho2]
        · rw [← List.cons_append, List.drop_left' rfl, List.take_left' rfl] at e
          exact e
theorem runN_np {r : List UInt8} (h : NP r) : runN partB r = 0 := by
  cases r with
  | nil => rfl
  | cons c s => rw [runN_cons, h c s rfl]; rfl
theorem runN_full : ∀ (t r : List UInt8), runN partB t = t.length → NP r → runN partB (t ++ r) = t.length
  | [], r, _, h => runN_np h
  | c :: t, r, h, hr => by
    rw [List.cons_append, runN_cons]
    rw [runN_cons] at h
    cases hc : partB c with
    | false => rw [hc] at h; simp at h
    | true =>
      rw [hc] at h
      simp only [if_true, List.length_cons] at h ⊢
      have := runN_full t r (by omega) hr
      omega
theorem name_one {t : List UInt8} (h : signB ⟨1, t, 0⟩ = true) : ∃ c s, t = c :: s ∧ digB c = false ∧ partB c = true ∧ runN partB (c :: s) = (c :: s).length ∧ ¬ 32 < (c :: s).length := by
  simp only [signB, Bool.and_eq_true, decide_eq_true_eq] at h
  obtain ⟨h1, h2⟩ := h
  cases t with
  | nil => exact absurd rfl h1
  | cons c s =>
    refine ⟨c, s, rfl, ?_⟩
    simp only [oneK] at h2
    split at h2
    · split at h2 <;> simp at h2
    · rename_i hd
      split at h2
      · rename_i hp
        split at h2
        · simp at h2
        · rename_i h32
          injection h2 with _ h3
          exact ⟨by simpa using hd, hp, h3, by omega⟩
      · simp at h2
theorem part_plain {c : UInt8} (h : partB c = true) : blankB c = false ∧ ¬ c.toNat = 35 := by
  constructor
  · rw [blankB_mem, decide_eq_false_iff_not]
    rintro (rfl | rfl | rfl | rfl) <;> simp [partB, digB] at h
  · intro e
    have : c = 35 := UInt8.toNat_inj.1 e
    subst this
    simp [partB, digB] at h
theorem LexN.name {t : List UInt8} (h : signB ⟨1, t, 0⟩ = true) : LexN t [t] := fun r a out L hr e => by
  obtain ⟨c, s, rfl, hd, hp, hn, h32⟩ := name_one h
  have hn2 := runN_full (c :: s) r hn hr
  rw [List.cons_append] at hn2
  refine lex_one (k := 1) (by simp) (fun c' s' e => ?_) ?_ ?_ e
  · injection e with e1 e2; subst e1; exact part_plain hp
  · rw [List.cons_append]
    simp only [oneK, hd, hp, if_true, Bool.false_eq_true, if_false, hn2, if_neg h32]
  · simp only [oneK, hd, hp, if_true, Bool.false_eq_true, if_false, hn, if_neg h32]
end Go.Proofs.YtdibndmkeipgbaaGreatDoor
set_option maxRecDepth 100000
namespace Go.Proofs.YtdibndmkeipgbaaGreatDoor
open Go.RowKit

def In (e : Nat) (L : List Sgn) : Prop := ∀ y, y ∈ L → y.at_ ≤ e
theorem In.tail {e : Nat} {L : List Sgn} (h : In e L) : In e L.tail := fun y hy => h y (List.mem_of_mem_tail hy)
def LxIn (E : Nat) : Except (Nat × Nat) (List Sgn) → Prop
  | .ok L => In E L
  | .error q => q.1 ≤ E
theorem lex_in (E : Nat) : ∀ (f : Nat) (l : List UInt8) (a : Nat) (out : List Sgn), a + l.length ≤ E → In E out → LxIn E (lexGo f l a out)
  | 0, l, a, out, _, h => h
  | f + 1, l, a, out, ha, h => by
    simp only [lexGo]
    have hb := runN_le blankB l
    generalize hd : l.drop (runN blankB l) = d
    have hdl : d.length = l.length - runN blankB l := by rw [← hd, List.length_drop]
    cases d with
    | nil => exact h
    | cons c r =>
      have h1 := runN_le noLine (c :: r)
      have h2 := oneK_le c r
      simp only
      split
      · exact lex_in E f _ _ _ (by rw [List.length_drop]; omega) h
      · split
        · show a + runN blankB l ≤ E
          omega
        · split
          · show a + runN blankB l ≤ E
            omega
          · refine lex_in E f _ _ _ (by rw [List.length_drop]; omega) fun y hy => ?_
            rcases List.mem_append.1 hy with hy | hy
            · exact h y hy
            · simp only [List.mem_singleton] at hy
              subst hy
              show a + runN blankB l ≤ E
              omega
def Sm (L M : List Sgn) : Prop := L.map (fun x => (x.kind, x.text)) = M.map (fun x => (x.kind, x.text))
theorem Sm.len {L M : List Sgn} (h : Sm L M) : L.length = M.length := by have := congrArg List.length h; simpa using this
theorem Sm.tail {L M : List Sgn} (h : Sm L M) : Sm L.tail M.tail := by
  unfold Sm at h ⊢
  rw [List.map_tail, List.map_tail, h]
/-- What follows goes on with nothing. -/
def Bl (r : List UInt8) : Prop := ∀ c t, r = c :: t → blankB c = true
theorem Bl.nil : Bl [] := fun c t h => by cases h
theorem Bl.cons {c : UInt8} {t : List UInt8} (h : blankB c = true) : Bl (c :: t) := fun c' t' e => by injection e with e1 e2; subst e1; exact h
theorem blank_dig {c : UInt8} (h : blankB c = true) : digB c = false ∧ partB c = false ∧ c ≠ 45 ∧ c ≠ 58 ∧ c ≠ 61 := by
  rw [blankB_mem, decide_eq_true_eq] at h
  rcases h with rfl | rfl | rfl | rfl <;> decide
theorem runN_swap {p : UInt8 → Bool} {r r' : List UInt8} (h' : ∀ c s, r' = c :: s → p c = false) : ∀ t : List UInt8, runN p (t ++ r) = t.length → runN p (t ++ r') = t.length
  | [], _ => by
    cases r' with
    | nil => rfl
    | cons c s => rw [List.nil_append, runN_cons, h' c s rfl]; rfl
  | c :: t, h => by
    rw [List.cons_append, runN_cons] at h ⊢
    cases hc : p c with
    | false => rw [hc] at h; simp at h
    | true =>
      rw [hc] at h
      simp only [if_true, List.length_cons] at h ⊢
      have := runN_swap (r := r) h' t (by omega)
      omega
theorem pre2 {a b x : UInt8} {r : List UInt8} : List.isPrefixOf [a, b] (x :: r) = (x == a && (match r with | y :: _ => y == b | [] => false)) := by
  cases r <;> simp [List.isPrefixOf, Bool.beq_comm, BEq.comm]
theorem markN_swap {c : UInt8} {s r r' : List UInt8} (hb : Bl r') (h : markN (c :: s ++ r) = (c :: s).length) : markN (c :: s ++ r') = (c :: s).length := by
  cases s with
  | nil =>
    cases r' with
    | nil =>
      simp only [markN, List.cons_append, List.nil_append, pre2] at h ⊢
      cases r with
      | nil => simpa using h
      | cons y r =>
        simp only at h
        split at h
        · simp at h
        · split at h
          · simp at h
          · split at h
            · simp at h
            · simpa using h
    | cons y' r' =>
      obtain ⟨_, _, h1, h2, h3⟩ := blank_dig (hb y' r' rfl)
      simp only [markN, List.cons_append, List.nil_append, pre2, beq_eq_false_iff_ne.2 h1, beq_eq_false_iff_ne.2 h2, beq_eq_false_iff_ne.2 h3, Bool.and_false] at h ⊢
      cases r with
      | nil => simpa using h
      | cons y r =>
        simp only at h
        split at h
        · simp at h
        · split at h
          · simp at h
          · split at h
            · simp at h
            · simpa using h
  | cons d s =>
    simp only [markN, List.cons_append, pre2, List.length_cons] at h ⊢
    split at h
    · rename_i h1; rw [if_pos h1]; exact h
    · rename_i h1; rw [if_neg h1]
      split at h
      · rename_i h2; rw [if_pos h2]; exact h
      · rename_i h2; rw [if_neg h2]
        split at h
        · rename_i h3; rw [if_pos h3]; exact h
        · split at h <;> omega
theorem oneK_swap {t r r' : List UInt8} {k : Nat} (ht : t ≠ []) (hb : Bl r') (h : oneK (t ++ r) = (k, t.length)) : oneK (t ++ r') = (k, t.length) := by
  cases t with
  | nil => exact absurd rfl ht
  | cons c s =>
    have e1 : runN digB (c :: s ++ r) = (c :: s).length → runN digB (c :: s ++ r') = (c :: s).length := runN_swap (fun c t e => (blank_dig (hb c t e)).1) _
    have e2 : runN partB (c :: s ++ r) = (c :: s).length → runN partB (c :: s ++ r') = (c :: s).length := runN_swap (fun c t e => (blank_dig (hb c t e)).2.1) _
    have e3 : markN (c :: s ++ r) = (c :: s).length → markN (c :: s ++ r') = (c :: s).length := markN_swap hb
    rw [List.cons_append] at h e1 e2 e3 ⊢
    simp only [oneK] at h ⊢
    rw [List.cons_append] at e1 e2 e3
    split at h
    · rename_i hd
      rw [if_pos hd]
      split at h
      · injection h with _ h; simp at h
      · rename_i hn
        injection h with h1 h2
        have e := e1 h2
        rw [e, if_neg (by rw [← h2]; exact hn), h1]
    · rename_i hd
      rw [if_neg hd]
      split at h
      · rename_i hp
        rw [if_pos hp]
        split at h
        · injection h with _ h; simp at h
        · rename_i hn
          injection h with h1 h2
          have e := e2 h2
          rw [e, if_neg (by rw [← h2]; exact hn), h1]
      · rename_i hp
        rw [if_neg hp]
        injection h with h1 h2
        rw [e3 h2, h1]
/-- What a sign of a text is. -/
def Gd (x : Sgn) : Prop := x.text ≠ [] ∧ oneK x.text = (x.kind, x.text.length) ∧ ∀ c s, x.text = c :: s → blankB c = false ∧ ¬ c.toNat = 35
def sumT (L : List Sgn) : Nat := (L.map fun x => x.text.length).sum
theorem sumT_app (A B : List Sgn) : sumT (A ++ B) = sumT A + sumT B := by simp [sumT]
theorem lex_gd (m : Nat) : ∀ (l : List UInt8) (a : Nat) (out L : List Sgn), l.length ≤ m → lexR l a out = .ok L → (∀ x, x ∈ out → Gd x) → out.length ≤ 4096 → (∀ x, x ∈ L → Gd x) ∧ sumT L ≤ sumT out + l.length ∧ L.length ≤ 4096 := by
  induction m with
  | zero =>
    intro l a out L hm h ho hl
    have : l = [] := List.eq_nil_of_length_eq_zero (by omega)
    subst this
    rw [lexR_nil] at h; cases h
    exact ⟨ho, by omega, hl⟩
  | succ m ih =>
    intro l a out L hm h ho hl
    cases l with
    | nil => rw [lexR_nil] at h; cases h; exact ⟨ho, by omega, hl⟩
    | cons c r =>
      simp only [List.length_cons] at hm ⊢
      cases hb : blankB c with
      | true =>
        rw [lexR_blank hb] at h
        obtain ⟨h1, h2, h3⟩ := ih r _ _ _ (by omega) h ho hl
        exact ⟨h1, by omega, h3⟩
      | false =>
        by_cases h35 : c.toNat = 35
        · rw [lexR_hash h35] at h
          have hn : 1 ≤ runN noLine (c :: r) := by rw [runN_cons, if_pos (by simp [noLine]; omega)]; omega
          obtain ⟨h1, h2, h3⟩ := ih _ _ _ _ (by rw [List.length_drop, List.length_cons]; omega) h ho hl
          rw [List.length_drop, List.length_cons] at h2
          exact ⟨h1, by omega, h3⟩
        · rw [lexR_sign hb h35] at h
          have hle := oneK_le c r
          rw [List.length_cons] at hle
          generalize he : oneK (c :: r) = q at h hle
          obtain ⟨k, n⟩ := q
          simp only at h hle
          split at h
          · cases h
          · split at h
            · cases h
            · rename_i hn hf
              have hne : (c :: r).take n ≠ [] := by
                cases n with
                | zero => exact absurd rfl hn
                | succ n => simp
              have hlen : ((c :: r).take n).length = n := by rw [List.length_take, List.length_cons]; omega
              have hg : Gd ⟨k, (c :: r).take n, a⟩ := by
                refine ⟨hne, ?_, fun c' s' e => ?_⟩
                · have e1 : oneK ((c :: r).take n ++ (c :: r).drop n) = (k, ((c :: r).take n).length) := by rw [List.take_append_drop, hlen]; exact he
                  have := oneK_swap hne Bl.nil e1
                  rw [List.append_nil] at this; exact this
                · cases n with
                  | zero => exact absurd rfl hn
                  | succ n =>
                    simp only [List.take_succ_cons] at e
                    injection e with e1 e2; subst e1; exact ⟨hb, h35⟩
              obtain ⟨h1, h2, h3⟩ := ih _ _ _ _ (by rw [List.length_drop, List.length_cons]; omega) h (fun x hx => by
                rcases List.mem_append.1 hx with hx | hx
                · exact ho x hx
                · simp only [List.mem_singleton] at hx; subst hx; exact hg) (by simp; omega)
              refine ⟨h1, ?_, h3⟩
              rw [sumT_app, List.length_drop, List.length_cons] at h2
              have : sumT [⟨k, (c :: r).take n, a⟩] = n := by simp only [sumT, List.map_cons, List.map_nil, List.sum_cons, List.sum_nil, hlen]; rfl
              rw [this] at h2
              omega
theorem lexS_gd {l : List UInt8} {L : List Sgn} (h : lexSigns l = .ok L) : (∀ x, x ∈ L → Gd x) ∧ sumT L ≤ l.length ∧ L.length ≤ 4096 := by
  unfold lexSigns at h
  split at h
  · cases h
  · have := lex_gd l.length l 0 [] L (Nat.le_refl _) h (fun x hx => by cases hx) (by simp)
    simpa [sumT] using this

end Go.Proofs.YtdibndmkeipgbaaGreatDoor
