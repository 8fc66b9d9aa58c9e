/- What is proved: Where a text is none: the place lies in it: plain facts; Why a text is none: the reason is told: plain facts; Reading does not look at places as long as it succeeds: plain facts; Signs with blanks between are the same signs: plain facts. Conditions: those that stand in the statements. -/
import Derived.Test.YtilpdejbldllbaaZTej
set_option linter.unusedSimpArgs false
set_option linter.unusedVariables false
set_option maxRecDepth 100000
namespace Go.Proofs.Ytilpdejbldllbaa
open Go.RowKit

def In (e : Nat) (L : List Sgn) : Prop := ∀ y, y ∈ L → y.at_ ≤ e
theorem In.tail {e : Nat} {L : List Sgn} (h : In e L) : In e L.tail := fun y hy => h y (List.mem_of_mem_tail hy)
def Pl {α : Type} (e : Nat) : PR α → Prop
  | .ok (_, L, _) => In e L
  | .error (a, _) => a ≤ e
theorem Pl.bnd {α β : Type} {e : Nat} {x : PR α} {k : α → List Sgn → Nat → PR β} (h : Pl e x) (hk : ∀ a L n, In e L → Pl e (k a L n)) : Pl e (bnd x k) := by
  cases x with
  | ok q => obtain ⟨a, L, n⟩ := q; exact hk a L n h
  | error q => exact h
theorem place_in {e : Nat} {L : List Sgn} (h : In e L) : place e L ≤ e := by
  cases L with
  | nil => exact Nat.le_refl _
  | cons x L => exact h x (by simp)
theorem Pl.must {e : Nat} {L : List Sgn} {n : Nat} {t : List UInt8} (h : In e L) : Pl e (mustP e L n t) := by
  unfold mustP; split
  · exact h.tail
  · exact place_in h
theorem Pl.name {e : Nat} {L : List Sgn} {n : Nat} (h : In e L) : Pl e (nameP e L n) := by
  cases L with
  | nil => exact Nat.le_refl _
  | cons x L =>
    simp only [nameP]; split
    · exact fun y hy => h y (by simp [hy])
    · exact h x (by simp)
theorem Pl.room {e : Nat} {L : List Sgn} {n hv mst : Nat} {b : Bool} (h : In e L) : Pl e (roomP e L n hv mst b) := by
  unfold roomP; split
  · exact place_in h
  · exact h
theorem Pl.namesGo {e : Nat} : ∀ (f : Nat) (out : List (List UInt8)) (L : List Sgn) (n : Nat), In e L → Pl e (namesGo e f out L n)
  | 0, out, L, n, h => h
  | f + 1, out, L, n, h => by
    simp only [Proofs.Ytilpdejbldllbaa.namesGo]
    split
    · exact h.tail
    · refine Pl.bnd (by split; exact Pl.must h; exact h) fun _ L n h => Pl.bnd (Pl.room h) fun _ L n h => Pl.bnd (Pl.name h) fun x L n h => Pl.namesGo f _ L n h
theorem Pl.names {e : Nat} {L : List Sgn} {n : Nat} (h : In e L) : Pl e (namesP e L n) := Pl.bnd (Pl.must h) fun _ L n h => Pl.namesGo _ _ L n h
theorem Pl.call {e n : Nat} {d c : List UInt8} {ld : Bool} {L : List Sgn} (h : In e L) : Pl e (callP e d c ld L n) := by
  unfold callP; split
  · exact Pl.bnd (Pl.name h.tail) fun x L n h => Pl.bnd (Pl.names h) fun ar L n h => h
  · refine Pl.bnd (Pl.must h) fun _ L n h => Pl.bnd (Pl.name h) fun x L n h => ?_
    split
    · exact h
    · exact Pl.bnd (Pl.names h) fun ar L n h => h
theorem Pl.plain {e n : Nat} {L : List Sgn} (h : In e L) : Pl e (plainP e L n) := by
  unfold plainP
  refine Pl.bnd (Pl.name h) fun first L n h => ?_
  split
  · split
    · exact Pl.bnd (Pl.name h.tail.tail) fun x L n h => h
    · refine Pl.bnd (Pl.name h.tail) fun src L n h => ?_
      split
      · exact Pl.bnd (Pl.call h) fun y L n h => h
      · exact h
  · split
    · exact Pl.bnd (Pl.must h) fun _ L n h => Pl.bnd (Pl.name h) fun x L n h => Pl.bnd (Pl.must h) fun _ L n h => Pl.bnd (Pl.name h) fun src L n h => h
    · exact Pl.bnd (Pl.call h) fun y L n h => h
theorem Pl.sts {e : Nat} : ∀ f : Nat, (∀ dp L n, In e L → Pl e (stmtP e f dp L n)) ∧ (∀ dp L n, In e L → Pl e (blockP e f dp L n)) ∧ (∀ dp out L n, In e L → Pl e (stmtsP e f dp out L n))
  | 0 => ⟨fun _ _ _ _ => by simp only [stmtP]; exact Nat.zero_le _, fun _ _ _ _ => by simp only [blockP]; exact Nat.zero_le _, fun _ _ _ _ _ => by simp only [stmtsP]; exact Nat.zero_le _⟩
  | f + 1 => by
    obtain ⟨i1, i2, i3⟩ := Pl.sts (e := e) f
    refine ⟨fun dp L n h => ?_, fun dp L n h => ?_, fun dp out L n h => ?_⟩
    · simp only [stmtP]
      refine Pl.bnd (Pl.room h) fun _ L n h => ?_
      split
      · exact Pl.bnd (i2 _ _ _ h.tail) fun one L n h => Pl.bnd (Pl.must h) fun _ L n h => Pl.bnd (i2 _ _ _ h) fun two L n h => h
      · split
        · exact Pl.bnd (i2 _ _ _ h.tail) fun one L n h => h
        · split
          · exact Pl.bnd (Pl.name h.tail) fun x L n h => Pl.bnd (Pl.must h) fun _ L n h => h
          · exact Pl.bnd (Pl.plain h) fun y L n h => Pl.bnd (Pl.must h) fun _ L n h => h
    · simp only [blockP]
      exact Pl.bnd (Pl.room h) fun _ L n h => Pl.bnd (Pl.must h) fun _ L n h => i3 _ _ _ _ h
    · simp only [stmtsP]
      split
      · exact h.tail
      · exact Pl.bnd (i1 _ _ _ h) fun x L n h => i3 _ _ _ _ h
theorem Pl.mths {e : Nat} : ∀ (f : Nat) (out : List Mth) (L : List Sgn) (n : Nat), In e L → Pl e (mthsP e f out L n)
  | 0, out, L, n, h => Nat.zero_le _
  | f + 1, out, L, n, h => by
    simp only [mthsP]
    split
    · exact h.tail
    · exact Pl.bnd (Pl.room h) fun _ L n h => Pl.bnd (Pl.name (by split; exact h.tail; exact h)) fun x L n h => Pl.bnd (Pl.names h) fun ps L n h => Pl.bnd ((Pl.sts _).2.1 _ _ _ h) fun b L n h => Pl.mths f _ L n h
theorem Pl.cls {e n : Nat} {L : List Sgn} (h : In e L) : Pl e (classP e L n) := by
  unfold classP
  refine Pl.bnd (Pl.must h) fun _ L n h => Pl.bnd (Pl.name h) fun x L n h => Pl.bnd ?_ fun y L n h => Pl.bnd (Pl.must h) fun _ L n h => Pl.bnd (Pl.mths _ _ _ _ h) fun ms L n h => h
  split
  · exact Pl.bnd (Pl.name h.tail) fun y L n h => h
  · exact h
theorem Pl.parses {e : Nat} : ∀ (f : Nat) (out : List Cls) (L : List Sgn) (n : Nat), In e L → Pl e (parsesP e f out L n)
  | 0, out, L, n, h => Nat.zero_le _
  | f + 1, out, L, n, h => by
    simp only [parsesP]
    split
    · exact h
    · exact Pl.bnd (Pl.room h) fun _ L n h => Pl.bnd (Pl.cls h) fun c L n h => Pl.parses f _ L n h
def LxIn (E : Nat) : Except (Nat × Nat) (List Sgn) → Prop
  | .ok L => In E L
  | .error q => q.1 ≤ E
theorem lex_in (E : Nat) : ∀ (f : Nat) (l : List UInt8) (a : Nat) (out : List Sgn), a + l.length ≤ E → In E out → LxIn E (lexGo f l a out)
  | 0, l, a, out, _, h => h
  | f + 1, l, a, out, ha, h => by
    simp only [lexGo]
    have hb := runN_le blankB l
    generalize hd : l.drop (runN blankB l) = d
    have hdl : d.length = l.length - runN blankB l := by rw [← hd, List.length_drop]
    cases d with
    | nil => exact h
    | cons c r =>
      have h1 := runN_le noLine (c :: r)
      have h2 := oneK_le c r
      simp only
      split
      · exact lex_in E f _ _ _ (by rw [List.length_drop]; omega) h
      · split
        · show a + runN blankB l ≤ E
          omega
        · split
          · show a + runN blankB l ≤ E
            omega
          · refine lex_in E f _ _ _ (by rw [List.length_drop]; omega) fun y hy => ?_
            rcases List.mem_append.1 hy with hy | hy
            · exact h y hy
            · simp only [List.mem_singleton] at hy
              subst hy
              show a + runN blankB l ≤ E
              omega
/-- Where a text is no source: the place lies in the text. -/
theorem parse_place {l : List UInt8} {a er : Nat} (h : parseS l = .error (a, er)) : a ≤ l.length := by
  unfold parseS at h
  have hx : LxIn l.length (lexSigns l) := by
    unfold lexSigns
    split
    · exact Nat.zero_le _
    · exact lex_in l.length _ l 0 [] (by omega) (fun y hy => by cases hy)
  cases hL : lexSigns l with
  | error q =>
    rw [hL] at h hx
    simp only at h hx
    injection h with h
    rw [h] at hx
    exact hx
  | ok L =>
    rw [hL] at h hx
    simp only at h hx
    have hp := Pl.parses (L.length + 1) [] L 0 hx
    cases hP : parsesP l.length (L.length + 1) [] L 0 with
    | ok q => rw [hP] at h; simp only at h; cases h
    | error q =>
      rw [hP] at h hp
      simp only at h
      injection h with h
      rw [h] at hp
      exact hp
end Go.Proofs.Ytilpdejbldllbaa
set_option maxRecDepth 100000
namespace Go.Proofs.Ytilpdejbldllbaa
open Go.RowKit

def Er {α : Type} (x : PR α) : Prop := ∀ a er, x = .error (a, er) → er ≠ 0
theorem Er.ok {α : Type} {q : α × List Sgn × Nat} : Er (.ok q : PR α) := fun _ _ h => by cases h
theorem Er.bnd {α β : Type} {x : PR α} {k : α → List Sgn → Nat → PR β} (h : Er x) (hk : ∀ a L n, x = .ok (a, L, n) → Er (k a L n)) : Er (bnd x k) := by
  cases x with
  | ok q => obtain ⟨a, L, n⟩ := q; exact hk a L n rfl
  | error q => exact fun a er e => h a er (by rw [bnd_err] at e; injection e with e; rw [e])
theorem Er.must {e : Nat} {L : List Sgn} {n : Nat} {t : List UInt8} : Er (mustP e L n t) := by
  unfold mustP; intro a er h; split at h
  · cases h
  · injection h with h; injection h with _ h; omega
theorem Er.name {e : Nat} {L : List Sgn} {n : Nat} : Er (nameP e L n) := by
  intro a er h
  cases L with
  | nil => injection h with h; injection h with _ h; omega
  | cons x L =>
    simp only [nameP] at h; split at h
    · cases h
    · injection h with h; injection h with _ h; omega
theorem Er.room {e : Nat} {L : List Sgn} {n hv mst : Nat} {b : Bool} : Er (roomP e L n hv mst b) := by
  unfold roomP; intro a er h; split at h
  · injection h with h; injection h with _ h; omega
  · cases h
theorem room_len {e : Nat} {L L' : List Sgn} {n n' hv mst : Nat} {b : Bool} {u : Unit} (h : roomP e L n hv mst b = .ok (u, L', n')) : L' = L ∧ n' = n := by
  unfold roomP at h; split at h
  · cases h
  · injection h with h; injection h with _ h; injection h with h1 h2; exact ⟨h1.symm, h2.symm⟩
theorem Er.namesGo {e : Nat} : ∀ (f : Nat) (out : List (List UInt8)) (L : List Sgn) (n : Nat), Er (namesGo e f out L n)
  | 0, out, L, n => Er.ok
  | f + 1, out, L, n => by
    simp only [Proofs.Ytilpdejbldllbaa.namesGo]
    split
    · exact Er.ok
    · exact Er.bnd (by split; exact Er.must; exact Er.ok) fun _ L n h => Er.bnd Er.room fun _ L n h => Er.bnd Er.name fun x L n h => Er.namesGo f _ L n
theorem Er.names {e : Nat} {L : List Sgn} {n : Nat} : Er (namesP e L n) := Er.bnd Er.must fun _ L n h => Er.namesGo _ _ L n
theorem Er.call {e n : Nat} {d c : List UInt8} {ld : Bool} {L : List Sgn} : Er (callP e d c ld L n) := by
  unfold callP; split
  · exact Er.bnd Er.name fun x L n h => Er.bnd Er.names fun ar L n h => Er.ok
  · refine Er.bnd Er.must fun _ L n h => Er.bnd Er.name fun x L n h => ?_
    split
    · exact Er.ok
    · exact Er.bnd Er.names fun ar L n h => Er.ok
theorem Er.plain {e n : Nat} {L : List Sgn} : Er (plainP e L n) := by
  unfold plainP
  refine Er.bnd Er.name fun first L n h => ?_
  split
  · split
    · exact Er.bnd Er.name fun x L n h => Er.ok
    · refine Er.bnd Er.name fun src L n h => ?_
      split
      · exact Er.bnd Er.call fun y L n h => Er.ok
      · exact Er.ok
  · split
    · exact Er.bnd Er.must fun _ L n h => Er.bnd Er.name fun x L n h => Er.bnd Er.must fun _ L n h => Er.bnd Er.name fun src L n h => Er.ok
    · exact Er.bnd Er.call fun y L n h => Er.ok
theorem Er.sts {e : Nat} : ∀ f : Nat, (∀ dp L n, 3 * L.length + 1 ≤ f → Er (stmtP e f dp L n)) ∧ (∀ dp L n, 3 * L.length + 3 ≤ f → Er (blockP e f dp L n)) ∧ (∀ dp out L n, 3 * L.length + 2 ≤ f → Er (stmtsP e f dp out L n))
  | 0 => ⟨fun _ _ _ _ => by omega, fun _ _ _ _ => by omega, fun _ _ _ _ _ => by omega⟩
  | f + 1 => by
    obtain ⟨i1, i2, i3⟩ := Er.sts (e := e) f
    obtain ⟨j1, j2, j3⟩ := parse_len e f
    refine ⟨fun dp L n hf => ?_, fun dp L n hf => ?_, fun dp out L n hf => ?_⟩
    · simp only [stmtP]
      refine Er.bnd Er.room fun _ L1 n1 h => ?_
      obtain ⟨rfl, rfl⟩ := room_len h
      split
      · rename_i ht
        have hl := tail_len ht
        refine Er.bnd (i2 _ _ _ (by omega)) fun one L2 n2 h2 => Er.bnd Er.must fun _ L3 n3 h3 => ?_
        have l2 := (j2 _ _ _ _ _ _ h2).1
        have l3 := (mustP_len h3).1
        exact Er.bnd (i2 _ _ _ (by omega)) fun two L n h => Er.ok
      · split
        · rename_i ht
          have hl := tail_len ht
          exact Er.bnd (i2 _ _ _ (by omega)) fun one L n h => Er.ok
        · split
          · exact Er.bnd Er.name fun x L n h => Er.bnd Er.must fun _ L n h => Er.ok
          · exact Er.bnd Er.plain fun y L n h => Er.bnd Er.must fun _ L n h => Er.ok
    · simp only [blockP]
      refine Er.bnd Er.room fun _ L1 n1 h => ?_
      obtain ⟨rfl, rfl⟩ := room_len h
      refine Er.bnd Er.must fun _ L2 n2 h2 => ?_
      have l2 := (mustP_len h2).1
      exact i3 _ _ _ _ (by omega)
    · simp only [stmtsP]
      split
      · exact Er.ok
      · refine Er.bnd (i1 _ _ _ (by omega)) fun x L2 n2 h2 => ?_
        have l2 := (j1 _ _ _ _ _ _ h2).1
        exact i3 _ _ _ _ (by omega)
theorem Er.mths {e : Nat} : ∀ (f : Nat) (out : List Mth) (L : List Sgn) (n : Nat), L.length < f → Er (mthsP e f out L n)
  | 0, out, L, n, hf => by omega
  | f + 1, out, L, n, hf => by
    simp only [mthsP]
    split
    · exact Er.ok
    · refine Er.bnd Er.room fun _ L1 n1 h => ?_
      obtain ⟨rfl, rfl⟩ := room_len h
      refine Er.bnd Er.name fun x L2 n2 h2 => Er.bnd Er.names fun ps L3 n3 h3 => Er.bnd ((Er.sts _).2.1 _ _ _ (Nat.le_refl _)) fun b L4 n4 h4 => Er.mths f _ L4 n4 ?_
      have l2 := (nameP_len h2).1
      have l3 := (namesP_len h3).1
      have l4 := ((parse_len e _).2.1 _ _ _ _ _ _ h4).1
      split at l2
      · simp only [List.length_tail] at l2; omega
      · omega
theorem Er.cls {e n : Nat} {L : List Sgn} : Er (classP e L n) := by
  unfold classP
  refine Er.bnd Er.must fun _ L n h => Er.bnd Er.name fun x L n h => Er.bnd ?_ fun y L n h => Er.bnd Er.must fun _ L n h => Er.bnd (Er.mths _ _ _ _ (by omega)) fun ms L n h => Er.ok
  split
  · exact Er.bnd Er.name fun y L n h => Er.ok
  · exact Er.ok
theorem Er.parses {e : Nat} : ∀ (f : Nat) (out : List Cls) (L : List Sgn) (n : Nat), L.length < f → Er (parsesP e f out L n)
  | 0, out, L, n, hf => by omega
  | f + 1, out, L, n, hf => by
    simp only [parsesP]
    split
    · exact Er.ok
    · refine Er.bnd Er.room fun _ L1 n1 h => ?_
      obtain ⟨rfl, rfl⟩ := room_len h
      refine Er.bnd Er.cls fun c L2 n2 h2 => Er.parses f _ L2 n2 ?_
      have l2 := (classP_len h2).1
      omega
theorem parse_why {l : List UInt8} {a er : Nat} (h : parseS l = .error (a, er)) : er ≠ 0 := by
  unfold parseS at h
  cases hL : lexSigns l with
  | error q =>
    rw [hL] at h
    simp only at h
    injection h with h
    subst h
    exact lexSigns_err hL
  | ok L =>
    rw [hL] at h
    simp only at h
    cases hP : parsesP l.length (L.length + 1) [] L 0 with
    | ok q => rw [hP] at h; simp only at h; cases h
    | error q =>
      rw [hP] at h
      simp only at h
      injection h with h
      subst h
      exact Er.parses _ _ _ _ (by omega) _ _ hP
end Go.Proofs.Ytilpdejbldllbaa
set_option maxRecDepth 100000
namespace Go.Proofs.Ytilpdejbldllbaa
open Go.RowKit

def Sm (L M : List Sgn) : Prop := L.map (fun x => (x.kind, x.text)) = M.map (fun x => (x.kind, x.text))
theorem Sm.len {L M : List Sgn} (h : Sm L M) : L.length = M.length := by have := congrArg List.length h; simpa using this
theorem Sm.tail {L M : List Sgn} (h : Sm L M) : Sm L.tail M.tail := by
  unfold Sm at h ⊢
  rw [List.map_tail, List.map_tail, h]
theorem isT_sm {L M : List Sgn} (h : Sm L M) (i : Nat) (t : List UInt8) : isT M i t = isT L i t := by
  unfold isT
  have e : (L[i]?).map (fun x => (x.kind, x.text)) = (M[i]?).map (fun x => (x.kind, x.text)) := by rw [← List.getElem?_map, ← List.getElem?_map, h]
  cases h1 : L[i]? with
  | none => rw [h1] at e; cases h2 : M[i]? with
    | none => rfl
    | some y => rw [h2] at e; simp at e
  | some x => rw [h1] at e; cases h2 : M[i]? with
    | none => rw [h2] at e; simp at e
    | some y => rw [h2] at e; simp at e; simp only [e.2]
theorem namedB_sm {L M : List Sgn} (h : Sm L M) : namedB M = namedB L := by
  unfold Sm at h
  cases L <;> cases M <;> simp_all [namedB]
def Rl {α : Type} : PR α → PR α → Prop
  | .ok (a, L, n), .ok (b, M, m) => a = b ∧ n = m ∧ Sm L M
  | .error _, .error _ => True
  | _, _ => False
theorem Rl.ok {α : Type} {a : α} {L M : List Sgn} {n : Nat} (h : Sm L M) : Rl (.ok (a, L, n)) (.ok (a, M, n)) := ⟨rfl, rfl, h⟩
theorem Rl.err {α : Type} {p q : Nat × Nat} : Rl (.error p : PR α) (.error q) := trivial
theorem Rl.bnd {α β : Type} {x y : PR α} {k k' : α → List Sgn → Nat → PR β} (h : Rl x y) (hk : ∀ a L M n, Sm L M → Rl (k a L n) (k' a M n)) : Rl (bnd x k) (bnd y k') := by
  cases x with
  | ok q => cases y with
    | ok r => obtain ⟨a, L, n⟩ := q; obtain ⟨b, M, m⟩ := r; obtain ⟨rfl, rfl, h⟩ := h; exact hk _ _ _ _ h
    | error r => exact h.elim
  | error q => cases y with
    | ok r => exact h.elim
    | error r => trivial
theorem Rl.ite {α : Type} {c c' : Prop} [Decidable c] [Decidable c'] {x y x' y' : PR α} (hc : c' = c) (h1 : c → Rl x x') (h2 : ¬ c → Rl y y') : Rl (if c then x else y) (if c' then x' else y') := by
  subst hc
  by_cases h : c'
  · simpa only [if_pos h] using h1 h
  · simpa only [if_neg h] using h2 h
section
variable {e e' n : Nat} {L M : List Sgn}
theorem Rl.must {t : List UInt8} (h : Sm L M) : Rl (mustP e L n t) (mustP e' M n t) := by
  unfold mustP; exact Rl.ite (by rw [isT_sm h]) (fun _ => Rl.ok h.tail) (fun _ => Rl.err)
theorem Rl.name (h : Sm L M) : Rl (nameP e L n) (nameP e' M n) := by
  have hn := namedB_sm h
  cases L with
  | nil => cases M with
    | nil => exact Rl.err
    | cons y M => have := h.len; simp at this
  | cons x L => cases M with
    | nil => have := h.len; simp at this
    | cons y M =>
      have ht := h
      simp only [Sm, List.map_cons, List.cons.injEq, Prod.mk.injEq] at ht
      simp only [nameP, ht.1.2]
      exact Rl.ite (by rw [hn]) (fun _ => Rl.ok ht.2) (fun _ => Rl.err)
theorem Rl.room {hv mst : Nat} {b b' : Bool} (hb : b' = b) (h : Sm L M) : Rl (roomP e L n hv mst b) (roomP e' M n hv mst b') := by
  subst hb
  unfold roomP; exact Rl.ite rfl (fun _ => Rl.err) (fun _ => Rl.ok h)
end
theorem Rl.namesGo {e e' : Nat} : ∀ (f : Nat) (out : List (List UInt8)) (L M : List Sgn) (n : Nat), Sm L M → Rl (namesGo e f out L n) (namesGo e' f out M n)
  | 0, out, L, M, n, h => Rl.ok h
  | f + 1, out, L, M, n, h => by
    simp only [Proofs.Ytilpdejbldllbaa.namesGo]
    refine Rl.ite (by rw [isT_sm h]) (fun _ => Rl.ok h.tail) fun _ => Rl.bnd (Rl.ite rfl (fun _ => Rl.must h) fun _ => Rl.ok h) fun _ L M n h => Rl.bnd (Rl.room (namedB_sm h) h) fun _ L M n h => Rl.bnd (Rl.name h) fun x L M n h => Rl.namesGo f _ L M n h
section
variable {e e' n : Nat} {L M : List Sgn}
theorem Rl.names (h : Sm L M) : Rl (namesP e L n) (namesP e' M n) := Rl.bnd (Rl.must h) fun _ L M n h => by rw [h.len]; exact Rl.namesGo _ _ L M n h
theorem Rl.call {d c : List UInt8} {ld : Bool} (h : Sm L M) : Rl (callP e d c ld L n) (callP e' d c ld M n) := by
  unfold callP
  refine Rl.ite (by rw [isT_sm h]) (fun _ => Rl.bnd (Rl.name h.tail) fun x L M n h => Rl.bnd (Rl.names h) fun ar L M n h => Rl.ok h) fun _ => Rl.bnd (Rl.must h) fun _ L M n h => Rl.bnd (Rl.name h) fun x L M n h => ?_
  exact Rl.ite (by rw [isT_sm h]) (fun _ => Rl.ok h) fun _ => Rl.bnd (Rl.names h) fun ar L M n h => Rl.ok h
theorem Rl.plain (h : Sm L M) : Rl (plainP e L n) (plainP e' M n) := by
  unfold plainP
  refine Rl.bnd (Rl.name h) fun first L M n h => Rl.ite (by rw [isT_sm h]) (fun _ => ?_) fun _ => ?_
  · refine Rl.ite (by rw [isT_sm h.tail]) (fun _ => Rl.bnd (Rl.name h.tail.tail) fun x L M n h => Rl.ok h) fun _ => Rl.bnd (Rl.name h.tail) fun src L M n h => ?_
    exact Rl.ite (by rw [isT_sm h, isT_sm h]) (fun _ => Rl.bnd (Rl.call h) fun y L M n h => Rl.ok h) fun _ => Rl.ok h
  · exact Rl.ite (by rw [isT_sm h, isT_sm h]) (fun _ => Rl.bnd (Rl.must h) fun _ L M n h => Rl.bnd (Rl.name h) fun x L M n h => Rl.bnd (Rl.must h) fun _ L M n h => Rl.bnd (Rl.name h) fun src L M n h => Rl.ok h) fun _ => Rl.bnd (Rl.call h) fun y L M n h => Rl.ok h
theorem begB_sm (h : Sm L M) : begB M = begB L := by unfold begB; rw [namedB_sm h, isT_sm h, isT_sm h, isT_sm h]
end
theorem Rl.sts {e e' : Nat} : ∀ f : Nat, (∀ dp L M n, Sm L M → Rl (stmtP e f dp L n) (stmtP e' f dp M n)) ∧ (∀ dp L M n, Sm L M → Rl (blockP e f dp L n) (blockP e' f dp M n)) ∧ (∀ dp out L M n, Sm L M → Rl (stmtsP e f dp out L n) (stmtsP e' f dp out M n))
  | 0 => ⟨fun _ _ _ _ _ => by simp only [stmtP]; exact Rl.err, fun _ _ _ _ _ => by simp only [blockP]; exact Rl.err, fun _ _ _ _ _ _ => by simp only [stmtsP]; exact Rl.err⟩
  | f + 1 => by
    obtain ⟨i1, i2, i3⟩ := Rl.sts (e := e) (e' := e') f
    refine ⟨fun dp L M n h => ?_, fun dp L M n h => ?_, fun dp out L M n h => ?_⟩
    · simp only [stmtP]
      refine Rl.bnd (Rl.room (begB_sm h) h) fun _ L M n h => Rl.ite (by rw [isT_sm h]) (fun _ => ?_) fun _ => Rl.ite (by rw [isT_sm h]) (fun _ => ?_) fun _ => Rl.ite (by rw [isT_sm h]) (fun _ => ?_) fun _ => ?_
      · exact Rl.bnd (i2 _ _ _ _ h.tail) fun one L M n h => Rl.bnd (Rl.must h) fun _ L M n h => Rl.bnd (i2 _ _ _ _ h) fun two L M n h => Rl.ok h
      · exact Rl.bnd (i2 _ _ _ _ h.tail) fun one L M n h => Rl.ok h
      · exact Rl.bnd (Rl.name h.tail) fun x L M n h => Rl.bnd (Rl.must h) fun _ L M n h => Rl.ok h
      · exact Rl.bnd (Rl.plain h) fun y L M n h => Rl.bnd (Rl.must h) fun _ L M n h => Rl.ok h
    · simp only [blockP]
      exact Rl.bnd (Rl.room (isT_sm h _ _) h) fun _ L M n h => Rl.bnd (Rl.must h) fun _ L M n h => i3 _ _ _ _ _ h
    · simp only [stmtsP]
      exact Rl.ite (by rw [isT_sm h]) (fun _ => Rl.ok h.tail) fun _ => Rl.bnd (i1 _ _ _ _ h) fun x L M n h => i3 _ _ _ _ _ h
theorem Rl.mths {e e' : Nat} : ∀ (f : Nat) (out : List Mth) (L M : List Sgn) (n : Nat), Sm L M → Rl (mthsP e f out L n) (mthsP e' f out M n)
  | 0, out, L, M, n, h => Rl.err
  | f + 1, out, L, M, n, h => by
    simp only [mthsP]
    refine Rl.ite (by rw [isT_sm h]) (fun _ => Rl.ok h.tail) fun _ => Rl.bnd (Rl.room (by rw [namedB_sm h, isT_sm h]) h) fun _ L M n h => ?_
    rw [isT_sm h]
    refine Rl.bnd (Rl.name (by split; exact h.tail; exact h)) fun x L1 M1 n h => Rl.bnd (Rl.names h) fun ps L1 M1 n h => ?_
    rw [h.len]
    exact Rl.bnd ((Rl.sts _).2.1 _ _ _ _ h) fun b L1 M1 n h => Rl.mths f _ L1 M1 n h
theorem Rl.cls {e e' n : Nat} {L M : List Sgn} (h : Sm L M) : Rl (classP e L n) (classP e' M n) := by
  unfold classP
  refine Rl.bnd (Rl.must h) fun _ L M n h => Rl.bnd (Rl.name h) fun x L M n h => Rl.bnd (Rl.ite (by rw [isT_sm h]) (fun _ => Rl.bnd (Rl.name h.tail) fun y L M n h => Rl.ok h) fun _ => Rl.ok h) fun y L M n h => Rl.bnd (Rl.must h) fun _ L M n h => ?_
  rw [h.len]
  exact Rl.bnd (Rl.mths _ _ _ _ _ h) fun ms L M n h => Rl.ok h
theorem Rl.parses {e e' : Nat} : ∀ (f : Nat) (out : List Cls) (L M : List Sgn) (n : Nat), Sm L M → Rl (parsesP e f out L n) (parsesP e' f out M n)
  | 0, out, L, M, n, h => Rl.err
  | f + 1, out, L, M, n, h => by
    simp only [parsesP]
    refine Rl.ite (propext ⟨fun hm => ?_, fun hl => ?_⟩) (fun _ => Rl.ok h) fun _ => Rl.bnd (Rl.room (isT_sm h _ _) h) fun _ L M n h => Rl.bnd (Rl.cls h) fun c L M n h => Rl.parses f _ L M n h
    · subst hm; exact List.eq_nil_of_length_eq_zero h.len
    · subst hl; exact List.eq_nil_of_length_eq_zero h.len.symm
/-- Texts of the same signs are the same source. -/
theorem parse_same {l m : List UInt8} {L M : List Sgn} {x : List Cls} (hl : lexSigns l = .ok L) (hm : lexSigns m = .ok M) (h : Sm L M) (hx : parseS l = .ok x) : parseS m = .ok x := by
  have hr := Rl.parses (e := l.length) (e' := m.length) (L.length + 1) [] L M 0 h
  unfold parseS at hx ⊢
  rw [hl] at hx
  rw [hm]
  simp only at hx ⊢
  rw [← h.len]
  cases h1 : parsesP l.length (L.length + 1) [] L 0 with
  | error q => rw [h1] at hx; simp only at hx; cases hx
  | ok q =>
    rw [h1] at hx hr
    cases h2 : parsesP m.length (L.length + 1) [] M 0 with
    | error r => rw [h2] at hr; exact hr.elim
    | ok r =>
      rw [h2] at hr
      obtain ⟨a, L1, n1⟩ := q
      obtain ⟨b, M1, m1⟩ := r
      obtain ⟨rfl, _, _⟩ := hr
      exact hx
end Go.Proofs.Ytilpdejbldllbaa
set_option maxRecDepth 100000
namespace Go.Proofs.Ytilpdejbldllbaa
open Go.RowKit

/-- What follows goes on with nothing. -/
def Bl (r : List UInt8) : Prop := ∀ c t, r = c :: t → blankB c = true
theorem Bl.nil : Bl [] := fun c t h => by cases h
theorem Bl.cons {c : UInt8} {t : List UInt8} (h : blankB c = true) : Bl (c :: t) := fun c' t' e => by injection e with e1 e2; subst e1; exact h
theorem blank_dig {c : UInt8} (h : blankB c = true) : digB c = false ∧ partB c = false ∧ c ≠ 45 ∧ c ≠ 58 ∧ c ≠ 61 := by
  rw [blankB_mem, decide_eq_true_eq] at h
  rcases h with rfl | rfl | rfl | rfl <;> decide
theorem runN_swap {p : UInt8 → Bool} {r r' : List UInt8} (h' : ∀ c s, r' = c :: s → p c = false) : ∀ t : List UInt8, runN p (t ++ r) = t.length → runN p (t ++ r') = t.length
  | [], _ => by
    cases r' with
    | nil => rfl
    | cons c s => rw [List.nil_append, runN_cons, h' c s rfl]; rfl
  | c :: t, h => by
    rw [List.cons_append, runN_cons] at h ⊢
    cases hc : p c with
    | false => rw [hc] at h; simp at h
    | true =>
      rw [hc] at h
      simp only [if_true, List.length_cons] at h ⊢
      have := runN_swap (r := r) h' t (by omega)
      omega
theorem pre2 {a b x : UInt8} {r : List UInt8} : List.isPrefixOf [a, b] (x :: r) = (x == a && (match r with | y :: _ => y == b | [] => false)) := by
  cases r <;> simp [List.isPrefixOf, Bool.beq_comm, BEq.comm]
theorem markN_swap {c : UInt8} {s r r' : List UInt8} (hb : Bl r') (h : markN (c :: s ++ r) = (c :: s).length) : markN (c :: s ++ r') = (c :: s).length := by
  cases s with
  | nil =>
    cases r' with
    | nil =>
      simp only [markN, List.cons_append, List.nil_append, pre2] at h ⊢
      cases r with
      | nil => simpa using h
      | cons y r =>
        simp only at h
        split at h
        · simp at h
        · split at h
          · simp at h
          · split at h
            · simp at h
            · simpa using h
    | cons y' r' =>
      obtain ⟨_, _, h1, h2, h3⟩ := blank_dig (hb y' r' rfl)
      simp only [markN, List.cons_append, List.nil_append, pre2, beq_eq_false_iff_ne.2 h1, beq_eq_false_iff_ne.2 h2, beq_eq_false_iff_ne.2 h3, Bool.and_false] at h ⊢
      cases r with
      | nil => simpa using h
      | cons y r =>
        simp only at h
        split at h
        · simp at h
        · split at h
          · simp at h
          · split at h
            · simp at h
            · simpa using h
  | cons d s =>
    simp only [markN, List.cons_append, pre2, List.length_cons] at h ⊢
    split at h
    · rename_i h1; rw [if_pos h1]; exact h
    · rename_i h1; rw [if_neg h1]
      split at h
      · rename_i h2; rw [if_pos h2]; exact h
      · rename_i h2; rw [if_neg h2]
        split at h
        · rename_i h3; rw [if_pos h3]; exact h
        · split at h <;> omega
theorem oneK_swap {t r r' : List UInt8} {k : Nat} (ht : t ≠ []) (hb : Bl r') (h : oneK (t ++ r) = (k, t.length)) : oneK (t ++ r') = (k, t.length) := by
  cases t with
  | nil => exact absurd rfl ht
  | cons c s =>
    have e1 : runN digB (c :: s ++ r) = (c :: s).length → runN digB (c :: s ++ r') = (c :: s).length := runN_swap (fun c t e => (blank_dig (hb c t e)).1) _
    have e2 : runN partB (c :: s ++ r) = (c :: s).length → runN partB (c :: s ++ r') = (c :: s).length := runN_swap (fun c t e => (blank_dig (hb c t e)).2.1) _
    have e3 : markN (c :: s ++ r) = (c :: s).length → markN (c :: s ++ r') = (c :: s).length := markN_swap hb
    rw [List.cons_append] at h e1 e2 e3 ⊢
    simp only [oneK] at h ⊢
    rw [List.cons_append] at e1 e2 e3
    split at h
    · rename_i hd
      rw [if_pos hd]
      split at h
      · injection h with _ h; simp at h
      · rename_i hn
        injection h with h1 h2
        have e := e1 h2
        rw [e, if_neg (by rw [← h2]; exact hn), h1]
    · rename_i hd
      rw [if_neg hd]
      split at h
      · rename_i hp
        rw [if_pos hp]
        split at h
        · injection h with _ h; simp at h
        · rename_i hn
          injection h with h1 h2
          have e := e2 h2
          rw [e, if_neg (by rw [← h2]; exact hn), h1]
      · rename_i hp
        rw [if_neg hp]
        injection h with h1 h2
        rw [e3 h2, h1]
/-- What a sign of a text is. -/
def Gd (x : Sgn) : Prop := x.text ≠ [] ∧ oneK x.text = (x.kind, x.text.length) ∧ ∀ c s, x.text = c :: s → blankB c = false ∧ ¬ c.toNat = 35
def sumT (L : List Sgn) : Nat := (L.map fun x => x.text.length).sum
theorem sumT_app (A B : List Sgn) : sumT (A ++ B) = sumT A + sumT B := by simp [sumT]
theorem lex_gd (m : Nat) : ∀ (l : List UInt8) (a : Nat) (out L : List Sgn), l.length ≤ m → lexR l a out = .ok L → (∀ x, x ∈ out → Gd x) → out.length ≤ 4096 → (∀ x, x ∈ L → Gd x) ∧ sumT L ≤ sumT out + l.length ∧ L.length ≤ 4096 := by
  induction m with
  | zero =>
    intro l a out L hm h ho hl
    have : l = [] := List.eq_nil_of_length_eq_zero (by omega)
    subst this
    rw [lexR_nil] at h; cases h
    exact ⟨ho, by omega, hl⟩
  | succ m ih =>
    intro l a out L hm h ho hl
    cases l with
    | nil => rw [lexR_nil] at h; cases h; exact ⟨ho, by omega, hl⟩
    | cons c r =>
      simp only [List.length_cons] at hm ⊢
      cases hb : blankB c with
      | true =>
        rw [lexR_blank hb] at h
        obtain ⟨h1, h2, h3⟩ := ih r _ _ _ (by omega) h ho hl
        exact ⟨h1, by omega, h3⟩
      | false =>
        by_cases h35 : c.toNat = 35
        · rw [lexR_hash h35] at h
          have hn : 1 ≤ runN noLine (c :: r) := by rw [runN_cons, if_pos (by simp [noLine]; omega)]; omega
          obtain ⟨h1, h2, h3⟩ := ih _ _ _ _ (by rw [List.length_drop, List.length_cons]; omega) h ho hl
          rw [List.length_drop, List.length_cons] at h2
          exact ⟨h1, by omega, h3⟩
        · rw [lexR_sign hb h35] at h
          have hle := oneK_le c r
          rw [List.length_cons] at hle
          generalize he : oneK (c :: r) = q at h hle
          obtain ⟨k, n⟩ := q
          simp only at h hle
          split at h
          · cases h
          · split at h
            · cases h
            · rename_i hn hf
              have hne : (c :: r).take n ≠ [] := by
                cases n with
                | zero => exact absurd rfl hn
                | succ n => simp
              have hlen : ((c :: r).take n).length = n := by rw [List.length_take, List.length_cons]; omega
              have hg : Gd ⟨k, (c :: r).take n, a⟩ := by
                refine ⟨hne, ?_, fun c' s' e => ?_⟩
                · have e1 : oneK ((c :: r).take n ++ (c :: r).drop n) = (k, ((c :: r).take n).length) := by rw [List.take_append_drop, hlen]; exact he
                  have := oneK_swap hne Bl.nil e1
                  rw [List.append_nil] at this; exact this
                · cases n with
                  | zero => exact absurd rfl hn
                  | succ n =>
                    simp only [List.take_succ_cons] at e
                    injection e with e1 e2; subst e1; exact ⟨hb, h35⟩
              obtain ⟨h1, h2, h3⟩ := ih _ _ _ _ (by rw [List.length_drop, List.length_cons]; omega) h (fun x hx => by
                rcases List.mem_append.1 hx with hx | hx
                · exact ho x hx
                · simp only [List.mem_singleton] at hx; subst hx; exact hg) (by simp; omega)
              refine ⟨h1, ?_, h3⟩
              rw [sumT_app, List.length_drop, List.length_cons] at h2
              have : sumT [⟨k, (c :: r).take n, a⟩] = n := by simp only [sumT, List.map_cons, List.map_nil, List.sum_cons, List.sum_nil, hlen]; rfl
              rw [this] at h2
              omega
theorem sumT_len : ∀ {L : List Sgn}, (∀ x, x ∈ L → Gd x) → L.length ≤ sumT L
  | [], _ => Nat.le_refl _
  | x :: L, h => by
    have := sumT_len (L := L) fun y hy => h y (by simp [hy])
    have h1 := (h x (by simp)).1
    have : 1 ≤ x.text.length := by cases hx : x.text with | nil => exact absurd hx h1 | cons => simp
    simp only [sumT, List.map_cons, List.sum_cons, List.length_cons] at *
    omega
theorem lexS_gd {l : List UInt8} {L : List Sgn} (h : lexSigns l = .ok L) : (∀ x, x ∈ L → Gd x) ∧ sumT L ≤ l.length ∧ L.length ≤ 4096 := by
  unfold lexSigns at h
  split at h
  · cases h
  · have := lex_gd l.length l 0 [] L (Nat.le_refl _) h (fun x hx => by cases hx) (by simp)
    simpa [sumT] using this

/-- What stands between. -/
def betw (n : Nat) : List UInt8 := match n % 4 with | 0 => [32] | 1 => [10] | 2 => [9, 32] | _ => [32, 35, 32, 120, 10]
theorem betw_len (n : Nat) : (betw n).length ≤ 5 := by unfold betw; split <;> simp
theorem betw_bl (n : Nat) (r : List UInt8) : Bl (betw n ++ r) := by
  unfold betw; split <;> exact Bl.cons (by decide)
theorem betw_lex (n : Nat) (r : List UInt8) (a : Nat) (out : List Sgn) : ∃ a', lexR (betw n ++ r) a out = lexR r a' out := by
  have h0 : blankB 32 = true := by decide
  have h1 : blankB 10 = true := by decide
  have h2 : blankB 9 = true := by decide
  unfold betw; split
  · exact ⟨_, lexR_blank h0 _ _ _⟩
  · exact ⟨_, lexR_blank h1 _ _ _⟩
  · refine ⟨a + 1 + 1, ?_⟩
    simp only [List.cons_append, List.nil_append]
    rw [lexR_blank h2, lexR_blank h0]
  · refine ⟨a + 1 + 3 + 1, ?_⟩
    simp only [List.cons_append, List.nil_append]
    rw [lexR_blank h0, lexR_hash (by decide)]
    have : runN noLine (35 :: 32 :: 120 :: 10 :: r) = 3 := by simp only [runN_cons]; rfl
    rw [this]
    simp only [List.drop_succ_cons, List.drop_zero]
    rw [lexR_blank h1]
def blT : Nat → List Sgn → List UInt8
  | _, [] => []
  | w, x :: L => x.text ++ betw w ++ blT (w + 1) L
theorem blT_len : ∀ (w : Nat) (L : List Sgn), (blT w L).length ≤ sumT L + 5 * L.length
  | _, [] => by simp [blT, sumT]
  | w, x :: L => by
    have := blT_len (w + 1) L
    have := betw_len w
    simp only [blT, List.length_append, sumT, List.map_cons, List.sum_cons, List.length_cons] at *
    omega
theorem blT_app : ∀ (w : Nat) (L : List Sgn) (x : Sgn), blT w (L ++ [x]) = blT w L ++ x.text ++ betw (w + L.length)
  | w, [], x => by simp [blT]
  | w, y :: L, x => by
    simp only [List.cons_append, blT, blT_app (w + 1) L x, List.append_assoc, List.length_cons]
    rw [show w + 1 + L.length = w + (L.length + 1) by omega]
theorem Sm.app {A B C D : List Sgn} (h : Sm A B) (k : Sm C D) : Sm (A ++ C) (B ++ D) := by
  unfold Sm at *; rw [List.map_append, List.map_append, h, k]
theorem blT_lex : ∀ (L : List Sgn) (w a : Nat) (out : List Sgn), (∀ x, x ∈ L → Gd x) → out.length + L.length ≤ 4096 → ∃ M, lexR (blT w L) a out = .ok (out ++ M) ∧ Sm L M
  | [], w, a, out, _, _ => ⟨[], by simp [blT, lexR_nil], rfl⟩
  | x :: L, w, a, out, hg, hl => by
    obtain ⟨h1, h2, h3⟩ := hg x (by simp)
    obtain ⟨k, t, p⟩ := x
    simp only [List.length_cons] at hl h1 h2 h3
    cases t with
    | nil => exact absurd rfl h1
    | cons c s =>
      obtain ⟨hb, h35⟩ := h3 c s rfl
      have hk : oneK (c :: s ++ (betw w ++ blT (w + 1) L)) = (k, (c :: s).length) := oneK_swap (r := []) (by simp) (betw_bl w _) (by rw [List.append_nil]; exact h2)
      obtain ⟨a', ha⟩ := betw_lex w (blT (w + 1) L) (a + (c :: s).length) (out ++ [⟨k, c :: s, a⟩])
      obtain ⟨M, h4, h5⟩ := blT_lex L (w + 1) a' (out ++ [⟨k, c :: s, a⟩]) (fun y hy => hg y (by simp [hy])) (by simp; omega)
      refine ⟨⟨k, c :: s, a⟩ :: M, ?_, ?_⟩
      · simp only [blT, List.append_assoc]
        rw [List.cons_append] at hk ⊢
        rw [lexR_sign hb h35, hk]
        simp only
        rw [if_neg (by simp), if_neg (by omega), ← List.cons_append, List.drop_left' rfl, List.take_left' rfl, ha, h4]
        simp
      · show ((k, c :: s) :: _) = _
        unfold Sm at h5
        simp only [List.map_cons, h5]
theorem blT_signs {l : List UInt8} {L : List Sgn} (hl : l.length ≤ 1024) (h : lexSigns l = .ok L) (w : Nat) : (blT w L).length ≤ 16384 ∧ L.length ≤ 1024 ∧ ∃ M, lexSigns (blT w L) = .ok M ∧ Sm L M := by
  obtain ⟨h1, h2, h3⟩ := lexS_gd h
  have h4 := sumT_len h1
  have h5 := blT_len w L
  have h6 : (blT w L).length ≤ 16384 := by omega
  refine ⟨h6, by omega, ?_⟩
  obtain ⟨M, h7, h8⟩ := blT_lex L w 0 [] h1 (by simp; omega)
  refine ⟨M, ?_, h8⟩
  unfold lexSigns
  rw [if_neg (by omega)]
  exact h7
/-- Signs with blanks between are read as the same. -/
theorem blT_parse {l : List UInt8} {L : List Sgn} {x : List Cls} (hl : l.length ≤ 1024) (h : lexSigns l = .ok L) (hx : parseS l = .ok x) (w : Nat) : parseS (blT w L) = .ok x := by
  obtain ⟨_, _, M, hM, hS⟩ := blT_signs hl h w
  exact parse_same h hM hS hx
end Go.Proofs.Ytilpdejbldllbaa
