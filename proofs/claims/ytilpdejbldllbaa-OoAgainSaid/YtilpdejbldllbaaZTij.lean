/- What is proved: Where a text is none: the place lies in it: plain facts; Why a text is none: the reason is told: plain facts. Conditions: those that stand in the statements. -/
import Derived.Test.YtilpdejbldllbaaZTej
set_option linter.unusedSimpArgs false
set_option linter.unusedVariables false
set_option maxRecDepth 100000
namespace Go.Proofs.Ytilpdejbldllbaa
open Go.RowKit

def In (e : Nat) (L : List Sgn) : Prop := ∀ y, y ∈ L → y.at_ ≤ e
theorem In.tail {e : Nat} {L : List Sgn} (h : In e L) : In e L.tail := fun y hy => h y (List.mem_of_mem_tail hy)
def Pl {α : Type} (e : Nat) : PR α → Prop
  | .ok (_, L, _) => In e L
  | .error (a, _) => a ≤ e
theorem Pl.bnd {α β : Type} {e : Nat} {x : PR α} {k : α → List Sgn → Nat → PR β} (h : Pl e x) (hk : ∀ a L n, In e L → Pl e (k a L n)) : Pl e (bnd x k) := by
  cases x with
  | ok q => obtain ⟨a, L, n⟩ := q; exact hk a L n h
  | error q => exact h
theorem place_in {e : Nat} {L : List Sgn} (h : In e L) : place e L ≤ e := by
  cases L with
  | nil => exact Nat.le_refl _
  | cons x L => exact h x (by simp)
theorem Pl.must {e : Nat} {L : List Sgn} {n : Nat} {t : List UInt8} (h : In e L) : Pl e (mustP e L n t) := by
  unfold mustP; split
  · exact h.tail
  · exact place_in h
theorem Pl.name {e : Nat} {L : List Sgn} {n : Nat} (h : In e L) : Pl e (nameP e L n) := by
  cases L with
  | nil => exact Nat.le_refl _
  | cons x L =>
    simp only [nameP]; split
    · exact fun y hy => h y (by simp [hy])
    · exact h x (by simp)
theorem Pl.room {e : Nat} {L : List Sgn} {n hv mst : Nat} {b : Bool} (h : In e L) : Pl e (roomP e L n hv mst b) := by
  unfold roomP; split
  · exact place_in h
  · exact h
theorem Pl.namesGo {e : Nat} : ∀ (f : Nat) (out : List (List UInt8)) (L : List Sgn) (n : Nat), In e L → Pl e (namesGo e f out L n)
  | 0, out, L, n, h => h
  | f + 1, out, L, n, h => by
    simp only [Proofs.Ytilpdejbldllbaa.namesGo]
    split
    · exact h.tail
    · refine Pl.bnd (by split; exact Pl.must h; exact h) fun _ L n h => Pl.bnd (Pl.room h) fun _ L n h => Pl.bnd (Pl.name h) fun x L n h => Pl.namesGo f _ L n h
theorem Pl.names {e : Nat} {L : List Sgn} {n : Nat} (h : In e L) : Pl e (namesP e L n) := Pl.bnd (Pl.must h) fun _ L n h => Pl.namesGo _ _ L n h
theorem Pl.call {e n : Nat} {d c : List UInt8} {ld : Bool} {L : List Sgn} (h : In e L) : Pl e (callP e d c ld L n) := by
  unfold callP; split
  · exact Pl.bnd (Pl.name h.tail) fun x L n h => Pl.bnd (Pl.names h) fun ar L n h => h
  · refine Pl.bnd (Pl.must h) fun _ L n h => Pl.bnd (Pl.name h) fun x L n h => ?_
    split
    · exact h
    · exact Pl.bnd (Pl.names h) fun ar L n h => h
theorem Pl.plain {e n : Nat} {L : List Sgn} (h : In e L) : Pl e (plainP e L n) := by
  unfold plainP
  refine Pl.bnd (Pl.name h) fun first L n h => ?_
  split
  · split
    · exact Pl.bnd (Pl.name h.tail.tail) fun x L n h => h
    · refine Pl.bnd (Pl.name h.tail) fun src L n h => ?_
      split
      · exact Pl.bnd (Pl.call h) fun y L n h => h
      · exact h
  · split
    · exact Pl.bnd (Pl.must h) fun _ L n h => Pl.bnd (Pl.name h) fun x L n h => Pl.bnd (Pl.must h) fun _ L n h => Pl.bnd (Pl.name h) fun src L n h => h
    · exact Pl.bnd (Pl.call h) fun y L n h => h
theorem Pl.sts {e : Nat} : ∀ f : Nat, (∀ dp L n, In e L → Pl e (stmtP e f dp L n)) ∧ (∀ dp L n, In e L → Pl e (blockP e f dp L n)) ∧ (∀ dp out L n, In e L → Pl e (stmtsP e f dp out L n))
  | 0 => ⟨fun _ _ _ _ => by simp only [stmtP]; exact Nat.zero_le _, fun _ _ _ _ => by simp only [blockP]; exact Nat.zero_le _, fun _ _ _ _ _ => by simp only [stmtsP]; exact Nat.zero_le _⟩
  | f + 1 => by
    obtain ⟨i1, i2, i3⟩ := Pl.sts (e := e) f
    refine ⟨fun dp L n h => ?_, fun dp L n h => ?_, fun dp out L n h => ?_⟩
    · simp only [stmtP]
      refine Pl.bnd (Pl.room h) fun _ L n h => ?_
      split
      · exact Pl.bnd (i2 _ _ _ h.tail) fun one L n h => Pl.bnd (Pl.must h) fun _ L n h => Pl.bnd (i2 _ _ _ h) fun two L n h => h
      · split
        · exact Pl.bnd (i2 _ _ _ h.tail) fun one L n h => h
        · split
          · exact Pl.bnd (Pl.name h.tail) fun x L n h => Pl.bnd (Pl.must h) fun _ L n h => h
          · exact Pl.bnd (Pl.plain h) fun y L n h => Pl.bnd (Pl.must h) fun _ L n h => h
    · simp only [blockP]
      exact Pl.bnd (Pl.room h) fun _ L n h => Pl.bnd (Pl.must h) fun _ L n h => i3 _ _ _ _ h
    · simp only [stmtsP]
      split
      · exact h.tail
      · exact Pl.bnd (i1 _ _ _ h) fun x L n h => i3 _ _ _ _ h
theorem Pl.mths {e : Nat} : ∀ (f : Nat) (out : List Mth) (L : List Sgn) (n : Nat), In e L → Pl e (mthsP e f out L n)
  | 0, out, L, n, h => Nat.zero_le _
  | f + 1, out, L, n, h => by
    simp only [mthsP]
    split
    · exact h.tail
    · exact Pl.bnd (Pl.room h) fun _ L n h => Pl.bnd (Pl.name (by split; exact h.tail; exact h)) fun x L n h => Pl.bnd (Pl.names h) fun ps L n h => Pl.bnd ((Pl.sts _).2.1 _ _ _ h) fun b L n h => Pl.mths f _ L n h
theorem Pl.cls {e n : Nat} {L : List Sgn} (h : In e L) : Pl e (classP e L n) := by
  unfold classP
  refine Pl.bnd (Pl.must h) fun _ L n h => Pl.bnd (Pl.name h) fun x L n h => Pl.bnd ?_ fun y L n h => Pl.bnd (Pl.must h) fun _ L n h => Pl.bnd (Pl.mths _ _ _ _ h) fun ms L n h => h
  split
  · exact Pl.bnd (Pl.name h.tail) fun y L n h => h
  · exact h
theorem Pl.parses {e : Nat} : ∀ (f : Nat) (out : List Cls) (L : List Sgn) (n : Nat), In e L → Pl e (parsesP e f out L n)
  | 0, out, L, n, h => Nat.zero_le _
  | f + 1, out, L, n, h => by
    simp only [parsesP]
    split
    · exact h
    · exact Pl.bnd (Pl.room h) fun _ L n h => Pl.bnd (Pl.cls h) fun c L n h => Pl.parses f _ L n h
def LxIn (E : Nat) : Except (Nat × Nat) (List Sgn) → Prop
  | .ok L => In E L
  | .error q => q.1 ≤ E
theorem lex_in (E : Nat) : ∀ (f : Nat) (l : List UInt8) (a : Nat) (out : List Sgn), a + l.length ≤ E → In E out → LxIn E (lexGo f l a out)
  | 0, l, a, out, _, h => h
  | f + 1, l, a, out, ha, h => by
    simp only [lexGo]
    have hb := runN_le blankB l
    generalize hd : l.drop (runN blankB l) = d
    have hdl : d.length = l.length - runN blankB l := by rw [← hd, List.length_drop]
    cases d with
    | nil => exact h
    | cons c r =>
      have h1 := runN_le noLine (c :: r)
      have h2 := oneK_le c r
      simp only
      split
      · exact lex_in E f _ _ _ (by rw [List.length_drop]; omega) h
      · split
        · show a + runN blankB l ≤ E
          omega
        · split
          · show a + runN blankB l ≤ E
            omega
          · refine lex_in E f _ _ _ (by rw [List.length_drop]; omega) fun y hy => ?_
            rcases List.mem_append.1 hy with hy | hy
            · exact h y hy
            · simp only [List.mem_singleton] at hy
              subst hy
              show a + runN blankB l ≤ E
              omega
/-- Where a text is no source: the place lies in the text. -/
theorem parse_place {l : List UInt8} {a er : Nat} (h : parseS l = .error (a, er)) : a ≤ l.length := by
  unfold parseS at h
  have hx : LxIn l.length (lexSigns l) := by
    unfold lexSigns
    split
    · exact Nat.zero_le _
    · exact lex_in l.length _ l 0 [] (by omega) (fun y hy => by cases hy)
  cases hL : lexSigns l with
  | error q =>
    rw [hL] at h hx
    simp only at h hx
    injection h with h
    rw [h] at hx
    exact hx
  | ok L =>
    rw [hL] at h hx
    simp only at h hx
    have hp := Pl.parses (L.length + 1) [] L 0 hx
    cases hP : parsesP l.length (L.length + 1) [] L 0 with
    | ok q => rw [hP] at h; simp only at h; cases h
    | error q =>
      rw [hP] at h hp
      simp only at h
      injection h with h
      rw [h] at hp
      exact hp
end Go.Proofs.Ytilpdejbldllbaa
set_option maxRecDepth 100000
namespace Go.Proofs.Ytilpdejbldllbaa
open Go.RowKit

def Er {α : Type} (x : PR α) : Prop := ∀ a er, x = .error (a, er) → er ≠ 0
theorem Er.ok {α : Type} {q : α × List Sgn × Nat} : Er (.ok q : PR α) := fun _ _ h => by cases h
theorem Er.bnd {α β : Type} {x : PR α} {k : α → List Sgn → Nat → PR β} (h : Er x) (hk : ∀ a L n, x = .ok (a, L, n) → Er (k a L n)) : Er (bnd x k) := by
  cases x with
  | ok q => obtain ⟨a, L, n⟩ := q; exact hk a L n rfl
  | error q => exact fun a er e => h a er (by rw [bnd_err] at e; injection e with e; rw [e])
theorem Er.must {e : Nat} {L : List Sgn} {n : Nat} {t : List UInt8} : Er (mustP e L n t) := by
  unfold mustP; intro a er h; split at h
  · cases h
  · injection h with h; injection h with _ h; omega
theorem Er.name {e : Nat} {L : List Sgn} {n : Nat} : Er (nameP e L n) := by
  intro a er h
  cases L with
  | nil => injection h with h; injection h with _ h; omega
  | cons x L =>
    simp only [nameP] at h; split at h
    · cases h
    · injection h with h; injection h with _ h; omega
theorem Er.room {e : Nat} {L : List Sgn} {n hv mst : Nat} {b : Bool} : Er (roomP e L n hv mst b) := by
  unfold roomP; intro a er h; split at h
  · injection h with h; injection h with _ h; omega
  · cases h
theorem room_len {e : Nat} {L L' : List Sgn} {n n' hv mst : Nat} {b : Bool} {u : Unit} (h : roomP e L n hv mst b = .ok (u, L', n')) : L' = L ∧ n' = n := by
  unfold roomP at h; split at h
  · cases h
  · injection h with h; injection h with _ h; injection h with h1 h2; exact ⟨h1.symm, h2.symm⟩
theorem Er.namesGo {e : Nat} : ∀ (f : Nat) (out : List (List UInt8)) (L : List Sgn) (n : Nat), Er (namesGo e f out L n)
  | 0, out, L, n => Er.ok
  | f + 1, out, L, n => by
    simp only [Proofs.Ytilpdejbldllbaa.namesGo]
    split
    · exact Er.ok
    · exact Er.bnd (by split; exact Er.must; exact Er.ok) fun _ L n h => Er.bnd Er.room fun _ L n h => Er.bnd Er.name fun x L n h => Er.namesGo f _ L n
theorem Er.names {e : Nat} {L : List Sgn} {n : Nat} : Er (namesP e L n) := Er.bnd Er.must fun _ L n h => Er.namesGo _ _ L n
theorem Er.call {e n : Nat} {d c : List UInt8} {ld : Bool} {L : List Sgn} : Er (callP e d c ld L n) := by
  unfold callP; split
  · exact Er.bnd Er.name fun x L n h => Er.bnd Er.names fun ar L n h => Er.ok
  · refine Er.bnd Er.must fun _ L n h => Er.bnd Er.name fun x L n h => ?_
    split
    · exact Er.ok
    · exact Er.bnd Er.names fun ar L n h => Er.ok
theorem Er.plain {e n : Nat} {L : List Sgn} : Er (plainP e L n) := by
  unfold plainP
  refine Er.bnd Er.name fun first L n h => ?_
  split
  · split
    · exact Er.bnd Er.name fun x L n h => Er.ok
    · refine Er.bnd Er.name fun src L n h => ?_
      split
      · exact Er.bnd Er.call fun y L n h => Er.ok
      · exact Er.ok
  · split
    · exact Er.bnd Er.must fun _ L n h => Er.bnd Er.name fun x L n h => Er.bnd Er.must fun _ L n h => Er.bnd Er.name fun src L n h => Er.ok
    · exact Er.bnd Er.call fun y L n h => Er.ok
theorem Er.sts {e : Nat} : ∀ f : Nat, (∀ dp L n, 3 * L.length + 1 ≤ f → Er (stmtP e f dp L n)) ∧ (∀ dp L n, 3 * L.length + 3 ≤ f → Er (blockP e f dp L n)) ∧ (∀ dp out L n, 3 * L.length + 2 ≤ f → Er (stmtsP e f dp out L n))
  | 0 => ⟨fun _ _ _ _ => by omega, fun _ _ _ _ => by omega, fun _ _ _ _ _ => by omega⟩
  | f + 1 => by
    obtain ⟨i1, i2, i3⟩ := Er.sts (e := e) f
    obtain ⟨j1, j2, j3⟩ := parse_len e f
    refine ⟨fun dp L n hf => ?_, fun dp L n hf => ?_, fun dp out L n hf => ?_⟩
    · simp only [stmtP]
      refine Er.bnd Er.room fun _ L1 n1 h => ?_
      obtain ⟨rfl, rfl⟩ := room_len h
      split
      · rename_i ht
        have hl := tail_len ht
        refine Er.bnd (i2 _ _ _ (by omega)) fun one L2 n2 h2 => Er.bnd Er.must fun _ L3 n3 h3 => ?_
        have l2 := (j2 _ _ _ _ _ _ h2).1
        have l3 := (mustP_len h3).1
        exact Er.bnd (i2 _ _ _ (by omega)) fun two L n h => Er.ok
      · split
        · rename_i ht
          have hl := tail_len ht
          exact Er.bnd (i2 _ _ _ (by omega)) fun one L n h => Er.ok
        · split
          · exact Er.bnd Er.name fun x L n h => Er.bnd Er.must fun _ L n h => Er.ok
          · exact Er.bnd Er.plain fun y L n h => Er.bnd Er.must fun _ L n h => Er.ok
    · simp only [blockP]
      refine Er.bnd Er.room fun _ L1 n1 h => ?_
      obtain ⟨rfl, rfl⟩ := room_len h
      refine Er.bnd Er.must fun _ L2 n2 h2 => ?_
      have l2 := (mustP_len h2).1
      exact i3 _ _ _ _ (by omega)
    · simp only [stmtsP]
      split
      · exact Er.ok
      · refine Er.bnd (i1 _ _ _ (by omega)) fun x L2 n2 h2 => ?_
        have l2 := (j1 _ _ _ _ _ _ h2).1
        exact i3 _ _ _ _ (by omega)
theorem Er.mths {e : Nat} : ∀ (f : Nat) (out : List Mth) (L : List Sgn) (n : Nat), L.length < f → Er (mthsP e f out L n)
  | 0, out, L, n, hf => by omega
  | f + 1, out, L, n, hf => by
    simp only [mthsP]
    split
    · exact Er.ok
    · refine Er.bnd Er.room fun _ L1 n1 h => ?_
      obtain ⟨rfl, rfl⟩ := room_len h
      refine Er.bnd Er.name fun x L2 n2 h2 => Er.bnd Er.names fun ps L3 n3 h3 => Er.bnd ((Er.sts _).2.1 _ _ _ (Nat.le_refl _)) fun b L4 n4 h4 => Er.mths f _ L4 n4 ?_
      have l2 := (nameP_len h2).1
      have l3 := (namesP_len h3).1
      have l4 := ((parse_len e _).2.1 _ _ _ _ _ _ h4).1
      split at l2
      · simp only [List.length_tail] at l2; omega
      · omega
theorem Er.cls {e n : Nat} {L : List Sgn} : Er (classP e L n) := by
  unfold classP
  refine Er.bnd Er.must fun _ L n h => Er.bnd Er.name fun x L n h => Er.bnd ?_ fun y L n h => Er.bnd Er.must fun _ L n h => Er.bnd (Er.mths _ _ _ _ (by omega)) fun ms L n h => Er.ok
  split
  · exact Er.bnd Er.name fun y L n h => Er.ok
  · exact Er.ok
theorem Er.parses {e : Nat} : ∀ (f : Nat) (out : List Cls) (L : List Sgn) (n : Nat), L.length < f → Er (parsesP e f out L n)
  | 0, out, L, n, hf => by omega
  | f + 1, out, L, n, hf => by
    simp only [parsesP]
    split
    · exact Er.ok
    · refine Er.bnd Er.room fun _ L1 n1 h => ?_
      obtain ⟨rfl, rfl⟩ := room_len h
      refine Er.bnd Er.cls fun c L2 n2 h2 => Er.parses f _ L2 n2 ?_
      have l2 := (classP_len h2).1
      omega
theorem parse_why {l : List UInt8} {a er : Nat} (h : parseS l = .error (a, er)) : er ≠ 0 := by
  unfold parseS at h
  cases hL : lexSigns l with
  | error q =>
    rw [hL] at h
    simp only at h
    injection h with h
    subst h
    exact lexSigns_err hL
  | ok L =>
    rw [hL] at h
    simp only at h
    cases hP : parsesP l.length (L.length + 1) [] L 0 with
    | ok q => rw [hP] at h; simp only at h; cases h
    | error q =>
      rw [hP] at h
      simp only at h
      injection h with h
      subst h
      exact Er.parses _ _ _ _ (by omega) _ _ hP
end Go.Proofs.Ytilpdejbldllbaa
