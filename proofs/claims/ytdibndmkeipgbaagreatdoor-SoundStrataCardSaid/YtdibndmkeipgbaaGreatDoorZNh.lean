/- What is proved: What is read of a text may be a program; where it is none, the place lies in the text: plain facts. Conditions: those that stand in the statements. -/
import Derived.Test.YtdibndmkeipgbaaGreatDoorZTaj
import Derived.Test.YtdibndmkeipgbaaGreatDoorZUrj
set_option linter.unusedSimpArgs false
set_option linter.unusedVariables false
set_option maxRecDepth 100000
namespace Go.Proofs.YtdibndmkeipgbaaGreatDoor
open Go.RowKit

def InU (e : Nat) (L : List Sgn) : Prop := ∀ y, y ∈ L → y.at_ ≤ e ∧ signB y = true
theorem InU.tail {e : Nat} {L : List Sgn} (h : InU e L) : InU e L.tail := fun y hy => h y (List.mem_of_mem_tail hy)
def PlU {α : Type} (e : Nat) (Ok : α → Prop) (N : Nat) : PU α → Prop
  | .ok (a, L) => Ok a ∧ InU e L ∧ L.length < N
  | .error (a, er) => a ≤ e ∧ er ≠ 0
theorem PlU.bu {α β : Type} {e N M : Nat} {Ok : α → Prop} {Ok2 : β → Prop} {x : PU α} {k : α → List Sgn → PU β} (h : PlU e Ok N x) (hk : ∀ a L, Ok a → InU e L → L.length < N → PlU e Ok2 M (k a L)) : PlU e Ok2 M (bu x k) := by
  cases x with
  | ok q => obtain ⟨a, L⟩ := q; exact hk a L h.1 h.2.1 h.2.2
  | error q => exact h
theorem PlU.mono {α : Type} {e N M : Nat} {Ok Ok2 : α → Prop} {x : PU α} (h : PlU e Ok N x) (hk : ∀ a, Ok a → Ok2 a) (hn : N ≤ M) : PlU e Ok2 M x := by
  cases x with
  | ok q => obtain ⟨a, L⟩ := q; exact ⟨hk _ h.1, h.2.1, Nat.lt_of_lt_of_le h.2.2 hn⟩
  | error q => exact h
theorem placeU_in {e : Nat} {L : List Sgn} (h : InU e L) : place e L ≤ e := by
  cases L with
  | nil => exact Nat.le_refl _
  | cons x L => exact (h x (by simp)).1
theorem PlU.must {e : Nat} {L : List Sgn} {t : List UInt8} (h : InU e L) : PlU e (fun _ => True) L.length (mustU e L t) := by
  unfold mustU; split
  · rename_i hi
    refine ⟨trivial, h.tail, ?_⟩
    cases L with
    | nil => simp [isT] at hi
    | cons x L => simp
  · exact ⟨placeU_in h, by decide⟩
theorem PlU.room {e : Nat} {L : List Sgn} {hv mst : Nat} {b : Bool} (h : InU e L) : PlU e (fun _ => mst ≤ hv → b = false) (L.length + 1) (roomU e L hv mst b) := by
  unfold roomU; split
  · exact ⟨placeU_in h, by decide⟩
  · rename_i hc
    refine ⟨fun hm => ?_, h, by omega⟩
    cases b with
    | false => rfl
    | true => exact absurd ⟨hm, rfl⟩ hc
theorem room_same {e : Nat} {L L' : List Sgn} {hv mst : Nat} {b : Bool} {u : Unit} (h : roomU e L hv mst b = .ok (u, L')) : L' = L := by
  unfold roomU at h; split at h
  · cases h
  · injection h with h; injection h with _ h; exact h.symm
theorem sign1 {x : Sgn} (h : signB x = true) (k : x.kind = 1) : nameB x.text = true := by
  obtain ⟨kd, t, a⟩ := x
  simp only at k
  subst k
  exact h
theorem PlU.name {e : Nat} {L : List Sgn} (h : InU e L) : PlU e (fun t => nameB t = true ∧ isT L 0 t = true ∧ nextB [1] L = true) L.length (nameU e L) := by
  cases L with
  | nil => exact ⟨Nat.le_refl _, by decide⟩
  | cons x L =>
    simp only [nameU, kindU]; split
    · rename_i hk
      exact ⟨⟨sign1 (h x (by simp)).2 hk, by simp [isT], by simp [nextB, hk]⟩, fun y hy => h y (by simp [hy]), by simp⟩
    · exact ⟨(h x (by simp)).1, by decide⟩
theorem sign2 {x : Sgn} (h : signB x = true) (k : x.kind = 2) : numN x.text ≤ 9999999999 := by
  obtain ⟨kd, t, a⟩ := x
  simp only at k
  subst k
  simp only [signB, Bool.and_eq_true, decide_eq_true_eq] at h
  obtain ⟨h1, h2⟩ := h
  cases t with
  | nil => exact absurd rfl h1
  | cons c r =>
    simp only [oneK] at h2
    split at h2
    · split at h2
      · simp at h2
      · rename_i hn
        injection h2 with _ h3
        have hd := takeRun (p := digB) (c :: r)
        rw [h3, List.take_length] at hd
        obtain ⟨n, hn2⟩ := decFrom_all (c :: r) 0 hd
        have hc := hd c (by simp)
        have e1 : ¬ c = 45 := by rintro rfl; revert hc; decide
        have e2 : ¬ c = 43 := by rintro rfl; revert hc; decide
        have h4 : Lib.atoi (c :: r) = some (n : Int) := by simp [Lib.atoi, e1, e2, Lib.decNat, hn2]
        have h5 := Lib.decFrom_lt _ _ _ hn2
        have h6 : (10 : Nat) ^ (c :: r).length ≤ 10 ^ 10 := Nat.pow_le_pow_right (by omega) (by omega)
        simp only [numN, h4, Option.getD_some, Int.toNat_natCast]
        omega
    · split at h2
      · split at h2
        · simp at h2
        · injection h2 with h2 _; exact absurd h2 (by decide)
      · injection h2 with h2 _; exact absurd h2 (by decide)
theorem PlU.num {e : Nat} {L : List Sgn} (h : InU e L) : PlU e (fun n => n ≤ 9999999999 ∧ nextB [1, 2] L = true) L.length (numU e L) := by
  cases L with
  | nil => exact ⟨Nat.le_refl _, by decide⟩
  | cons x L =>
    simp only [numU, kindU]; split
    · rename_i hk
      exact ⟨⟨sign2 (h x (by simp)).2 hk, by simp [nextB, hk]⟩, fun y hy => h y (by simp [hy]), by simp⟩
    · exact ⟨(h x (by simp)).1, by decide⟩
theorem next12 {L : List Sgn} (h : nextB [1] L = true) : nextB [1, 2] L = true := by
  cases L with
  | nil => cases h
  | cons x L => simp only [nextB, List.contains_cons, List.contains_nil, Bool.or_false, Bool.or_eq_true] at h ⊢; exact .inl h
theorem PlU.term {e : Nat} {L : List Sgn} (h : InU e L) : PlU e (fun t => trmB t = true ∧ nextB [1, 2] L = true) L.length (termU e L) := by
  unfold termU; split
  · refine PlU.bu (PlU.num h) fun n L' hn hL hl => ⟨⟨?_, hn.2⟩, hL, hl⟩
    have := hn.1
    simp only [trmB, Bool.false_eq_true, if_false, Bool.and_eq_true, decide_eq_true_eq]
    exact ⟨⟨trivial, by omega⟩, by omega⟩
  · refine PlU.bu (PlU.name h) fun t L' ht hL hl => ⟨⟨?_, next12 ht.2.2⟩, hL, hl⟩
    simp only [trmB, if_true, ht.1, Bool.true_and, decide_eq_true_eq]
theorem PlU.listGo {α : Type} {e : Nat} {one : List Sgn → PU α} {ks : List Int} {Ok : α → Prop} (hone : ∀ L, InU e L → PlU e (fun x => Ok x ∧ nextB ks L = true) L.length (one L)) :
    ∀ (f : Nat) (out : List α) (L : List Sgn), (∀ x, x ∈ out → Ok x) → out.length ≤ 8 → InU e L → L.length < f → PlU e (fun xs => (∀ x, x ∈ xs → Ok x) ∧ 0 < xs.length ∧ xs.length ≤ 8) L.length (listGo e one ks f out L)
  | 0, out, L, _, _, _, hf => by omega
  | f + 1, out, L, ho, hl, h, hf => by
    simp only [Proofs.YtdibndmkeipgbaaGreatDoor.listGo]
    cases hr : roomU e L out.length 8 (nextB ks L) with
    | error q => have := PlU.room (hv := out.length) (mst := 8) (b := nextB ks L) h; rw [hr] at this; exact this
    | ok q =>
      obtain ⟨u, L1⟩ := q
      have h0 := PlU.room (hv := out.length) (mst := 8) (b := nextB ks L) h
      rw [hr] at h0
      have e1 := room_same hr
      subst e1
      rw [bu_ok]
      refine PlU.bu (hone L1 h) fun x L2 hx hL2 hl2 => ?_
      have h8 : out.length < 8 := by
        rcases Nat.lt_or_ge out.length 8 with h | h
        · exact h
        · have := h0.1 h; rw [this] at hx; cases hx.2
      have ho2 : ∀ y, y ∈ out ++ [x] → Ok y := fun y hy => by
        rcases List.mem_append.1 hy with hy | hy
        · exact ho y hy
        · rw [List.mem_singleton] at hy; subst hy; exact hx.1
      split
      · refine (PlU.listGo hone f (out ++ [x]) L2.tail ho2 (by simp; omega) hL2.tail (by rw [List.length_tail]; omega)).mono (fun _ h => h) (by rw [List.length_tail]; omega)
      · exact ⟨⟨ho2, by simp, by simp; omega⟩, hL2, hl2⟩
theorem PlU.list {α : Type} {e : Nat} {one : List Sgn → PU α} {ks : List Int} {Ok : α → Prop} (hone : ∀ L, InU e L → PlU e (fun x => Ok x ∧ nextB ks L = true) L.length (one L)) {L : List Sgn} (h : InU e L) :
    PlU e (fun xs => (∀ x, x ∈ xs → Ok x) ∧ 0 < xs.length ∧ xs.length ≤ 8) L.length (listU e one ks L) := by
  unfold listU
  refine PlU.bu (PlU.must h) fun _ L1 _ h1 l1 => PlU.bu (PlU.listGo hone (L1.length + 1) [] L1 (fun x hx => by cases hx) (by simp) h1 (by omega)) fun xs L2 hx h2 l2 => PlU.bu (PlU.must h2) fun _ L3 _ h3 l3 => ⟨hx, h3, by omega⟩
theorem PlU.atom {e : Nat} {L : List Sgn} {nt : Bool} (h : InU e L) : PlU e (fun a => atmB a = true ∧ a.not = nt ∧ isT L 0 a.rel = true ∧ nextB [1] L = true) L.length (atomU e L nt) := by
  unfold atomU
  refine PlU.bu (PlU.name h) fun rel L1 hr h1 l1 => PlU.bu (PlU.list (Ok := fun t => trmB t = true) (fun L h => PlU.term h) h1) fun ts L2 ht h2 l2 => ⟨⟨?_, rfl, hr.2.1, hr.2.2⟩, h2, by omega⟩
  simp only [atmB, Bool.and_eq_true, decide_eq_true_eq, List.all_eq_true]
  exact ⟨⟨⟨ht.1, hr.1⟩, ht.2.1⟩, ht.2.2⟩
theorem PlU.bodyGo {e : Nat} : ∀ (f : Nat) (out : List Atm) (L : List Sgn), (∀ x, x ∈ out → atmB x = true) → out.length ≤ 8 → InU e L → L.length < f → PlU e (fun xs => (∀ x, x ∈ xs → atmB x = true) ∧ xs.length ≤ 8) (L.length + 1) (bodyGo e f out L)
  | 0, out, L, _, _, _, hf => by omega
  | f + 1, out, L, ho, hl, h, hf => by
    simp only [Proofs.YtdibndmkeipgbaaGreatDoor.bodyGo]
    cases hr : roomU e L out.length 8 (nextB [1] L || isT L 0 [33]) with
    | error q => have := PlU.room (hv := out.length) (mst := 8) (b := nextB [1] L || isT L 0 [33]) h; rw [hr] at this; exact this
    | ok q =>
      obtain ⟨u, L1⟩ := q
      have h0 := PlU.room (hv := out.length) (mst := 8) (b := nextB [1] L || isT L 0 [33]) h
      rw [hr] at h0
      have e1 := room_same hr
      subst e1
      rw [bu_ok]
      have hM : InU e (if isT L1 0 [33] = true then L1.tail else L1) ∧ (if isT L1 0 [33] = true then L1.tail else L1).length ≤ L1.length := by
        split
        · exact ⟨h.tail, by simp⟩
        · exact ⟨h, Nat.le_refl _⟩
      refine PlU.bu (PlU.atom hM.1) fun x L2 hx hL2 hl2 => ?_
      have h8 : out.length < 8 := by
        rcases Nat.lt_or_ge out.length 8 with h | h
        · exact h
        · have := h0.1 h
          simp only [Bool.or_eq_false_iff] at this
          have h3 := hx.2.2.2
          rw [this.2, if_neg (by simp), this.1] at h3
          cases h3
      have ho2 : ∀ y, y ∈ out ++ [x] → atmB y = true := fun y hy => by
        rcases List.mem_append.1 hy with hy | hy
        · exact ho y hy
        · rw [List.mem_singleton] at hy; subst hy; exact hx.1
      split
      · refine (PlU.bodyGo f (out ++ [x]) L2.tail ho2 (by simp; omega) hL2.tail (by rw [List.length_tail]; omega)).mono (fun _ h => h) (by rw [List.length_tail]; omega)
      · exact ⟨⟨ho2, by simp; omega⟩, hL2, by omega⟩
theorem PlU.rule {e : Nat} {L : List Sgn} (h : InU e L) (h1 : isT L 0 [100, 111, 109] = false) (h2 : isT L 0 [114, 101, 108] = false) : PlU e (fun x => rulB x = true ∧ nextB [1] L = true) L.length (ruleU e L) := by
  unfold ruleU
  refine PlU.bu (PlU.atom h) fun hd L1 hh i1 l1 => ?_
  have key : PlU e (fun xs => (∀ x, x ∈ xs → atmB x = true) ∧ xs.length ≤ 8) (L1.length + 1) (if isT L1 0 [58, 45] = true then Proofs.YtdibndmkeipgbaaGreatDoor.bodyGo e (L1.length + 1) [] L1.tail else .ok ([], L1)) := by
    split
    · exact (PlU.bodyGo (L1.length + 1) [] L1.tail (fun x hx => by cases hx) (by simp) i1.tail (by rw [List.length_tail]; omega)).mono (fun _ h => h) (by rw [List.length_tail]; omega)
    · exact ⟨⟨(fun x hx => by cases hx), by simp⟩, i1, by omega⟩
  refine PlU.bu key fun b L2 hb i2 l2 => PlU.bu (PlU.must i2) fun _ L3 _ i3 l3 => ⟨⟨?_, hh.2.2.2⟩, i3, by omega⟩
  have d1 : hd.rel ≠ [100, 111, 109] := by intro e; have := hh.2.2.1; rw [e, h1] at this; cases this
  have d2 : hd.rel ≠ [114, 101, 108] := by intro e; have := hh.2.2.1; rw [e, h2] at this; cases this
  simp only [rulB, Bool.and_eq_true, decide_eq_true_eq, List.all_eq_true, Bool.not_eq_true']
  exact ⟨⟨⟨⟨⟨hh.1, hh.2.1⟩, d1⟩, d2⟩, hb.2⟩, hb.1⟩
theorem pgmB_of {ds : List Dm} {cs : List Dcl} {rs : List Rul} (l1 : ds.length ≤ 32) (l2 : cs.length ≤ 32) (l3 : rs.length ≤ 64) (h1 : ∀ d, d ∈ ds → dmB d = true) (h2 : ∀ d, d ∈ cs → dclB d = true) (h3 : ∀ d, d ∈ rs → rulB d = true) : pgmB ⟨ds, cs, rs⟩ = true := by
  simp only [pgmB, Bool.and_eq_true, decide_eq_true_eq, List.all_eq_true]
  exact ⟨⟨⟨⟨⟨l1, l2⟩, l3⟩, h1⟩, h2⟩, h3⟩
theorem pgmB_to {x : Pgm} (h : pgmB x = true) : x.doms.length ≤ 32 ∧ x.decls.length ≤ 32 ∧ x.rules.length ≤ 64 ∧ (∀ d, d ∈ x.doms → dmB d = true) ∧ (∀ d, d ∈ x.decls → dclB d = true) ∧ (∀ d, d ∈ x.rules → rulB d = true) := by
  simp only [pgmB, Bool.and_eq_true, decide_eq_true_eq, List.all_eq_true] at h
  obtain ⟨⟨⟨⟨⟨l1, l2⟩, l3⟩, h1⟩, h2⟩, h3⟩ := h
  exact ⟨l1, l2, l3, h1, h2, h3⟩
theorem all_snoc {α : Type} {p : α → Prop} {l : List α} {x : α} (h : ∀ y, y ∈ l → p y) (hx : p x) : ∀ y, y ∈ l ++ [x] → p y := fun y hy => by
  rcases List.mem_append.1 hy with hy | hy
  · exact h y hy
  · rw [List.mem_singleton] at hy; subst hy; exact hx
theorem PlU.item {e : Nat} {x : Pgm} {L : List Sgn} (hx : pgmB x = true) (h : InU e L) : PlU e (fun y => pgmB y = true) L.length (itemU e x L) := by
  obtain ⟨l1, l2, l3, h1, h2, h3⟩ := pgmB_to hx
  unfold itemU
  split
  · unfold domU
    refine PlU.bu (PlU.room h) fun _ L1 r1 i1 g1 => PlU.bu (PlU.must i1) fun _ L2 _ i2 g2 => PlU.bu (PlU.name i2) fun n L3 r3 i3 g3 => PlU.bu (PlU.num i3) fun z L4 r4 i4 g4 => PlU.bu (PlU.must i4) fun _ L5 _ i5 g5 => ⟨?_, i5, by omega⟩
    have hlt : x.doms.length < 32 := by
      rcases Nat.lt_or_ge x.doms.length 32 with h | h
      · exact h
      · have := r1 h; cases this
    refine pgmB_of (by rw [List.length_append, List.length_singleton]; omega) l2 l3 (all_snoc h1 ?_) h2 h3
    have := r4.1
    simp only [dmB, Bool.and_eq_true, decide_eq_true_eq]
    exact ⟨⟨r3.1, by omega⟩, by omega⟩
  · split
    · unfold relU
      refine PlU.bu (PlU.room h) fun _ L1 r1 i1 g1 => PlU.bu (PlU.must i1) fun _ L2 _ i2 g2 => PlU.bu (PlU.name i2) fun n L3 r3 i3 g3 => PlU.bu (PlU.list (Ok := fun t => nameB t = true) (fun L h => (PlU.name h).mono (fun _ h => ⟨h.1, h.2.2⟩) (Nat.le_refl _)) i3) fun ds L4 r4 i4 g4 => PlU.bu (PlU.must i4) fun _ L5 _ i5 g5 => ⟨?_, i5, by omega⟩
      have hlt : x.decls.length < 32 := by
        rcases Nat.lt_or_ge x.decls.length 32 with h | h
        · exact h
        · have := r1 h; cases this
      refine pgmB_of l1 (by rw [List.length_append, List.length_singleton]; omega) l3 h1 (all_snoc h2 ?_) h3
      simp only [dclB, Bool.and_eq_true, decide_eq_true_eq, List.all_eq_true]
      exact ⟨⟨⟨r3.1, by omega⟩, r4.2.2⟩, r4.1⟩
    · rename_i d1 d2
      unfold rulU
      cases hr : roomU e L x.rules.length 64 (nextB [1] L) with
      | error q => have := PlU.room (hv := x.rules.length) (mst := 64) (b := nextB [1] L) h; rw [hr] at this; exact this
      | ok q =>
        obtain ⟨u, L1⟩ := q
        have h0 := PlU.room (hv := x.rules.length) (mst := 64) (b := nextB [1] L) h
        rw [hr] at h0
        have e1 := room_same hr
        subst e1
        rw [bu_ok]
        refine PlU.bu (PlU.rule h (by simpa using d1) (by simpa using d2)) fun y L2 r2 i2 g2 => ⟨?_, i2, g2⟩
        have hlt : x.rules.length < 64 := by
          rcases Nat.lt_or_ge x.rules.length 64 with h | h
          · exact h
          · have := h0.1 h; rw [this] at r2; cases r2.2
        exact pgmB_of l1 l2 (by rw [List.length_append, List.length_singleton]; omega) h1 h2 (all_snoc h3 r2.1)
theorem lexSigns_in {s : List UInt8} {L : List Sgn} (h : lexSigns s = .ok L) : InU s.length L := by
  have h1 := (lexS_gd h).1
  have h2 : LxIn s.length (lexSigns s) := by
    unfold lexSigns
    split
    · exact Nat.zero_le _
    · exact lex_in s.length _ s 0 [] (by omega) (fun y hy => by cases hy)
  rw [h] at h2
  intro y hy
  refine ⟨h2 y hy, ?_⟩
  obtain ⟨g1, g2, _⟩ := h1 y hy
  simp only [signB, Bool.and_eq_true, decide_eq_true_eq]
  exact ⟨g1, g2⟩
end Go.Proofs.YtdibndmkeipgbaaGreatDoor
