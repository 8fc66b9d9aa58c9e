/- What is proved: What SoundStages hands back. Conditions: what fits a memory; What a program without some of its rules comes to, once it is sound: plain facts; Other names of relations: plain facts. Conditions: those that stand in the statements. Conditions: those that stand in the statements. -/
import Derived.Test.YtdibndmkeipgbaaDoorZYpj
import Derived.Test.YtdibndmkeipgbaaDoorZNaj
set_option linter.unusedSimpArgs false
set_option linter.unusedVariables false
set_option maxRecDepth 100000
namespace Go.Proofs.YtdibndmkeipgbaaDoor
open Go.RowKit

theorem sound_bad {x : Pgm} (h : (soundP x).2.1 ≠ 0) : (soundP x).2.2 = [] := by
  unfold soundP at h ⊢
  by_cases hr : readE x = 0
  · rw [if_neg (by simp [hr])] at h ⊢
    cases hb : badR x 0 x.rules with
    | some q => rfl
    | none =>
      rw [hb] at h
      simp only at h ⊢
      cases hs : stgP x with
      | none => rfl
      | some l => rw [hs] at h; exact absurd rfl h
  · rw [if_pos hr]
theorem badR_err {p : Pgm} : ∀ (l : List Rul) (k i : Nat) (e : Int), badR p k l = some (i, e) → e ≠ 0
  | [], _, _, _, h => by cases h
  | a :: l, k, i, e, h => by
    simp only [badR] at h
    cases ha : scopeS p a with
    | error e' => rw [ha] at h; injection h with h; injection h with h1 h2; subst h2; exact scopeS_err ha
    | ok Y => rw [ha] at h; exact badR_err l (k + 1) i e h
theorem sound_ok {x : Pgm} (h : (soundP x).2.1 = 0) : ∃ l, soundP x = (-1, 0, l) ∧ readE x = 0 ∧ badR x 0 x.rules = none ∧ stgP x = some l := by
  unfold soundP at h ⊢
  by_cases hr : readE x = 0
  · rw [if_neg (by simp [hr])] at h ⊢
    cases hb : badR x 0 x.rules with
    | some q => rw [hb] at h; obtain ⟨k, e⟩ := q; exact absurd h (badR_err _ _ _ _ hb)
    | none =>
      rw [hb] at h
      simp only at h ⊢
      cases hs : stgP x with
      | none => rw [hs] at h; cases h
      | some l => exact ⟨l, rfl, hr, trivial, rfl⟩
  · rw [if_pos hr] at h; exact absurd h hr
end Go.Proofs.YtdibndmkeipgbaaDoor
set_option maxRecDepth 100000
namespace Go.Proofs.YtdibndmkeipgbaaDoor
open Go.RowKit

theorem PgmOk.sub {x : Pgm} (h : PgmOk x) {rs : List Rul} (hs : ∀ r, r ∈ rs → r ∈ x.rules) (hl : rs.length ≤ x.rules.length) : PgmOk ⟨x.doms, x.decls, rs⟩ := by
  obtain ⟨h1, h2, h3, h4, h5, h6⟩ := h
  exact ⟨h1, h2, by simp only; omega, h4, h5, fun y hy => h6 y (hs y hy)⟩
end Go.Proofs.YtdibndmkeipgbaaDoor
set_option maxRecDepth 100000
namespace Go.Proofs.YtdibndmkeipgbaaDoor
open Go.RowKit

def rn (n : List UInt8) : List UInt8 := 114 :: n
def rnA (a : Atm) : Atm := ⟨a.not, rn a.rel, a.ts⟩
def rnR (r : Rul) : Rul := ⟨rnA r.head, r.body.map rnA⟩
def rnD (d : Dcl) : Dcl := ⟨rn d.name, d.doms⟩
def rnP (x : Pgm) : Pgm := ⟨x.doms, x.decls.map rnD, x.rules.map rnR⟩
def Nmd (n : List UInt8) : Prop := n ≠ [] ∧ n.length ≤ 20 ∧ isDig n = false
theorem rn_inj {a b : List UInt8} : rn a = rn b ↔ a = b := by simp [rn]
theorem nameB_rn {n : List UInt8} (h : Nmd n) : nameB (rn n) = nameB n := by
  obtain ⟨h1, h2, h3⟩ := h
  cases n with
  | nil => exact absurd rfl h1
  | cons c l =>
    have hd : digB c = false := h3
    have hd2 : digB 114 = false := rfl
    have hp2 : partB 114 = true := rfl
    have hr : runN partB (114 :: c :: l) = runN partB (c :: l) + 1 := by rw [runN_cons, hp2]; rfl
    have hle := runN_le partB (c :: l)
    have e1 : oneK (rn (c :: l)) = (1, runN partB (c :: l) + 1) := by
      simp only [rn, oneK, hd2, hp2, if_true, Bool.false_eq_true, if_false]
      rw [hr, if_neg (by simp only [List.length_cons] at hle h2; omega)]
    rw [Bool.eq_iff_iff]
    simp only [nameB, signB, Bool.and_eq_true, decide_eq_true_eq]
    rw [e1]
    cases hp : partB c with
    | true =>
      have e2 : oneK (c :: l) = (1, runN partB (c :: l)) := by
        simp only [oneK, hd, hp, if_true, Bool.false_eq_true, if_false]
        rw [if_neg (by simp only [List.length_cons] at hle h2; omega)]
      rw [e2]
      simp [rn]
    | false =>
      have e2 : oneK (c :: l) = (3, markN (c :: l)) := by
        simp only [oneK, hd, hp, if_true, Bool.false_eq_true, if_false]
      rw [e2, runN_cons, hp]
      simp [rn]
theorem atmB_rn {a : Atm} (h : Nmd a.rel) : atmB (rnA a) = atmB a := by
  unfold atmB
  rw [show (rnA a).rel = rn a.rel from rfl, nameB_rn h]
  rfl
def RulN (r : Rul) : Prop := Nmd r.head.rel ∧ r.head.rel ≠ [101, 108] ∧ r.head.rel ≠ [100, 111, 109] ∧ r.head.rel ≠ [114, 101, 108] ∧ ∀ a, a ∈ r.body → Nmd a.rel
theorem all_rn {l : List Atm} (h : ∀ a, a ∈ l → Nmd a.rel) : (l.map rnA).all atmB = l.all atmB := by
  rw [List.all_map, Bool.eq_iff_iff, List.all_eq_true, List.all_eq_true]
  constructor
  · intro k a ha; have := k a ha; simp only [Function.comp] at this; rwa [atmB_rn (h a ha)] at this
  · intro k a ha; simp only [Function.comp]; rw [atmB_rn (h a ha)]; exact k a ha
theorem rulB_rn {r : Rul} (h : RulN r) : rulB (rnR r) = rulB r := by
  obtain ⟨h1, h2, h3, h4, h5⟩ := h
  have e1 : rn r.head.rel ≠ [100, 111, 109] := by simp [rn]
  have e2 : rn r.head.rel ≠ [114, 101, 108] := by intro e; apply h2; simpa [rn] using e
  unfold rulB
  have e3 : atmB (rnR r).head = atmB r.head := atmB_rn h1
  have e4 : (rnR r).body.all atmB = r.body.all atmB := all_rn h5
  rw [e3, e4]
  have e5 : (rnR r).body.length = r.body.length := by simp [rnR]
  rw [e5]
  have e6 : (rnR r).head.rel = rn r.head.rel := rfl
  have e7 : (rnR r).head.not = r.head.not := rfl
  rw [e6, e7]
  simp only [e1, e2, h3, h4, ne_eq, not_false_eq_true, decide_true]
theorem dclB_rn {d : Dcl} (h : Nmd d.name) : dclB (rnD d) = dclB d := by
  unfold dclB
  rw [show (rnD d).name = rn d.name from rfl, nameB_rn h]
  rfl
def PgmN (x : Pgm) : Prop := (∀ d, d ∈ x.decls → Nmd d.name) ∧ ∀ r, r ∈ x.rules → RulN r
theorem all_map_eq {α : Type} {f : α → α} {p : α → Bool} {l : List α} (h : ∀ a, a ∈ l → p (f a) = p a) : (l.map f).all p = l.all p := by
  rw [List.all_map, Bool.eq_iff_iff, List.all_eq_true, List.all_eq_true]
  constructor
  · intro k a ha; have := k a ha; simp only [Function.comp] at this; rwa [h a ha] at this
  · intro k a ha; simp only [Function.comp]; rw [h a ha]; exact k a ha
theorem pgmB_rn {x : Pgm} (h : PgmN x) : pgmB (rnP x) = pgmB x := by
  unfold pgmB
  rw [show (rnP x).decls = x.decls.map rnD from rfl, show (rnP x).rules = x.rules.map rnR from rfl, List.length_map, List.length_map]
  rw [all_map_eq fun d hd => dclB_rn (h.1 d hd), all_map_eq fun r hr => rulB_rn (h.2 r hr)]
  rfl
theorem ixT_rn {n : List UInt8} : ∀ {l : List (List UInt8)}, ixT (rn n) (l.map rn) = ixT n l
  | [] => rfl
  | a :: l => by
    simp only [List.map_cons, ixT]
    rw [ixT_rn (l := l)]
    by_cases e : n = a
    · rw [if_pos e, if_pos (by rw [e])]
    · rw [if_neg e, if_neg (fun x => e (rn_inj.1 x))]
theorem relI_rn {cs : List Dcl} {n : List UInt8} : relI (cs.map rnD) (rn n) = relI cs n := by
  unfold relI
  rw [← ixT_rn (l := cs.map (·.name)), List.map_map, List.map_map]
  rfl
theorem ixR_rn {x : Pgm} {n : List UInt8} : ixR (rnP x) (rn n) = ixR x n := by
  unfold ixR
  rw [show (rnP x).decls = x.decls.map rnD from rfl, relI_rn]
theorem nodup_rn {l : List (List UInt8)} : (l.map rn).Nodup ↔ l.Nodup := by
  induction l with
  | nil => simp
  | cons a l ih =>
    rw [List.map_cons, List.nodup_cons, List.nodup_cons, ih]
    constructor
    · rintro ⟨h1, h2⟩; exact ⟨fun h => h1 (List.mem_map.2 ⟨a, h, rfl⟩), h2⟩
    · rintro ⟨h1, h2⟩; exact ⟨fun h => by obtain ⟨b, hb, e⟩ := List.mem_map.1 h; rw [rn_inj.1 e] at hb; exact h1 hb, h2⟩
theorem readE_rn {x : Pgm} (h : PgmN x) : readE (rnP x) = readE x := by
  have e1 : (rnP x).decls.map (·.name) = (x.decls.map (·.name)).map rn := by simp [rnP, rnD]
  have e2 : ((rnP x).decls.any fun d => d.doms.any fun s => decide (domZ (rnP x).doms s = 0)) = (x.decls.any fun d => d.doms.any fun s => decide (domZ x.doms s = 0)) := by
    simp only [rnP, List.any_map]; rfl
  unfold readE
  rw [pgmB_rn h, e2]
  have e3 : (¬ ((rnP x).doms.map (·.name)).Nodup ∨ ¬ ((rnP x).decls.map (·.name)).Nodup) = (¬ (x.doms.map (·.name)).Nodup ∨ ¬ (x.decls.map (·.name)).Nodup) := by
    rw [e1, nodup_rn]; rfl
  simp only [e3]
  rfl
theorem atomS_rn {x : Pgm} {X : Scp} {a : Atm} : atomS (rnP x) X (rnA a) = atomS x X a := by
  unfold atomS
  rw [show (rnP x).decls = x.decls.map rnD from rfl, show (rnA a).rel = rn a.rel from rfl, relI_rn]
  cases relI x.decls a.rel with
  | none => rfl
  | some k =>
    simp only
    rw [List.getElem?_map]
    cases x.decls[k]? <;> rfl
theorem atomsS_rn {x : Pgm} : ∀ (l : List Atm) {X : Scp}, atomsS (rnP x) X (l.map rnA) = atomsS x X l
  | [], X => rfl
  | a :: l, X => by
    simp only [List.map_cons, atomsS]
    rw [atomS_rn]
    cases atomS x X a with
    | error e => rfl
    | ok Y => exact atomsS_rn l
theorem givenB_rn {l : List Atm} {n : List UInt8} : givenB (l.map rnA) n = givenB l n := by
  unfold givenB
  rw [List.any_map]
  rfl
theorem withB_rn {l : List Atm} {a : Atm} : withB (l.map rnA) (rnA a) = withB l a := by
  unfold withB
  simp only [givenB_rn, rnA]
theorem scopeS_rn {x : Pgm} {r : Rul} : scopeS (rnP x) (rnR r) = scopeS x r := by
  unfold scopeS
  rw [show (rnR r).head = rnA r.head from rfl, show (rnR r).body = r.body.map rnA from rfl, atomS_rn]
  cases atomS x ⟨[], []⟩ r.head with
  | error e => rfl
  | ok Y =>
    simp only [eb_ok]
    rw [atomsS_rn]
    cases atomsS x Y r.body with
    | error e => rfl
    | ok Z =>
      simp only [eb_ok]
      rw [withB_rn]
      have : (r.body.map rnA).all (withB (r.body.map rnA)) = r.body.all (withB r.body) := by
        rw [List.all_map]
        congr 1
        funext a
        exact withB_rn
      rw [this]
theorem badR_rn {x : Pgm} : ∀ (l : List Rul) (k : Nat), badR (rnP x) k (l.map rnR) = badR x k l
  | [], _ => rfl
  | r :: l, k => by
    simp only [List.map_cons, badR]
    rw [scopeS_rn]
    cases scopeS x r with
    | error e => rfl
    | ok Y => exact badR_rn l (k + 1)
theorem edgP_rn {x : Pgm} : edgP (rnP x) = edgP x := by
  unfold edgP
  rw [show (rnP x).rules = x.rules.map rnR from rfl, List.map_map]
  congr 2
  funext r
  simp only [Function.comp, edgR]
  rw [show (rnR r).head.rel = rn r.head.rel from rfl, show (rnR r).body = r.body.map rnA from rfl, List.map_map]
  apply List.map_congr_left
  intro a _
  simp only [Function.comp]
  rw [show (rnA a).rel = rn a.rel from rfl, show (rnA a).not = a.not from rfl]
  simp only [ixR_rn]
/-- Other names of relations change nothing. -/
theorem soundP_rn {x : Pgm} (h : PgmN x) : soundP (rnP x) = soundP x := by
  unfold soundP
  rw [readE_rn h, show (rnP x).rules = x.rules.map rnR from rfl, badR_rn]
  have : stgP (rnP x) = stgP x := by
    unfold stgP
    rw [edgP_rn, show (rnP x).decls.length = x.decls.length by simp [rnP]]
  rw [this]
theorem PgmOk.rn {x : Pgm} (h : PgmOk x) (hn : PgmN x) : PgmOk (rnP x) := by
  obtain ⟨h1, h2, h3, h4, h5, h6⟩ := h
  refine ⟨h1, by simpa [rnP] using h2, by simpa [rnP] using h3, h4, ?_, ?_⟩
  · intro d hd
    obtain ⟨d0, hd0, rfl⟩ := List.mem_map.1 hd
    obtain ⟨g1, g2, g3⟩ := h5 d0 hd0
    have := (hn.1 d0 hd0).2.1
    exact ⟨by simp only [rnD, Go.Proofs.YtdibndmkeipgbaaDoor.rn, List.length_cons]; omega, g2, g3⟩
  · intro r hr
    obtain ⟨r0, hr0, rfl⟩ := List.mem_map.1 hr
    obtain ⟨g1, g2, g3⟩ := h6 r0 hr0
    obtain ⟨k1, _, _, _, k2⟩ := hn.2 r0 hr0
    have key : ∀ a, AtmOk a → Nmd a.rel → AtmOk (rnA a) := fun a ⟨q1, q2, q3⟩ k => ⟨by have := k.2.1; simp only [rnA, Go.Proofs.YtdibndmkeipgbaaDoor.rn, List.length_cons]; omega, q2, q3⟩
    refine ⟨key _ g1 k1, by simpa [rnR] using g2, ?_⟩
    intro a ha
    obtain ⟨a0, ha0, rfl⟩ := List.mem_map.1 ha
    exact key _ (g3 a0 ha0) (k2 a0 ha0)
end Go.Proofs.YtdibndmkeipgbaaDoor
