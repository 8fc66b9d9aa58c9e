/- What is proved: The digits of a number, and their sign: plain facts; The signs of a printed program: plain facts; What is read of a printed program's signs: plain facts. Conditions: those that stand in the statements. -/
import Derived.Test.YtbfgdblebepgcaaDoorZTaj
import Derived.Test.YtbfgdblebepgcaaDoorZUoj
set_option linter.unusedSimpArgs false
set_option linter.unusedVariables false
set_option maxRecDepth 100000
namespace Go.Proofs.YtbfgdblebepgcaaDoor
open Go.RowKit

theorem dig_of : ∀ d : Nat, d < 10 → digB (UInt8.ofNat (48 + d)) = true ∧ Lib.digitVal (UInt8.ofNat (48 + d)) = some d ∧ (UInt8.ofNat (48 + d) = 48 → d = 0) := by decide
theorem decFrom_app (b : UInt8) (d : Nat) (hb : Lib.digitVal b = some d) : ∀ (l : List UInt8) (acc n : Nat), Lib.decFrom acc l = some n → Lib.decFrom acc (l ++ [b]) = some (n * 10 + d)
  | [], acc, n, h => by
    simp only [Lib.decFrom, Option.some.injEq] at h
    subst h
    simp [Lib.decFrom, hb]
  | c :: l, acc, n, h => by
    simp only [List.cons_append, Lib.decFrom] at h ⊢
    cases hc : Lib.digitVal c with
    | none => rw [hc] at h; cases h
    | some x => rw [hc] at h; exact decFrom_app b d hb l _ n h
theorem dd_small {u : Nat} (h : u < 10) : Lib.decDigits u = [UInt8.ofNat (48 + u)] := by rw [Lib.decDigits, dif_pos h]
theorem dd_big {u : Nat} (h : ¬ u < 10) : Lib.decDigits u = Lib.decDigits (u / 10) ++ [UInt8.ofNat (48 + u % 10)] := by rw [Lib.decDigits, dif_neg h]
theorem dd_from (u : Nat) : Lib.decFrom 0 (Lib.decDigits u) = some u := by
  induction u using Nat.strongRecOn with
  | ind u ih =>
    by_cases h : u < 10
    · rw [dd_small h]; simp only [Lib.decFrom, (dig_of u h).2.1, Nat.zero_mul, Nat.zero_add]
    · rw [dd_big h, decFrom_app _ (u % 10) (dig_of (u % 10) (by omega)).2.1 _ _ _ (ih (u / 10) (by omega))]
      congr 1; omega
theorem dd_all (u : Nat) : ∀ c, c ∈ Lib.decDigits u → digB c = true := by
  induction u using Nat.strongRecOn with
  | ind u ih =>
    intro c hc
    by_cases h : u < 10
    · rw [dd_small h, List.mem_singleton] at hc; subst hc; exact (dig_of u h).1
    · rw [dd_big h, List.mem_append, List.mem_singleton] at hc
      rcases hc with hc | hc
      · exact ih (u / 10) (by omega) c hc
      · subst hc; exact (dig_of (u % 10) (by omega)).1
theorem dd_head (u : Nat) : ∃ c t, Lib.decDigits u = c :: t ∧ (c = 48 → t = []) := by
  suffices H : ∃ c t, Lib.decDigits u = c :: t ∧ (c = 48 → u = 0) by
    obtain ⟨c, t, h1, h2⟩ := H
    refine ⟨c, t, h1, fun e => ?_⟩
    have := h2 e
    subst this
    rw [dd_small (by omega)] at h1
    injection h1 with _ h1
    exact h1.symm
  induction u using Nat.strongRecOn with
  | ind u ih =>
    by_cases h : u < 10
    · exact ⟨_, [], dd_small h, (dig_of u h).2.2⟩
    · obtain ⟨c, t, h1, h2⟩ := ih (u / 10) (by omega)
      exact ⟨c, t ++ [UInt8.ofNat (48 + u % 10)], by rw [dd_big h, h1]; rfl, fun e => by have := h2 e; omega⟩
theorem dd_len : ∀ (k u : Nat), u < 10 ^ (k + 1) → (Lib.decDigits u).length ≤ k + 1
  | 0, u, h => by rw [dd_small (by simpa using h)]; simp
  | k + 1, u, h => by
    by_cases h1 : u < 10
    · rw [dd_small h1]; simp
    · rw [dd_big h1, List.length_append]
      have := dd_len k (u / 10) (by rw [Nat.pow_succ] at h; omega)
      simp only [List.length_cons, List.length_nil]; omega
theorem ito_nat (u : Nat) : Lib.itoa (u : Int) = Lib.decDigits u := by unfold Lib.itoa; rw [if_neg (by omega)]; simp
theorem digB_part {c : UInt8} (h : digB c = true) : partB c = true := by simp [partB, h]
theorem runN_digs : ∀ (t r : List UInt8), (∀ c, c ∈ t → digB c = true) → NP r → runN digB (t ++ r) = t.length
  | [], r, _, hr => by
    cases r with
    | nil => rfl
    | cons c s =>
      rw [List.nil_append, runN_cons]
      have := hr c s rfl
      cases hd : digB c with
      | false => rfl
      | true => rw [digB_part hd] at this; cases this
  | c :: t, r, h, hr => by
    rw [List.cons_append, runN_cons, h c (by simp), if_pos rfl, runN_digs t r (fun x hx => h x (by simp [hx])) hr]
    rfl
theorem one_num {u : Nat} (hu : u ≤ 9999999999) {r : List UInt8} (hr : NP r) : oneK (Lib.decDigits u ++ r) = (2, (Lib.decDigits u).length) := by
  obtain ⟨c, t, h1, h2⟩ := dd_head u
  have h3 := runN_digs (Lib.decDigits u) r (dd_all u) hr
  have h4 := dd_len 9 u (by omega)
  have h5 := dd_all u c (by rw [h1]; simp)
  rw [h1] at h3 h4 ⊢
  rw [List.cons_append] at h3 ⊢
  simp only [oneK, h5, if_true, h3]
  rw [if_neg]
  rintro (h | ⟨h, e⟩)
  · omega
  · rw [h2 e] at h; simp at h
theorem num_sign {u : Nat} (hu : u ≤ 9999999999) (a : Nat) : signB ⟨2, Lib.decDigits u, a⟩ = true := by
  have := one_num hu NP.nil
  rw [List.append_nil] at this
  obtain ⟨c, t, h1, h2⟩ := dd_head u
  simp only [signB, this, Bool.and_eq_true, decide_eq_true_eq]
  exact ⟨by rw [h1]; simp, trivial⟩
theorem LexN.num {n : Int} (h0 : 0 ≤ n) (h1 : n ≤ 9999999999) : LexN (Lib.itoa n) [Lib.itoa n] := by
  obtain ⟨u, rfl⟩ := Int.eq_ofNat_of_zero_le h0
  rw [show ((u : Nat) : Int) = (u : Int) from rfl, ito_nat]
  have hu : u ≤ 9999999999 := by omega
  intro r a out L hr e
  obtain ⟨c, t, g1, _⟩ := dd_head u
  refine lex_one (k := 2) (by rw [g1]; simp) (fun c' s' e' => ?_) (one_num hu hr) ?_ e
  · exact part_plain (digB_part (dd_all u c' (by rw [e']; simp)))
  · have := one_num hu NP.nil
    rwa [List.append_nil] at this
theorem numN_itoa {n : Int} (h0 : 0 ≤ n) : ((numN (Lib.itoa n) : Nat) : Int) = n := by
  obtain ⟨u, rfl⟩ := Int.eq_ofNat_of_zero_le h0
  rw [show ((u : Nat) : Int) = (u : Int) from rfl, ito_nat]
  obtain ⟨c, t, h1, _⟩ := dd_head u
  have h2 := dd_from u
  have h3 := dd_all u c (by rw [h1]; simp)
  have h4 : Lib.atoi (Lib.decDigits u) = some (u : Int) := by
    rw [h1] at h2 ⊢
    have n1 : ¬ c = 45 := by rintro rfl; revert h3; decide
    have n2 : ¬ c = 43 := by rintro rfl; revert h3; decide
    simp [Lib.atoi, n1, n2, Lib.decNat, h2]
  unfold numN
  rw [h4]
  simp
end Go.Proofs.YtbfgdblebepgcaaDoor
set_option maxRecDepth 100000
namespace Go.Proofs.YtbfgdblebepgcaaDoor
open Go.RowKit

def sepT {α : Type} (f : α → List (List UInt8)) (l : List α) : List (List UInt8) := (l.map fun y => [44] :: f y).flatten
def sepK {α : Type} (f : α → List (List UInt8)) : List α → List (List UInt8)
  | [] => []
  | x :: l => f x ++ sepT f l
def trmK (t : Trm) : List (List UInt8) := [trmT t]
def idK (t : List UInt8) : List (List UInt8) := [t]
def atmK (a : Atm) : List (List UInt8) := (if a.not = true then [[33]] else []) ++ (a.rel :: [40] :: (sepK trmK a.ts ++ [[41]]))
def bodyK (l : List Atm) : List (List UInt8) := if l = [] then [] else [58, 45] :: sepK atmK l
def rulK (x : Rul) : List (List UInt8) := atmK x.head ++ (bodyK x.body ++ [[46]])
def dclK (d : Dcl) : List (List UInt8) := [114, 101, 108] :: d.name :: [40] :: (sepK idK d.doms ++ [[41], [46]])
def dmK (d : Dm) : List (List UInt8) := [[100, 111, 109], d.name, Lib.itoa d.size, [46]]
def pgmK (x : Pgm) : List (List UInt8) := (x.doms.map dmK).flatten ++ ((x.decls.map dclK).flatten ++ (x.rules.map rulK).flatten)
theorem LexE.castU {b b' : List UInt8} {T T' : List (List UInt8)} (h : LexE b T) (e : b = b') (e2 : T = T') : LexE b' T' := by subst e; subst e2; exact h
theorem LexE.nwU {t c : List UInt8} {T : List (List UInt8)} (h : signB ⟨1, t, 0⟩ = true) (k : LexE c T) (hc : c ≠ [] ∧ NP c) : LexE (t ++ c) (t :: T) := (LexN.name h).app k hc.1 hc.2
theorem LexE.mkU {c : UInt8} {r : List UInt8} {T : List (List UInt8)} (k : LexE r T) (h : c = 40 ∨ c = 41 ∨ c = 123 ∨ c = 125 ∨ c = 44 ∨ c = 46 ∨ c = 59 ∨ c = 61) : LexE (c :: r) ([c] :: T) := (LexE.mark c h).app k
theorem LexE.blU {c : UInt8} {r : List UInt8} {T : List (List UInt8)} (k : LexE r T) (h : blankB c = true) : LexE (c :: r) T := (LexE.blank h).app k
theorem LexE.arrow : LexE [58, 45] [[58, 45]] := fun r a out L e => by
  refine lex_one (k := 3) (by simp) (fun c' s e => ?_) ?_ ?_ e
  · injection e with e1 e2; subst e1; exact ⟨by decide, by decide⟩
  · simp [oneK, digB, partB, markN, List.isPrefixOf]
  · decide
theorem np_cU {c : UInt8} {r : List UInt8} (h : partB c = false) : c :: r ≠ [] ∧ NP (c :: r) := ⟨by simp, NP.cons h⟩
theorem LexE.notU {t c : List UInt8} {T : List (List UInt8)} (h : signB ⟨1, t, 0⟩ = true) (k : LexE (t ++ c) T) : LexE (33 :: (t ++ c)) ([33] :: T) := fun r a out L e => by
  obtain ⟨c0, s, rfl, hd, hp, _, _⟩ := name_one h
  have hne : ¬ c0 = 61 := by rintro rfl; revert hp; decide
  have h1 : ∃ (A : List Sgn) (a' : Nat), Txt A [[33]] ∧ lexR (c0 :: s ++ c ++ r) a' (out ++ A) = .ok L := by
    refine lex_one (t := [33]) (k := 3) (by simp) (fun c' s e => ?_) ?_ ?_ e
    · injection e with e1 e2; subst e1; exact ⟨by decide, by decide⟩
    · have hne2 : ¬ 61 = c0 := fun e => hne e.symm
      simp [oneK, digB, partB, markN, List.isPrefixOf, marks, hne, hne2]; decide
    · decide
  obtain ⟨A, a1, h1, h2⟩ := h1
  obtain ⟨B, a2, k1, k2⟩ := k _ _ _ _ h2
  exact ⟨A ++ B, a2, Txt.app (T := [[33]]) h1 k1, by rw [← List.append_assoc]; exact k2⟩
theorem LexE.sepT {α : Type} {f : α → List UInt8} {tok : α → List (List UInt8)} {l : List α} (hl : ∀ x, x ∈ l → LexN (f x) (tok x)) {r : List UInt8} {T : List (List UInt8)} (k : LexE r T) (hr : r ≠ [] ∧ NP r) :
    LexE (Lib.joinTail [44, 32] (l.map f) ++ r) (sepT tok l ++ T) ∧ (Lib.joinTail [44, 32] (l.map f) ++ r ≠ [] ∧ NP (Lib.joinTail [44, 32] (l.map f) ++ r)) := by
  induction l with
  | nil => exact ⟨by simpa [Lib.joinTail, Proofs.YtbfgdblebepgcaaDoor.sepT] using k, by simpa [Lib.joinTail] using hr⟩
  | cons x l ih =>
    obtain ⟨h1, h2⟩ := ih (fun y hy => hl y (by simp [hy]))
    have h3 := (hl x (by simp)).app h1 h2.1 h2.2
    constructor
    · exact ((h3.blU (c := 32) (by decide)).mkU (c := 44) (by decide)).castU (by simp [Lib.joinTail]) (by simp [Proofs.YtbfgdblebepgcaaDoor.sepT])
    · rw [show Lib.joinTail [44, 32] ((x :: l).map f) ++ r = 44 :: (32 :: (f x ++ (Lib.joinTail [44, 32] (l.map f) ++ r))) by simp [Lib.joinTail]]
      exact np_cU (by decide)
theorem LexE.sepK {α : Type} {f : α → List UInt8} {tok : α → List (List UInt8)} {l : List α} (hl : ∀ x, x ∈ l → LexN (f x) (tok x)) {r : List UInt8} {T : List (List UInt8)} (k : LexE r T) (hr : r ≠ [] ∧ NP r) :
    LexE (Lib.join (l.map f) [44, 32] ++ r) (sepK tok l ++ T) := by
  cases l with
  | nil => simpa [Lib.join_nil, Proofs.YtbfgdblebepgcaaDoor.sepK] using k
  | cons x l =>
    obtain ⟨h1, h2⟩ := LexE.sepT (l := l) (fun y hy => hl y (by simp [hy])) k hr
    exact ((hl x (by simp)).app h1 h2.1 h2.2).castU (by simp [Lib.join_cons]) (by simp [Proofs.YtbfgdblebepgcaaDoor.sepK])
theorem trm_lex {t : Trm} (h : trmB t = true) : LexN (trmT t) (trmK t) := by
  unfold trmB at h
  unfold trmT trmK
  split at h
  · rename_i hv
    simp only [Bool.and_eq_true] at h
    rw [trmT, if_pos hv]
    exact LexN.name h.1
  · rename_i hv
    simp only [Bool.and_eq_true, decide_eq_true_eq] at h
    rw [trmT, if_neg hv]
    exact LexN.num h.1.2 h.2
theorem atm_lex {a : Atm} (h : atmB a = true) {r : List UInt8} {T : List (List UInt8)} (k : LexE r T) : LexE (atmT a ++ r) (atmK a ++ T) := by
  simp only [atmB, Bool.and_eq_true, decide_eq_true_eq, List.all_eq_true] at h
  obtain ⟨⟨⟨h1, h2⟩, h3⟩, h4⟩ := h
  have h5 := LexE.sepK (fun t ht => trm_lex (h1 t ht)) (k.mkU (c := 41) (by decide)) (np_cU (by decide))
  have h6 := LexE.nwU h2 (h5.mkU (c := 40) (by decide)) (np_cU (by decide))
  obtain ⟨nt, rel, ts⟩ := a
  cases nt with
  | false => exact h6.castU (by simp [atmT]) (by simp [atmK])
  | true => exact (LexE.notU h2 h6).castU (by simp [atmT]) (by simp [atmK])
theorem rul_lex {x : Rul} (h : rulB x = true) {r : List UInt8} {T : List (List UInt8)} (k : LexE r T) : LexE (rulT x ++ r) (rulK x ++ T) := by
  simp only [rulB, Bool.and_eq_true, decide_eq_true_eq, List.all_eq_true] at h
  obtain ⟨⟨⟨⟨⟨h1, h2⟩, h3⟩, h4⟩, h5⟩, h6⟩ := h
  have h7 := (k.blU (c := 10) (by decide)).mkU (c := 46) (by decide)
  obtain ⟨hd, bd⟩ := x
  by_cases hb : bd = []
  · subst hb
    exact (atm_lex h1 h7).castU (by simp [rulT]) (by simp [rulK, bodyK])
  · have h8 := LexE.sepK (f := atmT) (tok := atmK) (l := bd) (fun a ha => (LexE.castU (atm_lex (h6 a ha) LexE.nil) (List.append_nil _) (List.append_nil _)).n) h7 (np_cU (by decide))
    exact (atm_lex h1 ((LexE.arrow.app (h8.blU (c := 32) (by decide))).blU (c := 32) (by decide))).castU (by simp [rulT, hb]) (by simp [rulK, bodyK, hb])
theorem kw_signU : signB ⟨1, [100, 111, 109], 0⟩ = true ∧ signB ⟨1, [114, 101, 108], 0⟩ = true := by
  refine ⟨?_, ?_⟩ <;> decide
theorem dcl_lex {d : Dcl} (h : dclB d = true) {r : List UInt8} {T : List (List UInt8)} (k : LexE r T) : LexE (dclT d ++ r) (dclK d ++ T) := by
  simp only [dclB, Bool.and_eq_true, decide_eq_true_eq, List.all_eq_true] at h
  obtain ⟨⟨⟨h1, h2⟩, h3⟩, h4⟩ := h
  have h5 := LexE.sepK (f := id) (tok := idK) (fun t ht => LexN.name (h4 t ht)) (((k.blU (c := 10) (by decide)).mkU (c := 46) (by decide)).mkU (c := 41) (by decide)) (np_cU (by decide))
  rw [List.map_id] at h5
  exact (LexE.nwU kw_signU.2 ((LexE.nwU h1 (h5.mkU (c := 40) (by decide)) (np_cU (by decide))).blU (c := 32) (by decide)) (np_cU (by decide))).castU (by simp [dclT]) (by simp [dclK])
theorem dm_lex {d : Dm} (h : dmB d = true) {r : List UInt8} {T : List (List UInt8)} (k : LexE r T) : LexE (dmT d ++ r) (dmK d ++ T) := by
  simp only [dmB, Bool.and_eq_true, decide_eq_true_eq] at h
  obtain ⟨⟨h1, h2⟩, h3⟩ := h
  have h5 := (LexN.num h2 h3).app ((k.blU (c := 10) (by decide)).mkU (c := 46) (by decide)) (np_cU (by decide)).1 (np_cU (by decide)).2
  exact (LexE.nwU kw_signU.1 ((LexE.nwU h1 (h5.blU (c := 32) (by decide)) (np_cU (by decide))).blU (c := 32) (by decide)) (np_cU (by decide))).castU (by simp [dmT]) (by simp [dmK])
theorem all_lex {α : Type} {f : α → List UInt8} {tok : α → List (List UInt8)} : ∀ {l : List α}, (∀ x, x ∈ l → ∀ (r : List UInt8) (T : List (List UInt8)), LexE r T → LexE (f x ++ r) (tok x ++ T)) → ∀ {r : List UInt8} {T : List (List UInt8)}, LexE r T → LexE ((l.map f).flatten ++ r) ((l.map tok).flatten ++ T)
  | [], _, r, T, k => by simpa using k
  | x :: l, h, r, T, k => (h x (by simp) _ _ (all_lex (l := l) (fun y hy => h y (by simp [hy])) k)).castU (by simp) (by simp)
theorem pgm_lex {x : Pgm} (h : pgmB x = true) : LexE (pgmT x) (pgmK x) := by
  simp only [pgmB, Bool.and_eq_true, decide_eq_true_eq, List.all_eq_true] at h
  obtain ⟨⟨⟨⟨⟨k1, k2⟩, k3⟩, k4⟩, k5⟩, k6⟩ := h
  exact (all_lex (fun d hd r T k => dm_lex (k4 d hd) k) (all_lex (fun d hd r T k => dcl_lex (k5 d hd) k) (all_lex (fun d hd r T k => rul_lex (k6 d hd) k) LexE.nil))).castU (by simp [pgmT]) (by simp [pgmK])
/-- What a printed program is read as, by the signs. -/
theorem uprint_lex {x : Pgm} (h : pgmB x = true) {L : List Sgn} (hL : lexSigns (pgmT x) = .ok L) : Txt L (pgmK x) := by
  unfold lexSigns at hL
  split at hL
  · cases hL
  · have e : lexR (pgmT x ++ []) 0 [] = .ok L := by rw [List.append_nil]; exact hL
    obtain ⟨A, a', h1, h2⟩ := pgm_lex h [] 0 [] L e
    rw [lexR_nil] at h2
    injection h2 with h2
    subst h2
    simpa using h1
end Go.Proofs.YtbfgdblebepgcaaDoor
set_option maxRecDepth 100000
namespace Go.Proofs.YtbfgdblebepgcaaDoor
open Go.RowKit

theorem txt_cons {A : List Sgn} {t : List UInt8} {T : List (List UInt8)} (h : Txt A (t :: T)) : ∃ x A', A = x :: A' ∧ x.text = t ∧ signB x = true ∧ Txt A' T := by
  cases A with
  | nil => cases h.1
  | cons x A =>
    obtain ⟨h1, h2⟩ := h
    simp only [List.map_cons] at h1
    injection h1 with h1 h3
    exact ⟨x, A, rfl, h1, h2 x (by simp), h3, fun y hy => h2 y (by simp [hy])⟩
theorem txt_nil {A : List Sgn} (h : Txt A []) : A = [] := List.map_eq_nil_iff.1 h.1
theorem txt_app {A : List Sgn} {T U : List (List UInt8)} (h : Txt A (T ++ U)) : ∃ A1 A2, A = A1 ++ A2 ∧ Txt A1 T ∧ Txt A2 U := by
  obtain ⟨h1, h2⟩ := h
  obtain ⟨A1, A2, rfl, e1, e2⟩ := List.map_eq_append_iff.1 h1
  exact ⟨A1, A2, rfl, ⟨e1, fun x hx => h2 x (by simp [hx])⟩, ⟨e2, fun x hx => h2 x (by simp [hx])⟩⟩
theorem txt_len {A : List Sgn} {T : List (List UInt8)} (h : Txt A T) : A.length = T.length := by rw [← h.1, List.length_map]
theorem kind_of {x : Sgn} {k n : Nat} (h : signB x = true) (e : oneK x.text = (k, n)) : x.kind = k := by
  simp only [signB, Bool.and_eq_true, decide_eq_true_eq] at h
  rw [h.2] at e
  injection e
theorem kind_nm {x : Sgn} (h : signB x = true) (e : nameB x.text = true) : x.kind = 1 := by
  unfold nameB at e
  simp only [signB, Bool.and_eq_true, decide_eq_true_eq] at e
  exact kind_of h e.2
theorem isT_cons {x : Sgn} {L : List Sgn} {t : List UInt8} : isT (x :: L) 0 t = decide (x.text = t) := by simp [isT]
theorem must_cons {e : Nat} {x : Sgn} {L : List Sgn} {t : List UInt8} (h : x.text = t) : mustU e (x :: L) t = .ok ((), L) := by
  unfold mustU; rw [isT_cons]; simp [h]
theorem name_cons {e : Nat} {x : Sgn} {L : List Sgn} (h : signB x = true) (n : nameB x.text = true) : nameU e (x :: L) = .ok (x.text, L) := by
  simp [nameU, kindU, kind_nm h n]
theorem num_kind {x : Sgn} {n : Int} (h : signB x = true) (e : x.text = Lib.itoa n) (h0 : 0 ≤ n) (h1 : n ≤ 9999999999) : x.kind = 2 := by
  obtain ⟨u, rfl⟩ := Int.eq_ofNat_of_zero_le h0
  rw [show ((u : Nat) : Int) = (u : Int) from rfl, ito_nat] at e
  have h2 := one_num (u := u) (by omega) NP.nil
  rw [List.append_nil] at h2
  exact kind_of h (by rw [e]; exact h2)
theorem num_cons {e : Nat} {x : Sgn} {L : List Sgn} (h : x.kind = 2) : numU e (x :: L) = .ok (numN x.text, L) := by
  simp [numU, kindU, h, bu_ok]
theorem term_read {e : Nat} {t : Trm} (h : trmB t = true) {A L : List Sgn} (k : Txt A (trmK t)) : termU e (A ++ L) = .ok (t, L) := by
  obtain ⟨x, A', rfl, h1, h2, h3⟩ := txt_cons k
  rw [txt_nil h3]
  obtain ⟨v, nm, n⟩ := t
  cases v with
  | true =>
    simp only [trmB, if_true, Bool.and_eq_true, decide_eq_true_eq] at h
    obtain ⟨h4, rfl⟩ := h
    simp only [trmT, if_true] at h1
    subst h1
    have hk := kind_nm h2 h4
    simp only [termU, List.cons_append, List.nil_append, isNum, hk, name_cons h2 h4, bu_ok]
    simp
  | false =>
    simp only [trmB, Bool.false_eq_true, if_false, Bool.and_eq_true, decide_eq_true_eq] at h
    obtain ⟨⟨rfl, h4⟩, h5⟩ := h
    simp only [trmT, Bool.false_eq_true, if_false] at h1
    have hk := num_kind h2 h1 h4 h5
    simp only [termU, List.cons_append, List.nil_append, isNum, hk, num_cons hk, bu_ok]
    rw [h1, numN_itoa h4]
    simp
theorem sepT_len {α : Type} {tok : α → List (List UInt8)} (l : List α) : l.length ≤ (sepT tok l).length := by
  induction l with
  | nil => simp
  | cons x l ih => simp only [sepT, List.map_cons, List.flatten_cons, List.length_append, List.length_cons] at ih ⊢; omega
theorem room_less {e : Nat} {L : List Sgn} {n m : Nat} {b : Bool} (h : n < m) : roomU e L n m b = .ok ((), L) := by
  unfold roomU; rw [if_neg (by omega)]
theorem listGo_read {α : Type} {e : Nat} {one : List Sgn → PU α} {ks : List Int} {tok : α → List (List UInt8)} : ∀ (xs : List α) (x : α) (f : Nat) (out : List α) (A L : List Sgn),
    (∀ y, y ∈ x :: xs → ∀ A L, Txt A (tok y) → one (A ++ L) = .ok (y, L)) → out.length + (x :: xs).length ≤ 8 → xs.length < f → isT L 0 [44] = false → Txt A (tok x ++ sepT tok xs) →
    listGo e one ks f out (A ++ L) = .ok (out ++ x :: xs, L)
  | xs, x, 0, out, A, L, _, _, hf, _, _ => by omega
  | xs, x, f + 1, out, A, L, hone, hl, hf, hL, hA => by
    obtain ⟨A1, A2, rfl, h1, h2⟩ := txt_app hA
    simp only [List.length_cons] at hl
    simp only [listGo]
    rw [room_less (by omega), bu_ok, List.append_assoc, hone x (by simp) _ _ h1, bu_ok]
    cases xs with
    | nil =>
      rw [txt_nil h2, List.nil_append, hL]
      simp
    | cons y ys =>
      simp only [sepT, List.map_cons, List.flatten_cons, List.cons_append] at h2
      obtain ⟨c, A3, rfl, h3, h4, h5⟩ := txt_cons h2
      rw [List.cons_append, isT_cons, h3]
      simp only [decide_true, if_true, List.tail_cons]
      rw [listGo_read ys y f (out ++ [x]) A3 L (fun z hz => hone z (List.mem_cons_of_mem _ hz)) (by simp only [List.length_append, List.length_cons, List.length_nil] at hl ⊢; omega) (by simp only [List.length_cons] at hf; omega) hL h5]
      simp
theorem list_read {α : Type} {e : Nat} {one : List Sgn → PU α} {ks : List Int} {tok : α → List (List UInt8)} {xs : List α} (hne : xs ≠ []) (hl : xs.length ≤ 8)
    (hone : ∀ y, y ∈ xs → ∀ A L, Txt A (tok y) → one (A ++ L) = .ok (y, L)) {A L : List Sgn} {T : List (List UInt8)} (hA : Txt A ([40] :: (sepK tok xs ++ [41] :: T))) :
    ∃ A', Txt A' T ∧ listU e one ks (A ++ L) = .ok (xs, A' ++ L) := by
  obtain ⟨x, A1, rfl, h1, h2, h3⟩ := txt_cons hA
  obtain ⟨A2, A3, rfl, h4, h5⟩ := txt_app h3
  obtain ⟨y, A4, rfl, h6, h7, h8⟩ := txt_cons h5
  refine ⟨A4, h8, ?_⟩
  unfold listU
  rw [List.cons_append, must_cons h1, bu_ok, List.append_assoc]
  cases xs with
  | nil => exact absurd rfl hne
  | cons z zs =>
    have h9 := txt_len h4
    have h10 := sepT_len (tok := tok) zs
    rw [listGo_read zs z _ [] A2 _ hone (by simpa using hl) (by simp only [List.length_append, List.length_cons, sepK] at h9 ⊢; omega) (by rw [List.cons_append, isT_cons, h6]; decide) h4, bu_ok, List.cons_append, must_cons h6, bu_ok]
    rfl
theorem atom_read {e : Nat} {rel : List UInt8} {ts : List Trm} {nt : Bool} (h : atmB ⟨nt, rel, ts⟩ = true) {A L : List Sgn} {T : List (List UInt8)} (hA : Txt A (rel :: [40] :: (sepK trmK ts ++ [41] :: T))) :
    ∃ A', Txt A' T ∧ atomU e (A ++ L) nt = .ok (⟨nt, rel, ts⟩, A' ++ L) := by
  simp only [atmB, Bool.and_eq_true, decide_eq_true_eq, List.all_eq_true] at h
  obtain ⟨⟨⟨h1, h2⟩, h3⟩, h4⟩ := h
  obtain ⟨x, A1, rfl, k1, k2, k3⟩ := txt_cons hA
  have hne : ts ≠ [] := by intro e; rw [e] at h3; simp at h3
  obtain ⟨A', k4, k5⟩ := list_read (e := e) (one := termU e) (ks := [1, 2]) (L := L) hne h4 (fun y hy A L hA => term_read (h1 y hy) hA) k3
  refine ⟨A', k4, ?_⟩
  unfold atomU
  subst k1
  rw [List.cons_append, name_cons k2 h2, bu_ok, k5, bu_ok]
theorem nm_ne {t : List UInt8} (h : nameB t = true) {c : UInt8} {r : List UInt8} (hc : partB c = false) : t ≠ c :: r := by
  rintro rfl
  obtain ⟨c0, s, e, _, hp, _⟩ := name_one h
  injection e with e1
  subst e1
  rw [hp] at hc; cases hc
theorem bodyGo_read {e : Nat} : ∀ (xs : List Atm) (x : Atm) (f : Nat) (out : List Atm) (A L : List Sgn),
    (∀ y, y ∈ x :: xs → atmB y = true) → out.length + (x :: xs).length ≤ 8 → xs.length < f → isT L 0 [44] = false → Txt A (atmK x ++ sepT atmK xs) →
    bodyGo e f out (A ++ L) = .ok (out ++ x :: xs, L)
  | xs, x, 0, out, A, L, _, _, hf, _, _ => by omega
  | xs, x, f + 1, out, A, L, hone, hl, hf, hL, hA => by
    simp only [List.length_cons] at hl
    simp only [bodyGo]
    rw [room_less (by omega), bu_ok]
    have hx := hone x (by simp)
    have hat : ∃ A2, Txt A2 (sepT atmK xs) ∧ atomU e (if isT (A ++ L) 0 [33] = true then (A ++ L).tail else A ++ L) (isT (A ++ L) 0 [33]) = .ok (x, A2 ++ L) := by
      obtain ⟨nt, rel, ts⟩ := x
      have hrel : nameB rel = true := by simp only [atmB, Bool.and_eq_true] at hx; exact hx.1.1.2
      cases nt with
      | true =>
        simp only [atmK, if_true, List.cons_append, List.nil_append, List.append_assoc] at hA
        obtain ⟨c, A1, rfl, h1, h2, h3⟩ := txt_cons hA
        rw [List.cons_append, isT_cons, h1]
        simp only [decide_true, if_true, List.tail_cons]
        exact atom_read hx h3
      | false =>
        simp only [atmK, Bool.false_eq_true, if_false, List.cons_append, List.nil_append, List.append_assoc] at hA
        obtain ⟨c, A1, rfl, h1, h2, h3⟩ := txt_cons hA
        have hc : isT (c :: A1 ++ L) 0 [33] = false := by
          rw [List.cons_append, isT_cons, h1, decide_eq_false_iff_not]
          exact nm_ne hrel (by decide)
        rw [hc]
        exact atom_read hx hA
    obtain ⟨A2, h2, hat⟩ := hat
    rw [hat, bu_ok]
    cases xs with
    | nil =>
      rw [txt_nil h2, List.nil_append, hL]
      simp
    | cons y ys =>
      simp only [sepT, List.map_cons, List.flatten_cons, List.cons_append] at h2
      obtain ⟨c, A3, rfl, h3, h4, h5⟩ := txt_cons h2
      rw [List.cons_append, isT_cons, h3]
      simp only [decide_true, if_true, List.tail_cons]
      rw [bodyGo_read ys y f (out ++ [x]) A3 L (fun z hz => hone z (List.mem_cons_of_mem _ hz)) (by simp only [List.length_append, List.length_cons, List.length_nil] at hl ⊢; omega) (by simp only [List.length_cons] at hf; omega) hL h5]
      simp
theorem rule_read {e : Nat} {x : Rul} (h : rulB x = true) {A L : List Sgn} (hA : Txt A (rulK x)) : ruleU e (A ++ L) = .ok (x, L) := by
  simp only [rulB, Bool.and_eq_true, decide_eq_true_eq, List.all_eq_true, Bool.not_eq_true'] at h
  obtain ⟨⟨⟨⟨⟨h1, h2⟩, h3⟩, h4⟩, h5⟩, h6⟩ := h
  obtain ⟨⟨nt, rel, ts⟩, bd⟩ := x
  simp only at h2
  subst h2
  simp only [rulK, atmK, Bool.false_eq_true, if_false, List.cons_append, List.nil_append, List.append_assoc] at hA
  obtain ⟨A1, k1, k2⟩ := atom_read (e := e) (L := L) h1 hA
  unfold ruleU
  rw [k2, bu_ok]
  obtain ⟨A2, A3, rfl, k3, k4⟩ := txt_app k1
  obtain ⟨p, A4, rfl, k5, k6, k7⟩ := txt_cons k4
  rw [txt_nil k7, List.append_assoc, List.cons_append, List.nil_append]
  cases bd with
  | nil =>
    simp only [bodyK, if_true] at k3
    rw [txt_nil k3, List.nil_append, isT_cons, k5]
    simp only [show decide (([46] : List UInt8) = [58, 45]) = false from by decide, Bool.false_eq_true, if_false, bu_ok]
    rw [must_cons k5, bu_ok]
  | cons y ys =>
    simp only [bodyK, sepK] at k3
    rw [if_neg (by simp)] at k3
    obtain ⟨q, A5, rfl, k8, k9, k10⟩ := txt_cons k3
    rw [List.cons_append, isT_cons, k8]
    have h9 := txt_len k10
    have h10 := sepT_len (tok := atmK) ys
    simp only [decide_true, if_true, List.tail_cons]
    rw [bodyGo_read ys y _ [] A5 _ h6 (by simpa using h5) (by simp only [List.length_append, List.length_cons] at h9 ⊢; omega) (by rw [isT_cons, k5]; decide) k10, bu_ok, must_cons k5, bu_ok]
    rfl
theorem item_dom {e : Nat} {x : Pgm} {d : Dm} (h : dmB d = true) (hl : x.doms.length < 32) {A L : List Sgn} (hA : Txt A (dmK d)) : itemU e x (A ++ L) = .ok (⟨x.doms ++ [d], x.decls, x.rules⟩, L) := by
  simp only [dmB, Bool.and_eq_true, decide_eq_true_eq] at h
  obtain ⟨⟨h1, h2⟩, h3⟩ := h
  obtain ⟨dn, dz⟩ := d
  obtain ⟨a, A1, rfl, k1, k2, k3⟩ := txt_cons hA
  obtain ⟨b, A2, rfl, k4, k5, k6⟩ := txt_cons k3
  obtain ⟨c, A3, rfl, k7, k8, k9⟩ := txt_cons k6
  obtain ⟨p, A4, rfl, k10, k11, k12⟩ := txt_cons k9
  rw [txt_nil k12]
  simp only [List.cons_append, List.nil_append]
  unfold itemU domU
  simp only at k4 k7 h1 h2 h3
  rw [isT_cons, k1]
  simp only [decide_true, if_true]
  rw [room_less hl, bu_ok, must_cons k1, bu_ok, name_cons k5 (by rw [k4]; exact h1), bu_ok, num_cons (num_kind k8 k7 h2 h3), bu_ok, must_cons k10, bu_ok, k4, k7, numN_itoa h2]
theorem item_rel {e : Nat} {x : Pgm} {d : Dcl} (h : dclB d = true) (hl : x.decls.length < 32) {A L : List Sgn} (hA : Txt A (dclK d)) : itemU e x (A ++ L) = .ok (⟨x.doms, x.decls ++ [d], x.rules⟩, L) := by
  simp only [dclB, Bool.and_eq_true, decide_eq_true_eq, List.all_eq_true] at h
  obtain ⟨⟨⟨h1, h2⟩, h3⟩, h4⟩ := h
  obtain ⟨dn, ds⟩ := d
  obtain ⟨a, A1, rfl, k1, k2, k3⟩ := txt_cons hA
  obtain ⟨b, A2, rfl, k4, k5, k6⟩ := txt_cons k3
  have hne : ds ≠ [] := by intro e; rw [e] at h2; simp at h2
  obtain ⟨A3, k7, k8⟩ := list_read (e := e) (one := nameU e) (ks := [1]) (L := L) hne h3 (fun y hy A L hA => by
    obtain ⟨x, A', rfl, j1, j2, j3⟩ := txt_cons hA
    rw [txt_nil j3, List.cons_append, List.nil_append, name_cons j2 (by rw [j1]; exact h4 y hy), j1]) k6
  obtain ⟨p, A4, rfl, k10, k11, k12⟩ := txt_cons k7
  rw [txt_nil k12] at k8
  simp only [List.cons_append, List.nil_append] at k8 ⊢
  unfold itemU relU
  simp only at k4 h1 h2 h3
  rw [isT_cons, k1, isT_cons, k1]
  simp only [show decide (([114, 101, 108] : List UInt8) = [100, 111, 109]) = false from by decide, Bool.false_eq_true, if_false, decide_true, if_true]
  rw [room_less hl, bu_ok, must_cons k1, bu_ok, name_cons k5 (by rw [k4]; exact h1), bu_ok, k8, bu_ok, must_cons k10, bu_ok, k4]
theorem item_rule {e : Nat} {x : Pgm} {d : Rul} (h : rulB d = true) (hl : x.rules.length < 64) {A L : List Sgn} (hA : Txt A (rulK d)) : itemU e x (A ++ L) = .ok (⟨x.doms, x.decls, x.rules ++ [d]⟩, L) := by
  have h' := h
  simp only [rulB, Bool.and_eq_true, decide_eq_true_eq, List.all_eq_true, Bool.not_eq_true'] at h'
  obtain ⟨⟨⟨⟨⟨h1, h2⟩, h3⟩, h4⟩, h5⟩, h6⟩ := h'
  have hr := rule_read (e := e) (L := L) h hA
  obtain ⟨⟨nt, rel, ts⟩, bd⟩ := d
  simp only at h2 h3 h4
  subst h2
  simp only [rulK, atmK, Bool.false_eq_true, if_false, List.cons_append, List.nil_append, List.append_assoc] at hA
  obtain ⟨a, A1, rfl, k1, k2, k3⟩ := txt_cons hA
  unfold itemU rulU
  rw [List.cons_append] at hr ⊢
  rw [isT_cons, k1, isT_cons, k1]
  simp only [h3, h4, decide_false, Bool.false_eq_true, if_false]
  rw [room_less hl, bu_ok, hr, bu_ok]
theorem items_read {e : Nat} : ∀ (ds : List Dm) (cs : List Dcl) (rs : List Rul) (x : Pgm) (f : Nat) (A : List Sgn),
    (∀ d, d ∈ ds → dmB d = true) → (∀ d, d ∈ cs → dclB d = true) → (∀ y, y ∈ rs → rulB y = true) → x.doms.length + ds.length ≤ 32 → x.decls.length + cs.length ≤ 32 → x.rules.length + rs.length ≤ 64 → A.length < f →
    Txt A (pgmK ⟨ds, cs, rs⟩) → itemsU e f x A = .ok (⟨x.doms ++ ds, x.decls ++ cs, x.rules ++ rs⟩, [])
  | ds, cs, rs, x, 0, A, _, _, _, _, _, _, hf, _ => by omega
  | d :: ds, cs, rs, x, f + 1, A, h1, h2, h3, l1, l2, l3, hf, hA => by
    simp only [pgmK, List.map_cons, List.flatten_cons, List.append_assoc] at hA
    obtain ⟨A1, A2, rfl, k1, k2⟩ := txt_app hA
    have hne : A1 ++ A2 ≠ [] := by obtain ⟨a, A', rfl, _⟩ := txt_cons k1; simp
    simp only [List.length_cons] at l1
    have hlen : A2.length < (A1 ++ A2).length := by obtain ⟨a, A', rfl, _⟩ := txt_cons k1; simp only [List.length_append, List.length_cons]; omega
    unfold itemsU
    rw [if_neg hne, item_dom (h1 d (by simp)) (by omega) k1, bu_ok]
    rw [items_read (e := e) ds cs rs ⟨x.doms ++ [d], x.decls, x.rules⟩ f A2 (fun y hy => h1 y (by simp [hy])) h2 h3 (by simp only [List.length_append, List.length_cons, List.length_nil]; omega) l2 l3 (by omega) k2]
    simp
  | [], d :: cs, rs, x, f + 1, A, h1, h2, h3, l1, l2, l3, hf, hA => by
    simp only [pgmK, List.map_nil, List.flatten_nil, List.nil_append, List.map_cons, List.flatten_cons, List.append_assoc] at hA
    obtain ⟨A1, A2, rfl, k1, k2⟩ := txt_app hA
    have hne : A1 ++ A2 ≠ [] := by obtain ⟨a, A', rfl, _⟩ := txt_cons k1; simp
    simp only [List.length_cons] at l2
    have hlen : A2.length < (A1 ++ A2).length := by obtain ⟨a, A', rfl, _⟩ := txt_cons k1; simp only [List.length_append, List.length_cons]; omega
    unfold itemsU
    rw [if_neg hne, item_rel (h2 d (by simp)) (by omega) k1, bu_ok]
    rw [items_read (e := e) [] cs rs ⟨x.doms, x.decls ++ [d], x.rules⟩ f A2 h1 (fun y hy => h2 y (by simp [hy])) h3 l1 (by simp only [List.length_append, List.length_cons, List.length_nil]; omega) l3 (by omega) (by simpa [pgmK] using k2)]
    simp
  | [], [], d :: rs, x, f + 1, A, h1, h2, h3, l1, l2, l3, hf, hA => by
    simp only [pgmK, List.map_nil, List.flatten_nil, List.nil_append, List.map_cons, List.flatten_cons, List.append_assoc] at hA
    obtain ⟨A1, A2, rfl, k1, k2⟩ := txt_app hA
    have hlen : A2.length < (A1 ++ A2).length := by
      have := txt_len k1
      simp only [rulK, List.length_append, List.length_cons] at this ⊢; omega
    have hne : A1 ++ A2 ≠ [] := by intro e; rw [e] at hlen; simp at hlen
    simp only [List.length_cons] at l3
    unfold itemsU
    rw [if_neg hne, item_rule (h3 d (by simp)) (by omega) k1, bu_ok]
    rw [items_read (e := e) [] [] rs ⟨x.doms, x.decls, x.rules ++ [d]⟩ f A2 h1 h2 (fun y hy => h3 y (by simp [hy])) l1 l2 (by simp only [List.length_append, List.length_cons, List.length_nil]; omega) (by omega) (by simpa [pgmK] using k2)]
    simp
  | [], [], [], x, f + 1, A, h1, h2, h3, l1, l2, l3, hf, hA => by
    simp only [pgmK, List.map_nil, List.flatten_nil, List.nil_append] at hA
    rw [txt_nil hA]
    simp [itemsU]
/-- There and back. -/
theorem uprint_parse {x : Pgm} (h : pgmB x = true) {L : List Sgn} (hL : lexSigns (pgmT x) = .ok L) : parseR (pgmT x) = .ok x := by
  have hT := uprint_lex h hL
  simp only [pgmB, Bool.and_eq_true, decide_eq_true_eq, List.all_eq_true] at h
  obtain ⟨⟨⟨⟨⟨k1, k2⟩, k3⟩, k4⟩, k5⟩, k6⟩ := h
  rw [parseR_ok hL, items_read x.doms x.decls x.rules _ _ L k4 k5 k6 (by simpa using k1) (by simpa using k2) (by simpa using k3) (by omega) hT]
  rfl
end Go.Proofs.YtbfgdblebepgcaaDoor
