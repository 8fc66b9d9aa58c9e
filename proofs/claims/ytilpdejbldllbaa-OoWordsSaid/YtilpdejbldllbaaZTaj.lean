/- What is proved: Signs of a text that is made of names, marks and blanks: plain facts; The signs of a source's text: plain facts; The signs of a source's text, on: plain facts; The signs of a source's text, whole: plain facts. Conditions: those that stand in the statements. -/
import Derived.Test.YtilpdejbldllbaaZOy
set_option linter.unusedSimpArgs false
set_option linter.unusedVariables false
set_option maxRecDepth 100000
namespace Go.Proofs.Ytilpdejbldllbaa
open Go.RowKit

/-- What follows does not go on with a name. -/
def NP (r : List UInt8) : Prop := ∀ c t, r = c :: t → partB c = false
theorem NP.nil : NP [] := fun c t h => by cases h
theorem NP.cons {c : UInt8} {t : List UInt8} (h : partB c = false) : NP (c :: t) := fun c' t' e => by injection e with e1 e2; subst e1; exact h
theorem NP.app {b r : List UInt8} (h : NP b) (hb : b ≠ []) : NP (b ++ r) := by
  cases b with
  | nil => exact absurd rfl hb
  | cons c t => exact NP.cons (h c t rfl)
def Txt (A : List Sgn) (T : List (List UInt8)) : Prop := A.map (·.text) = T ∧ ∀ x, x ∈ A → signB x = true
theorem Txt.app {A B : List Sgn} {T U : List (List UInt8)} (h : Txt A T) (k : Txt B U) : Txt (A ++ B) (T ++ U) :=
  ⟨by rw [List.map_append, h.1, k.1], fun x hx => by rcases List.mem_append.1 hx with hx | hx; exact h.2 x hx; exact k.2 x hx⟩
/-- Whatever follows, these bytes are these signs. -/
def LexE (b : List UInt8) (T : List (List UInt8)) : Prop := ∀ (r : List UInt8) (a : Nat) (out L : List Sgn), lexR (b ++ r) a out = .ok L → ∃ (A : List Sgn) (a' : Nat), Txt A T ∧ lexR r a' (out ++ A) = .ok L
/-- The same, if no name goes on behind. -/
def LexN (b : List UInt8) (T : List (List UInt8)) : Prop := ∀ (r : List UInt8) (a : Nat) (out L : List Sgn), NP r → lexR (b ++ r) a out = .ok L → ∃ (A : List Sgn) (a' : Nat), Txt A T ∧ lexR r a' (out ++ A) = .ok L
theorem LexE.n {b : List UInt8} {T : List (List UInt8)} (h : LexE b T) : LexN b T := fun r a out L _ e => h r a out L e
theorem LexE.nil : LexE [] [] := fun r a out L h => ⟨[], a, ⟨rfl, fun x hx => by cases hx⟩, by simpa using h⟩
theorem LexE.app {b c : List UInt8} {T U : List (List UInt8)} (h : LexE b T) (k : LexE c U) : LexE (b ++ c) (T ++ U) := fun r a out L e => by
  rw [List.append_assoc] at e
  obtain ⟨A, a1, h1, h2⟩ := h _ _ _ _ e
  obtain ⟨B, a2, k1, k2⟩ := k _ _ _ _ h2
  exact ⟨A ++ B, a2, h1.app k1, by rw [← List.append_assoc]; exact k2⟩
theorem LexE.appN {b c : List UInt8} {T U : List (List UInt8)} (h : LexE b T) (k : LexN c U) : LexN (b ++ c) (T ++ U) := fun r a out L n e => by
  rw [List.append_assoc] at e
  obtain ⟨A, a1, h1, h2⟩ := h _ _ _ _ e
  obtain ⟨B, a2, k1, k2⟩ := k _ _ _ _ n h2
  exact ⟨A ++ B, a2, h1.app k1, by rw [← List.append_assoc]; exact k2⟩
theorem LexN.app {b c : List UInt8} {T U : List (List UInt8)} (h : LexN b T) (k : LexE c U) (hc : c ≠ []) (hp : NP c) : LexE (b ++ c) (T ++ U) := fun r a out L e => by
  rw [List.append_assoc] at e
  obtain ⟨A, a1, h1, h2⟩ := h _ _ _ _ (hp.app hc) e
  obtain ⟨B, a2, k1, k2⟩ := k _ _ _ _ h2
  exact ⟨A ++ B, a2, h1.app k1, by rw [← List.append_assoc]; exact k2⟩
theorem LexE.blank {c : UInt8} (h : blankB c = true) : LexE [c] [] := fun r a out L e => by
  rw [List.cons_append, List.nil_append, lexR_blank h] at e
  exact ⟨[], a + 1, ⟨rfl, fun x hx => by cases hx⟩, by simpa using e⟩
/-- One sign. -/
theorem lex_one {t r : List UInt8} {k : Nat} {a : Nat} {out L : List Sgn} (ht : t ≠ []) (hb : ∀ c s, t = c :: s → blankB c = false ∧ ¬ c.toNat = 35) (ho : oneK (t ++ r) = (k, t.length)) (ho2 : oneK t = (k, t.length)) (e : lexR (t ++ r) a out = .ok L) :
    ∃ (A : List Sgn) (a' : Nat), Txt A [t] ∧ lexR r a' (out ++ A) = .ok L := by
  cases t with
  | nil => exact absurd rfl ht
  | cons c s =>
    obtain ⟨h1, h2⟩ := hb c s rfl
    rw [List.cons_append] at ho e
    rw [lexR_sign h1 h2, ho] at e
    split at e
    · cases e
    · split at e
      · cases e
      · refine ⟨[⟨k, c :: s, a⟩], a + (c :: s).length, ⟨rfl, fun x hx => ?_⟩, ?_⟩
        · simp only [List.mem_singleton] at hx
          subst hx
          simp [signB, ho2]
        · rw [← List.cons_append, List.drop_left' rfl, List.take_left' rfl] at e
          exact e
theorem LexE.mark (c : UInt8) (h : c = 40 ∨ c = 41 ∨ c = 123 ∨ c = 125 ∨ c = 44 ∨ c = 46 ∨ c = 59 ∨ c = 61) : LexE [c] [[c]] := fun r a out L e => by
  refine lex_one (k := 3) (by simp) (fun c' s e => ?_) ?_ ?_ e
  · injection e with e1 e2; subst e1
    rcases h with rfl | rfl | rfl | rfl | rfl | rfl | rfl | rfl <;> exact ⟨by decide, by decide⟩
  · rcases h with rfl | rfl | rfl | rfl | rfl | rfl | rfl | rfl <;> simp [oneK, digB, partB, markN, List.isPrefixOf, marks] <;> decide
  · rcases h with rfl | rfl | rfl | rfl | rfl | rfl | rfl | rfl <;> decide
theorem LexE.colons : LexE [58, 58] [[58, 58]] := fun r a out L e => by
  refine lex_one (k := 3) (by simp) (fun c' s e => ?_) ?_ ?_ e
  · injection e with e1 e2; subst e1; exact ⟨by decide, by decide⟩
  · simp [oneK, digB, partB, markN, List.isPrefixOf]
  · decide
theorem runN_np {r : List UInt8} (h : NP r) : runN partB r = 0 := by
  cases r with
  | nil => rfl
  | cons c s => rw [runN_cons, h c s rfl]; rfl
theorem runN_full : ∀ (t r : List UInt8), runN partB t = t.length → NP r → runN partB (t ++ r) = t.length
  | [], r, _, h => runN_np h
  | c :: t, r, h, hr => by
    rw [List.cons_append, runN_cons]
    rw [runN_cons] at h
    cases hc : partB c with
    | false => rw [hc] at h; simp at h
    | true =>
      rw [hc] at h
      simp only [if_true, List.length_cons] at h ⊢
      have := runN_full t r (by omega) hr
      omega
theorem name_one {t : List UInt8} (h : signB ⟨1, t, 0⟩ = true) : ∃ c s, t = c :: s ∧ digB c = false ∧ partB c = true ∧ runN partB (c :: s) = (c :: s).length ∧ ¬ 32 < (c :: s).length := by
  simp only [signB, Bool.and_eq_true, decide_eq_true_eq] at h
  obtain ⟨h1, h2⟩ := h
  cases t with
  | nil => exact absurd rfl h1
  | cons c s =>
    refine ⟨c, s, rfl, ?_⟩
    simp only [oneK] at h2
    split at h2
    · split at h2 <;> simp at h2
    · rename_i hd
      split at h2
      · rename_i hp
        split at h2
        · simp at h2
        · rename_i h32
          injection h2 with _ h3
          exact ⟨by simpa using hd, hp, h3, by omega⟩
      · simp at h2
theorem part_plain {c : UInt8} (h : partB c = true) : blankB c = false ∧ ¬ c.toNat = 35 := by
  constructor
  · rw [blankB_mem, decide_eq_false_iff_not]
    rintro (rfl | rfl | rfl | rfl) <;> simp [partB, digB] at h
  · intro e
    have : c = 35 := UInt8.toNat_inj.1 e
    subst this
    simp [partB, digB] at h
theorem LexN.name {t : List UInt8} (h : signB ⟨1, t, 0⟩ = true) : LexN t [t] := fun r a out L hr e => by
  obtain ⟨c, s, rfl, hd, hp, hn, h32⟩ := name_one h
  have hn2 := runN_full (c :: s) r hn hr
  rw [List.cons_append] at hn2
  refine lex_one (k := 1) (by simp) (fun c' s' e => ?_) ?_ ?_ e
  · injection e with e1 e2; subst e1; exact part_plain hp
  · rw [List.cons_append]
    simp only [oneK, hd, hp, if_true, Bool.false_eq_true, if_false, hn2, if_neg h32]
  · simp only [oneK, hd, hp, if_true, Bool.false_eq_true, if_false, hn, if_neg h32]
end Go.Proofs.Ytilpdejbldllbaa
set_option maxRecDepth 100000
namespace Go.Proofs.Ytilpdejbldllbaa
open Go.RowKit

theorem may_cases {x : Stm} (h : mayB x = true) :
    (∃ d m, x = .mk 1 d [] [] m [] [] [] ∧ isNameB d = true ∧ isNameB m = true) ∨ (∃ d s, x = .mk 2 d s [] [] [] [] [] ∧ isNameB d = true ∧ isNameB s = true) ∨
    (∃ d s m, x = .mk 3 d s [] m [] [] [] ∧ isNameB d = true ∧ isNameB s = true ∧ isNameB m = true) ∨ (∃ d s m, x = .mk 4 d s [] m [] [] [] ∧ isNameB d = true ∧ isNameB s = true ∧ isNameB m = true) ∨
    (∃ d s m ar, x = .mk 5 d s [] m ar [] [] ∧ (d = [] ∨ isNameB d = true) ∧ isNameB s = true ∧ isNameB m = true ∧ namesB ar = true) ∨
    (∃ d c m ar, x = .mk 6 d [] c m ar [] [] ∧ (d = [] ∨ isNameB d = true) ∧ isNameB c = true ∧ isNameB m = true ∧ namesB ar = true) ∨
    (∃ s, x = .mk 7 [] s [] [] [] [] [] ∧ isNameB s = true) ∨ (∃ o t, x = .mk 8 [] [] [] [] [] o t) ∨ (∃ o, x = .mk 9 [] [] [] [] [] o []) := by
  obtain ⟨k, d, s, c, m, ar, o, t⟩ := x
  simp only [mayB, needL] at h
  repeat' split at h
  all_goals simp only [Bool.and_eq_true, List.isEmpty_iff, List.all_cons, List.all_nil, Bool.or_eq_true, and_true, Bool.false_eq_true, and_false] at h
  all_goals simp_all
  all_goals first | grind | (refine ⟨_, _, ⟨rfl, rfl⟩, ?_⟩; simp_all; done) | (refine ⟨_, _, _, ⟨rfl, rfl, rfl⟩, ?_⟩; simp_all; done) | (refine ⟨_, _, _, _, ⟨rfl, rfl, rfl, rfl⟩, ?_⟩; simp_all; done)

def dstT (d : List UInt8) : List (List UInt8) := if d = [] then [] else [d, [61]]
def tailT (l : List (List UInt8)) : List (List UInt8) := (l.map fun x => [[44], x]).flatten
def argT : List (List UInt8) → List (List UInt8)
  | [] => []
  | x :: l => x :: tailT l
def namesT (l : List (List UInt8)) : List (List UInt8) := [40] :: (argT l ++ [[41]])
mutual
def stmT : Stm → List (List UInt8)
  | .mk k d s c m ar o t =>
    if k = 1 then dstT d ++ [[110, 101, 119], m, [59]]
    else if k = 2 then dstT d ++ [s, [59]]
    else if k = 3 then dstT d ++ [s, [46], m, [59]]
    else if k = 4 then [d, [46], m, [61], s, [59]]
    else if k = 5 then dstT d ++ [s, [46], m] ++ namesT ar ++ [[59]]
    else if k = 6 then dstT d ++ [c, [58, 58], m] ++ namesT ar ++ [[59]]
    else if k = 7 then [[114, 101, 116, 117, 114, 110], s, [59]]
    else if k = 8 then [[105, 102], [123]] ++ blkT o ++ [[125], [101, 108, 115, 101], [123]] ++ blkT t ++ [[125]]
    else if k = 9 then [[108, 111, 111, 112], [123]] ++ blkT o ++ [[125]]
    else []
def blkT : List Stm → List (List UInt8)
  | [] => []
  | x :: l => stmT x ++ blkT l
end
theorem isName_sign {t : List UInt8} (h : isNameB t = true) : signB ⟨1, t, 0⟩ = true := by simp only [isNameB, Bool.and_eq_true] at h; exact h.1
theorem LexN.nm {t : List UInt8} (h : isNameB t = true) : LexN t [t] := LexN.name (isName_sign h)
theorem LexE.cast {b b' : List UInt8} {T T' : List (List UInt8)} (h : LexE b T) (e : b = b') (e2 : T = T') : LexE b' T' := by subst e; subst e2; exact h
/-- A name or a word, and behind it something that is none. -/
theorem LexE.nw {t c : List UInt8} {T : List (List UInt8)} (h : signB ⟨1, t, 0⟩ = true) (k : LexE c T) (hc : c ≠ [] ∧ NP c) : LexE (t ++ c) (t :: T) := (LexN.name h).app k hc.1 hc.2
theorem LexE.mk {c : UInt8} {r : List UInt8} {T : List (List UInt8)} (k : LexE r T) (h : c = 40 ∨ c = 41 ∨ c = 123 ∨ c = 125 ∨ c = 44 ∨ c = 46 ∨ c = 59 ∨ c = 61) : LexE (c :: r) ([c] :: T) := (LexE.mark c h).app k
theorem LexE.bl {c : UInt8} {r : List UInt8} {T : List (List UInt8)} (k : LexE r T) (h : blankB c = true) : LexE (c :: r) T := (LexE.blank h).app k
theorem LexE.co {r : List UInt8} {T : List (List UInt8)} (k : LexE r T) : LexE (58 :: 58 :: r) ([58, 58] :: T) := LexE.colons.app k
theorem np_c {c : UInt8} {r : List UInt8} (h : partB c = false) : c :: r ≠ [] ∧ NP (c :: r) := ⟨by simp, NP.cons h⟩
theorem LexE.pad (n : Nat) {r : List UInt8} {T : List (List UInt8)} (k : LexE r T) : LexE (Lib.repeatL [32, 32] n ++ r) T := by
  induction n with
  | zero => simpa [Lib.repeatL] using k
  | succ n ih =>
    simp only [Lib.repeatL, List.cons_append, List.nil_append]
    exact (ih.bl (by decide)).bl (by decide)
theorem LexE.tail {l : List (List UInt8)} (hl : ∀ x, x ∈ l → isNameB x = true) {r : List UInt8} {T : List (List UInt8)} (k : LexE r T) (hr : r ≠ [] ∧ NP r) :
    LexE (Lib.joinTail [44, 32] l ++ r) (tailT l ++ T) ∧ (Lib.joinTail [44, 32] l ++ r ≠ [] ∧ NP (Lib.joinTail [44, 32] l ++ r)) := by
  induction l with
  | nil => exact ⟨by simpa [Lib.joinTail, tailT] using k, by simpa [Lib.joinTail] using hr⟩
  | cons x l ih =>
    obtain ⟨h1, h2⟩ := ih (fun y hy => hl y (by simp [hy]))
    have h3 := LexE.nw (isName_sign (hl x (by simp))) h1 h2
    constructor
    · exact ((h3.bl (c := 32) (by decide)).mk (c := 44) (by decide)).cast (by simp [Lib.joinTail]) (by simp [tailT])
    · rw [show Lib.joinTail [44, 32] (x :: l) ++ r = 44 :: (32 :: (x ++ (Lib.joinTail [44, 32] l ++ r))) by simp [Lib.joinTail]]
      exact np_c (by decide)
theorem LexE.args {ar : List (List UInt8)} (h : ∀ x, x ∈ ar → isNameB x = true) {r : List UInt8} {T : List (List UInt8)} (k : LexE r T) : LexE (40 :: (Lib.join ar [44, 32] ++ 41 :: r)) (namesT ar ++ T) := by
  have h1 := k.mk (c := 41) (by decide)
  cases ar with
  | nil => exact (h1.mk (c := 40) (by decide)).cast (by simp [Lib.join_nil]) (by simp [namesT, argT])
  | cons x l =>
    obtain ⟨h2, h3⟩ := LexE.tail (l := l) (fun y hy => h y (by simp [hy])) h1 (np_c (by decide))
    exact ((LexE.nw (isName_sign (h x (by simp))) h2 h3).mk (c := 40) (by decide)).cast (by simp [Lib.join_cons]) (by simp [namesT, argT])
theorem LexE.dst {d : List UInt8} (hd : d = [] ∨ isNameB d = true) {r : List UInt8} {T : List (List UInt8)} (k : LexE r T) : LexE (dstB d ++ r) (dstT d ++ T) := by
  by_cases h0 : d = []
  · subst h0; simpa [dstB, dstT] using k
  · rcases hd with hd | hd
    · exact absurd hd h0
    · exact (LexE.nw (isName_sign hd) (((k.bl (c := 32) (by decide)).mk (c := 61) (by decide)).bl (c := 32) (by decide)) (np_c (by decide))).cast (by simp [dstB, h0]) (by simp [dstT, h0])
theorem LexE.nl {r : List UInt8} {T : List (List UInt8)} (k : LexE r T) : LexE (10 :: r) T := k.bl (by decide)
end Go.Proofs.Ytilpdejbldllbaa
set_option maxRecDepth 100000
namespace Go.Proofs.Ytilpdejbldllbaa
open Go.RowKit

theorem joinTail_fl (l : List (List UInt8)) : Lib.joinTail [] l = l.flatten := by
  induction l with
  | nil => rfl
  | cons x l ih => simp [Lib.joinTail]
theorem join_fl (l : List (List UInt8)) : Lib.join l [] = l.flatten := by
  cases l with
  | nil => rfl
  | cons x l => rw [Lib.join_cons, joinTail_fl]; rfl
theorem namesB_all {ar : List (List UInt8)} (h : namesB ar = true) : ∀ x, x ∈ ar → isNameB x = true := by
  simp only [namesB, Bool.and_eq_true] at h
  exact fun x hx => List.all_eq_true.1 h.2 x hx
theorem kw_sign : signB ⟨1, [99, 108, 97, 115, 115], 0⟩ = true ∧ signB ⟨1, [101, 120, 116, 101, 110, 100, 115], 0⟩ = true ∧ signB ⟨1, [115, 116, 97, 116, 105, 99], 0⟩ = true ∧ signB ⟨1, [110, 101, 119], 0⟩ = true ∧ signB ⟨1, [114, 101, 116, 117, 114, 110], 0⟩ = true ∧ signB ⟨1, [105, 102], 0⟩ = true ∧ signB ⟨1, [101, 108, 115, 101], 0⟩ = true ∧ signB ⟨1, [108, 111, 111, 112], 0⟩ = true := by
  refine ⟨?_, ?_, ?_, ?_, ?_, ?_, ?_, ?_⟩ <;> decide
mutual
theorem stm_lex : ∀ (x : Stm) (dp d : Nat), okS x dp = true → ∀ (r : List UInt8) (T : List (List UInt8)), LexE r T → LexE (stmB x d ++ r) (stmT x ++ T)
  | .mk k dd s c m ar o t, dp, d, h, r, T, hk => by
    obtain ⟨k1, k2, k3, k4, k5, k6, k7, k8⟩ := kw_sign
    have hmay := okS_may h
    rcases may_cases hmay with ⟨d', m', e, hd, hm⟩ | ⟨d', s', e, hd, hs⟩ | ⟨d', s', m', e, hd, hs, hm⟩ | ⟨d', s', m', e, hd, hs, hm⟩ | ⟨d', s', m', ar', e, hd, hs, hm, ha⟩ | ⟨d', s', m', ar', e, hd, hs, hm, ha⟩ | ⟨s', e, hs⟩ | ⟨o', t', e⟩ | ⟨o', e⟩
    all_goals clear hmay
    all_goals (injection e with e1 e2 e3 e4 e5 e6 e7 e8; subst e1; subst e2; subst e3; subst e4; subst e5; subst e6; subst e7; subst e8)
    · exact (LexE.pad d (LexE.dst (.inr hd) (LexE.nw k4 ((LexE.nw (isName_sign hm) (hk.nl.mk (c := 59) (by decide)) (np_c (by decide))).bl (c := 32) (by decide)) (np_c (by decide))))).cast (by simp [stmB, lineB, join_fl]) (by simp [stmT])
    · exact (LexE.pad d (LexE.dst (.inr hd) (LexE.nw (isName_sign hs) (hk.nl.mk (c := 59) (by decide)) (np_c (by decide))))).cast (by simp [stmB, lineB, join_fl]) (by simp [stmT])
    · exact (LexE.pad d (LexE.dst (.inr hd) (LexE.nw (isName_sign hs) ((LexE.nw (isName_sign hm) (hk.nl.mk (c := 59) (by decide)) (np_c (by decide))).mk (c := 46) (by decide)) (np_c (by decide))))).cast (by simp [stmB, lineB, join_fl]) (by simp [stmT])
    · exact (LexE.pad d (LexE.nw (isName_sign hd) ((LexE.nw (isName_sign hm) ((((LexE.nw (isName_sign hs) (hk.nl.mk (c := 59) (by decide)) (np_c (by decide))).bl (c := 32) (by decide)).mk (c := 61) (by decide)).bl (c := 32) (by decide)) (np_c (by decide))).mk (c := 46) (by decide)) (np_c (by decide)))).cast (by simp [stmB, lineB, join_fl]) (by simp [stmT])
    · exact (LexE.pad d (LexE.dst hd (LexE.nw (isName_sign hs) ((LexE.nw (isName_sign hm) (LexE.args (namesB_all ha) (hk.nl.mk (c := 59) (by decide))) (np_c (by decide))).mk (c := 46) (by decide)) (np_c (by decide))))).cast (by simp [stmB, lineB, join_fl, argsB]) (by simp [stmT])
    · exact (LexE.pad d (LexE.dst hd (LexE.nw (isName_sign hs) (LexE.nw (isName_sign hm) (LexE.args (namesB_all ha) (hk.nl.mk (c := 59) (by decide))) (np_c (by decide))).co (np_c (by decide))))).cast (by simp [stmB, lineB, join_fl, argsB]) (by simp [stmT])
    · exact (LexE.pad d (LexE.nw k5 ((LexE.nw (isName_sign hs) (hk.nl.mk (c := 59) (by decide)) (np_c (by decide))).bl (c := 32) (by decide)) (np_c (by decide)))).cast (by simp [stmB, lineB, join_fl]) (by simp [stmT])
    · have h2 : okA o (dp + 1) = true ∧ okA t (dp + 1) = true := by
        simp only [okS, Bool.and_eq_true, seval, if_true, if_false] at h
        exact ⟨h.2.1.2, h.2.2⟩
      exact (LexE.pad d (LexE.nw k6 (((blk_lex o (dp + 1) (d + 1) h2.1 _ _ (LexE.pad d (((LexE.nw k7 (((blk_lex t (dp + 1) (d + 1) h2.2 _ _ (LexE.pad d (hk.nl.mk (c := 125) (by decide)))).nl.mk (c := 123) (by decide)).bl (c := 32) (by decide)) (np_c (by decide))).bl (c := 32) (by decide)).mk (c := 125) (by decide)))).nl.mk (c := 123) (by decide)).bl (c := 32) (by decide)) (np_c (by decide)))).cast (by simp [stmB, lineB, join_fl]) (by simp [stmT])
    · have h2 : okA o (dp + 1) = true := by
        simp only [okS, Bool.and_eq_true, seval, if_true, if_false] at h
        exact h.2.2
      exact (LexE.pad d (LexE.nw k8 (((blk_lex o (dp + 1) (d + 1) h2 _ _ (LexE.pad d (hk.nl.mk (c := 125) (by decide)))).nl.mk (c := 123) (by decide)).bl (c := 32) (by decide)) (np_c (by decide)))).cast (by simp [stmB, lineB, join_fl]) (by simp [stmT])
theorem blk_lex : ∀ (l : List Stm) (dp d : Nat), okA l dp = true → ∀ (r : List UInt8) (T : List (List UInt8)), LexE r T → LexE (blkB l d ++ r) (blkT l ++ T)
  | [], dp, d, h, r, T, hk => by simpa [blkB, blkT] using hk
  | x :: l, dp, d, h, r, T, hk => by
    simp only [okA, Bool.and_eq_true] at h
    exact (stm_lex x dp d h.1 _ _ (blk_lex l dp d h.2 r T hk)).cast (by simp [blkB]) (by simp [blkT])
end
end Go.Proofs.Ytilpdejbldllbaa
set_option maxRecDepth 100000
namespace Go.Proofs.Ytilpdejbldllbaa
open Go.RowKit

def mthT (m : Mth) : List (List UInt8) := (if m.stat = true then [[115, 116, 97, 116, 105, 99]] else []) ++ [m.nm] ++ namesT m.pars ++ [[123]] ++ blkT m.body ++ [[125]]
def mthsT : List Mth → List (List UInt8)
  | [] => []
  | m :: l => mthT m ++ mthsT l
def clsT (c : Cls) : List (List UInt8) := [[99, 108, 97, 115, 115], c.nm] ++ (if c.par = [] then [] else [[101, 120, 116, 101, 110, 100, 115], c.par]) ++ [[123]] ++ mthsT c.mths ++ [[125]]
def srcT : List Cls → List (List UInt8)
  | [] => []
  | c :: l => clsT c ++ srcT l
theorem mth_lex (m : Mth) (h : headM m = true) (hb : okA m.body 1 = true) (r : List UInt8) (T : List (List UInt8)) (hk : LexE r T) : LexE (mthB m 1 ++ r) (mthT m ++ T) := by
  obtain ⟨k1, k2, k3, k4, k5, k6, k7, k8⟩ := kw_sign
  obtain ⟨st, nm, ps, bd⟩ := m
  simp only [headM, Bool.and_eq_true] at h
  have h1 := blk_lex bd 1 2 hb _ _ (LexE.pad 1 (hk.nl.mk (c := 125) (by decide)))
  have h2 := LexE.nw (isName_sign h.1) (LexE.args (namesB_all h.2) ((h1.nl.mk (c := 123) (by decide)).bl (c := 32) (by decide))) (np_c (by decide))
  cases st with
  | false => exact (LexE.pad 1 h2).cast (by simp [mthB, lineB, join_fl, howB]) (by simp [mthT])
  | true => exact (LexE.pad 1 (LexE.nw k3 (h2.bl (c := 32) (by decide)) (np_c (by decide)))).cast (by simp [mthB, lineB, join_fl, howB]) (by simp [mthT])
theorem mths_lex : ∀ (l : List Mth), l.all headM = true → l.all (fun m => okA m.body 1) = true → ∀ (r : List UInt8) (T : List (List UInt8)), LexE r T → LexE (mthsB l 1 ++ r) (mthsT l ++ T)
  | [], _, _, r, T, hk => by simpa [mthsB, mthsT] using hk
  | m :: l, h, hb, r, T, hk => by
    simp only [List.all_cons, Bool.and_eq_true] at h hb
    exact (mth_lex m h.1 hb.1 _ _ (mths_lex l h.2 hb.2 r T hk)).cast (by simp [mthsB]) (by simp [mthsT])
theorem cls_lex (c : Cls) (h : headC c = true) (hb : c.mths.all (fun m => okA m.body 1) = true) (r : List UInt8) (T : List (List UInt8)) (hk : LexE r T) : LexE (clsB c ++ r) (clsT c ++ T) := by
  obtain ⟨k1, k2, k3, k4, k5, k6, k7, k8⟩ := kw_sign
  obtain ⟨nm, pa, ms⟩ := c
  simp only [headC, Bool.and_eq_true, Bool.or_eq_true, List.isEmpty_iff] at h
  obtain ⟨⟨⟨h1, h2⟩, _⟩, h3⟩ := h
  have h4 := mths_lex ms h3 hb _ _ (LexE.pad 0 (hk.nl.mk (c := 125) (by decide)))
  have h5 := (h4.nl.mk (c := 123) (by decide)).bl (c := 32) (by decide)
  by_cases h0 : pa = []
  · subst h0
    exact (LexE.pad 0 (LexE.nw k1 ((LexE.nw (isName_sign h1) h5 (np_c (by decide))).bl (c := 32) (by decide)) (np_c (by decide)))).cast (by simp [clsB, lineB, join_fl, parB]) (by simp [clsT])
  · rcases h2 with h2 | h2
    · exact absurd h2 h0
    · exact (LexE.pad 0 (LexE.nw k1 ((LexE.nw (isName_sign h1) ((LexE.nw k2 ((LexE.nw (isName_sign h2) h5 (np_c (by decide))).bl (c := 32) (by decide)) (np_c (by decide))).bl (c := 32) (by decide)) (np_c (by decide))).bl (c := 32) (by decide)) (np_c (by decide)))).cast (by simp [clsB, lineB, join_fl, parB, h0]) (by simp [clsT, h0])
theorem src_lex : ∀ (x : List Cls), x.all headC = true → (allM x).all (fun m => okA m.body 1) = true → LexE (prtB x) (srcT x)
  | [], _, _ => LexE.nil
  | c :: l, h, hb => by
    simp only [List.all_cons, Bool.and_eq_true] at h
    have hb' : (c.mths ++ allM l).all (fun m => okA m.body 1) = true := by simpa [allM] using hb
    rw [List.all_append, Bool.and_eq_true] at hb'
    exact (cls_lex c h.1 hb'.1 _ _ (src_lex l h.2 hb'.2)).cast (by simp [prtB]) (by simp [srcT])
/-- What a printed source is read as, by the signs. -/
theorem print_lex {x : List Cls} (h : checkB x = true) {L : List Sgn} (hL : lexSigns (prtB x) = .ok L) : Txt L (srcT x) := by
  simp only [checkB, Bool.and_eq_true] at h
  unfold lexSigns at hL
  split at hL
  · cases hL
  · have e : lexR (prtB x ++ []) 0 [] = .ok L := by rw [List.append_nil]; exact hL
    obtain ⟨A, a', h1, h2⟩ := src_lex x h.1.2 h.2.1 [] 0 [] L e
    rw [lexR_nil] at h2
    injection h2 with h2
    subst h2
    simpa using h1
end Go.Proofs.Ytilpdejbldllbaa
