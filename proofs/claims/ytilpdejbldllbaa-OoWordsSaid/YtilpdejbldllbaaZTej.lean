/- What is proved: Reading of known signs: plain facts; Reading of the signs of a statement that holds no others: plain facts; Reading of the signs of statements, methods, classes, sources: plain facts; A printed source is read as itself: plain facts. Conditions: those that stand in the statements. -/
import Derived.Test.YtilpdejbldllbaaZTaj
set_option linter.unusedSimpArgs false
set_option linter.unusedVariables false
set_option maxRecDepth 100000
namespace Go.Proofs.Ytilpdejbldllbaa
open Go.RowKit

theorem Txt.len {L : List Sgn} {T : List (List UInt8)} (h : Txt L T) : L.length = T.length := by rw [← h.1, List.length_map]
theorem Txt.tail {L : List Sgn} {t : List UInt8} {T : List (List UInt8)} (h : Txt L (t :: T)) : Txt L.tail T := by
  cases L with
  | nil => have := h.1; simp at this
  | cons x L => exact ⟨by have := h.1; simp at this; exact this.2, fun y hy => h.2 y (by simp at hy ⊢; exact .inr hy)⟩
theorem isT_txt {L : List Sgn} {T : List (List UInt8)} (h : Txt L T) (i : Nat) (u : List UInt8) : isT L i u = (match T[i]? with | some t => decide (t = u) | none => false) := by
  unfold isT
  have e : T[i]? = L[i]?.map (·.text) := by rw [← h.1, List.getElem?_map]
  rw [e]
  cases L[i]? <;> rfl
theorem mustP_txt {L : List Sgn} {t : List UInt8} {T : List (List UInt8)} (e n : Nat) (h : Txt L (t :: T)) : mustP e L n t = .ok ((), L.tail, n) := by
  unfold mustP
  rw [isT_txt h]; simp
theorem namedB_txt {L : List Sgn} {t : List UInt8} {T : List (List UInt8)} (h : Txt L (t :: T)) : namedB L = isNameB t := by
  cases L with
  | nil => have := h.1; simp at this
  | cons x L =>
    have h1 := h.1
    simp only [List.map_cons, List.cons.injEq] at h1
    have h2 := h.2 x (by simp)
    rw [← h1.1]
    simp only [signB, Bool.and_eq_true, decide_eq_true_eq] at h2
    simp only [namedB, isNameB, signB, h2.2, Prod.mk.injEq, and_true, decide_eq_true h2.1, Bool.true_and]
theorem nameP_txt {L : List Sgn} {t : List UInt8} {T : List (List UInt8)} (e n : Nat) (h : Txt L (t :: T)) (ht : isNameB t = true) : nameP e L n = .ok (t, L.tail, n) := by
  have hn := namedB_txt h
  cases L with
  | nil => have := h.1; simp at this
  | cons x L =>
    have h1 := h.1
    simp only [List.map_cons, List.cons.injEq] at h1
    simp only [nameP, hn, ht, if_true, h1.1, List.tail_cons]
theorem name_ne {t u : List UInt8} (h : isNameB t = true) (hu : isNameB u = false) : decide (t = u) = false := by
  rw [decide_eq_false_iff_not]
  rintro rfl
  rw [h] at hu; cases hu
theorem roomP_ok {L : List Sgn} {e n hv mst : Nat} {b : Bool} (h : hv < mst) : roomP e L n hv mst b = .ok ((), L, n) := by
  unfold roomP; rw [if_neg (by omega)]
theorem namesGo_tail (e : Nat) : ∀ (l : List (List UInt8)) (f : Nat) (out : List (List UInt8)) (L : List Sgn) (n : Nat) (T : List (List UInt8)), (∀ x, x ∈ l → isNameB x = true) → 0 < out.length → out.length + l.length ≤ 8 → l.length < f →
    Txt L (tailT l ++ [41] :: T) → ∃ L', namesGo e f out L n = .ok (out ++ l, L', n) ∧ Txt L' T
  | [], f + 1, out, L, n, T, _, _, _, _, h => by
    have h' : Txt L ([41] :: T) := h
    refine ⟨L.tail, ?_, h'.tail⟩
    simp only [namesGo]
    rw [isT_txt h']; simp
  | x :: l, f + 1, out, L, n, T, hl, ho, h8, hf, h => by
    have h' : Txt L ([44] :: x :: (tailT l ++ [41] :: T)) := by simpa [tailT] using h
    simp only [List.length_cons] at h8 hf
    obtain ⟨L', h1, h2⟩ := namesGo_tail e l f (out ++ [x]) L.tail.tail n T (fun y hy => hl y (by simp [hy])) (by simp) (by simp; omega) (by omega) h'.tail.tail
    refine ⟨L', ?_, h2⟩
    simp only [namesGo]
    rw [isT_txt h']
    simp only [List.getElem?_cons_zero]
    rw [if_neg (by decide), if_pos ho, mustP_txt e n h', bnd_ok, roomP_ok (by omega), bnd_ok, nameP_txt e n h'.tail (hl x (by simp)), bnd_ok, h1]
    simp
theorem namesP_txt (e : Nat) (ar : List (List UInt8)) (ha : namesB ar = true) (L : List Sgn) (n : Nat) (T : List (List UInt8)) (h : Txt L (namesT ar ++ T)) : ∃ L', namesP e L n = .ok (ar, L', n) ∧ Txt L' T := by
  have hall := namesB_all ha
  have h8 : ar.length ≤ 8 := by simp only [namesB, Bool.and_eq_true, decide_eq_true_eq] at ha; exact ha.1
  have h' : Txt L ([40] :: (argT ar ++ [41] :: T)) := by simpa [namesT] using h
  have hln := h'.tail.len
  unfold namesP
  rw [mustP_txt e n h', bnd_ok]
  cases ar with
  | nil =>
    have h2 : Txt L.tail ([41] :: T) := h'.tail
    refine ⟨L.tail.tail, ?_, h2.tail⟩
    simp only [namesGo]
    rw [isT_txt h2]; simp
  | cons x l =>
    have h2 : Txt L.tail (x :: (tailT l ++ [41] :: T)) := h'.tail
    have hx := hall x (by simp)
    simp only [List.length_cons] at h8
    have hf : l.length < L.tail.length := by
      rw [h2.len]; simp only [List.length_cons, List.length_append, tailT, List.length_flatten, List.map_map]
      have : ((l.map (List.length ∘ fun x => [[44], x])).sum) = 2 * l.length := by
        clear hall ha h h' hln h2 h8
        induction l with
        | nil => rfl
        | cons y l ih => simp only [List.map_cons, List.sum_cons, ih, Function.comp_apply, List.length_cons, List.length_nil]; omega
      omega
    obtain ⟨L', h3, h4⟩ := namesGo_tail e l L.tail.length [x] L.tail.tail n T (fun y hy => hall y (by simp [hy])) (by simp) (by simp; omega) hf h2.tail
    refine ⟨L', ?_, h4⟩
    simp only [namesGo]
    rw [isT_txt h2]
    simp only [List.getElem?_cons_zero, name_ne hx (show isNameB [41] = false by decide), Bool.false_eq_true, if_false, List.length_nil, Nat.lt_irrefl]
    rw [bnd_ok, roomP_ok (by omega), bnd_ok, nameP_txt e n h2 hx, bnd_ok]
    exact h3
end Go.Proofs.Ytilpdejbldllbaa
set_option maxRecDepth 100000
namespace Go.Proofs.Ytilpdejbldllbaa
open Go.RowKit

theorem nm_new {t : List UInt8} (h : isNameB t = true) : ¬ t = [110, 101, 119] := of_decide_eq_false (name_ne h (by decide))
theorem nm_dot {t : List UInt8} (h : isNameB t = true) : ¬ t = [46] := of_decide_eq_false (name_ne h (by decide))
theorem nm_eq {t : List UInt8} (h : isNameB t = true) : ¬ t = [61] := of_decide_eq_false (name_ne h (by decide))
theorem call6_txt (e n : Nat) (dst c m : List UInt8) (ar : List (List UInt8)) (ld : Bool) (hm : isNameB m = true) (ha : namesB ar = true) (L : List Sgn) (T : List (List UInt8)) (h : Txt L ([58, 58] :: m :: (namesT ar ++ T))) :
    ∃ L', callP e dst c ld L n = .ok (.mk 6 dst [] c m ar [] [], L', n) ∧ Txt L' T := by
  obtain ⟨L', h1, h2⟩ := namesP_txt e ar ha _ n T h.tail.tail
  refine ⟨L', ?_, h2⟩
  simp only [callP]
  rw [isT_txt h]
  simp only [List.getElem?_cons_zero, decide_true, if_true]
  rw [nameP_txt e n h.tail hm, bnd_ok, h1, bnd_ok]
theorem call5_txt (e n : Nat) (dst c m : List UInt8) (ar : List (List UInt8)) (ld : Bool) (hm : isNameB m = true) (ha : namesB ar = true) (L : List Sgn) (T : List (List UInt8)) (h : Txt L ([46] :: m :: (namesT ar ++ T))) :
    ∃ L', callP e dst c ld L n = .ok (.mk 5 dst c [] m ar [] [], L', n) ∧ Txt L' T := by
  obtain ⟨L', h1, h2⟩ := namesP_txt e ar ha _ n T h.tail.tail
  refine ⟨L', ?_, h2⟩
  have h3 : Txt L.tail.tail ([40] :: (argT ar ++ [[41]] ++ T)) := by simpa [namesT] using h.tail.tail
  simp only [callP]
  rw [isT_txt h]
  simp only [List.getElem?_cons_zero]
  rw [if_neg (by decide), mustP_txt e n h, bnd_ok, nameP_txt e n h.tail hm, bnd_ok, isT_txt h3]
  simp only [List.getElem?_cons_zero, decide_true]
  rw [if_neg (by simp), h1, bnd_ok]
theorem call3_txt (e n : Nat) (dst c m : List UInt8) (hm : isNameB m = true) (L : List Sgn) (T : List (List UInt8)) (h : Txt L ([46] :: m :: [59] :: T)) :
    callP e dst c true L n = .ok (.mk 3 dst c [] m [] [] [], L.tail.tail, n) := by
  simp only [callP]
  rw [isT_txt h]
  simp only [List.getElem?_cons_zero]
  rw [if_neg (by decide), mustP_txt e n h, bnd_ok, nameP_txt e n h.tail hm, bnd_ok, isT_txt h.tail.tail]
  simp only [List.getElem?_cons_zero]
  rw [if_pos (by decide)]
theorem plain_txt (e n : Nat) {x : Stm} (hx : mayB x = true) (hk : ∀ k d s c m ar o t, x = .mk k d s c m ar o t → k ≤ 6) (L : List Sgn) (T : List (List UInt8)) (h : Txt L (stmT x ++ T)) :
    ∃ L', plainP e L n = .ok (x, L', n) ∧ Txt L' ([59] :: T) := by
  rcases may_cases hx with ⟨d, m, rfl, hd, hm⟩ | ⟨d, s, rfl, hd, hs⟩ | ⟨d, s, m, rfl, hd, hs, hm⟩ | ⟨d, s, m, rfl, hd, hs, hm⟩ | ⟨d, s, m, ar, rfl, hd, hs, hm, ha⟩ | ⟨d, s, m, ar, rfl, hd, hs, hm, ha⟩ | ⟨s, rfl, hs⟩ | ⟨o, t, rfl⟩ | ⟨o, rfl⟩
  · have hd0 : ¬ d = [] := by rintro rfl; revert hd; decide
    have h' : Txt L (d :: [61] :: [110, 101, 119] :: m :: [59] :: T) := by simpa [stmT, dstT, hd0] using h
    refine ⟨L.tail.tail.tail.tail, ?_, h'.tail.tail.tail.tail⟩
    simp only [plainP]
    rw [nameP_txt e n h' hd, bnd_ok, isT_txt h'.tail, isT_txt h'.tail.tail]
    simp only [List.getElem?_cons_zero, decide_true, if_true]
    rw [nameP_txt e n h'.tail.tail.tail hm, bnd_ok]
  · have hd0 : ¬ d = [] := by rintro rfl; revert hd; decide
    have h' : Txt L (d :: [61] :: s :: [59] :: T) := by simpa [stmT, dstT, hd0] using h
    refine ⟨L.tail.tail.tail, ?_, h'.tail.tail.tail⟩
    simp only [plainP]
    rw [nameP_txt e n h' hd, bnd_ok, isT_txt h'.tail, isT_txt h'.tail.tail]
    simp only [List.getElem?_cons_zero, decide_true, if_true, nm_new hs, decide_false, Bool.false_eq_true, if_false]
    rw [nameP_txt e n h'.tail.tail hs, bnd_ok, isT_txt h'.tail.tail.tail, isT_txt h'.tail.tail.tail]
    simp only [List.getElem?_cons_zero]
    rw [if_neg (by decide)]
  · have hd0 : ¬ d = [] := by rintro rfl; revert hd; decide
    have h' : Txt L (d :: [61] :: s :: [46] :: m :: [59] :: T) := by simpa [stmT, dstT, hd0] using h
    refine ⟨L.tail.tail.tail.tail.tail, ?_, h'.tail.tail.tail.tail.tail⟩
    simp only [plainP]
    rw [nameP_txt e n h' hd, bnd_ok, isT_txt h'.tail, isT_txt h'.tail.tail]
    simp only [List.getElem?_cons_zero, decide_true, if_true, nm_new hs, decide_false, Bool.false_eq_true, if_false]
    rw [nameP_txt e n h'.tail.tail hs, bnd_ok, isT_txt h'.tail.tail.tail, isT_txt h'.tail.tail.tail]
    simp only [List.getElem?_cons_zero]
    rw [if_pos (by decide), call3_txt e n d s m hm _ T h'.tail.tail.tail, bnd_ok]
  · have h' : Txt L (d :: [46] :: m :: [61] :: s :: [59] :: T) := by simpa [stmT] using h
    refine ⟨L.tail.tail.tail.tail.tail, ?_, h'.tail.tail.tail.tail.tail⟩
    simp only [plainP]
    rw [nameP_txt e n h' hd, bnd_ok, isT_txt h'.tail, isT_txt h'.tail, isT_txt h'.tail]
    simp only [List.getElem?_cons_zero, List.getElem?_cons_succ]
    rw [if_neg (by decide), if_pos (by decide), mustP_txt e n h'.tail, bnd_ok, nameP_txt e n h'.tail.tail hm, bnd_ok, mustP_txt e n h'.tail.tail.tail, bnd_ok, nameP_txt e n h'.tail.tail.tail.tail hs, bnd_ok]
  · by_cases hd0 : d = []
    · subst hd0
      have h' : Txt L (s :: [46] :: m :: (namesT ar ++ [59] :: T)) := by simpa [stmT, dstT] using h
      obtain ⟨L', h1, h2⟩ := call5_txt e n [] s m ar false hm ha _ _ h'.tail
      refine ⟨L', ?_, h2⟩
      have h3 : Txt L.tail ([46] :: m :: [40] :: (argT ar ++ [[41]] ++ [59] :: T)) := by simpa [namesT] using h'.tail
      simp only [plainP]
      rw [nameP_txt e n h' hs, bnd_ok, isT_txt h3, isT_txt h3, isT_txt h3]
      simp only [List.getElem?_cons_zero, List.getElem?_cons_succ]
      rw [if_neg (by decide), if_neg (by decide), h1, bnd_ok]
    · have hd1 : isNameB d = true := by rcases hd with hd | hd; exact absurd hd hd0; exact hd
      have h' : Txt L (d :: [61] :: s :: [46] :: m :: (namesT ar ++ [59] :: T)) := by simpa [stmT, dstT, hd0] using h
      obtain ⟨L', h1, h2⟩ := call5_txt e n d s m ar true hm ha _ _ h'.tail.tail.tail
      refine ⟨L', ?_, h2⟩
      simp only [plainP]
      rw [nameP_txt e n h' hd1, bnd_ok, isT_txt h'.tail, isT_txt h'.tail.tail]
      simp only [List.getElem?_cons_zero, decide_true, if_true, nm_new hs, decide_false, Bool.false_eq_true, if_false]
      rw [nameP_txt e n h'.tail.tail hs, bnd_ok, isT_txt h'.tail.tail.tail, isT_txt h'.tail.tail.tail]
      simp only [List.getElem?_cons_zero]
      rw [if_pos (by decide), h1, bnd_ok]
  · by_cases hd0 : d = []
    · subst hd0
      have h' : Txt L (s :: [58, 58] :: m :: (namesT ar ++ [59] :: T)) := by simpa [stmT, dstT] using h
      obtain ⟨L', h1, h2⟩ := call6_txt e n [] s m ar false hm ha _ _ h'.tail
      refine ⟨L', ?_, h2⟩
      simp only [plainP]
      rw [nameP_txt e n h' hs, bnd_ok, isT_txt h'.tail, isT_txt h'.tail]
      simp only [List.getElem?_cons_zero, List.getElem?_cons_succ]
      rw [if_neg (by decide), if_neg (by intro h; exact absurd h.1 (by decide)), h1, bnd_ok]
    · have hd1 : isNameB d = true := by rcases hd with hd | hd; exact absurd hd hd0; exact hd
      have h' : Txt L (d :: [61] :: s :: [58, 58] :: m :: (namesT ar ++ [59] :: T)) := by simpa [stmT, dstT, hd0] using h
      obtain ⟨L', h1, h2⟩ := call6_txt e n d s m ar true hm ha _ _ h'.tail.tail.tail
      refine ⟨L', ?_, h2⟩
      simp only [plainP]
      rw [nameP_txt e n h' hd1, bnd_ok, isT_txt h'.tail, isT_txt h'.tail.tail]
      simp only [List.getElem?_cons_zero, decide_true, if_true, nm_new hs, decide_false, Bool.false_eq_true, if_false]
      rw [nameP_txt e n h'.tail.tail hs, bnd_ok, isT_txt h'.tail.tail.tail, isT_txt h'.tail.tail.tail]
      simp only [List.getElem?_cons_zero]
      rw [if_pos (by decide), h1, bnd_ok]
  all_goals exact absurd (hk _ _ _ _ _ _ _ _ rfl) (by decide)
end Go.Proofs.Ytilpdejbldllbaa
set_option maxRecDepth 100000
namespace Go.Proofs.Ytilpdejbldllbaa
open Go.RowKit

theorem nm_word {t : List UInt8} (h : isNameB t = true) : ¬ t = [105, 102] ∧ ¬ t = [108, 111, 111, 112] ∧ ¬ t = [114, 101, 116, 117, 114, 110] ∧ ¬ t = [125] ∧ ¬ t = [115, 116, 97, 116, 105, 99] :=
  ⟨of_decide_eq_false (name_ne h (by decide)), of_decide_eq_false (name_ne h (by decide)), of_decide_eq_false (name_ne h (by decide)), of_decide_eq_false (name_ne h (by decide)), of_decide_eq_false (name_ne h (by decide))⟩
/-- How a statement begins. -/
theorem stm_head {x : Stm} (h : mayB x = true) : ∃ t T, stmT x = t :: T ∧ ¬ t = [125] ∧ ((∀ k d s c m ar o t', x = .mk k d s c m ar o t' → k ≤ 6) → isNameB t = true) := by
  rcases may_cases h with ⟨d, m, rfl, hd, hm⟩ | ⟨d, s, rfl, hd, hs⟩ | ⟨d, s, m, rfl, hd, hs, hm⟩ | ⟨d, s, m, rfl, hd, hs, hm⟩ | ⟨d, s, m, ar, rfl, hd, hs, hm, ha⟩ | ⟨d, s, m, ar, rfl, hd, hs, hm, ha⟩ | ⟨s, rfl, hs⟩ | ⟨o, t, rfl⟩ | ⟨o, rfl⟩
  · have hd0 : ¬ d = [] := by rintro rfl; revert hd; decide
    exact ⟨d, _, by simp [stmT, dstT, hd0]; rfl, (nm_word hd).2.2.2.1, fun _ => hd⟩
  · have hd0 : ¬ d = [] := by rintro rfl; revert hd; decide
    exact ⟨d, _, by simp [stmT, dstT, hd0]; rfl, (nm_word hd).2.2.2.1, fun _ => hd⟩
  · have hd0 : ¬ d = [] := by rintro rfl; revert hd; decide
    exact ⟨d, _, by simp [stmT, dstT, hd0]; rfl, (nm_word hd).2.2.2.1, fun _ => hd⟩
  · exact ⟨d, _, by simp [stmT]; rfl, (nm_word hd).2.2.2.1, fun _ => hd⟩
  · by_cases hd0 : d = []
    · subst hd0; exact ⟨s, _, by simp [stmT, dstT]; rfl, (nm_word hs).2.2.2.1, fun _ => hs⟩
    · have hd1 : isNameB d = true := by rcases hd with hd | hd; exact absurd hd hd0; exact hd
      exact ⟨d, _, by simp [stmT, dstT, hd0]; rfl, (nm_word hd1).2.2.2.1, fun _ => hd1⟩
  · by_cases hd0 : d = []
    · subst hd0; exact ⟨s, _, by simp [stmT, dstT]; rfl, (nm_word hs).2.2.2.1, fun _ => hs⟩
    · have hd1 : isNameB d = true := by rcases hd with hd | hd; exact absurd hd hd0; exact hd
      exact ⟨d, _, by simp [stmT, dstT, hd0]; rfl, (nm_word hd1).2.2.2.1, fun _ => hd1⟩
  · exact ⟨[114, 101, 116, 117, 114, 110], _, by simp [stmT]; rfl, by decide, fun h => absurd (h _ _ _ _ _ _ _ _ rfl) (by decide)⟩
  · exact ⟨[105, 102], _, by simp [stmT]; rfl, by decide, fun h => absurd (h _ _ _ _ _ _ _ _ rfl) (by decide)⟩
  · exact ⟨[108, 111, 111, 112], _, by simp [stmT]; rfl, by decide, fun h => absurd (h _ _ _ _ _ _ _ _ rfl) (by decide)⟩
mutual
theorem stm_read (e : Nat) : ∀ (x : Stm) (dp : Nat), okS x dp = true → ∀ (f n : Nat) (L : List Sgn) (T : List (List UInt8)), 3 * L.length + 1 ≤ f → n + totS x ≤ 1024 → Txt L (stmT x ++ T) → ∃ L', stmtP e f dp L n = .ok (x, L', n + totS x) ∧ Txt L' T ∧ L'.length < L.length
  | .mk k dd s c m ar o t, dp, h, 0, n, L, T, hf, hn, hT => by omega
  | .mk k dd s c m ar o t, dp, h, f + 1, n, L, T, hf, hn, hT => by
    have hmay := okS_may h
    have hp := totS_pos (.mk k dd s c m ar o t)
    have hroom : roomP e L n n 1024 (begB L) = .ok ((), L, n) := roomP_ok (by omega)
    have hlen := hT.len
    by_cases hk : k ≤ 6
    · have hk' : ∀ k' d s' c' m' ar' o' t', (Stm.mk k dd s c m ar o t) = .mk k' d s' c' m' ar' o' t' → k' ≤ 6 := fun _ _ _ _ _ _ _ _ e => by injection e with e; rw [← e]; exact hk
      obtain ⟨t0, T0, hs1, _, hs2⟩ := stm_head hmay
      have hnm := hs2 hk'
      have hT0 : Txt L (t0 :: (T0 ++ T)) := by rw [hs1] at hT; exact hT
      obtain ⟨L1, h1, h2⟩ := plain_txt e (n + 1) hmay hk' L T hT
      obtain ⟨w1, w2, w3, _⟩ := nm_word hnm
      have htot : totS (.mk k dd s c m ar o t) = 1 := by simp only [totS]; rw [if_neg (by omega), if_neg (by omega)]
      refine ⟨L1.tail, ?_, h2.tail, ?_⟩
      · simp only [stmtP]
        rw [hroom, bnd_ok, isT_txt hT0, isT_txt hT0, isT_txt hT0]
        simp only [List.getElem?_cons_zero, w1, w2, w3, decide_false, Bool.false_eq_true, if_false]
        rw [h1, bnd_ok, mustP_txt e (n + 1) h2, bnd_ok, htot]
      · rw [h2.tail.len, hlen, hs1]; simp; omega
    · rcases may_cases hmay with ⟨d, m, e1, _⟩ | ⟨d, s, e1, _⟩ | ⟨d, s, m, e1, _⟩ | ⟨d, s, m, e1, _⟩ | ⟨d, s, m, ar, e1, _⟩ | ⟨d, s, m, ar, e1, _⟩ | ⟨s', e1, hs⟩ | ⟨o', t', e1⟩ | ⟨o', e1⟩
      all_goals (injection e1 with e1 e2 e3 e4 e5 e6 e7 e8)
      all_goals first | (exfalso; omega) | skip
      all_goals clear hmay
      all_goals subst e1; subst e2; subst e3; subst e4; subst e5; subst e6
      · subst e7; subst e8
        have h' : Txt L ([114, 101, 116, 117, 114, 110] :: s :: [59] :: T) := by simpa [stmT] using hT
        refine ⟨L.tail.tail.tail, ?_, h'.tail.tail.tail, ?_⟩
        · simp only [stmtP]
          rw [hroom, bnd_ok, isT_txt h', isT_txt h', isT_txt h']
          simp only [List.getElem?_cons_zero]
          rw [if_neg (by decide), if_neg (by decide), if_pos (by decide), nameP_txt e (n + 1) h'.tail hs, bnd_ok, mustP_txt e (n + 1) h'.tail.tail, bnd_ok]
          simp [totS]
        · rw [h'.tail.tail.tail.len, h'.len]; simp; omega
      · have h2 : dp + 1 ≤ 8 ∧ okA o (dp + 1) = true ∧ okA t (dp + 1) = true := by
          simp only [okS, Bool.and_eq_true, seval, if_true, if_false, decide_eq_true_eq] at h
          exact ⟨by have := h.2.1.1; omega, h.2.1.2, h.2.2⟩
        have htot : totS (.mk 8 [] [] [] [] [] o t) = 1 + (totL o + totL t) := by simp [totS]
        rw [htot] at hn ⊢
        have h' : Txt L ([105, 102] :: [123] :: (blkT o ++ [125] :: [101, 108, 115, 101] :: [123] :: (blkT t ++ [125] :: T))) := by simpa [stmT] using hT
        have hl1 := h'.len
        have hl2 := h'.tail.len
        simp only [List.length_cons] at hl1 hl2
        obtain ⟨L1, r1, r2, r3⟩ := blk_read e o dp h2.1 h2.2.1 f (n + 1) L.tail _ (by omega) (by omega) h'.tail
        obtain ⟨L2, q1, q2, q3⟩ := blk_read e t dp h2.1 h2.2.2 f (n + 1 + totL o) L1.tail _ (by have := r2.len; have := r2.tail.len; simp only [List.length_cons] at *; omega) (by omega) r2.tail
        refine ⟨L2, ?_, q2, ?_⟩
        · simp only [stmtP]
          rw [hroom, bnd_ok, isT_txt h']
          simp only [List.getElem?_cons_zero]
          rw [if_pos (by decide), r1, bnd_ok, mustP_txt e _ r2, bnd_ok, q1, bnd_ok]
          rw [show n + 1 + totL o + totL t = n + (1 + (totL o + totL t)) by omega]
        · have := r2.len; have := r2.tail.len; simp only [List.length_cons] at *; omega
      · subst e8
        have h2 : dp + 1 ≤ 8 ∧ okA o (dp + 1) = true := by
          simp only [okS, Bool.and_eq_true, seval, if_true, if_false, decide_eq_true_eq] at h
          exact ⟨by have := h.2.1; omega, h.2.2⟩
        have htot : totS (.mk 9 [] [] [] [] [] o []) = 1 + totL o := by simp [totS]
        rw [htot] at hn ⊢
        have h' : Txt L ([108, 111, 111, 112] :: [123] :: (blkT o ++ [125] :: T)) := by simpa [stmT] using hT
        have hl1 := h'.len
        have hl2 := h'.tail.len
        simp only [List.length_cons] at hl1 hl2
        obtain ⟨L1, r1, r2, r3⟩ := blk_read e o dp h2.1 h2.2 f (n + 1) L.tail _ (by omega) (by omega) h'.tail
        refine ⟨L1, ?_, r2, by omega⟩
        simp only [stmtP]
        rw [hroom, bnd_ok, isT_txt h', isT_txt h']
        simp only [List.getElem?_cons_zero]
        rw [if_neg (by decide), if_pos (by decide), r1, bnd_ok]
        rw [show n + 1 + totL o = n + (1 + totL o) by omega]
theorem blk_read (e : Nat) : ∀ (l : List Stm) (dp : Nat), dp + 1 ≤ 8 → okA l (dp + 1) = true → ∀ (f n : Nat) (L : List Sgn) (T : List (List UInt8)), 3 * L.length + 3 ≤ f → n + totL l ≤ 1024 → Txt L ([123] :: (blkT l ++ [125] :: T)) →
    ∃ L', blockP e f dp L n = .ok (l, L', n + totL l) ∧ Txt L' T ∧ L'.length < L.length
  | l, dp, hd, h, 0, n, L, T, hf, hn, hT => by omega
  | l, dp, hd, h, f + 1, n, L, T, hf, hn, hT => by
    have hl1 := hT.len
    have hl2 := hT.tail.len
    simp only [List.length_cons] at hl1
    obtain ⟨L', h1, h2, h3⟩ := sts_read e l dp h f n [] L.tail T (by omega) hn hT.tail
    refine ⟨L', ?_, h2, by omega⟩
    simp only [blockP]
    rw [roomP_ok (by omega), bnd_ok, mustP_txt e n hT, bnd_ok, h1, List.nil_append]
theorem sts_read (e : Nat) : ∀ (l : List Stm) (dp : Nat), okA l (dp + 1) = true → ∀ (f n : Nat) (out : List Stm) (L : List Sgn) (T : List (List UInt8)), 3 * L.length + 2 ≤ f → n + totL l ≤ 1024 → Txt L (blkT l ++ [125] :: T) →
    ∃ L', stmtsP e f dp out L n = .ok (out ++ l, L', n + totL l) ∧ Txt L' T ∧ L'.length < L.length
  | l, dp, h, 0, n, out, L, T, hf, hn, hT => by omega
  | [], dp, h, f + 1, n, out, L, T, hf, hn, hT => by
    have h' : Txt L ([125] :: T) := by simpa [blkT] using hT
    refine ⟨L.tail, ?_, h'.tail, by rw [h'.tail.len, h'.len]; simp⟩
    simp only [stmtsP]
    rw [isT_txt h']
    simp [totL]
  | x :: l, dp, h, f + 1, n, out, L, T, hf, hn, hT => by
    simp only [okA, Bool.and_eq_true] at h
    simp only [totL] at hn ⊢
    obtain ⟨t0, T0, hs1, hs2, _⟩ := stm_head (okS_may h.1)
    have h' : Txt L (stmT x ++ (blkT l ++ [125] :: T)) := by simpa [blkT] using hT
    obtain ⟨L1, r1, r2, r3⟩ := stm_read e x (dp + 1) h.1 f n L _ (by omega) (by omega) h'
    obtain ⟨L2, q1, q2, q3⟩ := sts_read e l dp h.2 f (n + totS x) (out ++ [x]) L1 T (by omega) (by omega) r2
    refine ⟨L2, ?_, q2, by omega⟩
    rw [hs1] at h'
    have h'' : Txt L (t0 :: (T0 ++ (blkT l ++ [125] :: T))) := h'
    simp only [stmtsP]
    rw [isT_txt h'']
    simp only [List.getElem?_cons_zero, hs2, decide_false, Bool.false_eq_true, if_false]
    rw [r1, bnd_ok, q1]
    simp [Nat.add_assoc]
end
end Go.Proofs.Ytilpdejbldllbaa
set_option maxRecDepth 100000
namespace Go.Proofs.Ytilpdejbldllbaa
open Go.RowKit

theorem mths_read (e : Nat) : ∀ (l : List Mth) (f n : Nat) (out : List Mth) (L : List Sgn) (T : List (List UInt8)), l.all headM = true → l.all (fun m => okA m.body 1) = true → out.length + l.length ≤ 32 → n + totM l ≤ 1024 → L.length < f →
    Txt L (mthsT l ++ [125] :: T) → ∃ L', mthsP e f out L n = .ok (out ++ l, L', n + totM l) ∧ Txt L' T ∧ L'.length < L.length
  | l, 0, n, out, L, T, _, _, _, _, hf, _ => by omega
  | [], f + 1, n, out, L, T, _, _, _, _, _, hT => by
    have h' : Txt L ([125] :: T) := by simpa [mthsT] using hT
    refine ⟨L.tail, ?_, h'.tail, by rw [h'.tail.len, h'.len]; simp⟩
    simp only [mthsP]
    rw [isT_txt h']
    simp [totM]
  | ⟨st, nm, ps, bd⟩ :: l, f + 1, n, out, L, T, hm, hb, h32, hn, hf, hT => by
    simp only [List.all_cons, Bool.and_eq_true, headM] at hm hb
    obtain ⟨⟨hnm, hps⟩, hml⟩ := hm
    obtain ⟨hb1, hb2⟩ := hb
    simp only [totM] at hn ⊢
    simp only [List.length_cons] at h32
    obtain ⟨w1, w2, w3, w4, w5⟩ := nm_word hnm
    have key : ∃ L0 : List Sgn, (if isT L 0 [115, 116, 97, 116, 105, 99] then L.tail else L) = L0 ∧ isT L 0 [115, 116, 97, 116, 105, 99] = st ∧ isT L 0 [125] = false ∧ Txt L0 (nm :: (namesT ps ++ ([123] :: (blkT bd ++ [125] :: (mthsT l ++ [125] :: T))))) ∧ L0.length ≤ L.length := by
      cases st with
      | false =>
        have h' : Txt L (nm :: (namesT ps ++ ([123] :: (blkT bd ++ [125] :: (mthsT l ++ [125] :: T))))) := by simpa [mthsT, mthT] using hT
        refine ⟨L, ?_, ?_, ?_, h', Nat.le_refl _⟩
        · rw [isT_txt h']; simp [w5]
        · rw [isT_txt h']; simp [w5]
        · rw [isT_txt h']; simp [w4]
      | true =>
        have h' : Txt L ([115, 116, 97, 116, 105, 99] :: nm :: (namesT ps ++ ([123] :: (blkT bd ++ [125] :: (mthsT l ++ [125] :: T))))) := by simpa [mthsT, mthT] using hT
        refine ⟨L.tail, ?_, ?_, ?_, h'.tail, by rw [h'.tail.len, h'.len]; simp⟩
        · rw [isT_txt h']; simp
        · rw [isT_txt h']; simp
        · rw [isT_txt h']; simp
    obtain ⟨L0, k1, k2, k3, k4, k5⟩ := key
    obtain ⟨L1, r1, r2⟩ := namesP_txt e ps hps L0.tail n _ k4.tail
    have hl0 := k4.len
    have hl1 := r2.len
    simp only [List.length_cons, List.length_append] at hl0 hl1
    obtain ⟨L2, q1, q2, q3⟩ := blk_read e bd 0 (by omega) hb1 (3 * L1.length + 3) n L1 _ (Nat.le_refl _) (by omega) r2
    obtain ⟨L3, p1, p2, p3⟩ := mths_read e l f (n + totL bd) (out ++ [⟨st, nm, ps, bd⟩]) L2 T hml hb2 (by simp; omega) (by omega) (by omega) q2
    refine ⟨L3, ?_, p2, by omega⟩
    simp only [mthsP]
    rw [k3]
    simp only [Bool.false_eq_true, if_false]
    rw [roomP_ok (by omega), bnd_ok]
    rw [k1, k2]
    rw [nameP_txt e n k4 hnm, bnd_ok, r1, bnd_ok, q1, bnd_ok, p1]
    simp [Nat.add_assoc]
theorem class_read (e : Nat) (c : Cls) (n : Nat) (L : List Sgn) (T : List (List UInt8)) (h : headC c = true) (hb : c.mths.all (fun m => okA m.body 1) = true) (hn : n + totM c.mths ≤ 1024) (hT : Txt L (clsT c ++ T)) :
    ∃ L', classP e L n = .ok (c, L', n + totM c.mths) ∧ Txt L' T ∧ L'.length < L.length := by
  obtain ⟨nm, pa, ms⟩ := c
  simp only [headC, Bool.and_eq_true, Bool.or_eq_true, List.isEmpty_iff, decide_eq_true_eq] at h
  obtain ⟨⟨⟨h1, h2⟩, h32⟩, h3⟩ := h
  simp only at hb hn ⊢
  by_cases h0 : pa = []
  · subst h0
    have h' : Txt L ([99, 108, 97, 115, 115] :: nm :: [123] :: (mthsT ms ++ [125] :: T)) := by simpa [clsT] using hT
    obtain ⟨L1, r1, r2, r3⟩ := mths_read e ms (L.tail.tail.tail.length + 1) n [] L.tail.tail.tail T h3 hb (by simpa using h32) hn (by omega) h'.tail.tail.tail
    refine ⟨L1, ?_, r2, ?_⟩
    · simp only [classP]
      rw [mustP_txt e n h', bnd_ok, nameP_txt e n h'.tail h1, bnd_ok, isT_txt h'.tail.tail]
      simp only [List.getElem?_cons_zero]
      rw [if_neg (by decide), bnd_ok, mustP_txt e n h'.tail.tail, bnd_ok, r1, bnd_ok, List.nil_append]
    · have := h'.len; have := h'.tail.tail.tail.len; simp only [List.length_cons] at *; omega
  · have hp : isNameB pa = true := by rcases h2 with h2 | h2; exact absurd h2 h0; exact h2
    have h' : Txt L ([99, 108, 97, 115, 115] :: nm :: [101, 120, 116, 101, 110, 100, 115] :: pa :: [123] :: (mthsT ms ++ [125] :: T)) := by simpa [clsT, h0] using hT
    obtain ⟨L1, r1, r2, r3⟩ := mths_read e ms (L.tail.tail.tail.tail.tail.length + 1) n [] L.tail.tail.tail.tail.tail T h3 hb (by simpa using h32) hn (by omega) h'.tail.tail.tail.tail.tail
    refine ⟨L1, ?_, r2, ?_⟩
    · simp only [classP]
      rw [mustP_txt e n h', bnd_ok, nameP_txt e n h'.tail h1, bnd_ok, isT_txt h'.tail.tail]
      simp only [List.getElem?_cons_zero]
      rw [if_pos (by decide), nameP_txt e n h'.tail.tail.tail hp, bnd_ok, bnd_ok, mustP_txt e n h'.tail.tail.tail.tail, bnd_ok, r1, bnd_ok, List.nil_append]
    · have := h'.len; have := h'.tail.tail.tail.tail.tail.len; simp only [List.length_cons] at *; omega
theorem src_read (e : Nat) : ∀ (l : List Cls) (f n : Nat) (out : List Cls) (L : List Sgn), l.all headC = true → (allM l).all (fun m => okA m.body 1) = true → out.length + l.length ≤ 32 → n + totM (allM l) ≤ 1024 → L.length < f →
    Txt L (srcT l) → ∃ n', parsesP e f out L n = .ok (out ++ l, [], n')
  | l, 0, n, out, L, _, _, _, _, hf, _ => by omega
  | [], f + 1, n, out, L, _, _, _, _, _, hT => by
    have h0 : L = [] := by have := hT.len; exact List.eq_nil_of_length_eq_zero (by simpa [srcT] using this)
    subst h0
    exact ⟨n, by simp [parsesP]⟩
  | c :: l, f + 1, n, out, L, hm, hb, h32, hn, hf, hT => by
    simp only [List.all_cons, Bool.and_eq_true] at hm
    have hb' : (c.mths ++ allM l).all (fun m => okA m.body 1) = true := by simpa [allM] using hb
    rw [List.all_append, Bool.and_eq_true] at hb'
    have hn' : totM (allM (c :: l)) = totM c.mths + totM (allM l) := by simp only [allM]; exact totM_app _ _
    rw [hn'] at hn
    simp only [List.length_cons] at h32
    have h' : Txt L (clsT c ++ srcT l) := by simpa [srcT] using hT
    obtain ⟨L1, r1, r2, r3⟩ := class_read e c n L (srcT l) hm.1 hb'.1 (by omega) h'
    obtain ⟨n', q1⟩ := src_read e l f (n + totM c.mths) (out ++ [c]) L1 hm.2 hb'.2 (by simp; omega) (by omega) (by omega) r2
    refine ⟨n', ?_⟩
    have hne : ¬ L = [] := by rintro rfl; simp at r3
    simp only [parsesP]
    rw [if_neg hne, roomP_ok (by omega), bnd_ok, r1, bnd_ok, q1]
    simp
/-- THERE AND BACK. -/
theorem print_parse {x : List Cls} (h : checkB x = true) {L : List Sgn} (hL : lexSigns (prtB x) = .ok L) : parseS (prtB x) = .ok x := by
  have hT := print_lex h hL
  simp only [checkB, Bool.and_eq_true, decide_eq_true_eq] at h
  obtain ⟨⟨h32, hh⟩, ho, ht⟩ := h
  obtain ⟨n', e⟩ := src_read (prtB x).length x (L.length + 1) 0 [] L hh ho (by simpa using h32) (by simpa using ht) (by omega) hT
  unfold parseS
  rw [hL]
  simp only
  rw [e]
  rfl
end Go.Proofs.Ytilpdejbldllbaa
