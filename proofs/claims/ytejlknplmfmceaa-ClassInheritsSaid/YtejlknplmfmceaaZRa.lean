/- What is proved: What the reader of package osierref15 hands back. Conditions: those that stand in the statements. -/
import Derived.Test.YtejlknplmfmceaaZRlj
import Derived.Test.YtejlknplmfmceaaZRlex
set_option linter.unusedSimpArgs false
set_option linter.unusedVariables false
set_option maxRecDepth 100000
namespace Go.Proofs.Ytejlknplmfmceaa
open Go.RowKit

/-- The document's reader: the signs, the end, the place, how many statements, the error and its place. -/
abbrev Rf (s : St) (r : Nat) (L : List Sgn) (e a n er bd : Nat) : St := s.set r (.obj 85 [.lst (L.map sgnC) .no, .int .i64 a, .int .i64 e, .int .i64 n, .int .i64 er, .int .i64 bd])
theorem sgn_nth {L : List Sgn} {a : Nat} : (L.map sgnC)[a]? = L[a]?.map sgnC := List.getElem?_map
theorem drop_get {L : List Sgn} {a k : Nat} : (L.drop a)[k]? = L[a + k]? := List.getElem?_drop
theorem isT_drop {L : List Sgn} {a k : Nat} {t : List UInt8} : isT (L.drop a) k t = match L[a + k]? with | some x => decide (x.text = t) | none => false := by
  unfold isT; rw [drop_get]; cases L[a + k]? <;> rfl

theorem Rplace_S (s : St) (r : Nat) (L : List Sgn) (e a n er bd : Nat) :
    SRet Try.prog 48 [.ptr r 0] (Rf s r L e a n er bd) (.int .i64 (place e (L.drop a))) (Rf s r L e a n er bd) := by
  refine G_enter Try.func48 rfl Try.ntmps48 rfl fun Q hQ hQe => ?_
  rcases hx : L[a]? with _ | x
  · have h1 : L.length ≤ a := List.getElem?_eq_none_iff.1 hx
    have hd : L.drop a = [] := List.drop_eq_nil_iff.2 h1
    (repeat' (first | refine Ctl ?_ | ((with_reducible refine Kof.use hK ?_); clear hK hE K E) | ((with_reducible refine Eof.use hE ?_); (try clear hK hE K E)) | ((with_reducible refine Kof.use hKh ?_); clear hKh Kh) | ((with_reducible refine Kof.use hKb (P_next ?_)); clear hKb Kb) | (with_reducible first | refine G_plan 1 [] [0, 1, 2, 3, 4, 5, 6, 7, 8, 9] hQe fun K E hK hE => ?_ | refine G_plan 2 [] [0, 1, 2, 3, 4, 5, 6, 7, 8, 9, 10, 11] hQe fun K E hK hE => ?_) | ((with_reducible refine W_cond (fun h => ?_) (fun h => ?_)) <;> (try (exfalso; first | assumption | omega))) | ((first | (with_reducible first | refine G_region fun K E hK hE => ?_ | refine W_if ?_ | refine W_ifS ?_ | refine P_heads fun Kh hKh => ?_ | refine P_fin fun Kh hKh => ?_ | refine P_each fun Kb hKb => ?_ | refine W_and ?_)) <;> (try simp (disch := first | assumption | omega) only [go_sem, seval, Rf, List.length_map, sgn_nth, *]))))
    all_goals (first | refine W_ret res48 hQ ?_ | refine W_norm res48 hQ ?_ | refine G_pan hQ ?_)
    all_goals (refine ⟨_, _, Wk.of_eq ?_, ?_, rfl, rfl⟩)
    · rw [hd]; rfl
    · exact Fg.refl _
  · have h1 : a < L.length := (List.getElem?_eq_some_iff.1 hx).1
    have hd : L.drop a = x :: L.drop (a + 1) := by rw [List.drop_eq_getElem_cons h1]; rw [List.getElem?_eq_getElem h1] at hx; injection hx with hx; rw [hx]
    (repeat' (first | refine Ctl ?_ | ((with_reducible refine Kof.use hK ?_); clear hK hE K E) | ((with_reducible refine Eof.use hE ?_); (try clear hK hE K E)) | ((with_reducible refine Kof.use hKh ?_); clear hKh Kh) | ((with_reducible refine Kof.use hKb (P_next ?_)); clear hKb Kb) | (with_reducible first | refine G_plan 1 [] [0, 1, 2, 3, 4, 5, 6, 7, 8, 9] hQe fun K E hK hE => ?_ | refine G_plan 2 [] [0, 1, 2, 3, 4, 5, 6, 7, 8, 9, 10, 11] hQe fun K E hK hE => ?_) | ((with_reducible refine W_cond (fun h => ?_) (fun h => ?_)) <;> (try (exfalso; first | assumption | omega))) | ((first | (with_reducible first | refine G_region fun K E hK hE => ?_ | refine W_if ?_ | refine W_ifS ?_ | refine P_heads fun Kh hKh => ?_ | refine P_fin fun Kh hKh => ?_ | refine P_each fun Kb hKb => ?_ | refine W_and ?_)) <;> (try simp (disch := first | assumption | omega) only [go_sem, seval, Rf, List.length_map, sgn_nth, sgnC, *]))))
    all_goals (first | refine W_ret res48 hQ ?_ | refine W_norm res48 hQ ?_ | refine G_pan hQ ?_)
    all_goals (refine ⟨_, _, Wk.of_eq ?_, ?_, rfl, rfl⟩)
    · rw [hd]; rfl
    · exact Fg.refl _

def fE (er x : Nat) : Nat := if er = 0 then x else er
def fB (er bd p : Nat) : Nat := if er = 0 then p else bd
theorem fE_eq (er x : Nat) : fE er x = if er = 0 then x else er := rfl
theorem fB_eq (er bd p : Nat) : fB er bd p = if er = 0 then p else bd := rfl
attribute [irreducible] fE fB
theorem Rfail_S (s : St) (r : Nat) (L : List Sgn) (e a n er bd : Nat) (x' : Int) (hx : 0 ≤ x') :
    SRet Try.prog 38 [.ptr r 0, .int .i64 x'] (Rf s r L e a n er bd) (.tup []) (Rf s r L e a n (fE er x'.toNat) (fB er bd (place e (L.drop a)))) := by
  obtain ⟨x, rfl⟩ := Int.eq_ofNat_of_zero_le hx
  rw [Int.toNat_natCast]
  refine G_enter Try.func38 rfl Try.ntmps38 rfl fun Q hQ hQe => ?_
  by_cases h0 : (er : Int) = 0
  · have h0' : er = 0 := by omega
    replace h0 := eq_true h0
    (repeat' (first | refine Ctl ?_ | ((with_reducible refine Kof.use hK ?_); clear hK hE K E) | ((with_reducible refine Eof.use hE ?_); (try clear hK hE K E)) | ((with_reducible refine W_cond (fun h => ?_) (fun h => ?_)) <;> (try (exfalso; first | assumption | omega))) | ((first | (with_reducible first | refine G_region fun K E hK hE => ?_ | refine call_ret can48 (Rplace_S _ _ _ _ _ _ _ _) ?_ | refine W_if ?_ | refine W_ifS ?_ | refine W_and ?_)) <;> (try simp (disch := first | assumption | omega) only [go_sem, seval, Rf, *]))))
    all_goals (first | refine W_ret res38 hQ ?_ | refine W_norm res38 hQ ?_ | refine G_pan hQ ?_)
    all_goals (refine ⟨_, _, Wk.of_eq ?_, ?_, rfl, rfl⟩)
    · rfl
    · rw [fE_eq, fB_eq, if_pos h0', if_pos h0']; exact Fg.refl _
  · have h0' : ¬ er = 0 := by omega
    (repeat' (first | refine Ctl ?_ | ((with_reducible refine Kof.use hK ?_); clear hK hE K E) | ((with_reducible refine Eof.use hE ?_); (try clear hK hE K E)) | ((with_reducible refine W_cond (fun h => ?_) (fun h => ?_)) <;> (try (exfalso; first | assumption | omega))) | ((first | (with_reducible first | refine G_region fun K E hK hE => ?_ | refine call_ret can48 (Rplace_S _ _ _ _ _ _ _ _) ?_ | refine W_if ?_ | refine W_ifS ?_ | refine W_and ?_)) <;> (try simp (disch := first | assumption | omega) only [go_sem, seval, Rf, *]))))
    all_goals (first | refine W_ret res38 hQ ?_ | refine W_norm res38 hQ ?_ | refine G_pan hQ ?_)
    all_goals (refine ⟨_, _, Wk.of_eq ?_, ?_, rfl, rfl⟩)
    · rfl
    · rw [fE_eq, fB_eq, if_neg h0', if_neg h0']; exact Fg.refl _

theorem Rfis_S (s : St) (r : Nat) (L : List Sgn) (e a n er bd : Nat) (k' : Int) (t : List UInt8) (hk0 : 0 ≤ k') (hk : (a : Int) + k' ≤ 9223372036854775000) :
    SRet Try.prog 37 [.ptr r 0, .int .i64 k', .str t] (Rf s r L e a n er bd) (.bool (isT (L.drop a) k'.toNat t)) (Rf s r L e a n er bd) := by
  obtain ⟨k, rfl⟩ := Int.eq_ofNat_of_zero_le hk0
  rw [Int.toNat_natCast]
  refine G_enter Try.func37 rfl Try.ntmps37 rfl fun Q hQ hQe => ?_
  rcases hx : L[a + k]? with _ | x
  · have h1 : L.length ≤ a + k := List.getElem?_eq_none_iff.1 hx
    (repeat' (first | refine Ctl ?_ | ((with_reducible refine Kof.use hK ?_); clear hK hE K E) | ((with_reducible refine Eof.use hE ?_); (try clear hK hE K E)) | ((with_reducible refine Kof.use hKh ?_); clear hKh Kh) | ((with_reducible refine Kof.use hKb (P_next ?_)); clear hKb Kb) | (with_reducible refine G_plan 1 [] [0, 1, 2, 3, 4, 5, 6, 7, 8, 9, 10, 11, 12, 13, 14, 15, 16, 17, 18, 19, 20, 21, 22, 23, 24, 25, 26, 27, 28, 29] hQe fun K E hK hE => ?_) | ((with_reducible refine W_cond (fun h => ?_) (fun h => ?_)) <;> (try (exfalso; first | assumption | omega))) | ((first | (with_reducible first | refine G_region fun K E hK hE => ?_ | refine W_if ?_ | refine W_ifS ?_ | refine P_heads fun Kh hKh => ?_ | refine P_fin fun Kh hKh => ?_ | refine P_each fun Kb hKb => ?_ | refine W_and ?_) | ((with_reducible refine W_gd (fun h => ?_) (fun h => ?_)) <;> (try (exfalso; first | assumption | omega)))) <;> (try simp (disch := first | assumption | omega) only [go_sem, seval, Rf, List.length_map, sgn_nth, *]))))
    all_goals (first | refine W_ret res37 hQ ?_ | refine W_norm res37 hQ ?_ | refine G_pan hQ ?_)
    all_goals (refine ⟨_, _, Wk.of_eq ?_, ?_, rfl, rfl⟩)
    all_goals first | (exact z_fg) | (rw [isT_drop, hx])
  · have h1 : a + k < L.length := (List.getElem?_eq_some_iff.1 hx).1
    (repeat' (first | refine Ctl ?_ | ((with_reducible refine Kof.use hK ?_); clear hK hE K E) | ((with_reducible refine Eof.use hE ?_); (try clear hK hE K E)) | ((with_reducible refine Kof.use hKh ?_); clear hKh Kh) | ((with_reducible refine Kof.use hKb (P_next ?_)); clear hKb Kb) | (with_reducible refine G_plan 1 [] [0, 1, 2, 3, 4, 5, 6, 7, 8, 9, 10, 11, 12, 13, 14, 15, 16, 17, 18, 19, 20, 21, 22, 23, 24, 25, 26, 27, 28, 29] hQe fun K E hK hE => ?_) | ((with_reducible refine W_cond (fun h => ?_) (fun h => ?_)) <;> (try (exfalso; first | assumption | omega))) | ((first | (with_reducible first | refine G_region fun K E hK hE => ?_ | refine W_if ?_ | refine W_ifS ?_ | refine P_heads fun Kh hKh => ?_ | refine P_fin fun Kh hKh => ?_ | refine P_each fun Kb hKb => ?_ | refine W_and ?_) | ((with_reducible refine W_gd (fun h => ?_) (fun h => ?_)) <;> (try (exfalso; first | assumption | omega)))) <;> (try simp (disch := first | assumption | omega) only [go_sem, seval, Rf, List.length_map, sgn_nth, sgnC, *]))))
    all_goals (first | refine W_ret res37 hQ ?_ | refine W_norm res37 hQ ?_ | refine G_pan hQ ?_)
    all_goals (refine ⟨_, _, Wk.of_eq ?_, ?_, rfl, rfl⟩)
    all_goals first | (exact z_fg) | (rw [isT_drop, hx])

/-- What a method of the document's reader comes to, beside what the reader of package oo comes to from the same signs. -/
def RP {α : Type} (L : List Sgn) (a n er bd : Nat) (res : PR α) (x : α) (a' n' er' bd' : Nat) : Prop :=
  a' ≤ L.length ∧ (er ≠ 0 → er' = er ∧ bd' = bd) ∧
  (er = 0 → match res with
    | .ok (y, L', m) => y = x ∧ L' = L.drop a' ∧ m = n' ∧ er' = 0
    | .error (p, k) => er' = k ∧ k ≠ 0 ∧ bd' = p)
theorem isT_lt {L : List Sgn} {a k : Nat} {t : List UInt8} (h : isT (L.drop a) k t = true) : a + k < L.length := by
  rw [isT_drop] at h
  rcases hx : L[a + k]? with _ | x
  · rw [hx] at h; cases h
  · exact (List.getElem?_eq_some_iff.1 hx).1
theorem drop_tl {L : List Sgn} {a : Nat} : (L.drop a).tail = L.drop (a + 1) := List.tail_drop

theorem Rtakes_S (s : St) (r : Nat) (L : List Sgn) (e a n er bd : Nat) (t : List UInt8) (ha : a ≤ L.length) (hL : L.length ≤ 4096) :
    SCalls Try.prog 49 [.ptr r 0, .str t] (Rf s r L e a n er bd) (fun w u => ∃ q : Nat × Nat × Nat × Nat, w = .ret (.tup []) ∧ u = Rf s r L e q.1 q.2.1 q.2.2.1 q.2.2.2 ∧ RP L a n er bd (mustP e (L.drop a) n t) () q.1 q.2.1 q.2.2.1 q.2.2.2) := by
  refine G_enter Try.func49 rfl Try.ntmps49 rfl fun Q hQ hQe => ?_
  (repeat' (first | refine Ctl ?_ | ((with_reducible refine Kof.use hK ?_); clear hK hE K E) | ((with_reducible refine Eof.use hE ?_); (try clear hK hE K E)) | ((with_reducible refine W_cond (fun h => ?_) (fun h => ?_)) <;> (try (exfalso; first | assumption | omega))) | ((first | (with_reducible first | refine G_region fun K E hK hE => ?_ | refine call_ret can38 (Rfail_S _ _ _ _ _ _ _ _ _ (by decide)) ?_ | refine call_ret can37 (Rfis_S _ _ _ _ _ _ _ _ _ _ (by omega) (by omega)) ?_ | refine W_if ?_ | refine W_ifS ?_ | refine W_and ?_)) <;> (try simp (disch := first | assumption | omega) only [go_sem, seval, Rf, *]))))
  all_goals (first | refine W_ret res49 hQ ?_ | refine W_norm res49 hQ ?_ | refine G_pan hQ ?_)
  all_goals refine ⟨_, _, Wk.of_eq rfl, Fg.refl _, (_, _, _, _), rfl, rfl, ?_⟩
  · simp only [RP, mustP, h]
    grind [fE_eq, fB_eq]
  · have := isT_lt h
    simp only [RP, mustP, h, drop_tl]
    grind

theorem GoodL.named {L : List Sgn} (h : GoodL L) {a : Nat} {x : Sgn} (hx : L[a]? = some x) : namedB (L.drop a) = RnameB x.text := by
  have h1 : a < L.length := (List.getElem?_eq_some_iff.1 hx).1
  have hd : L.drop a = x :: L.drop (a + 1) := by rw [List.drop_eq_getElem_cons h1]; rw [List.getElem?_eq_getElem h1] at hx; injection hx with hx; rw [hx]
  rw [hd]
  simp only [namedB, RnameB, h x (List.mem_of_getElem? hx)]

/-- .. and no more than one sign is taken. -/
def RPn {α : Type} (L : List Sgn) (a n er bd : Nat) (res : PR α) (x : α) (a' n' er' bd' : Nat) : Prop := RP L a n er bd res x a' n' er' bd' ∧ a' ≤ a + 1
theorem RPn.rp {α : Type} {L : List Sgn} {a n er bd : Nat} {res : PR α} {x : α} {a' n' er' bd' : Nat} (h : RPn L a n er bd res x a' n' er' bd') : RP L a n er bd res x a' n' er' bd' := h.1
theorem Rnm_S (s : St) (r : Nat) (L : List Sgn) (e a n er bd : Nat) (ha : a ≤ L.length) (hL : L.length ≤ 4096) (hG : GoodL L) :
    SCalls Try.prog 50 [.ptr r 0] (Rf s r L e a n er bd) (fun w u => ∃ q : List UInt8 × Nat × Nat × Nat × Nat, w = .ret (.str q.1) ∧ u = Rf s r L e q.2.1 q.2.2.1 q.2.2.2.1 q.2.2.2.2 ∧ RPn L a n er bd (nameP e (L.drop a) n) q.1 q.2.1 q.2.2.1 q.2.2.2.1 q.2.2.2.2) := by
  refine G_enter Try.func50 rfl Try.ntmps50 rfl fun Q hQ hQe => ?_
  rcases hx : L[a]? with _ | x
  · have h1 : L.length ≤ a := List.getElem?_eq_none_iff.1 hx
    have hd : L.drop a = [] := List.drop_eq_nil_iff.2 h1
    (repeat' (first | refine Ctl ?_ | ((with_reducible refine Kof.use hK ?_); clear hK hE K E) | ((with_reducible refine Eof.use hE ?_); (try clear hK hE K E)) | ((with_reducible refine Kof.use hKh ?_); clear hKh Kh) | ((with_reducible refine Kof.use hKb (P_next ?_)); clear hKb Kb) | (with_reducible first | refine G_plan 1 [([0, 1, 2, 3, 4, 5, 6, 7, 8, 9, 10, 11, 12, 13, 14, 15, 16, 17, 18, 19, 20, 21], 22, [[]])] [23, 24] hQe fun K E hK hE => ?_ | refine G_plan 5 [] [0, 1, 2, 3, 4, 5, 6, 7, 8, 9, 10, 11, 12] hQe fun K E hK hE => ?_) | ((with_reducible refine W_cond (fun h => ?_) (fun h => ?_)) <;> (try (exfalso; first | assumption | omega))) | ((first | (with_reducible first | refine G_region fun K E hK hE => ?_ | refine call_ret can38 (Rfail_S _ _ _ _ _ _ _ _ _ (by decide)) ?_ | refine call_ret can51 (Rname_S _ _) ?_ | refine W_if ?_ | refine W_ifS ?_ | refine P_heads fun Kh hKh => ?_ | refine P_fin fun Kh hKh => ?_ | refine P_each fun Kb hKb => ?_ | refine W_and ?_) | ((with_reducible refine W_gd (fun h => ?_) (fun h => ?_)) <;> (try (exfalso; first | assumption | omega)))) <;> (try simp (disch := first | assumption | omega) only [go_sem, seval, Rf, List.length_map, sgn_nth, *]))))
    all_goals (first | refine W_ret res50 hQ ?_ | refine W_norm res50 hQ ?_ | refine G_pan hQ ?_)
    all_goals refine ⟨_, _, Wk.of_eq rfl, Fg.refl _, (_, _, _, _, _), rfl, rfl, ?_, by simp only; omega⟩
    all_goals (simp only [RP, nameP, hd]; grind [fE_eq, fB_eq, place, namedB, nameP])
  · have h1 : a < L.length := (List.getElem?_eq_some_iff.1 hx).1
    have hd : L.drop a = x :: L.drop (a + 1) := by rw [List.drop_eq_getElem_cons h1]; rw [List.getElem?_eq_getElem h1] at hx; injection hx with hx; rw [hx]
    have hn := hG.named hx
    (repeat' (first | refine Ctl ?_ | ((with_reducible refine Kof.use hK ?_); clear hK hE K E) | ((with_reducible refine Eof.use hE ?_); (try clear hK hE K E)) | ((with_reducible refine Kof.use hKh ?_); clear hKh Kh) | ((with_reducible refine Kof.use hKb (P_next ?_)); clear hKb Kb) | (with_reducible first | refine G_plan 1 [([0, 1, 2, 3, 4, 5, 6, 7, 8, 9, 10, 11, 12, 13, 14, 15, 16, 17, 18, 19, 20, 21], 22, [[]])] [23, 24] hQe fun K E hK hE => ?_ | refine G_plan 5 [] [0, 1, 2, 3, 4, 5, 6, 7, 8, 9, 10, 11, 12] hQe fun K E hK hE => ?_) | ((with_reducible refine W_cond (fun h => ?_) (fun h => ?_)) <;> (try (exfalso; first | assumption | omega))) | ((first | (with_reducible first | refine G_region fun K E hK hE => ?_ | refine call_ret can38 (Rfail_S _ _ _ _ _ _ _ _ _ (by decide)) ?_ | refine call_ret can51 (Rname_S _ _) ?_ | refine W_if ?_ | refine W_ifS ?_ | refine P_heads fun Kh hKh => ?_ | refine P_fin fun Kh hKh => ?_ | refine P_each fun Kb hKb => ?_ | refine W_and ?_) | ((with_reducible refine W_gd (fun h => ?_) (fun h => ?_)) <;> (try (exfalso; first | assumption | omega)))) <;> (try simp (disch := first | assumption | omega) only [go_sem, seval, Rf, List.length_map, sgn_nth, sgnC, *]))))
    all_goals (first | refine W_ret res50 hQ ?_ | refine W_norm res50 hQ ?_ | refine G_pan hQ ?_)
    all_goals refine ⟨_, _, Wk.of_eq rfl, Fg.refl _, (_, _, _, _, _), rfl, rfl, ?_, by simp only; omega⟩
    all_goals (simp only [RP, nameP, hd]; grind [fE_eq, fB_eq, place, namedB, nameP])
end Go.Proofs.Ytejlknplmfmceaa
