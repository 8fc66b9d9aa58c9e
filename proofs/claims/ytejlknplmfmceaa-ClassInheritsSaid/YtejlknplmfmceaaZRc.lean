/- What is proved: What the reader of package osierref15 hands back, on: statements that begin with a name. Conditions: those that stand in the statements. -/
import Derived.Test.YtejlknplmfmceaaZRb
set_option linter.unusedSimpArgs false
set_option linter.unusedVariables false
set_option maxRecDepth 100000
namespace Go.Proofs.Ytejlknplmfmceaa
open Go.RowKit

theorem isT_tail {L : List Sgn} {k : Nat} {t : List UInt8} : isT L.tail k t = isT L (k + 1) t := by
  unfold isT
  cases L <;> simp
theorem rf_out {s : St} {r b : Nat} {xs : List VV} {c : Cell} (h : ¬ b = r) : (s.set r (.obj 85 xs)).set b c = (s.set b c).set r (.obj 85 xs) := by
  funext x
  simp only [St.set]
  by_cases h1 : x = b
  · subst h1; simp [h]
  · simp [h1]
theorem WkL.nostrs {o : Own} {xs ys : List VV} (h : WkL xs ys) : WkL (.lst [] o :: xs) (strsV [] :: ys) := .lst [] o h
theorem WkL.nosts {o : Own} {xs ys : List VV} (h : WkL xs ys) : WkL (.lst [] o :: xs) (.lst (stsC []) .no :: ys) := .lst [] o h
theorem fin_stm {S s0 : St} {r : Nat} {L : List Sgn} {e a n er bd a' n' er' bd' k : Nat} {d s c m : List UInt8} {ar : List (List UInt8)} {o t : List Stm} {xs : List VV} {res : PR Stm}
    (hw : WkL xs [.int .i64 k, .str d, .str s, .str c, .str m, strsV ar, .lst (stsC o) .no, .lst (stsC t) .no]) (hf : Fg S (Rf s0 r L e a' n' er' bd')) (hr : RP L a n er bd res (.mk k d s c m ar o t) a' n' er' bd') :
    ∃ y s', Wk (.agg xs) y ∧ Fg S s' ∧ ∃ q : Stm × Nat × Nat × Nat × Nat, SEnd.ret y = .ret (stV q.1) ∧ s' = Rf s0 r L e q.2.1 q.2.2.1 q.2.2.2.1 q.2.2.2.2 ∧ RP L a n er bd res q.1 q.2.1 q.2.2.1 q.2.2.2.1 q.2.2.2.2 :=
  ⟨_, _, wk_st hw, hf, (.mk k d s c m ar o t, a', n', er', bd'), rfl, rfl, hr⟩
theorem fin_val {S s0 : St} {r : Nat} {L : List Sgn} {e a n er bd a' n' er' bd' : Nat} {α : Type} {enc : α → VV} {x : α} {res : PR α}
    (hf : Fg S (Rf s0 r L e a' n' er' bd')) (hr : RP L a n er bd res x a' n' er' bd') :
    ∃ y s', Wk (enc x) y ∧ Fg S s' ∧ ∃ q : α × Nat × Nat × Nat × Nat, SEnd.ret y = .ret (enc q.1) ∧ s' = Rf s0 r L e q.2.1 q.2.2.1 q.2.2.2.1 q.2.2.2.2 ∧ RP L a n er bd res q.1 q.2.1 q.2.2.1 q.2.2.2.1 q.2.2.2.2 :=
  ⟨_, _, Wk.refl _, hf, (x, a', n', er', bd'), rfl, rfl, hr⟩
def valueP (e : Nat) (dst : List UInt8) (L : List Sgn) (n : Nat) : PR Stm :=
  bnd (nameP e L n) fun src L n =>
    if isT L 0 [46] = true ∨ isT L 0 [58, 58] = true then callP e dst src true L n else .ok (.mk 2 dst src [] [] [] [] [], L, n)

theorem Rvalue_S (s : St) (r : Nat) (L : List Sgn) (e a n er bd : Nat) (dst : List UInt8) (ha : a ≤ L.length) (hL : L.length ≤ 4096) (hG : GoodL L) :
    SCalls Try.prog 102 [.ptr r 0, .str dst] (Rf s r L e a n er bd) (fun w u => ∃ q : Stm × Nat × Nat × Nat × Nat, w = .ret (stV q.1) ∧ u = Rf s r L e q.2.1 q.2.2.1 q.2.2.2.1 q.2.2.2.2 ∧ RP L a n er bd (valueP e dst (L.drop a) n) q.1 q.2.1 q.2.2.1 q.2.2.2.1 q.2.2.2.2) := by
  refine G_enter Try.func102 rfl Try.ntmps102 rfl fun Q hQ hQe => ?_
  (repeat' (first | refine Ctl ?_ | ((with_reducible refine Kof.use hK ?_); clear hK hE K E) | ((with_reducible refine Eof.use hE ?_); (try clear hK hE K E)) | ((with_reducible refine Kof.use hKh ?_); clear hKh Kh) | ((with_reducible refine Kof.use hKb (P_next ?_)); clear hKb Kb) | (with_reducible refine G_plan 4 [([0, 1, 2, 3], 4, [[0, 1, 2]]), ([5], 6, [[], []])] [] hQe fun K E hK hE => ?_) | ((with_reducible refine W_cond (fun h => ?_) (fun h => ?_)) <;> (try have hlt := isT_lt h) <;> (try (exfalso; first | assumption | omega))) | ((first | (with_reducible first | refine G_region fun K E hK hE => ?_ | refine call_ret can37 (Rfis_S _ _ _ _ _ _ _ _ _ _ (by omega) (by omega)) ?_ | refine W_if ?_ | refine W_ifS ?_ | refine P_heads fun Kh hKh => ?_ | refine P_fin fun Kh hKh => ?_ | refine P_each fun Kb hKb => ?_ | refine W_and ?_) | ((with_reducible refine call_ex can50 (Rnm_S _ _ _ _ _ _ _ _ (by first | assumption | omega) (by assumption) (by assumption)) (fun a h => ?_)); obtain ⟨vx, ax, nx, ex, bx⟩ := a; (try dsimp only at h); have hup := h.2; replace h := RPn.rp h; (try have hle := h.1)) | ((with_reducible refine call_ex can72 (Rnames_S _ _ _ _ _ _ _ _ (by first | assumption | omega) (by assumption) (by assumption)) (fun a h => ?_)); obtain ⟨vx, ax, nx, ex, bx⟩ := a; (try dsimp only at h); (try have hle := h.1)) | ((with_reducible refine W_fresh (fun b hb => ?_)); (repeat (obtain ⟨_, hb⟩ := hb)))) <;> (try simp (disch := first | assumption | omega) only [go_sem, seval, Rf, strsV, rf_out, *]))))
  all_goals (first | refine W_ret res102 hQ ?_ | refine W_norm res102 hQ ?_ | refine G_pan hQ ?_)
  all_goals
    refine fin_stm (by (repeat (first | exact WkL.nil | apply WkL.nostrs | apply WkL.nosts | apply WkL.same | apply WkL.lst))) (z_fg) ?_
    unfold valueP
    (repeat (first | exact RP.mk_same (by first | assumption | omega) | assumption | (refine RP.bind (by assumption) ?_) | (simp only [bnd_ok, bnd_assoc, drop_tl, isT_tail, true_or, or_true, or_self, true_and, and_true, false_and, and_false, and_self, false_or, or_false, if_true, if_false, reduceIte, Bool.false_eq_true, Bool.true_eq_false, eq_self, reduceCtorEq, List.drop_drop, *, callP, mustP])))

def storeP (e : Nat) (L : List Sgn) (n : Nat) : PR Stm := bnd (nameP e L n) fun first L n => callP e [] first false L n
theorem Rstore_S (s : St) (r : Nat) (L : List Sgn) (e a n er bd : Nat) (ha : a ≤ L.length) (hL : L.length ≤ 4096) (hG : GoodL L) :
    SCalls Try.prog 103 [.ptr r 0] (Rf s r L e a n er bd) (fun w u => ∃ q : Stm × Nat × Nat × Nat × Nat, w = .ret (stV q.1) ∧ u = Rf s r L e q.2.1 q.2.2.1 q.2.2.2.1 q.2.2.2.2 ∧ RP L a n er bd (storeP e (L.drop a) n) q.1 q.2.1 q.2.2.1 q.2.2.2.1 q.2.2.2.2) := by
  refine G_enter Try.func103 rfl Try.ntmps103 rfl fun Q hQ hQe => ?_
  (repeat' (first | refine Ctl ?_ | ((with_reducible refine Kof.use hK ?_); clear hK hE K E) | ((with_reducible refine Eof.use hE ?_); (try clear hK hE K E)) | ((with_reducible refine Kof.use hKh ?_); clear hKh Kh) | ((with_reducible refine Kof.use hKb (P_next ?_)); clear hKb Kb) | (with_reducible refine G_plan 4 [([0, 1, 2], 3, [[0, 1]]), ([4], 5, [[], []])] [] hQe fun K E hK hE => ?_) | ((with_reducible refine W_cond (fun h => ?_) (fun h => ?_)) <;> (try have hlt := isT_lt h) <;> (try (exfalso; first | assumption | omega))) | ((first | (with_reducible first | refine G_region fun K E hK hE => ?_ | refine call_ret can37 (Rfis_S _ _ _ _ _ _ _ _ _ _ (by omega) (by omega)) ?_ | refine W_if ?_ | refine W_ifS ?_ | refine P_heads fun Kh hKh => ?_ | refine P_fin fun Kh hKh => ?_ | refine P_each fun Kb hKb => ?_ | refine W_and ?_) | ((with_reducible refine call_ex can49 (Rtakes_S _ _ _ _ _ _ _ _ _ (by first | assumption | omega) (by assumption)) (fun a h => ?_)); obtain ⟨ax, nx, ex, bx⟩ := a; (try dsimp only at h); (try have hle := h.1)) | ((with_reducible refine call_ex can50 (Rnm_S _ _ _ _ _ _ _ _ (by first | assumption | omega) (by assumption) (by assumption)) (fun a h => ?_)); obtain ⟨vx, ax, nx, ex, bx⟩ := a; (try dsimp only at h); have hup := h.2; replace h := RPn.rp h; (try have hle := h.1)) | ((with_reducible refine call_ex can72 (Rnames_S _ _ _ _ _ _ _ _ (by first | assumption | omega) (by assumption) (by assumption)) (fun a h => ?_)); obtain ⟨vx, ax, nx, ex, bx⟩ := a; (try dsimp only at h); (try have hle := h.1)) | ((with_reducible refine W_fresh (fun b hb => ?_)); (repeat (obtain ⟨_, hb⟩ := hb)))) <;> (try simp (disch := first | assumption | omega) only [go_sem, seval, Rf, strsV, rf_out, *]))))
  all_goals (first | refine W_ret res103 hQ ?_ | refine W_norm res103 hQ ?_ | refine G_pan hQ ?_)
  all_goals
    refine fin_stm (by (repeat (first | exact WkL.nil | apply WkL.nostrs | apply WkL.nosts | apply WkL.same | apply WkL.lst))) (z_fg) ?_
    unfold storeP
    (repeat (first | exact RP.mk_same (by first | assumption | omega) | assumption | (refine RP.bind (by assumption) ?_) | (simp only [bnd_ok, bnd_assoc, drop_tl, isT_tail, true_or, or_true, or_self, true_and, and_true, false_and, and_false, and_self, false_or, or_false, if_true, if_false, reduceIte, Bool.false_eq_true, Bool.true_eq_false, eq_self, reduceCtorEq, List.drop_drop, *, callP])))

theorem bnd_id {α : Type} (x : PR α) : (bnd x fun y L n => .ok (y, L, n)) = x := by
  cases x with
  | error y => rfl
  | ok v => rfl
theorem nameP_ok {e : Nat} {L L' : List Sgn} {n n' : Nat} {x : List UInt8} (h : nameP e L n = .ok (x, L', n')) : L' = L.tail ∧ n' = n := by
  unfold nameP at h
  split at h
  · cases h
  · split at h
    · obtain ⟨_, rfl, rfl⟩ := ok_inj h; exact ⟨rfl, rfl⟩
    · cases h
theorem bnd_name {β : Type} {e : Nat} {L : List Sgn} {n : Nat} {k k' : List UInt8 → List Sgn → Nat → PR β} (h : ∀ x, k x L.tail n = k' x L.tail n) : bnd (nameP e L n) k = bnd (nameP e L n) k' := by
  cases hn : nameP e L n with
  | error y => rfl
  | ok v =>
    obtain ⟨x, L', n'⟩ := v
    obtain ⟨rfl, rfl⟩ := nameP_ok hn
    exact h x
theorem plainP_1 {e : Nat} {L : List Sgn} {n : Nat} (h : isT L 1 [61] = true) : plainP e L n = bnd (nameP e L n) fun first L n =>
    if isT L.tail 0 [110, 101, 119] then bnd (nameP e L.tail.tail n) fun x L n => .ok (.mk 1 first [] [] x [] [] [], L, n) else valueP e first L.tail n := by
  refine bnd_name fun first => ?_
  have h0 : isT L.tail 0 [61] = true := by rw [isT_tail]; exact h
  simp only [h0, if_true, valueP, bnd_id]
theorem plainP_2 {e : Nat} {L : List Sgn} {n : Nat} (h : isT L 1 [61] = false) (h1 : isT L 1 [46] = true) (h3 : isT L 3 [61] = true) : plainP e L n = bnd (nameP e L n) fun first L n =>
    bnd (nameP e L.tail n) fun x L n => bnd (mustP e L n [61]) fun _ L n => bnd (nameP e L n) fun src L n => .ok (.mk 4 first src [] x [] [] [], L, n) := by
  refine bnd_name fun first => ?_
  have h0 : isT L.tail 0 [61] = false := by rw [isT_tail]; exact h
  have h1 : isT L.tail 0 [46] = true := by rw [isT_tail]; exact h1
  have h3 : isT L.tail 2 [61] = true := by rw [isT_tail]; exact h3
  simp only [h0, h1, h3, and_self, if_true, Bool.false_eq_true, if_false, mustP, bnd_ok]
theorem plainP_3 {e : Nat} {L : List Sgn} {n : Nat} (h : isT L 1 [61] = false) (h1 : isT L 1 [46] = false ∨ isT L 3 [61] = false) : plainP e L n = storeP e L n := by
  refine bnd_name fun first => ?_
  have h0 : isT L.tail 0 [61] = false := by rw [isT_tail]; exact h
  have hh : ¬ (isT L.tail 0 [46] = true ∧ isT L.tail 2 [61] = true) := by
    rw [isT_tail, isT_tail]
    rintro ⟨e1, e2⟩
    rcases h1 with h1 | h1
    · rw [h1] at e1; cases e1
    · rw [h1] at e2; cases e2
  simp only [h0, Bool.false_eq_true, if_false, if_neg hh, bnd_id]

set_option maxHeartbeats 1000000 in
theorem Rplain_S (s : St) (r : Nat) (L : List Sgn) (e a n er bd : Nat) (ha : a ≤ L.length) (hL : L.length ≤ 4096) (hG : GoodL L) :
    SCalls Try.prog 100 [.ptr r 0] (Rf s r L e a n er bd) (fun w u => ∃ q : Stm × Nat × Nat × Nat × Nat, w = .ret (stV q.1) ∧ u = Rf s r L e q.2.1 q.2.2.1 q.2.2.2.1 q.2.2.2.2 ∧ RP L a n er bd (plainP e (L.drop a) n) q.1 q.2.1 q.2.2.1 q.2.2.2.1 q.2.2.2.2) := by
  refine G_enter Try.func100 rfl Try.ntmps100 rfl fun Q hQ hQe => ?_
  (repeat' (first | refine Ctl ?_ | ((with_reducible refine Kof.use hK ?_); clear hK hE K E) | ((with_reducible refine Eof.use hE ?_); (try clear hK hE K E)) | ((with_reducible refine W_cond (fun h => ?_) (fun h => ?_)) <;> (try have hlt := isT_lt h) <;> (try (exfalso; first | assumption | omega))) | ((first | (with_reducible first | refine G_region fun K E hK hE => ?_ | refine call_ret can37 (Rfis_S _ _ _ _ _ _ _ _ _ _ (by omega) (by omega)) ?_ | refine W_if ?_ | refine W_ifS ?_ | refine W_and ?_) | ((with_reducible refine call_ex can49 (Rtakes_S _ _ _ _ _ _ _ _ _ (by first | assumption | omega) (by assumption)) (fun a h => ?_)); obtain ⟨ax, nx, ex, bx⟩ := a; (try dsimp only at h); (try have hle := h.1)) | ((with_reducible refine call_ex can50 (Rnm_S _ _ _ _ _ _ _ _ (by first | assumption | omega) (by assumption) (by assumption)) (fun a h => ?_)); obtain ⟨vx, ax, nx, ex, bx⟩ := a; (try dsimp only at h); have hup := h.2; replace h := RPn.rp h; (try have hle := h.1)) | ((with_reducible refine call_ex can102 (Rvalue_S _ _ _ _ _ _ _ _ _ (by first | assumption | omega) (by assumption) (by assumption)) (fun a h => ?_)); obtain ⟨vx, ax, nx, ex, bx⟩ := a; (try dsimp only at h); (try have hle := h.1)) | ((with_reducible refine call_ex can103 (Rstore_S _ _ _ _ _ _ _ _ (by first | assumption | omega) (by assumption) (by assumption)) (fun a h => ?_)); obtain ⟨vx, ax, nx, ex, bx⟩ := a; (try dsimp only at h); (try have hle := h.1)) | ((with_reducible refine W_fresh (fun b hb => ?_)); (repeat (obtain ⟨_, hb⟩ := hb))) | ((with_reducible refine W_gd (fun h => ?_) (fun h => ?_)) <;> (try have hlt := isT_lt h) <;> (try (exfalso; first | assumption | omega)))) <;> (try simp (disch := first | assumption | omega) only [go_sem, seval, Rf, strsV, stV, stC_len, stC_all, stC_take, rf_out, *]))))
  all_goals (first | refine G_ret hQ (by simp (disch := first | assumption | omega) only [res100, go_sem, seval, stC_len, stC_all, stC_take, Nat.le_refl, *] <;> rfl) ?_ | refine G_norm hQ (by simp (disch := first | assumption | omega) only [res100, go_sem, seval, stC_len, stC_all, stC_take, Nat.le_refl, *] <;> rfl) ?_ | refine G_pan hQ ?_)
  all_goals first
    | (refine fin_stm (by (repeat (first | exact WkL.nil | apply WkL.nostrs | apply WkL.nosts | apply WkL.same | apply WkL.lst))) (z_fg) ?_
       first | rw [plainP_1 (by assumption)] | rw [plainP_2 (by assumption) (by assumption) (by assumption)]
       (repeat (first | exact RP.mk_same (by first | assumption | omega) | assumption | (refine RP.bind (by assumption) ?_) | (simp only [bnd_ok, bnd_assoc, drop_tl, isT_tail, true_or, or_true, or_self, true_and, and_true, false_and, and_false, and_self, false_or, or_false, if_true, if_false, reduceIte, Bool.false_eq_true, Bool.true_eq_false, eq_self, reduceCtorEq, List.drop_drop, *]))); done)
    | (refine fin_val (enc := stV) (z_fg) ?_
       first | rw [plainP_1 (by assumption)] | rw [plainP_3 (by assumption) (by first | exact .inl (by assumption) | exact .inr (by assumption))]
       (repeat (first | exact RP.mk_same (by first | assumption | omega) | assumption | (refine RP.bind (by assumption) ?_) | (simp only [bnd_ok, bnd_assoc, drop_tl, isT_tail, true_or, or_true, or_self, true_and, and_true, false_and, and_false, and_self, false_or, or_false, if_true, if_false, reduceIte, Bool.false_eq_true, Bool.true_eq_false, eq_self, reduceCtorEq, List.drop_drop, *]))); done)
end Go.Proofs.Ytejlknplmfmceaa
