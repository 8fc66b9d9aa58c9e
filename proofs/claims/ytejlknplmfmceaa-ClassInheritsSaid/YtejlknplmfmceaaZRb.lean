/- What is proved: What the reader of package osierref15 hands back, on: names. Conditions: those that stand in the statements. -/
import Derived.Test.YtejlknplmfmceaaZRa
set_option linter.unusedSimpArgs false
set_option linter.unusedVariables false
set_option maxRecDepth 100000
namespace Go.Proofs.Ytejlknplmfmceaa
open Go.RowKit

theorem RP.ok {α : Type} {L : List Sgn} {a n er bd : Nat} {res : PR α} {x : α} {a' n' er' bd' : Nat} (h : RP L a n er bd res x a' n' er' bd') (he : er = 0) (he' : er' = 0) : res = .ok (x, L.drop a', n') := by
  have h3 := h.2.2 he
  match res, h3 with
  | .ok (y, L', m), h3 => obtain ⟨e1, e2, e3, _⟩ := h3; subst e1; subst e2; subst e3; rfl
  | .error (p, k), h3 => exact absurd (h3.1 ▸ he') h3.2.1
theorem RP.no {α : Type} {L : List Sgn} {a n er bd : Nat} {res : PR α} {x : α} {a' n' er' bd' : Nat} (h : RP L a n er bd res x a' n' er' bd') (he : er = 0) (he' : er' ≠ 0) : res = .error (bd', er') := by
  have h3 := h.2.2 he
  match res, h3 with
  | .ok (y, L', m), h3 => exact absurd h3.2.2.2 he'
  | .error (p, k), h3 => obtain ⟨e1, _, e3⟩ := h3; subst e1; subst e3; rfl
theorem RP.old {α : Type} {L : List Sgn} {a n er bd : Nat} {res : PR α} {x : α} {a' n' er' bd' : Nat} (h : RP L a n er bd res x a' n' er' bd') (he : er ≠ 0) : er' = er ∧ bd' = bd := h.2.1 he
theorem RP.le {α : Type} {L : List Sgn} {a n er bd : Nat} {res : PR α} {x : α} {a' n' er' bd' : Nat} (h : RP L a n er bd res x a' n' er' bd') : a' ≤ L.length := h.1
theorem RP.mk_old {α : Type} {L : List Sgn} {a n er bd : Nat} {res : PR α} {x : α} {a' n' : Nat} (ha : a' ≤ L.length) (he : er ≠ 0) : RP L a n er bd res x a' n' er bd := ⟨ha, fun _ => ⟨rfl, rfl⟩, fun h => absurd h he⟩
theorem RP.mk_ok {α : Type} {L : List Sgn} {a n bd : Nat} {x : α} {a' n' bd' : Nat} (ha : a' ≤ L.length) {res : PR α} (hr : res = .ok (x, L.drop a', n')) : RP L a n 0 bd res x a' n' 0 bd' := ⟨ha, fun h => absurd rfl h, fun _ => by rw [hr]; exact ⟨rfl, rfl, rfl, rfl⟩⟩
theorem RP.mk_no {α : Type} {L : List Sgn} {a n bd : Nat} {x : α} {a' n' er' bd' : Nat} (ha : a' ≤ L.length) (he : er' ≠ 0) {res : PR α} (hr : res = .error (bd', er')) : RP L a n 0 bd res x a' n' er' bd' := ⟨ha, fun h => absurd rfl h, fun _ => by rw [hr]; exact ⟨rfl, he, rfl⟩⟩
/-- One after another. -/
theorem RP.bind {α β : Type} {L : List Sgn} {a n er bd : Nat} {r1 : PR α} {k : α → List Sgn → Nat → PR β} {x : α} {y : β} {a1 n1 e1 b1 a2 n2 e2 b2 : Nat} (h1 : RP L a n er bd r1 x a1 n1 e1 b1) (h2 : RP L a1 n1 e1 b1 (k x (L.drop a1) n1) y a2 n2 e2 b2) :
    RP L a n er bd (bnd r1 k) y a2 n2 e2 b2 := by
  by_cases he : er = 0
  · by_cases he1 : e1 = 0
    · rw [h1.ok he he1, bnd_ok]
      exact ⟨h2.1, fun h => absurd he h, fun _ => h2.2.2 he1⟩
    · rw [h1.no he he1, bnd_err]
      obtain ⟨q1, q2⟩ := h2.old he1
      exact ⟨h2.1, fun h => absurd he h, fun _ => ⟨q1, he1, q2⟩⟩
  · obtain ⟨p1, p2⟩ := h1.old he
    obtain ⟨q1, q2⟩ := h2.old (p1 ▸ he)
    exact ⟨h2.1, fun _ => ⟨q1.trans p1, q2.trans p2⟩, fun h => absurd h he⟩

def nth (L : List Sgn) (a : Nat) : Sgn := (L[a]?).getD ⟨0, [], 0⟩
theorem nth_eq {L : List Sgn} {a : Nat} (h : a < L.length) : L[a]? = some (nth L a) := by simp [nth, h]
theorem sgn_at {L : List Sgn} {a : Nat} (h : a < L.length) : (L.map sgnC)[a]? = some (sgnC (nth L a)) := by rw [sgn_nth, nth_eq h]; rfl
theorem GoodL.nm {L : List Sgn} (hG : GoodL L) {a : Nat} (h : a < L.length) : namedB (L.drop a) = RnameB (nth L a).text := hG.named (nth_eq h)
theorem named_end {L : List Sgn} {a : Nat} (h : L.length ≤ a) : namedB (L.drop a) = false := by rw [List.drop_eq_nil_iff.2 h]; rfl
theorem RP.same {L : List Sgn} {a n er bd : Nat} (ha : a ≤ L.length) : RP L a n er bd (.ok ((), L.drop a, n)) () a n er bd :=
  ⟨ha, fun _ => ⟨rfl, rfl⟩, fun h => ⟨rfl, rfl, rfl, h⟩⟩
theorem RP.mk_same {α : Type} {L : List Sgn} {a n er bd : Nat} {x : α} (ha : a ≤ L.length) : RP L a n er bd (.ok (x, L.drop a, n)) x a n er bd :=
  ⟨ha, fun _ => ⟨rfl, rfl⟩, fun h => ⟨rfl, rfl, rfl, h⟩⟩
theorem RP.room {L : List Sgn} {e a n er bd k m er' bd' : Nat} {b : Bool} (ha : a ≤ L.length) (h1 : m ≤ k → b = true → er' = fE er 2 ∧ bd' = fB er bd (place e (L.drop a))) (h2 : er = 0 → ¬ (m ≤ k ∧ b = true) → er' = er ∧ bd' = bd) (h3 : er ≠ 0 → er' = er ∧ bd' = bd) :
    RP L a n er bd (roomP e (L.drop a) n k m b) () a n er' bd' := by
  refine ⟨ha, h3, fun h0 => ?_⟩
  unfold roomP
  by_cases h : m ≤ k ∧ b = true
  · rw [if_pos h]
    obtain ⟨e1, e2⟩ := h1 h.1 h.2
    rw [fE_eq, if_pos h0] at e1
    rw [fB_eq, if_pos h0] at e2
    exact ⟨e1, by decide, e2⟩
  · rw [if_neg h]
    obtain ⟨e1, e2⟩ := h2 h0 h
    exact ⟨rfl, rfl, rfl, e1.trans h0⟩

theorem RP.any {α : Type} {L : List Sgn} {a n er bd : Nat} {r1 r2 : PR α} {x : α} {a' n' er' bd' : Nat} (h : RP L a n er bd r1 x a' n' er' bd') (he : er ≠ 0) : RP L a n er bd r2 x a' n' er' bd' := ⟨h.1, h.2.1, fun h0 => absurd h0 he⟩
def namesStep (e : Nat) (out : List (List UInt8)) (L : List Sgn) (n : Nat) : PR (List UInt8) :=
  bnd (if 0 < out.length then mustP e L n [44] else .ok ((), L, n)) fun _ L n => bnd (roomP e L n out.length 8 (namedB L)) fun _ L n => nameP e L n
theorem namesGo_step (e f : Nat) (out : List (List UInt8)) (L : List Sgn) (n : Nat) (h : isT L 0 [41] = false) : namesGo e (f + 1) out L n = bnd (namesStep e out L n) fun x L n => namesGo e f (out ++ [x]) L n := by
  simp only [namesGo, h, namesStep, bnd_assoc, Bool.false_eq_true, if_false]
theorem namesGo_done (e f : Nat) (out : List (List UInt8)) (L : List Sgn) (n : Nat) (h : isT L 0 [41] = true) : namesGo e (f + 1) out L n = bnd (mustP e L n [41]) fun _ L n => .ok (out, L, n) := by
  simp only [namesGo, h, if_true, mustP, bnd_ok]
theorem namesStep_len {e n n' : Nat} {out : List (List UInt8)} {L L' : List Sgn} {x : List UInt8} (h : namesStep e out L n = .ok (x, L', n')) : L'.length < L.length := by
  unfold namesStep at h
  replace h := bnd_inv h
  obtain ⟨_, L1, n1, h1, h⟩ := h
  replace h := bnd_inv h
  obtain ⟨_, L2, n2, h2, h⟩ := h
  obtain ⟨rfl, rfl⟩ := roomP_eq h2
  have e3 := nameP_len h
  split at h1
  · have := mustP_len h1; omega
  · obtain ⟨_, rfl, rfl⟩ := ok_inj h1; omega
theorem namesGo_fuel {e : Nat} : ∀ (f f' : Nat) (out : List (List UInt8)) (L : List Sgn) (n : Nat), L.length < f → L.length < f' → namesGo e f out L n = namesGo e f' out L n
  | 0, _, _, _, _, h, _ => by omega
  | _, 0, _, _, _, _, h => by omega
  | f + 1, f' + 1, out, L, n, h, h' => by
    cases ht : isT L 0 [41] with
    | true => rw [namesGo_done _ _ _ _ _ ht, namesGo_done _ _ _ _ _ ht]
    | false =>
      rw [namesGo_step _ _ _ _ _ ht, namesGo_step _ _ _ _ _ ht]
      cases hs : namesStep e out L n with
      | error y => rfl
      | ok v =>
        obtain ⟨x, L', n'⟩ := v
        rw [bnd_ok, bnd_ok]
        have := namesStep_len hs
        exact namesGo_fuel f f' _ _ _ (by omega) (by omega)

theorem Rnames_S (s : St) (r : Nat) (L : List Sgn) (e a n er bd : Nat) (ha : a ≤ L.length) (hL : L.length ≤ 4096) (hG : GoodL L) :
    SCalls Try.prog 72 [.ptr r 0] (Rf s r L e a n er bd) (fun w u => ∃ q : List (List UInt8) × Nat × Nat × Nat × Nat, w = .ret (strsV q.1) ∧ u = Rf s r L e q.2.1 q.2.2.1 q.2.2.2.1 q.2.2.2.2 ∧ RP L a n er bd (namesP e (L.drop a) n) q.1 q.2.1 q.2.2.1 q.2.2.2.1 q.2.2.2.2) := by
  refine G_enter Try.func72 rfl Try.ntmps72 rfl fun Q hQ hQe => ?_
  (repeat' (first | refine Ctl ?_ | ((with_reducible refine Kof.use hK ?_); clear hK hE K E) | ((with_reducible refine Eof.use hE ?_); (try clear hK hE K E)) | ((with_reducible refine Kof.use hKh ?_); clear hKh Kh) | ((with_reducible refine Kof.use hKb (P_next ?_)); clear hKb Kb) | (with_reducible refine G_plan 6 [([0, 1, 2, 3, 4, 5, 6, 7, 8, 9, 10, 11, 12, 13, 14, 15, 16, 17, 18, 19, 20, 21, 22, 23, 24, 25, 26, 27, 28, 29, 30, 31, 32, 33], 34, [[]])] [35] hQe fun K E hK hE => ?_) | ((with_reducible refine W_cond (fun h => ?_) (fun h => ?_)) <;> (try (exfalso; first | assumption | omega))) | ((first | (with_reducible first | refine G_region fun K E hK hE => ?_ | refine call_ret can38 (Rfail_S _ _ _ _ _ _ _ _ _ (by decide)) ?_ | refine call_ret can37 (Rfis_S _ _ _ _ _ _ _ _ _ _ (by omega) (by omega)) ?_ | refine call_ret can51 (Rname_S _ _) ?_ | refine W_if ?_ | refine W_ifS ?_ | refine P_heads fun Kh hKh => ?_ | refine P_fin fun Kh hKh => ?_ | refine P_each fun Kb hKb => ?_ | refine W_and ?_) | ((with_reducible refine call_ex can49 (Rtakes_S _ _ _ _ _ _ _ _ _ (by first | assumption | omega) (by assumption)) (fun a h => ?_)); obtain ⟨ax, nx, ex, bx⟩ := a; (try dsimp only at h); (try have hle := h.1)) | ((with_reducible refine call_ex can50 (Rnm_S _ _ _ _ _ _ _ _ (by first | assumption | omega) (by assumption) (by assumption)) (fun a h => ?_)); obtain ⟨vx, ax, nx, ex, bx⟩ := a; (try dsimp only at h); have hup := h.2; replace h := RPn.rp h; (try have hle := h.1)) | ((with_reducible refine W_app (fun o2 ho => ?_)); (try simp (disch := assumption) only [disown_set, disown_own, ownok_o, ownok_m, List.length_map, List.length_cons, List.length_nil, Nat.zero_add, Rf, List.length_map, sgn_at, sgnC] at ho); (repeat (obtain ⟨_, ho⟩ := ho))) | ((with_reducible refine W_gd (fun h => ?_) (fun h => ?_)) <;> (try (exfalso; first | assumption | omega)))) <;> (try simp (disch := first | assumption | omega) only [go_sem, seval, Rf, List.length_map, sgn_at, sgnC, *]))))
  have hax := h.le
  have ggo : ∀ (q : List (List UInt8)) (a' n' er' bd' : Nat), RP L ax nx ex bx (namesGo e (L.length + 1) [] (L.drop ax) nx) q a' n' er' bd' → RP L a n er bd (namesP e (L.drop a) n) q a' n' er' bd' := fun q a' n' er' bd' hh => by
    unfold namesP
    refine RP.bind h ?_
    rw [namesGo_fuel _ (L.length + 1) _ _ _ (by omega) (by rw [List.length_drop]; omega)]
    exact hh
  refine L_loop (fun m env s' => ∃ (a2 n2 er2 bd2 : Nat) (out : List (List UInt8)) (o : Own), a2 ≤ L.length ∧ (m = if er2 = 0 then L.length - a2 + 1 else 0) ∧ (er2 = 0 → out.length + (L.length - a2) ≤ 5000) ∧ out.length ≤ 5001 ∧
      (∀ (q : List (List UInt8)) (a' n' er' bd' : Nat), RP L a2 n2 er2 bd2 (namesGo e (L.length + 1) out (L.drop a2) n2) q a' n' er' bd' → RP L a n er bd (namesP e (L.drop a) n) q a' n' er' bd') ∧
      s' = Rf (s.own o 9 1 out.length) r L e a2 n2 er2 bd2 ∧ OwnOk s o out.length ∧ NotOwn o r ∧ env 0 = .ptr r 0 ∧ env 3 = .lst (out.map strC) o) (if ex = 0 then L.length - ax + 1 else 0) ?_ ?_
  · exact ⟨ax, nx, ex, bx, [], .full, hax, rfl, fun _ => by simp; omega, by simp, ggo, rfl, rfl, trivial, z_sl, z_sl⟩
  · rintro m env s' ⟨a2, n2, er2, bd2, out, o, ha2, hm, hlen, hl1, hgo, rfl, hown, hnr, e0, e3⟩
    clear ggo
    by_cases hz : er2 = 0
    · subst hz
      rw [if_pos rfl] at hm
      replace hlen := hlen rfl
      (repeat' (first | refine Ctl ?_ | ((with_reducible refine Kof.use hK ?_); clear hK hE K E) | ((with_reducible refine Eof.use hE ?_); (try clear hK hE K E)) | ((with_reducible refine Kof.use hKh ?_); clear hKh Kh) | ((with_reducible refine Kof.use hKb (P_next ?_)); clear hKb Kb) | (with_reducible refine G_plan 6 [([0, 1, 2, 3, 4, 5, 6, 7, 8, 9, 10, 11, 12, 13, 14, 15, 16, 17, 18, 19, 20, 21, 22, 23, 24, 25, 26, 27, 28, 29, 30, 31, 32, 33], 34, [[]])] [35] hQe fun K E hK hE => ?_) | ((with_reducible refine W_cond (fun h => ?_) (fun h => ?_)) <;> (try (exfalso; first | assumption | omega))) | ((first | (with_reducible first | refine G_region fun K E hK hE => ?_ | refine call_ret can38 (Rfail_S _ _ _ _ _ _ _ _ _ (by decide)) ?_ | refine call_ret can37 (Rfis_S _ _ _ _ _ _ _ _ _ _ (by omega) (by omega)) ?_ | refine call_ret can51 (Rname_S _ _) ?_ | refine W_if ?_ | refine W_ifS ?_ | refine P_heads fun Kh hKh => ?_ | refine P_fin fun Kh hKh => ?_ | refine P_each fun Kb hKb => ?_ | refine W_and ?_) | ((with_reducible refine call_ex can49 (Rtakes_S _ _ _ _ _ _ _ _ _ (by first | assumption | omega) (by assumption)) (fun a h => ?_)); obtain ⟨ax, nx, ex, bx⟩ := a; (try dsimp only at h); (try have hle := h.1)) | ((with_reducible refine call_ex can50 (Rnm_S _ _ _ _ _ _ _ _ (by first | assumption | omega) (by assumption) (by assumption)) (fun a h => ?_)); obtain ⟨vx, ax, nx, ex, bx⟩ := a; (try dsimp only at h); have hup := h.2; replace h := RPn.rp h; (try have hle := h.1)) | ((with_reducible refine W_app (fun o2 ho => ?_)); (try simp (disch := assumption) only [disown_set, disown_own, ownok_o, ownok_m, List.length_map, List.length_cons, List.length_nil, Nat.zero_add, Rf, List.length_map, sgn_at, sgnC] at ho); (repeat (obtain ⟨_, ho⟩ := ho))) | ((with_reducible refine W_gd (fun h => ?_) (fun h => ?_)) <;> (try (exfalso; first | assumption | omega)))) <;> (try simp (disch := first | assumption | omega) only [go_sem, seval, Rf, List.length_map, sgn_at, sgnC, *]))))
      all_goals try (
        have hq := hgo
        rw [namesGo_done _ _ _ _ _ (by assumption)] at hq
        (first | refine W_ret res72 hQ ?_ | refine W_norm res72 hQ ?_ | refine G_pan hQ ?_)
        refine ⟨_, _, ?_, ?_, (out, ax, nx, ex, bx), rfl, rfl, ?_⟩
        · exact Wk.lst _ _
        · (exact z_fg)
        · exact hq _ _ _ _ _ (RP.bind h (RP.mk_same h.le)))
      all_goals
        have hs : RP L a2 n2 0 bd2 (namesStep e out (L.drop a2) n2) vx ax nx ex bx := by
          apply RP.bind (x := ())
          · first | (rw [if_pos (by omega)]; assumption) | (rw [if_neg (by omega)]; exact RP.mk_same ha2)
          · apply RP.bind (x := ()) (h2 := h)
            refine RP.room (by omega) ?_ ?_ ?_ <;> grind [fE_eq, fB_eq, GoodL.nm, named_end]
        have hlt : ex = 0 → ax > a2 := fun h0 => by
          have := namesStep_len (hs.ok rfl h0)
          rw [List.length_drop, List.length_drop] at this
          omega
        refine ⟨if ex = 0 then L.length - ax + 1 else 0, by split <;> first | omega | (have := hlt ‹_›; omega), ax, nx, ex, bx, out ++ [vx], o2, hle, rfl, fun h0 => ?_, ?_, fun q a' n' er' bd' hh => ?_, ?_, by simpa using ho, by assumption, z_sl, ?_⟩
        · simp only [List.length_append, List.length_cons, List.length_nil]; have := hlt h0; omega
        · simp only [List.length_append, List.length_cons, List.length_nil]; omega
        · refine hgo q a' n' er' bd' ?_
          rw [namesGo_step _ _ _ _ _ (by assumption)]
          refine RP.bind hs ?_
          by_cases h0 : ex = 0
          · rw [namesGo_fuel _ (L.length + 1) _ _ _ (by rw [List.length_drop]; have := hlt h0; omega) (by rw [List.length_drop]; omega)]
            exact hh
          · exact hh.any h0
        · simp only [List.length_append, List.length_cons, List.length_nil]
        · (simp (disch := first | assumption | omega) only [go_sem, seval, *])
          simp [strC]
    · have hz' : ¬ (er2 : Int) = 0 := by omega
      rw [if_neg hz] at hm
      (repeat' (first | refine Ctl ?_ | ((with_reducible refine Kof.use hK ?_); clear hK hE K E) | ((with_reducible refine Eof.use hE ?_); (try clear hK hE K E)) | ((with_reducible refine Kof.use hKh ?_); clear hKh Kh) | ((with_reducible refine Kof.use hKb (P_next ?_)); clear hKb Kb) | (with_reducible refine G_plan 6 [([0, 1, 2, 3, 4, 5, 6, 7, 8, 9, 10, 11, 12, 13, 14, 15, 16, 17, 18, 19, 20, 21, 22, 23, 24, 25, 26, 27, 28, 29, 30, 31, 32, 33], 34, [[]])] [35] hQe fun K E hK hE => ?_) | ((with_reducible refine W_cond (fun h => ?_) (fun h => ?_)) <;> (try (exfalso; first | assumption | omega))) | ((first | (with_reducible first | refine G_region fun K E hK hE => ?_ | refine call_ret can38 (Rfail_S _ _ _ _ _ _ _ _ _ (by decide)) ?_ | refine call_ret can37 (Rfis_S _ _ _ _ _ _ _ _ _ _ (by omega) (by omega)) ?_ | refine call_ret can51 (Rname_S _ _) ?_ | refine W_if ?_ | refine W_ifS ?_ | refine P_heads fun Kh hKh => ?_ | refine P_fin fun Kh hKh => ?_ | refine P_each fun Kb hKb => ?_ | refine W_and ?_) | ((with_reducible refine call_ex can49 (Rtakes_S _ _ _ _ _ _ _ _ _ (by first | assumption | omega) (by assumption)) (fun a h => ?_)); obtain ⟨ax, nx, ex, bx⟩ := a; (try dsimp only at h); (try have hle := h.1)) | ((with_reducible refine call_ex can50 (Rnm_S _ _ _ _ _ _ _ _ (by first | assumption | omega) (by assumption) (by assumption)) (fun a h => ?_)); obtain ⟨vx, ax, nx, ex, bx⟩ := a; (try dsimp only at h); have hup := h.2; replace h := RPn.rp h; (try have hle := h.1)) | ((with_reducible refine W_app (fun o2 ho => ?_)); (try simp (disch := assumption) only [disown_set, disown_own, ownok_o, ownok_m, List.length_map, List.length_cons, List.length_nil, Nat.zero_add, Rf, List.length_map, sgn_at, sgnC] at ho); (repeat (obtain ⟨_, ho⟩ := ho))) | ((with_reducible refine W_gd (fun h => ?_) (fun h => ?_)) <;> (try (exfalso; first | assumption | omega)))) <;> (try simp (disch := first | assumption | omega) only [go_sem, seval, Rf, List.length_map, sgn_at, sgnC, *]))))
      all_goals (first | refine W_ret res72 hQ ?_ | refine W_norm res72 hQ ?_ | refine G_pan hQ ?_)
      all_goals refine ⟨_, _, ?_, ?_, (out, ax, nx, ex, bx), rfl, rfl, ?_⟩
      · exact Wk.lst _ _
      · (exact z_fg)
      · have := h.old hz
        exact hgo _ _ _ _ _ (by rw [this.1, this.2]; exact RP.mk_old h.le hz)
end Go.Proofs.Ytejlknplmfmceaa
