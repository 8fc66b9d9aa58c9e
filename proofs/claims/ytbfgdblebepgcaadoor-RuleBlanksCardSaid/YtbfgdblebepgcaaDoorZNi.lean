/- What is proved: The law RuleAgain, walked. Conditions: a text of fewer than 2^63 bytes. Conditions: those that stand in the statements. -/
import Derived.Test.YtbfgdblebepgcaaDoorZNh
import Derived.Test.YtbfgdblebepgcaaDoorZNf
set_option linter.unusedSimpArgs false
set_option linter.unusedVariables false
set_option maxRecDepth 100000
namespace Go.Proofs.YtbfgdblebepgcaaDoor
open Go.RowKit

theorem SCalls.wk {P : Program} {f : FuncId} {xs ys : List VV} {s : St} {Q : SEnd → St → Prop} (h : SCalls P f ys s Q) (hl : xs.length = ys.length) (hw : ∀ (j : Nat) (x y : VV), xs[j]? = some x → ys[j]? = some y → Wk x y) : SCalls P f xs s Q :=
  fun w0 G w vs hS hr => h w0 G w vs hS ⟨hr.1.trans hl, fun j v y hv hy => by
    have hj : j < xs.length := by rw [hl]; exact (List.getElem?_eq_some_iff.1 hy).1
    exact hw j xs[j] y (List.getElem?_eq_getElem hj) hy G v (hr.2 j v xs[j] hv (List.getElem?_eq_getElem hj))⟩
theorem dm_ok {d : Dm} (h : dmB d = true) : DmOk d := by
  have := dm_small h
  exact ⟨by omega, by omega, by omega⟩
theorem dcl_ok {d : Dcl} (h : dclB d = true) : DclOk d := by
  have h1 := dcl_small h
  simp only [dclB, Bool.and_eq_true, decide_eq_true_eq, List.all_eq_true] at h
  exact ⟨by omega, by omega, fun t ht => by have := nameB_len (h.2 t ht); omega⟩
theorem atm_ok {a : Atm} (h : atmB a = true) : AtmOk a := by
  simp only [atmB, Bool.and_eq_true, decide_eq_true_eq, List.all_eq_true] at h
  obtain ⟨⟨⟨h1, h2⟩, h3⟩, h4⟩ := h
  have h5 := nameB_len h2
  refine ⟨by omega, by omega, fun t ht => ?_⟩
  have h6 := h1 t ht
  unfold trmB at h6
  split at h6
  · simp only [Bool.and_eq_true, decide_eq_true_eq] at h6
    have := nameB_len h6.1
    exact ⟨by omega, by omega, by omega⟩
  · simp only [Bool.and_eq_true, decide_eq_true_eq] at h6
    rw [h6.1.1]
    exact ⟨by simp, by omega, by omega⟩
theorem pgm_ok {x : Pgm} (h : pgmB x = true) : PgmOk x := by
  obtain ⟨l1, l2, l3, h1, h2, h3⟩ := pgmB_to h
  refine ⟨by omega, by omega, by omega, fun d hd => dm_ok (h1 d hd), fun d hd => dcl_ok (h2 d hd), fun y hy => ?_⟩
  have h4 := h3 y hy
  simp only [rulB, Bool.and_eq_true, decide_eq_true_eq, List.all_eq_true] at h4
  obtain ⟨⟨⟨⟨⟨g1, g2⟩, g3⟩, g4⟩, g5⟩, g6⟩ := h4
  exact ⟨atm_ok g1, by omega, fun a ha => atm_ok (g6 a ha)⟩
theorem USame0_S (s : St) : SRet Tryd.prog 12 [.agg [.lst [] .no, .lst [] .no, .lst [] .no], .agg [.lst [] .full, .lst [] .full, .lst [] .full]] s (.bool true) s := by
  have hok : PgmOk ⟨[], [], []⟩ := pgm_ok (by decide)
  have h := USame_S ⟨[], [], []⟩ ⟨[], [], []⟩ hok s
  rw [eqB_self] at h
  refine SCalls.wk h rfl fun j x y hx hy => ?_
  match j with
  | 0 => simp at hx hy; subst hx; subst hy; exact Wk.refl _
  | 1 => simp at hx hy; subst hx; subst hy; exact Wk.agg (.lst _ _ (.lst _ _ (.lst _ _ .nil)))
  | j + 2 => simp at hx
set_option maxHeartbeats 4000000 in
theorem RuleAgain_S (l : List UInt8) (hl : l.length ≤ 9223372036854775000) (s : St) : SRet Tryd.prog 5 [.str l] s (.bool true) s := by
  have p1 := fun s => UParse_S l hl s
  refine G_enter Tryd.func5 rfl Tryd.ntmps5 rfl fun Q hQ hQe => ?_
  cases hP : parseR l with
  | error q =>
    obtain ⟨a, e⟩ := q
    obtain ⟨ha, he0⟩ := parseR_place hP
    have he1 : ¬ (e : Int) = 0 := by omega
    have ha1 : (a : Int) ≤ (l.length : Int) := by omega
    have ha2 : (0 : Int) ≤ (a : Int) := by omega
    rw [hP] at p1
    simp only [parseRV, pgC, List.map_nil] at p1
    have p4 := fun s => USame0_S s
    clear hP
    (repeat' (first
      | with_reducible first | refine L_seq ?_ | refine L_blk ?_ | refine L_skip ?_ | refine L_endblk ?_ | refine L_ret ?_ | refine L_exit ?_ | refine X_code ?_ | refine X_back ?_ | refine X_blk ?_ | refine X_past (by decide) ?_ | refine L_back ?_
      | ((with_reducible refine Kof.use hK ?_); clear hK hE K E)
      | ((with_reducible refine Eof.use hE ?_); (try clear hK hE K E))
      | ((with_reducible refine W_cond (fun h => ?_) (fun h => ?_)) <;> (try (exfalso; first | assumption | omega)))
      | ((with_reducible first | refine G_region fun K E hK hE => ?_ | refine call_ret can11 (p1 _) ?_ | refine call_ret can12 (p4 _) ?_ | refine call_ret can8 (Uawake_S _) ?_ | refine W_if ?_ | refine W_ifS ?_ | refine W_and ?_) <;> (try simp (disch := first | assumption | omega) only [go_sem, seval, *]))
      | ((with_reducible refine W_fresh (fun b hb => ?_)); (repeat (obtain ⟨_, hb⟩ := hb)); (try simp (disch := first | assumption | omega) only [go_sem, seval, *]))
      | ((with_reducible refine W_app (fun o2 ho => ?_)); (repeat (obtain ⟨_, ho⟩ := ho)); (try simp (disch := first | assumption | omega) only [go_sem, seval, *]))
      | ((with_reducible refine W_gd (fun h => ?_) (fun h => ?_)) <;> (try (exfalso; first | assumption | omega)) <;> (try simp (disch := first | assumption | omega) only [go_sem, seval, *]))))
    all_goals (first | refine G_ret hQ (by simp (disch := first | assumption | omega) only [res5, go_sem, seval, *] <;> rfl) ?_ | refine G_norm hQ (by simp (disch := first | assumption | omega) only [res5, go_sem, seval, *] <;> rfl) ?_ | refine G_pan hQ ?_)
    all_goals (refine ⟨_, _, Wk.of_eq ?_, ?_, rfl, rfl⟩)
    all_goals first | rfl | ((try dsimp only); (repeat (first | exact Fg.refl _ | exact Fg.own (by assumption) | (refine Fg.set ?_ _ _) | (refine Fg.setA ?_ (by first | assumption | (simp (disch := assumption) only [own_rd, St.set, if_false, if_true, *]; done))) )); done)
  | ok x =>
    have hc := parseR_check hP
    have hok : PgmOk x := pgm_ok hc
    have p2 := fun s => UPrint_S x hok s
    have p4 := fun s => USame_S x x hok s
    simp only [eqB_self] at p4
    rw [hP] at p1
    cases hL : lexSigns (pgmT x) with
    | error q =>
      have e1 : printU x = .tup [.str [], .int .i64 2] := by simp only [printU, hc, hL, if_true]
      rw [e1] at p2
      simp only [parseRV_ok, pgC] at p1 p2 p4
      generalize x.doms.map dmC = x1 at p1 p2 p4
      generalize x.decls.map dclC = x2 at p1 p2 p4
      generalize x.rules.map rulC = x3 at p1 p2 p4
      clear hP hc hok hL e1
      (repeat' (first
        | with_reducible first | refine L_seq ?_ | refine L_blk ?_ | refine L_skip ?_ | refine L_endblk ?_ | refine L_ret ?_ | refine L_exit ?_ | refine X_code ?_ | refine X_back ?_ | refine X_blk ?_ | refine X_past (by decide) ?_ | refine L_back ?_
        | ((with_reducible refine Kof.use hK ?_); clear hK hE K E)
        | ((with_reducible refine Eof.use hE ?_); (try clear hK hE K E))
        | ((with_reducible refine W_cond (fun h => ?_) (fun h => ?_)) <;> (try (exfalso; first | assumption | omega)))
        | ((with_reducible first | refine G_region fun K E hK hE => ?_ | refine call_ret can11 (p1 _) ?_ | refine call_ret can9 (p2 _) ?_ | refine call_ret can8 (Uawake_S _) ?_ | refine W_if ?_ | refine W_ifS ?_ | refine W_and ?_) <;> (try simp (disch := first | assumption | omega) only [go_sem, seval, *]))
        | ((with_reducible refine W_fresh (fun b hb => ?_)); (repeat (obtain ⟨_, hb⟩ := hb)); (try simp (disch := first | assumption | omega) only [go_sem, seval, *]))
        | ((with_reducible refine W_app (fun o2 ho => ?_)); (repeat (obtain ⟨_, ho⟩ := ho)); (try simp (disch := first | assumption | omega) only [go_sem, seval, *]))
        | ((with_reducible refine W_gd (fun h => ?_) (fun h => ?_)) <;> (try (exfalso; first | assumption | omega)) <;> (try simp (disch := first | assumption | omega) only [go_sem, seval, *]))))
      all_goals (first | refine G_ret hQ (by simp (disch := first | assumption | omega) only [res5, go_sem, seval, *] <;> rfl) ?_ | refine G_norm hQ (by simp (disch := first | assumption | omega) only [res5, go_sem, seval, *] <;> rfl) ?_ | refine G_pan hQ ?_)
      all_goals (refine ⟨_, _, Wk.of_eq ?_, ?_, rfl, rfl⟩)
      all_goals first | rfl | ((try dsimp only); (repeat (first | exact Fg.refl _ | exact Fg.own (by assumption) | (refine Fg.set ?_ _ _) | (refine Fg.setA ?_ (by first | assumption | (simp (disch := assumption) only [own_rd, St.set, if_false, if_true, *]; done))) )); done)
    | ok L =>
      have e1 : printU x = .tup [.str (pgmT x), .int .i64 0] := by simp only [printU, hc, hL, if_true]
      have hlen : (pgmT x).length ≤ 9223372036854775000 := by have := pgmT_len hc; omega
      have p3 := fun s => UParse_S (pgmT x) hlen s
      rw [uprint_parse hc hL] at p3
      rw [e1] at p2
      simp only [parseRV_ok, pgC] at p1 p2 p3 p4
      generalize pgmT x = t1 at p2 p3
      generalize x.doms.map dmC = x1 at p1 p2 p3 p4
      generalize x.decls.map dclC = x2 at p1 p2 p3 p4
      generalize x.rules.map rulC = x3 at p1 p2 p3 p4
      clear hP hc hok hL e1 hlen
      (repeat' (first
        | with_reducible first | refine L_seq ?_ | refine L_blk ?_ | refine L_skip ?_ | refine L_endblk ?_ | refine L_ret ?_ | refine L_exit ?_ | refine X_code ?_ | refine X_back ?_ | refine X_blk ?_ | refine X_past (by decide) ?_ | refine L_back ?_
        | ((with_reducible refine Kof.use hK ?_); clear hK hE K E)
        | ((with_reducible refine Eof.use hE ?_); (try clear hK hE K E))
        | ((with_reducible refine W_cond (fun h => ?_) (fun h => ?_)) <;> (try (exfalso; first | assumption | omega)))
        | ((with_reducible first | refine G_region fun K E hK hE => ?_ | refine call_ret can11 (p1 _) ?_ | refine call_ret can11 (p3 _) ?_ | refine call_ret can9 (p2 _) ?_ | refine call_ret can12 (p4 _) ?_ | refine call_ret can8 (Uawake_S _) ?_ | refine W_if ?_ | refine W_ifS ?_ | refine W_and ?_) <;> (try simp (disch := first | assumption | omega) only [go_sem, seval, *]))
        | ((with_reducible refine W_fresh (fun b hb => ?_)); (repeat (obtain ⟨_, hb⟩ := hb)); (try simp (disch := first | assumption | omega) only [go_sem, seval, *]))
        | ((with_reducible refine W_app (fun o2 ho => ?_)); (repeat (obtain ⟨_, ho⟩ := ho)); (try simp (disch := first | assumption | omega) only [go_sem, seval, *]))
        | ((with_reducible refine W_gd (fun h => ?_) (fun h => ?_)) <;> (try (exfalso; first | assumption | omega)) <;> (try simp (disch := first | assumption | omega) only [go_sem, seval, *]))))
      all_goals (first | refine G_ret hQ (by simp (disch := first | assumption | omega) only [res5, go_sem, seval, *] <;> rfl) ?_ | refine G_norm hQ (by simp (disch := first | assumption | omega) only [res5, go_sem, seval, *] <;> rfl) ?_ | refine G_pan hQ ?_)
      all_goals (refine ⟨_, _, Wk.of_eq ?_, ?_, rfl, rfl⟩)
      all_goals first | rfl | ((try dsimp only); (repeat (first | exact Fg.refl _ | exact Fg.own (by assumption) | (refine Fg.set ?_ _ _) | (refine Fg.setA ?_ (by first | assumption | (simp (disch := assumption) only [own_rd, St.set, if_false, if_true, *]; done))) )); done)
end Go.Proofs.YtbfgdblebepgcaaDoor
