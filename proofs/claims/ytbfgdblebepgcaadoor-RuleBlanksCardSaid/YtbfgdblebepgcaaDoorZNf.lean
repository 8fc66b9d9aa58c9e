/- What is proved: The law RuleBack, walked. Conditions: lists and texts of at most 2^47 parts. Conditions: those that stand in the statements. -/
import Derived.Test.YtbfgdblebepgcaaDoorZNaj
import Derived.Test.YtbfgdblebepgcaaDoorZNe
import Derived.Test.YtbfgdblebepgcaaDoorZUrj
set_option linter.unusedSimpArgs false
set_option linter.unusedVariables false
set_option maxRecDepth 100000
namespace Go.Proofs.YtbfgdblebepgcaaDoor
open Go.RowKit

theorem pgmT_len {x : Pgm} (h : pgmB x = true) : (pgmT x).length ≤ 300000 := by
  simp only [pgmB, Bool.and_eq_true, decide_eq_true_eq, List.all_eq_true] at h
  obtain ⟨⟨⟨⟨⟨k1, k2⟩, k3⟩, k4⟩, k5⟩, k6⟩ := h
  have h1 := flat_le (f := dmT) (m := 100) (l := x.doms) fun y hy => (dm_small (k4 y hy)).1
  have h2 := flat_le (f := dclT) (m := 400) (l := x.decls) fun y hy => (dcl_small (k5 y hy)).1
  have h3 := flat_le (f := rulT) (m := 4000) (l := x.rules) fun y hy => (rul_small (k6 y hy)).1
  have g1 : x.doms.length * 100 ≤ 32 * 100 := Nat.mul_le_mul_right _ k1
  have g2 : x.decls.length * 400 ≤ 32 * 400 := Nat.mul_le_mul_right _ k2
  have g3 : x.rules.length * 4000 ≤ 64 * 4000 := Nat.mul_le_mul_right _ k3
  simp only [pgmT, List.length_append]
  omega
theorem parseRV_ok {x : Pgm} : parseRV (.ok x) = .tup [.agg (pgC x), .int .i64 0, .int .i64 0] := rfl
set_option maxHeartbeats 4000000 in
theorem RuleBack_S (x : Pgm) (hx : PgmOk x) (s : St) : SRet Tryd.prog 4 [.agg (pgC x)] s (.bool true) s := by
  have p1 := fun s => UPrint_S x hx s
  have p3 := fun s => UFew_S x hx s
  have p4 := fun s => USame_S x x hx s
  simp only [eqB_self] at p4
  by_cases hok : pgmB x = true ∧ ∃ L, lexSigns (pgmT x) = .ok L
  · obtain ⟨hc, L, hL⟩ := hok
    have e1 : printU x = .tup [.str (pgmT x), .int .i64 0] := by simp only [printU, hc, hL, if_true]
    have hlen : (pgmT x).length ≤ 9223372036854775000 := by have := pgmT_len hc; omega
    have p2 := fun s => UParse_S (pgmT x) hlen s
    rw [uprint_parse hc hL] at p2
    rw [e1] at p1
    simp only [parseRV_ok, pgC] at p1 p2 p3 p4 ⊢
    generalize pgmT x = t1 at p1 p2
    generalize x.doms.map dmC = x1 at p1 p2 p3 p4 ⊢
    generalize x.decls.map dclC = x2 at p1 p2 p3 p4 ⊢
    generalize x.rules.map rulC = x3 at p1 p2 p3 p4 ⊢
    clear hc hL hlen e1
    refine G_enter Tryd.func4 rfl Tryd.ntmps4 rfl fun Q hQ hQe => ?_
    (repeat' (first
      | with_reducible first | refine L_seq ?_ | refine L_blk ?_ | refine L_skip ?_ | refine L_endblk ?_ | refine L_ret ?_ | refine L_exit ?_ | refine X_code ?_ | refine X_back ?_ | refine X_blk ?_ | refine X_past (by decide) ?_ | refine L_back ?_
      | ((with_reducible refine Kof.use hK ?_); clear hK hE K E)
      | ((with_reducible refine Eof.use hE ?_); (try clear hK hE K E))
      | ((with_reducible refine W_cond (fun h => ?_) (fun h => ?_)) <;> (try (exfalso; first | assumption | omega)))
      | ((with_reducible first | refine G_region fun K E hK hE => ?_ | refine call_ret can9 (p1 _) ?_ | refine call_ret can11 (p2 _) ?_ | refine call_ret can12 (p4 _) ?_ | refine call_ret can8 (Uawake_S _) ?_ | refine W_if ?_ | refine W_ifS ?_ | refine W_and ?_) <;> (try simp (disch := first | assumption | omega) only [go_sem, seval, *]))
      | ((with_reducible refine call_ex can7 (p3 _) (fun a h => ?_)); (try simp (disch := first | assumption | omega) only [go_sem, seval, *]))
      | ((with_reducible refine W_fresh (fun b hb => ?_)); (repeat (obtain ⟨_, hb⟩ := hb)); (try simp (disch := first | assumption | omega) only [go_sem, seval, *]))
      | ((with_reducible refine W_app (fun o2 ho => ?_)); (repeat (obtain ⟨_, ho⟩ := ho)); (try simp (disch := first | assumption | omega) only [go_sem, seval, *]))
      | ((with_reducible refine W_gd (fun h => ?_) (fun h => ?_)) <;> (try (exfalso; first | assumption | omega)) <;> (try simp (disch := first | assumption | omega) only [go_sem, seval, *]))))
    all_goals (first | refine G_ret hQ (by simp (disch := first | assumption | omega) only [res4, go_sem, seval, *] <;> rfl) ?_ | refine G_norm hQ (by simp (disch := first | assumption | omega) only [res4, go_sem, seval, *] <;> rfl) ?_ | refine G_pan hQ ?_)
    all_goals (refine ⟨_, _, Wk.of_eq ?_, ?_, rfl, rfl⟩)
    all_goals first | rfl | ((try dsimp only); (repeat (first | exact Fg.refl _ | exact Fg.own (by assumption) | (refine Fg.set ?_ _ _) | (refine Fg.setA ?_ (by first | assumption | (simp (disch := assumption) only [own_rd, St.set, if_false, if_true, *]; done))) )); done)
  · have e1 : ∃ e : Int, printU x = .tup [.str [], .int .i64 e] ∧ ¬ e = 0 := by
      unfold printU
      split
      · rename_i hc
        split
        · rename_i L hL; exact absurd ⟨hc, L, hL⟩ hok
        · exact ⟨2, rfl, by decide⟩
      · exact ⟨1, rfl, by decide⟩
    obtain ⟨e, e1, he⟩ := e1
    rw [e1] at p1
    simp only [pgC] at p1 p3 p4 ⊢
    generalize x.doms.map dmC = x1 at p1 p3 p4 ⊢
    generalize x.decls.map dclC = x2 at p1 p3 p4 ⊢
    generalize x.rules.map rulC = x3 at p1 p3 p4 ⊢
    clear hok e1
    refine G_enter Tryd.func4 rfl Tryd.ntmps4 rfl fun Q hQ hQe => ?_
    (repeat' (first
      | with_reducible first | refine L_seq ?_ | refine L_blk ?_ | refine L_skip ?_ | refine L_endblk ?_ | refine L_ret ?_ | refine L_exit ?_ | refine X_code ?_ | refine X_back ?_ | refine X_blk ?_ | refine X_past (by decide) ?_ | refine L_back ?_
      | ((with_reducible refine Kof.use hK ?_); clear hK hE K E)
      | ((with_reducible refine Eof.use hE ?_); (try clear hK hE K E))
      | ((with_reducible refine W_cond (fun h => ?_) (fun h => ?_)) <;> (try (exfalso; first | assumption | omega)))
      | ((with_reducible first | refine G_region fun K E hK hE => ?_ | refine call_ret can9 (p1 _) ?_ | refine call_ret can8 (Uawake_S _) ?_ | refine W_if ?_ | refine W_ifS ?_ | refine W_and ?_) <;> (try simp (disch := first | assumption | omega) only [go_sem, seval, *]))
      | ((with_reducible refine call_ex can7 (p3 _) (fun a h => ?_)); (try simp (disch := first | assumption | omega) only [go_sem, seval, *]))
      | ((with_reducible refine W_fresh (fun b hb => ?_)); (repeat (obtain ⟨_, hb⟩ := hb)); (try simp (disch := first | assumption | omega) only [go_sem, seval, *]))
      | ((with_reducible refine W_app (fun o2 ho => ?_)); (repeat (obtain ⟨_, ho⟩ := ho)); (try simp (disch := first | assumption | omega) only [go_sem, seval, *]))
      | ((with_reducible refine W_gd (fun h => ?_) (fun h => ?_)) <;> (try (exfalso; first | assumption | omega)) <;> (try simp (disch := first | assumption | omega) only [go_sem, seval, *]))))
    all_goals (first | refine G_ret hQ (by simp (disch := first | assumption | omega) only [res4, go_sem, seval, *] <;> rfl) ?_ | refine G_norm hQ (by simp (disch := first | assumption | omega) only [res4, go_sem, seval, *] <;> rfl) ?_ | refine G_pan hQ ?_)
    all_goals (refine ⟨_, _, Wk.of_eq ?_, ?_, rfl, rfl⟩)
    all_goals first | rfl | ((try dsimp only); (repeat (first | exact Fg.refl _ | exact Fg.own (by assumption) | (refine Fg.set ?_ _ _) | (refine Fg.setA ?_ (by first | assumption | (simp (disch := assumption) only [own_rd, St.set, if_false, if_true, *]; done))) )); done)
end Go.Proofs.YtbfgdblebepgcaaDoor
