/- What is proved: The law OoAgain, walked. Conditions: a text of fewer than 2^63 bytes. Conditions: those that stand in the statements. -/
import Derived.Test.YtilpdejbldllbaaZTij
import Derived.Test.YtilpdejbldllbaaZMaj
import Derived.Test.YtilpdejbldllbaaZAw
import Derived.Test.YtilpdejbldllbaaZOzj
set_option linter.unusedSimpArgs false
set_option linter.unusedVariables false
set_option maxRecDepth 100000
namespace Go.Proofs.Ytilpdejbldllbaa
open Go.RowKit

set_option maxHeartbeats 4000000 in
theorem OoAgain_S (l : List UInt8) (hl : l.length ≤ 9223372036854775000) (s : St) : SRet Try.prog 6 [.str l] s (.bool true) s := by
  have p1 := fun s => Parse_S l hl s
  refine G_enter Try.func6 rfl Try.ntmps6 rfl fun Q hQ hQe => ?_
  cases hP : parseS l with
  | error q =>
    obtain ⟨a, e⟩ := q
    have ha := parse_place hP
    have he0 := parse_why hP
    have he1 : ¬ (e : Int) = 0 := by omega
    have ha1 : (a : Int) ≤ (l.length : Int) := by omega
    have ha2 : (0 : Int) ≤ (a : Int) := by omega
    rw [hP] at p1
    simp only [parseV, srcV, List.map_nil] at p1
    clear hP
    (repeat' (first
      | with_reducible first | refine L_seq ?_ | refine L_blk ?_ | refine L_skip ?_ | refine L_endblk ?_ | refine L_ret ?_ | refine L_exit ?_ | refine X_code ?_ | refine X_back ?_ | refine X_blk ?_ | refine X_past (by decide) ?_ | refine L_back ?_
      | ((with_reducible refine Kof.use hK ?_); clear hK hE K E)
      | ((with_reducible refine Eof.use hE ?_); (try clear hK hE K E))
      | ((with_reducible refine W_cond (fun h => ?_) (fun h => ?_)) <;> (try (exfalso; first | assumption | omega)))
      | ((with_reducible first | refine G_region fun K E hK hE => ?_ | refine call_ret can11 (p1 _) ?_ | refine call_ret can10 (awake_S _) ?_ | refine W_if ?_ | refine W_ifS ?_ | refine W_and ?_) <;> (try simp (disch := first | assumption | omega) only [go_sem, seval, srcV, *]))
      | ((with_reducible refine W_fresh (fun b hb => ?_)); (repeat (obtain ⟨_, hb⟩ := hb)); (try simp (disch := first | assumption | omega) only [go_sem, seval, srcV, *]))
      | ((with_reducible refine W_app (fun o2 ho => ?_)); (try simp (disch := assumption) only [disown_set, disown_own, ownok_o, ownok_m, List.length_map, List.length_cons, List.length_nil, Nat.zero_add, srcV] at ho); (repeat (obtain ⟨_, ho⟩ := ho)); (try simp (disch := first | assumption | omega) only [go_sem, seval, srcV, *]))
      | ((with_reducible refine W_gd (fun h => ?_) (fun h => ?_)) <;> (try (exfalso; first | assumption | omega)) <;> (try simp (disch := first | assumption | omega) only [go_sem, seval, srcV, *]))))
    all_goals (first | refine G_ret hQ (by simp (disch := first | assumption | omega) only [res6, go_sem, seval, *] <;> rfl) ?_ | refine G_norm hQ (by simp (disch := first | assumption | omega) only [res6, go_sem, seval, *] <;> rfl) ?_ | refine G_pan hQ ?_)
    all_goals (refine ⟨_, _, Wk.of_eq ?_, ?_, rfl, rfl⟩)
    all_goals first | rfl | ((try dsimp only); (repeat (first | exact Fg.refl _ | exact Fg.own (by assumption) | (refine Fg.set ?_ _ _) | (refine Fg.setA ?_ (by first | assumption | (simp (disch := assumption) only [own_rd, St.set, if_false, if_true, *]; done))) )); done)
  | ok x =>
    have hc := parse_check hP
    have hok : SrcOk x := check_ok hc
    have p2 := fun s => Print_S x hok s
    have p4 := fun s => RSame_S x x hok s
    simp only [eqB_self] at p4
    rw [hP] at p1
    cases hL : lexSigns (prtB x) with
    | error q =>
      have e1 : printS x = ([], 2) := by simp [printS, hc, hL]
      simp only [printV, e1] at p2
      simp only [parseV, srcV] at p1 p2 p4
      generalize x.map clsC = xs at p1 p2 p4
      clear hP hc hok hL e1
      (repeat' (first
        | with_reducible first | refine L_seq ?_ | refine L_blk ?_ | refine L_skip ?_ | refine L_endblk ?_ | refine L_ret ?_ | refine L_exit ?_ | refine X_code ?_ | refine X_back ?_ | refine X_blk ?_ | refine X_past (by decide) ?_ | refine L_back ?_
        | ((with_reducible refine Kof.use hK ?_); clear hK hE K E)
        | ((with_reducible refine Eof.use hE ?_); (try clear hK hE K E))
        | ((with_reducible refine W_cond (fun h => ?_) (fun h => ?_)) <;> (try (exfalso; first | assumption | omega)))
        | ((with_reducible first | refine G_region fun K E hK hE => ?_ | refine call_ret can11 (p1 _) ?_ | refine call_ret can15 (p2 _) ?_ | refine call_ret can10 (awake_S _) ?_ | refine W_if ?_ | refine W_ifS ?_ | refine W_and ?_) <;> (try simp (disch := first | assumption | omega) only [go_sem, seval, *]))
        | ((with_reducible refine W_fresh (fun b hb => ?_)); (repeat (obtain ⟨_, hb⟩ := hb)); (try simp (disch := first | assumption | omega) only [go_sem, seval, *]))
        | ((with_reducible refine W_app (fun o2 ho => ?_)); (repeat (obtain ⟨_, ho⟩ := ho)); (try simp (disch := first | assumption | omega) only [go_sem, seval, *]))
        | ((with_reducible refine W_gd (fun h => ?_) (fun h => ?_)) <;> (try (exfalso; first | assumption | omega)) <;> (try simp (disch := first | assumption | omega) only [go_sem, seval, *]))))
      all_goals (first | refine G_ret hQ (by simp (disch := first | assumption | omega) only [res6, go_sem, seval, *] <;> rfl) ?_ | refine G_norm hQ (by simp (disch := first | assumption | omega) only [res6, go_sem, seval, *] <;> rfl) ?_ | refine G_pan hQ ?_)
      all_goals (refine ⟨_, _, Wk.of_eq ?_, ?_, rfl, rfl⟩)
      all_goals first | rfl | ((try dsimp only); (repeat (first | exact Fg.refl _ | exact Fg.own (by assumption) | (refine Fg.set ?_ _ _) | (refine Fg.setA ?_ (by first | assumption | (simp (disch := assumption) only [own_rd, St.set, if_false, if_true, *]; done))) )); done)
    | ok L =>
      have e1 : printS x = (prtB x, 0) := by simp [printS, hc, hL]
      have hlen : (prtB x).length ≤ 9223372036854775000 := by have := (check_parts hc hok).2.1; omega
      have p3 := fun s => Parse_S (prtB x) hlen s
      rw [print_parse hc hL] at p3
      simp only [printV, e1] at p2
      simp only [parseV, srcV] at p1 p2 p3 p4
      generalize prtB x = t1 at p2 p3
      generalize x.map clsC = xs at p1 p2 p3 p4
      clear hP hc hok hL e1 hlen
      (repeat' (first
        | with_reducible first | refine L_seq ?_ | refine L_blk ?_ | refine L_skip ?_ | refine L_endblk ?_ | refine L_ret ?_ | refine L_exit ?_ | refine X_code ?_ | refine X_back ?_ | refine X_blk ?_ | refine X_past (by decide) ?_ | refine L_back ?_
        | ((with_reducible refine Kof.use hK ?_); clear hK hE K E)
        | ((with_reducible refine Eof.use hE ?_); (try clear hK hE K E))
        | ((with_reducible refine W_cond (fun h => ?_) (fun h => ?_)) <;> (try (exfalso; first | assumption | omega)))
        | ((with_reducible first | refine G_region fun K E hK hE => ?_ | refine call_ret can11 (p1 _) ?_ | refine call_ret can11 (p3 _) ?_ | refine call_ret can15 (p2 _) ?_ | refine call_ret can13 (p4 _) ?_ | refine call_ret can10 (awake_S _) ?_ | refine W_if ?_ | refine W_ifS ?_ | refine W_and ?_) <;> (try simp (disch := first | assumption | omega) only [go_sem, seval, *]))
        | ((with_reducible refine W_fresh (fun b hb => ?_)); (repeat (obtain ⟨_, hb⟩ := hb)); (try simp (disch := first | assumption | omega) only [go_sem, seval, *]))
        | ((with_reducible refine W_app (fun o2 ho => ?_)); (repeat (obtain ⟨_, ho⟩ := ho)); (try simp (disch := first | assumption | omega) only [go_sem, seval, *]))
        | ((with_reducible refine W_gd (fun h => ?_) (fun h => ?_)) <;> (try (exfalso; first | assumption | omega)) <;> (try simp (disch := first | assumption | omega) only [go_sem, seval, *]))))
      all_goals (first | refine G_ret hQ (by simp (disch := first | assumption | omega) only [res6, go_sem, seval, *] <;> rfl) ?_ | refine G_norm hQ (by simp (disch := first | assumption | omega) only [res6, go_sem, seval, *] <;> rfl) ?_ | refine G_pan hQ ?_)
      all_goals (refine ⟨_, _, Wk.of_eq ?_, ?_, rfl, rfl⟩)
      all_goals first | rfl | ((try dsimp only); (repeat (first | exact Fg.refl _ | exact Fg.own (by assumption) | (refine Fg.set ?_ _ _) | (refine Fg.setA ?_ (by first | assumption | (simp (disch := assumption) only [own_rd, St.set, if_false, if_true, *]; done))) )); done)
end Go.Proofs.Ytilpdejbldllbaa
