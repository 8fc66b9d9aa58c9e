/- What is proved: The law OoBack, walked. Conditions: lists and texts of at most 2^47 parts. Conditions: those that stand in the statements. -/
import Derived.Test.YtilpdejbldllbaaZMf
import Derived.Test.YtilpdejbldllbaaZTej
import Derived.Test.YtilpdejbldllbaaZAw
import Derived.Test.YtilpdejbldllbaaZOzj
set_option linter.unusedSimpArgs false
set_option linter.unusedVariables false
set_option maxRecDepth 100000
namespace Go.Proofs.Ytilpdejbldllbaa
open Go.RowKit

set_option maxHeartbeats 4000000 in
theorem OoBack_S (x : List Cls) (hx : SrcOk x) (s : St) : SRet Try.prog 5 [srcV x] s (.bool true) s := by
  have p1 := fun s => Print_S x hx s
  have p3 := fun s => Few_S x hx s
  have p4 := fun s => RSame_S x x hx s
  simp only [eqB_self] at p4
  simp only [printV] at p1
  by_cases hok : (printS x).2 = 0
  · have hpp : checkB x = true ∧ ∃ L, lexSigns (prtB x) = .ok L := by
      unfold printS at hok
      split at hok
      · rename_i hc
        refine ⟨hc, ?_⟩
        split at hok
        · exact ⟨_, by assumption⟩
        · cases hok
      · cases hok
    obtain ⟨hc, L, hL⟩ := hpp
    have e1 : printS x = (prtB x, 0) := by simp [printS, hc, hL]
    have hlen : (prtB x).length ≤ 9223372036854775000 := by have := (check_parts hc hx).2.1; omega
    have p2 := fun s => Parse_S (prtB x) hlen s
    rw [print_parse hc hL] at p2
    rw [e1] at p1
    simp only [parseV, srcV] at p1 p2 p3 p4 ⊢
    generalize prtB x = t1 at p1 p2
    generalize x.map clsC = xs at p1 p2 p3 p4 ⊢
    clear hok hc hL hlen e1
    refine G_enter Try.func5 rfl Try.ntmps5 rfl fun Q hQ hQe => ?_
    (repeat' (first
      | with_reducible first | refine L_seq ?_ | refine L_blk ?_ | refine L_skip ?_ | refine L_endblk ?_ | refine L_ret ?_ | refine L_exit ?_ | refine X_code ?_ | refine X_back ?_ | refine X_blk ?_ | refine X_past (by decide) ?_ | refine L_back ?_
      | ((with_reducible refine Kof.use hK ?_); clear hK hE K E)
      | ((with_reducible refine Eof.use hE ?_); (try clear hK hE K E))
      | ((with_reducible refine W_cond (fun h => ?_) (fun h => ?_)) <;> (try (exfalso; first | assumption | omega)))
      | ((with_reducible first | refine G_region fun K E hK hE => ?_ | refine call_ret can15 (p1 _) ?_ | refine call_ret can11 (p2 _) ?_ | refine call_ret can13 (p4 _) ?_ | refine call_ret can10 (awake_S _) ?_ | refine W_if ?_ | refine W_ifS ?_ | refine W_and ?_) <;> (try simp (disch := first | assumption | omega) only [go_sem, seval, *]))
      | ((with_reducible refine call_ex can14 (p3 _) (fun a h => ?_)); (try simp (disch := first | assumption | omega) only [go_sem, seval, *]))
      | ((with_reducible refine W_fresh (fun b hb => ?_)); (repeat (obtain ⟨_, hb⟩ := hb)); (try simp (disch := first | assumption | omega) only [go_sem, seval, *]))
      | ((with_reducible refine W_app (fun o2 ho => ?_)); (repeat (obtain ⟨_, ho⟩ := ho)); (try simp (disch := first | assumption | omega) only [go_sem, seval, *]))
      | ((with_reducible refine W_gd (fun h => ?_) (fun h => ?_)) <;> (try (exfalso; first | assumption | omega)) <;> (try simp (disch := first | assumption | omega) only [go_sem, seval, *]))))
    all_goals (first | refine G_ret hQ (by simp (disch := first | assumption | omega) only [res5, go_sem, seval, *] <;> rfl) ?_ | refine G_norm hQ (by simp (disch := first | assumption | omega) only [res5, go_sem, seval, *] <;> rfl) ?_ | refine G_pan hQ ?_)
    all_goals (refine ⟨_, _, Wk.of_eq ?_, ?_, rfl, rfl⟩)
    all_goals first | rfl | ((try dsimp only); (repeat (first | exact Fg.refl _ | exact Fg.own (by assumption) | (refine Fg.set ?_ _ _) | (refine Fg.setA ?_ (by first | assumption | (simp (disch := assumption) only [own_rd, St.set, if_false, if_true, *]; done))) )); done)
  · have e1 : (printS x).1 = [] := by
      unfold printS at hok ⊢
      split
      · rename_i hc
        rw [if_pos hc] at hok
        split
        · rename_i h; rw [h] at hok; exact absurd rfl hok
        · rfl
      · rfl
    rw [e1] at p1
    have h2 : ¬ ((printS x).2 : Int) = 0 := by omega
    simp only [srcV] at p1 p3 p4 ⊢
    generalize (printS x).2 = t2 at p1 h2
    generalize x.map clsC = xs at p1 p3 p4 ⊢
    clear hok e1
    refine G_enter Try.func5 rfl Try.ntmps5 rfl fun Q hQ hQe => ?_
    (repeat' (first
      | with_reducible first | refine L_seq ?_ | refine L_blk ?_ | refine L_skip ?_ | refine L_endblk ?_ | refine L_ret ?_ | refine L_exit ?_ | refine X_code ?_ | refine X_back ?_ | refine X_blk ?_ | refine X_past (by decide) ?_ | refine L_back ?_
      | ((with_reducible refine Kof.use hK ?_); clear hK hE K E)
      | ((with_reducible refine Eof.use hE ?_); (try clear hK hE K E))
      | ((with_reducible refine W_cond (fun h => ?_) (fun h => ?_)) <;> (try (exfalso; first | assumption | omega)))
      | ((with_reducible first | refine G_region fun K E hK hE => ?_ | refine call_ret can15 (p1 _) ?_ | refine call_ret can10 (awake_S _) ?_ | refine W_if ?_ | refine W_ifS ?_ | refine W_and ?_) <;> (try simp (disch := first | assumption | omega) only [go_sem, seval, *]))
      | ((with_reducible refine call_ex can14 (p3 _) (fun a h => ?_)); (try simp (disch := first | assumption | omega) only [go_sem, seval, *]))
      | ((with_reducible refine W_fresh (fun b hb => ?_)); (repeat (obtain ⟨_, hb⟩ := hb)); (try simp (disch := first | assumption | omega) only [go_sem, seval, *]))
      | ((with_reducible refine W_app (fun o2 ho => ?_)); (repeat (obtain ⟨_, ho⟩ := ho)); (try simp (disch := first | assumption | omega) only [go_sem, seval, *]))
      | ((with_reducible refine W_gd (fun h => ?_) (fun h => ?_)) <;> (try (exfalso; first | assumption | omega)) <;> (try simp (disch := first | assumption | omega) only [go_sem, seval, *]))))
    all_goals (first | refine G_ret hQ (by simp (disch := first | assumption | omega) only [res5, go_sem, seval, *] <;> rfl) ?_ | refine G_norm hQ (by simp (disch := first | assumption | omega) only [res5, go_sem, seval, *] <;> rfl) ?_ | refine G_pan hQ ?_)
    all_goals (refine ⟨_, _, Wk.of_eq ?_, ?_, rfl, rfl⟩)
    all_goals first | rfl | ((try dsimp only); (repeat (first | exact Fg.refl _ | exact Fg.own (by assumption) | (refine Fg.set ?_ _ _) | (refine Fg.setA ?_ (by first | assumption | (simp (disch := assumption) only [own_rd, St.set, if_false, if_true, *]; done))) )); done)
end Go.Proofs.Ytilpdejbldllbaa
