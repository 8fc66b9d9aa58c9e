/- What is proved: The law OoPrints, walked. Conditions: lists and texts of at most 2^47 parts. Conditions: those that stand in the statements. -/
import Derived.Test.YtilpdejbldllbaaZMf
import Derived.Test.YtilpdejbldllbaaZMgj
import Derived.Test.YtilpdejbldllbaaZAw
set_option linter.unusedSimpArgs false
set_option linter.unusedVariables false
set_option maxRecDepth 100000
namespace Go.Proofs.Ytilpdejbldllbaa
open Go.RowKit

set_option maxHeartbeats 4000000 in
theorem OoPrints_S (x : List Cls) (hx : SrcOk x) (s : St) : SRet Try.prog 4 [srcV x] s (.bool true) s := by
  have p1 := fun s => Print_S x hx s
  have p2 := fun s => RPrint_S x hx s
  have p3 := fun s => Few_S x hx s
  simp only [printV] at p1 p2
  simp only [srcV] at p1 p2 p3 ⊢
  generalize (printS x).1 = t1 at p1 p2
  generalize (printS x).2 = t2 at p1 p2
  generalize x.map clsC = xs at p1 p2 p3 ⊢
  refine G_enter Try.func4 rfl Try.ntmps4 rfl fun Q hQ hQe => ?_
  (repeat' (first
    | with_reducible first | refine L_seq ?_ | refine L_blk ?_ | refine L_skip ?_ | refine L_endblk ?_ | refine L_ret ?_ | refine L_exit ?_ | refine X_code ?_ | refine X_back ?_ | refine X_blk ?_ | refine X_past (by decide) ?_ | refine L_back ?_
    | ((with_reducible refine Kof.use hK ?_); clear hK hE K E)
    | ((with_reducible refine Eof.use hE ?_); (try clear hK hE K E))
    | ((with_reducible refine W_cond (fun h => ?_) (fun h => ?_)) <;> (try (exfalso; first | assumption | omega)))
    | ((with_reducible first | refine G_region fun K E hK hE => ?_ | refine call_ret can15 (p1 _) ?_ | refine call_ret can16 (p2 _) ?_ | refine call_ret can10 (awake_S _) ?_ | refine W_if ?_ | refine W_ifS ?_ | refine W_and ?_) <;> (try simp (disch := first | assumption | omega) only [go_sem, seval, srcV, *]))
    | ((with_reducible refine call_ex can14 (p3 _) (fun a h => ?_)); (try simp (disch := first | assumption | omega) only [go_sem, seval, srcV, *]))
    | ((with_reducible refine W_fresh (fun b hb => ?_)); (repeat (obtain ⟨_, hb⟩ := hb)); (try simp (disch := first | assumption | omega) only [go_sem, seval, srcV, *]))
    | ((with_reducible refine W_app (fun o2 ho => ?_)); (try simp (disch := assumption) only [disown_set, disown_own, ownok_o, ownok_m, List.length_map, List.length_cons, List.length_nil, Nat.zero_add, srcV] at ho); (repeat (obtain ⟨_, ho⟩ := ho)); (try simp (disch := first | assumption | omega) only [go_sem, seval, srcV, *]))
    | ((with_reducible refine W_gd (fun h => ?_) (fun h => ?_)) <;> (try (exfalso; first | assumption | omega)) <;> (try simp (disch := first | assumption | omega) only [go_sem, seval, srcV, *]))))
  all_goals (first | refine G_ret hQ (by simp (disch := first | assumption | omega) only [res4, go_sem, seval, *] <;> rfl) ?_ | refine G_norm hQ (by simp (disch := first | assumption | omega) only [res4, go_sem, seval, *] <;> rfl) ?_ | refine G_pan hQ ?_)
  all_goals (refine ⟨_, _, Wk.of_eq ?_, ?_, rfl, rfl⟩)
  all_goals first | rfl | ((try dsimp only); (repeat (first | exact Fg.refl _ | exact Fg.own (by assumption) | (refine Fg.set ?_ _ _) | (refine Fg.setA ?_ (by first | assumption | (simp (disch := assumption) only [own_rd, St.set, if_false, if_true, *]; done))) )); done)
end Go.Proofs.Ytilpdejbldllbaa
