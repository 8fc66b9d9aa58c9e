/- What is proved: What osierlaw15's awake hands back. Conditions: those that stand in the statements. -/
import Derived.Test.YtilpdejbldllbaaZSmj
import Derived.Test.YtilpdejbldllbaaZOy
import Derived.Test.YtilpdejbldllbaaZOoI
import Derived.KernelRfl
set_option linter.unusedSimpArgs false
set_option linter.unusedVariables false
set_option maxRecDepth 100000
namespace Go.Proofs.Ytilpdejbldllbaa
open Go.RowKit

def awX : List Cls := [⟨[77, 97, 105, 110], [], [⟨true, [109, 97, 105, 110], [], [.mk 1 [120] [] [] [77, 97, 105, 110] [] [] [], .mk 4 [120] [120] [] [102] [] [] [], .mk 3 [121] [120] [] [102] [] [] [], .mk 6 [] [] [77, 97, 105, 110] [109, 97, 105, 110] [] [] [],
  .mk 8 [] [] [] [] [] [] [.mk 9 [] [] [] [] [] [.mk 7 [] [121] [] [] [] [] []] []]]⟩]⟩]
theorem awP : parseS [99, 108, 97, 115, 115, 32, 77, 97, 105, 110, 32, 123, 32, 115, 116, 97, 116, 105, 99, 32, 109, 97, 105, 110, 40, 41, 32, 123, 32, 120, 32, 61, 32, 110, 101, 119, 32, 77, 97, 105, 110, 59, 32, 120, 46, 102, 32, 61, 32, 120, 59, 32, 121, 32, 61, 32, 120, 46, 102, 59, 32, 77, 97, 105, 110, 58, 58, 109, 97, 105, 110, 40, 41, 59, 32, 105, 102, 32, 123, 32, 125, 32, 101, 108, 115, 101, 32, 123, 32, 108, 111, 111, 112, 32, 123, 32, 114, 101, 116, 117, 114, 110, 32, 121, 59, 32, 125, 32, 125, 32, 125, 32, 125] = .ok awX := by kernel_rfl
theorem awQ : printS awX = ([99, 108, 97, 115, 115, 32, 77, 97, 105, 110, 32, 123, 10, 32, 32, 115, 116, 97, 116, 105, 99, 32, 109, 97, 105, 110, 40, 41, 32, 123, 10, 32, 32, 32, 32, 120, 32, 61, 32, 110, 101, 119, 32, 77, 97, 105, 110, 59, 10, 32, 32, 32, 32, 120, 46, 102, 32, 61, 32, 120, 59, 10, 32, 32, 32, 32, 121, 32, 61, 32, 120, 46, 102, 59, 10, 32, 32, 32, 32, 77, 97, 105, 110, 58, 58, 109, 97, 105, 110, 40, 41, 59, 10, 32, 32, 32, 32, 105, 102, 32, 123, 10, 32, 32, 32, 32, 125, 32, 101, 108, 115, 101, 32, 123, 10, 32, 32, 32, 32, 32, 32, 108, 111, 111, 112, 32, 123, 10, 32, 32, 32, 32, 32, 32, 32, 32, 114, 101, 116, 117, 114, 110, 32, 121, 59, 10, 32, 32, 32, 32, 32, 32, 125, 10, 32, 32, 32, 32, 125, 10, 32, 32, 125, 10, 125, 10], 0) := by kernel_rfl
theorem awE : parseS [99, 108, 97, 115, 115, 32, 65, 32, 123, 32, 109, 40, 41, 32, 123, 32, 110, 101, 119, 59, 32, 125, 32, 125] = .error (16, 150) := by kernel_rfl
theorem awOk : SrcOk awX := by
  simp [SrcOk, awX, ClsOk, MthOk, TxOk, StmOk, StmsOk]
set_option maxHeartbeats 4000000 in
theorem awake_S (s : St) : SRet Try.prog 10 [] s (.bool true) s := by
  have p1 := fun s => Parse_S [99, 108, 97, 115, 115, 32, 77, 97, 105, 110, 32, 123, 32, 115, 116, 97, 116, 105, 99, 32, 109, 97, 105, 110, 40, 41, 32, 123, 32, 120, 32, 61, 32, 110, 101, 119, 32, 77, 97, 105, 110, 59, 32, 120, 46, 102, 32, 61, 32, 120, 59, 32, 121, 32, 61, 32, 120, 46, 102, 59, 32, 77, 97, 105, 110, 58, 58, 109, 97, 105, 110, 40, 41, 59, 32, 105, 102, 32, 123, 32, 125, 32, 101, 108, 115, 101, 32, 123, 32, 108, 111, 111, 112, 32, 123, 32, 114, 101, 116, 117, 114, 110, 32, 121, 59, 32, 125, 32, 125, 32, 125, 32, 125] (by decide) s
  have p3 := fun s => Parse_S [99, 108, 97, 115, 115, 32, 65, 32, 123, 32, 109, 40, 41, 32, 123, 32, 110, 101, 119, 59, 32, 125, 32, 125] (by decide) s
  have p2 := fun s => Print_S awX awOk s
  rw [awP] at p1
  rw [awE] at p3
  simp only [printV, awQ] at p2
  simp only [parseV, srcV] at p1 p2 p3
  generalize hX : awX.map clsC = xs at p1 p2
  refine G_enter Try.func10 rfl Try.ntmps10 rfl fun Q hQ hQe => ?_
  (repeat' (first
    | with_reducible first | refine L_seq ?_ | refine L_blk ?_ | refine L_skip ?_ | refine L_endblk ?_ | refine L_ret ?_ | refine L_exit ?_ | refine X_code ?_ | refine X_back ?_ | refine X_blk ?_ | refine X_past (by decide) ?_ | refine L_back ?_
    | ((with_reducible refine Kof.use hK ?_); clear hK hE K E)
    | ((with_reducible refine Eof.use hE ?_); (try clear hK hE K E))
    | ((with_reducible refine W_cond (fun h => ?_) (fun h => ?_)) <;> (try (exfalso; first | assumption | omega)))
    | ((with_reducible first | refine G_region fun K E hK hE => ?_ | refine call_ret can11 (p1 _) ?_ | refine call_ret can11 (p3 _) ?_ | refine call_ret can15 (p2 _) ?_ | refine call_ret can11 (Parse_S _ (by first | assumption | omega) _) ?_ | refine call_ret can15 (Print_S _ (by assumption) _) ?_ | refine W_if ?_ | refine W_ifS ?_ | refine W_and ?_) <;> (try simp (disch := first | assumption | omega) only [go_sem, seval, List.append_eq, *]))
    | ((with_reducible refine W_fresh (fun b hb => ?_)); (repeat (obtain ⟨_, hb⟩ := hb)); (try simp (disch := first | assumption | omega) only [go_sem, seval, List.append_eq, *]))
    | ((with_reducible refine W_app (fun o2 ho => ?_)); (try simp (disch := assumption) only [disown_set, disown_own, ownok_o, ownok_m, List.length_map, List.length_cons, List.length_nil, Nat.zero_add, List.append_eq] at ho); (repeat (obtain ⟨_, ho⟩ := ho)); (try simp (disch := first | assumption | omega) only [go_sem, seval, List.append_eq, *]))
    | ((with_reducible refine W_gd (fun h => ?_) (fun h => ?_)) <;> (try (exfalso; first | assumption | omega)) <;> (try simp (disch := first | assumption | omega) only [go_sem, seval, List.append_eq, *]))))
  all_goals (first | refine G_ret hQ (by simp (disch := first | assumption | omega) only [res10, go_sem, seval, *] <;> rfl) ?_ | refine G_norm hQ (by simp (disch := first | assumption | omega) only [res10, go_sem, seval, *] <;> rfl) ?_ | refine G_pan hQ ?_)
  all_goals (refine ⟨_, _, Wk.of_eq ?_, ?_, rfl, rfl⟩)
  all_goals first | rfl | ((try dsimp only); (repeat (first | exact Fg.refl _ | exact Fg.own (by assumption) | (refine Fg.set ?_ _ _) | (refine Fg.setA ?_ (by first | assumption | (simp (disch := assumption) only [own_rd, St.set, if_false, if_true, *]; done))) )); done)
end Go.Proofs.Ytilpdejbldllbaa
