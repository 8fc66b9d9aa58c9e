/- What is proved: The law RulePrints, walked. Conditions: what fits a memory. Conditions: those that stand in the statements. -/
import Derived.Test.YtbfgdblebepgcaaDoorZNo
import Derived.Test.YtbfgdblebepgcaaDoorZNaj
import Derived.Test.YtbfgdblebepgcaaDoorZNe
set_option linter.unusedSimpArgs false
set_option linter.unusedVariables false
set_option maxRecDepth 100000
namespace Go.Proofs.YtbfgdblebepgcaaDoor
open Go.RowKit

theorem printU_form (x : Pgm) : ∃ (t : List UInt8) (e : Int), printU x = .tup [.str t, .int .i64 e] := by
  unfold printU
  split
  · split
    · exact ⟨_, _, rfl⟩
    · exact ⟨_, _, rfl⟩
  · exact ⟨_, _, rfl⟩
set_option maxHeartbeats 4000000 in
theorem RulePrints_S (x : Pgm) (hx : PgmOk x) (s : St) : SRet Tryd.prog 3 [.agg (pgC x)] s (.bool true) s := by
  have p1 := fun s => UPrint_S x hx s
  have p2 := fun s => RPrint11_S x hx s
  have p3 := fun s => UFew_S x hx s
  obtain ⟨t, e, he⟩ := printU_form x
  rw [he] at p1 p2
  clear he
  simp only [pgC] at p1 p2 p3 ⊢
  generalize x.doms.map dmC = x1 at p1 p2 p3 ⊢
  generalize x.decls.map dclC = x2 at p1 p2 p3 ⊢
  generalize x.rules.map rulC = x3 at p1 p2 p3 ⊢
  refine G_enter Tryd.func3 rfl Tryd.ntmps3 rfl fun Q hQ hQe => ?_
  (repeat' (first
    | with_reducible first | refine L_seq ?_ | refine L_blk ?_ | refine L_skip ?_ | refine L_endblk ?_ | refine L_ret ?_ | refine L_exit ?_ | refine X_code ?_ | refine X_back ?_ | refine X_blk ?_ | refine X_past (by decide) ?_ | refine L_back ?_
    | ((with_reducible refine Kof.use hK ?_); clear hK hE K E)
    | ((with_reducible refine Eof.use hE ?_); (try clear hK hE K E))
    | ((with_reducible refine W_cond (fun h => ?_) (fun h => ?_)) <;> (try (exfalso; first | assumption | omega)))
    | ((with_reducible first | refine G_region fun K E hK hE => ?_ | refine call_ret can9 (p1 _) ?_ | refine call_ret can10 (p2 _) ?_ | refine call_ret can8 (Uawake_S _) ?_ | refine W_if ?_ | refine W_ifS ?_ | refine W_and ?_) <;> (try simp (disch := first | assumption | omega) only [go_sem, seval, *]))
    | ((with_reducible refine call_ex can7 (p3 _) (fun a h => ?_)); (try simp (disch := first | assumption | omega) only [go_sem, seval, *]))
    | ((with_reducible refine W_fresh (fun b hb => ?_)); (repeat (obtain ⟨_, hb⟩ := hb)); (try simp (disch := first | assumption | omega) only [go_sem, seval, *]))
    | ((with_reducible refine W_app (fun o2 ho => ?_)); (repeat (obtain ⟨_, ho⟩ := ho)); (try simp (disch := first | assumption | omega) only [go_sem, seval, *]))
    | ((with_reducible refine W_gd (fun h => ?_) (fun h => ?_)) <;> (try (exfalso; first | assumption | omega)) <;> (try simp (disch := first | assumption | omega) only [go_sem, seval, *]))))
  all_goals (first | refine G_ret hQ (by simp (disch := first | assumption | omega) only [res3, go_sem, seval, *] <;> rfl) ?_ | refine G_norm hQ (by simp (disch := first | assumption | omega) only [res3, go_sem, seval, *] <;> rfl) ?_ | refine G_pan hQ ?_)
  all_goals (refine ⟨_, _, Wk.of_eq ?_, ?_, rfl, rfl⟩)
  all_goals first | rfl | ((try dsimp only); (repeat (first | exact Fg.refl _ | exact Fg.own (by assumption) | (refine Fg.set ?_ _ _) | (refine Fg.setA ?_ (by first | assumption | (simp (disch := assumption) only [own_rd, St.set, if_false, if_true, *]; done))) )); done)
end Go.Proofs.YtbfgdblebepgcaaDoor
