/- What is proved: What osierlaw11's awake hands back. Conditions: those that stand in the statements. -/
import Derived.Test.YtbfgdblebepgcaaDoorZUr
import Derived.Test.YtbfgdblebepgcaaDoorZUk
import Derived.Test.YtbfgdblebepgcaaDoorZUq
import Derived.KernelRfl
set_option linter.unusedSimpArgs false
set_option linter.unusedVariables false
set_option maxRecDepth 100000
namespace Go.Proofs.YtbfgdblebepgcaaDoor
open Go.RowKit

def awU : Pgm := ⟨[⟨[86], 8⟩], [⟨[97], [[86], [86]]⟩], [⟨⟨false, [97], [⟨true, [120], 0⟩, ⟨true, [121], 0⟩]⟩, [⟨false, [97], [⟨true, [121], 0⟩, ⟨true, [120], 0⟩]⟩, ⟨true, [97], [⟨true, [120], 0⟩, ⟨false, [], 3⟩]⟩]⟩]⟩
theorem awUP : parseR [100, 111, 109, 32, 86, 32, 56, 46, 32, 114, 101, 108, 32, 97, 40, 86, 44, 32, 86, 41, 46, 32, 97, 40, 120, 44, 32, 121, 41, 32, 58, 45, 32, 97, 40, 121, 44, 32, 120, 41, 44, 32, 33, 97, 40, 120, 44, 32, 51, 41, 46, 32, 35, 32, 101, 110, 100] = .ok awU := by kernel_rfl
theorem awUT : pgmT awU = [100, 111, 109, 32, 86, 32, 56, 46, 10, 114, 101, 108, 32, 97, 40, 86, 44, 32, 86, 41, 46, 10, 97, 40, 120, 44, 32, 121, 41, 32, 58, 45, 32, 97, 40, 121, 44, 32, 120, 41, 44, 32, 33, 97, 40, 120, 44, 32, 51, 41, 46, 10] := by
  have h8 : Lib.itoa 8 = [56] := by rw [show (8 : Int) = ((8 : Nat) : Int) from rfl, ito_nat, dd_small (by omega)]; rfl
  have h3 : Lib.itoa 3 = [51] := by rw [show (3 : Int) = ((3 : Nat) : Int) from rfl, ito_nat, dd_small (by omega)]; rfl
  simp [pgmT, awU, dmT, dclT, rulT, atmT, trmT, h8, h3, Lib.join_cons, Lib.joinTail]
theorem awUB : pgmB awU = true := by kernel_rfl
theorem awUL : ∃ L, lexSigns [100, 111, 109, 32, 86, 32, 56, 46, 10, 114, 101, 108, 32, 97, 40, 86, 44, 32, 86, 41, 46, 10, 97, 40, 120, 44, 32, 121, 41, 32, 58, 45, 32, 97, 40, 121, 44, 32, 120, 41, 44, 32, 33, 97, 40, 120, 44, 32, 51, 41, 46, 10] = .ok L := by
  have h : (match lexSigns [100, 111, 109, 32, 86, 32, 56, 46, 10, 114, 101, 108, 32, 97, 40, 86, 44, 32, 86, 41, 46, 10, 97, 40, 120, 44, 32, 121, 41, 32, 58, 45, 32, 97, 40, 121, 44, 32, 120, 41, 44, 32, 33, 97, 40, 120, 44, 32, 51, 41, 46, 10] with | .ok _ => true | .error _ => false) = true := by kernel_rfl
  cases hL : lexSigns [100, 111, 109, 32, 86, 32, 56, 46, 10, 114, 101, 108, 32, 97, 40, 86, 44, 32, 86, 41, 46, 10, 97, 40, 120, 44, 32, 121, 41, 32, 58, 45, 32, 97, 40, 121, 44, 32, 120, 41, 44, 32, 33, 97, 40, 120, 44, 32, 51, 41, 46, 10] with
  | ok L => exact ⟨L, rfl⟩
  | error e => rw [hL] at h; cases h
theorem awUQ : printU awU = .tup [.str [100, 111, 109, 32, 86, 32, 56, 46, 10, 114, 101, 108, 32, 97, 40, 86, 44, 32, 86, 41, 46, 10, 97, 40, 120, 44, 32, 121, 41, 32, 58, 45, 32, 97, 40, 121, 44, 32, 120, 41, 44, 32, 33, 97, 40, 120, 44, 32, 51, 41, 46, 10], .int .i64 0] := by
  obtain ⟨L, hL⟩ := awUL
  unfold printU
  rw [if_pos awUB, awUT, hL]
theorem awUE : parseR [114, 101, 108, 32, 97, 40, 86, 41, 32, 97, 40, 49, 41, 46] = .error (9, 110) := by kernel_rfl
theorem awUok : PgmOk awU := by
  simp [PgmOk, awU, DmOk, DclOk, RulOk, AtmOk]
set_option maxHeartbeats 4000000 in
theorem Uawake_S (s : St) : SRet Tryd.prog 8 [] s (.bool true) s := by
  have p1 := fun s => UParse_S [100, 111, 109, 32, 86, 32, 56, 46, 32, 114, 101, 108, 32, 97, 40, 86, 44, 32, 86, 41, 46, 32, 97, 40, 120, 44, 32, 121, 41, 32, 58, 45, 32, 97, 40, 121, 44, 32, 120, 41, 44, 32, 33, 97, 40, 120, 44, 32, 51, 41, 46, 32, 35, 32, 101, 110, 100] (by decide) s
  have p3 := fun s => UParse_S [114, 101, 108, 32, 97, 40, 86, 41, 32, 97, 40, 49, 41, 46] (by decide) s
  have p2 := fun s => UPrint_S awU awUok s
  rw [awUP] at p1
  rw [awUE] at p3
  rw [awUQ] at p2
  simp only [parseRV, pgC] at p1 p2 p3
  generalize awU.doms.map dmC = x1 at p1 p2
  generalize awU.decls.map dclC = x2 at p1 p2
  generalize awU.rules.map rulC = x3 at p1 p2
  refine G_enter Tryd.func8 rfl Tryd.ntmps8 rfl fun Q hQ hQe => ?_
  (repeat' (first
    | with_reducible first | refine L_seq ?_ | refine L_blk ?_ | refine L_skip ?_ | refine L_endblk ?_ | refine L_ret ?_ | refine L_exit ?_ | refine X_code ?_ | refine X_back ?_ | refine X_blk ?_ | refine X_past (by decide) ?_ | refine L_back ?_
    | ((with_reducible refine Kof.use hK ?_); clear hK hE K E)
    | ((with_reducible refine Eof.use hE ?_); (try clear hK hE K E))
    | ((with_reducible refine W_cond (fun h => ?_) (fun h => ?_)) <;> (try (exfalso; first | assumption | omega)))
    | ((with_reducible first | refine G_region fun K E hK hE => ?_ | refine call_ret can11 (p1 _) ?_ | refine call_ret can11 (p3 _) ?_ | refine call_ret can9 (p2 _) ?_ | refine call_ret can11 (UParse_S _ (by first | assumption | omega) _) ?_ | refine call_ret can9 (UPrint_S _ (by assumption) _) ?_ | refine W_if ?_ | refine W_ifS ?_ | refine W_and ?_) <;> (try simp (disch := first | assumption | omega) only [go_sem, seval, List.append_eq, *]))
    | ((with_reducible refine W_fresh (fun b hb => ?_)); (repeat (obtain ⟨_, hb⟩ := hb)); (try simp (disch := first | assumption | omega) only [go_sem, seval, List.append_eq, *]))
    | ((with_reducible refine W_app (fun o2 ho => ?_)); (try simp (disch := assumption) only [disown_set, disown_own, ownok_o, ownok_m, List.length_map, List.length_cons, List.length_nil, Nat.zero_add, List.append_eq] at ho); (repeat (obtain ⟨_, ho⟩ := ho)); (try simp (disch := first | assumption | omega) only [go_sem, seval, List.append_eq, *]))
    | ((with_reducible refine W_gd (fun h => ?_) (fun h => ?_)) <;> (try (exfalso; first | assumption | omega)) <;> (try simp (disch := first | assumption | omega) only [go_sem, seval, List.append_eq, *]))))
  all_goals (first | refine G_ret hQ (by simp (disch := first | assumption | omega) only [res8, go_sem, seval, *] <;> rfl) ?_ | refine G_norm hQ (by simp (disch := first | assumption | omega) only [res8, go_sem, seval, *] <;> rfl) ?_ | refine G_pan hQ ?_)
  all_goals (refine ⟨_, _, Wk.of_eq ?_, ?_, rfl, rfl⟩)
  all_goals first | rfl | ((try dsimp only); (repeat (first | exact Fg.refl _ | exact Fg.own (by assumption) | (refine Fg.set ?_ _ _) | (refine Fg.setA ?_ (by first | assumption | (simp (disch := assumption) only [own_rd, St.set, if_false, if_true, *]; done))) )); done)
end Go.Proofs.YtbfgdblebepgcaaDoor
