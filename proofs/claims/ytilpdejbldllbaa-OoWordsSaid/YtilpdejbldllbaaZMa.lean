/- What is proved: What package osierref15 says of one statement. Conditions: texts and lists of at most 2^47 parts. Conditions: those that stand in the statements. -/
import Derived.Test.YtilpdejbldllbaaZOz
import Derived.Test.YtilpdejbldllbaaZGq
set_option linter.unusedSimpArgs false
set_option linter.unusedVariables false
set_option maxRecDepth 100000
namespace Go.Proofs.Ytilpdejbldllbaa
open Go.RowKit

theorem Nm_S (t : List UInt8) (s : St) : SRet Try.prog 18 [.str t] s (.bool (isNameB t)) s := by
  rw [← rname]; exact Rname_S t s
theorem Ropt_S (t : List UInt8) (s : St) : SRet Try.prog 66 [.str t] s (.bool (t.isEmpty || isNameB t)) s := by
  refine G_enter Try.func66 rfl Try.ntmps66 rfl fun Q hQ hQe => ?_
  (repeat' (first
    | with_reducible first | refine L_seq ?_ | refine L_blk ?_ | refine L_skip ?_ | refine L_endblk ?_ | refine L_ret ?_ | refine L_exit ?_ | refine X_code ?_ | refine X_back ?_ | refine X_blk ?_ | refine X_past (by decide) ?_ | refine L_back ?_
    | ((with_reducible refine Kof.use hK ?_); clear hK hE K E)
    | ((with_reducible refine Eof.use hE ?_); (try clear hK hE K E))
    | ((with_reducible refine W_cond (fun h => ?_) (fun h => ?_)) <;> (try (exfalso; first | assumption | omega)))
    | ((with_reducible first | refine G_region fun K E hK hE => ?_ | refine call_ret can18 (Nm_S _ _) ?_ | refine call_ret can18 (Rname_S _ _) ?_ | refine W_if ?_ | refine W_ifS ?_ | refine W_and ?_) <;> (try simp (disch := first | assumption | omega) only [go_sem, seval, *]))
    | ((with_reducible refine W_fresh (fun b hb => ?_)); (repeat (obtain ⟨_, hb⟩ := hb)); (try simp (disch := first | assumption | omega) only [go_sem, seval, *]))
    | ((with_reducible refine W_app (fun o2 ho => ?_)); (repeat (obtain ⟨_, ho⟩ := ho)); (try simp (disch := first | assumption | omega) only [go_sem, seval, *]))
    | ((with_reducible refine W_gd (fun h => ?_) (fun h => ?_)) <;> (try (exfalso; first | assumption | omega)) <;> (try simp (disch := first | assumption | omega) only [go_sem, seval, *]))))
  all_goals (first | refine G_ret hQ (by simp (disch := first | assumption | omega) only [res66, go_sem, seval, *] <;> rfl) ?_ | refine G_norm hQ (by simp (disch := first | assumption | omega) only [res66, go_sem, seval, *] <;> rfl) ?_ | refine G_pan hQ ?_)
  all_goals (refine ⟨_, _, Wk.of_eq ?_, ?_, rfl, rfl⟩)
  all_goals first | ((try dsimp only); (repeat (first | exact Fg.refl _ | exact Fg.own (by assumption) | (refine Fg.set ?_ _ _) | (refine Fg.setA ?_ (by first | assumption | (simp (disch := assumption) only [own_rd, St.set, if_false, if_true, *]; done))) )); done) | (simp_all; done)
theorem Rall_S (l : List (List UInt8)) (o0 : Own) (hl : l.length ≤ 140737488355328) (s : St) : SRet Try.prog 67 [.lst (strs l) o0] s (.bool (namesB l)) s := by
  have hsl : (strs l).length = l.length := by simp [strs]
  refine G_enter Try.func67 rfl Try.ntmps67 rfl fun Q hQ hQe => ?_
  (repeat' (first
    | with_reducible first | refine L_seq ?_ | refine L_blk ?_ | refine L_skip ?_ | refine L_endblk ?_ | refine L_ret ?_ | refine L_exit ?_ | refine X_code ?_ | refine X_back ?_ | refine X_blk ?_ | refine X_past (by decide) ?_ | refine L_back ?_
    | ((with_reducible refine Kof.use hK ?_); clear hK hE K E)
    | ((with_reducible refine Eof.use hE ?_); (try clear hK hE K E))
    | ((with_reducible refine W_cond (fun h => ?_) (fun h => ?_)) <;> (try (exfalso; first | assumption | omega)))
    | ((with_reducible first | refine G_region fun K E hK hE => ?_ | refine call_ret can18 (Rname_S _ _) ?_ | refine W_if ?_ | refine W_ifS ?_ | refine W_and ?_) <;> (try simp (disch := first | assumption | omega) only [go_sem, seval, hsl, *]))
    | ((with_reducible refine W_fresh (fun b hb => ?_)); (repeat (obtain ⟨_, hb⟩ := hb)); (try simp (disch := first | assumption | omega) only [go_sem, seval, hsl, *]))
    | ((with_reducible refine W_app (fun o2 ho => ?_)); (try simp (disch := assumption) only [disown_set, disown_own, ownok_o, ownok_m, List.length_map, List.length_cons, List.length_nil, Nat.zero_add, hsl] at ho); (repeat (obtain ⟨_, ho⟩ := ho)); (try simp (disch := first | assumption | omega) only [go_sem, seval, hsl, *]))
    | ((with_reducible refine W_gd (fun h => ?_) (fun h => ?_)) <;> (try (exfalso; first | assumption | omega)) <;> (try simp (disch := first | assumption | omega) only [go_sem, seval, hsl, *]))))
  refine L_loop (fun m env s' => ∃ i : Nat, i ≤ l.length ∧ m + i = l.length ∧ (l.take i).all isNameB = true ∧ s' = s ∧ env 0 = .lst (strs l) o0 ∧ env 3 = .int .i64 i) l.length ⟨0, by omega, by omega, rfl, rfl, by ((try simp (disch := first | assumption | omega) only [go_sem, seval, *]) <;> first | rfl | omega), by ((try simp (disch := first | assumption | omega) only [go_sem, seval, *]) <;> first | rfl | omega)⟩ ?_
  rintro m env s' ⟨i, hi, hm, ha, rfl, e0, e3⟩
  have HA := Lib.hid ha
  clear ha
  by_cases hlt : i < l.length
  · obtain ⟨x, hx⟩ := list_get hlt
    have hsx : (strs l)[i]? = some [.str x] := by simp [strs, hx]
    have HX := Lib.hid hx
    clear hx
    (repeat' (first
      | with_reducible first | refine L_seq ?_ | refine L_blk ?_ | refine L_skip ?_ | refine L_endblk ?_ | refine L_ret ?_ | refine L_exit ?_ | refine X_code ?_ | refine X_back ?_ | refine X_blk ?_ | refine X_past (by decide) ?_ | refine L_back ?_
      | ((with_reducible refine Kof.use hK ?_); clear hK hE K E)
      | ((with_reducible refine Eof.use hE ?_); (try clear hK hE K E))
      | ((with_reducible refine W_cond (fun h => ?_) (fun h => ?_)) <;> (try (exfalso; first | assumption | omega)))
      | ((with_reducible first | refine G_region fun K E hK hE => ?_ | refine call_ret can18 (Nm_S _ _) ?_ | refine call_ret can18 (Rname_S _ _) ?_ | refine W_if ?_ | refine W_ifS ?_ | refine W_and ?_) <;> (try simp (disch := first | assumption | omega) only [go_sem, seval, hsl, hsx, *]))
      | ((with_reducible refine W_fresh (fun b hb => ?_)); (repeat (obtain ⟨_, hb⟩ := hb)); (try simp (disch := first | assumption | omega) only [go_sem, seval, hsl, hsx, *]))
      | ((with_reducible refine W_app (fun o2 ho => ?_)); (try simp (disch := assumption) only [disown_set, disown_own, ownok_o, ownok_m, List.length_map, List.length_cons, List.length_nil, Nat.zero_add, hsl, hsx] at ho); (repeat (obtain ⟨_, ho⟩ := ho)); (try simp (disch := first | assumption | omega) only [go_sem, seval, hsl, hsx, *]))
      | ((with_reducible refine W_gd (fun h => ?_) (fun h => ?_)) <;> (try (exfalso; first | assumption | omega)) <;> (try simp (disch := first | assumption | omega) only [go_sem, seval, hsl, hsx, *]))))
    all_goals first
      | exact ⟨m - 1, by omega, i + 1, by omega, by omega, all_take HA.out HX.out (by assumption), rfl, by ((try simp (disch := first | assumption | omega) only [go_sem, seval, *]) <;> first | rfl | omega), by ((try simp (disch := first | assumption | omega) only [go_sem, seval, *]) <;> first | rfl | omega)⟩
      | (have hn : namesB l = false := by unfold namesB; rw [all_not HX.out (by assumption)]; simp
         (first | refine G_ret hQ (by simp (disch := first | assumption | omega) only [res67, go_sem, seval, *] <;> rfl) ?_ | refine G_norm hQ (by simp (disch := first | assumption | omega) only [res67, go_sem, seval, *] <;> rfl) ?_ | refine G_pan hQ ?_)
         (refine ⟨_, _, Wk.of_eq ?_, ?_, rfl, rfl⟩)
         · rw [hn]
         · ((try dsimp only); (repeat (first | exact Fg.refl _ | exact Fg.own (by assumption) | (refine Fg.set ?_ _ _) | (refine Fg.setA ?_ (by first | assumption | (simp (disch := assumption) only [own_rd, St.set, if_false, if_true, *]; done))) )); done))
  · have htk : l.all isNameB = true := by have := HA.out; rwa [show i = l.length by omega, List.take_length] at this
    have hn : namesB l = decide (l.length ≤ 8) := by unfold namesB; rw [htk]; simp
    clear htk
    (repeat' (first
      | with_reducible first | refine L_seq ?_ | refine L_blk ?_ | refine L_skip ?_ | refine L_endblk ?_ | refine L_ret ?_ | refine L_exit ?_ | refine X_code ?_ | refine X_back ?_ | refine X_blk ?_ | refine X_past (by decide) ?_ | refine L_back ?_
      | ((with_reducible refine Kof.use hK ?_); clear hK hE K E)
      | ((with_reducible refine Eof.use hE ?_); (try clear hK hE K E))
      | ((with_reducible refine W_cond (fun h => ?_) (fun h => ?_)) <;> (try (exfalso; first | assumption | omega)))
      | ((with_reducible first | refine G_region fun K E hK hE => ?_ | refine call_ret can18 (Rname_S _ _) ?_ | refine W_if ?_ | refine W_ifS ?_ | refine W_and ?_) <;> (try simp (disch := first | assumption | omega) only [go_sem, seval, hsl, *]))
      | ((with_reducible refine W_fresh (fun b hb => ?_)); (repeat (obtain ⟨_, hb⟩ := hb)); (try simp (disch := first | assumption | omega) only [go_sem, seval, hsl, *]))
      | ((with_reducible refine W_app (fun o2 ho => ?_)); (try simp (disch := assumption) only [disown_set, disown_own, ownok_o, ownok_m, List.length_map, List.length_cons, List.length_nil, Nat.zero_add, hsl] at ho); (repeat (obtain ⟨_, ho⟩ := ho)); (try simp (disch := first | assumption | omega) only [go_sem, seval, hsl, *]))
      | ((with_reducible refine W_gd (fun h => ?_) (fun h => ?_)) <;> (try (exfalso; first | assumption | omega)) <;> (try simp (disch := first | assumption | omega) only [go_sem, seval, hsl, *]))))
    all_goals (first | refine G_ret hQ (by simp (disch := first | assumption | omega) only [res67, go_sem, seval, *] <;> rfl) ?_ | refine G_norm hQ (by simp (disch := first | assumption | omega) only [res67, go_sem, seval, *] <;> rfl) ?_ | refine G_pan hQ ?_)
    all_goals (refine ⟨_, _, Wk.of_eq ?_, ?_, rfl, rfl⟩)
    all_goals first | ((try dsimp only); (repeat (first | exact Fg.refl _ | exact Fg.own (by assumption) | (refine Fg.set ?_ _ _) | (refine Fg.setA ?_ (by first | assumption | (simp (disch := assumption) only [own_rd, St.set, if_false, if_true, *]; done))) )); done) | (rw [hn]; first | rfl | (congr 1; simp; done) | (congr 1; simp; omega))

def isB (k : Int) (d s c m : List UInt8) (n o t : Nat) (k2 : Int) (d2 s2 c2 m2 : List UInt8) (n2 : Nat) : Bool :=
  decide (k = k2) && decide (d = d2) && decide (s = s2) && decide (c = c2) && decide (m = m2) && decide (n = n2) && decide (((o + t : Nat) : Int) = 0)
set_option maxHeartbeats 1000000 in
theorem Ris2_S (k : Int) (d sr c m : List UInt8) (ar o t : List (List VV)) (k2 : Int) (d2 s2 c2 m2 : List UInt8) (ar2 o2 t2 : List (List VV)) (w1 w2 w3 w4 w5 w6 : Own) (ho : o.length ≤ 140737488355328) (ht : t.length ≤ 140737488355328) (s : St) :
    SRet Try.prog 106 [.agg [.int .i64 k, .str d, .str sr, .str c, .str m, .lst ar w1, .lst o w2, .lst t w3], .agg [.int .i64 k2, .str d2, .str s2, .str c2, .str m2, .lst ar2 w4, .lst o2 w5, .lst t2 w6]] s
      (.bool (isB k d sr c m ar.length o.length t.length k2 d2 s2 c2 m2 ar2.length)) s := by
  refine G_enter Try.func106 rfl Try.ntmps106 rfl fun Q hQ hQe => ?_
  (repeat' (first
    | with_reducible first | refine L_seq ?_ | refine L_blk ?_ | refine L_skip ?_ | refine L_endblk ?_ | refine L_ret ?_ | refine L_exit ?_ | refine X_code ?_ | refine X_back ?_ | refine X_blk ?_ | refine X_past (by decide) ?_ | refine L_back ?_
    | ((with_reducible refine Kof.use hK ?_); clear hK hE K E)
    | ((with_reducible refine Eof.use hE ?_); (try clear hK hE K E))
    | ((with_reducible refine W_cond (fun h => ?_) (fun h => ?_)) <;> (try (exfalso; first | assumption | omega)))
    | ((with_reducible first | refine G_region fun K E hK hE => ?_ | refine W_if ?_ | refine W_ifS ?_ | refine W_and ?_) <;> (try simp (disch := first | assumption | omega) only [go_sem, seval, *]))
    | ((with_reducible refine W_fresh (fun b hb => ?_)); (repeat (obtain ⟨_, hb⟩ := hb)); (try simp (disch := first | assumption | omega) only [go_sem, seval, *]))
    | ((with_reducible refine W_app (fun o2 ho => ?_)); (repeat (obtain ⟨_, ho⟩ := ho)); (try simp (disch := first | assumption | omega) only [go_sem, seval, *]))
    | ((with_reducible refine W_gd (fun h => ?_) (fun h => ?_)) <;> (try (exfalso; first | assumption | omega)) <;> (try simp (disch := first | assumption | omega) only [go_sem, seval, *]))))
  all_goals (first | refine G_ret hQ (by simp (disch := first | assumption | omega) only [res106, go_sem, seval, *] <;> rfl) ?_ | refine G_norm hQ (by simp (disch := first | assumption | omega) only [res106, go_sem, seval, *] <;> rfl) ?_ | refine G_pan hQ ?_)
  all_goals (refine ⟨_, _, Wk.of_eq ?_, ?_, rfl, rfl⟩)
  all_goals first | ((try dsimp only); (repeat (first | exact Fg.refl _ | exact Fg.own (by assumption) | (refine Fg.set ?_ _ _) | (refine Fg.setA ?_ (by first | assumption | (simp (disch := assumption) only [own_rd, St.set, if_false, if_true, *]; done))) )); done) | (refine congrArg VV.bool ?_; simp only [isB]; simp_all; done)
theorem len_emp {α : Type} {l : List α} : decide (l.length = 0) = l.isEmpty := by cases l <;> simp
theorem len_emp2 {α β : Type} {l : List α} {r : List β} : decide (((l.length + r.length : Nat) : Int) = 0) = (l.isEmpty && r.isEmpty) := by cases l <;> cases r <;> simp <;> omega
theorem nil_emp {l : List UInt8} [Decidable (l = [])] : decide (l = []) = l.isEmpty := dec_nil
theorem strs_len {l : List (List UInt8)} : (strs l).length = l.length := by simp [strs]

set_option maxHeartbeats 4000000 in
theorem Rmay_S (x : Stm) (hx : StmOk x) (s : St) : SRet Try.prog 95 [.agg (stC x)] s (.bool (mayB x)) s := by
  obtain ⟨k, d, sr, c, m, ar, o, t⟩ := x
  simp only [StmOk, TxOk] at hx
  obtain ⟨_, ⟨har, _⟩, ⟨ho1, _⟩, ⟨ht1, _⟩⟩ := hx
  have ho : (stsC o).length ≤ 140737488355328 := by rw [stsC_len]; exact ho1
  have ht : (stsC t).length ≤ 140737488355328 := by rw [stsC_len]; exact ht1
  refine G_enter Try.func95 rfl Try.ntmps95 rfl fun Q hQ hQe => ?_
  simp only [stC, strsV, strs_C]
  have hk : k = 1 ∨ k = 2 ∨ k = 3 ∨ k = 4 ∨ k = 5 ∨ k = 6 ∨ k = 7 ∨ k = 8 ∨ k = 9 ∨ (¬ k = 1 ∧ ¬ k = 2 ∧ ¬ k = 3 ∧ ¬ k = 4 ∧ ¬ k = 5 ∧ ¬ k = 6 ∧ ¬ k = 7 ∧ ¬ k = 8 ∧ ¬ k = 9) := by omega
  rcases hk with rfl | rfl | rfl | rfl | rfl | rfl | rfl | rfl | rfl | ⟨_, _, _, _, _, _, _, _, _⟩
  all_goals (repeat' (first
   | with_reducible first | refine L_seq ?_ | refine L_blk ?_ | refine L_skip ?_ | refine L_endblk ?_ | refine L_ret ?_ | refine L_exit ?_ | refine X_code ?_ | refine X_back ?_ | refine X_blk ?_ | refine X_past (by decide) ?_ | refine L_back ?_
   | ((with_reducible refine Kof.use hK ?_); clear hK hE K E)
   | ((with_reducible refine Eof.use hE ?_); (try clear hK hE K E))
   | ((with_reducible refine W_cond (fun h => ?_) (fun h => ?_)) <;> (try (exfalso; first | assumption | omega)))
   | ((with_reducible first | refine G_region fun K E hK hE => ?_ | refine call_ret can18 (Nm_S _ _) ?_ | refine call_ret can106 (Ris2_S _ _ _ _ _ _ _ _ _ _ _ _ _ _ _ _ _ _ _ _ _ _ (by assumption) (by assumption) _) ?_ | refine call_ret can66 (Ropt_S _ _) ?_ | refine call_ret can67 (Rall_S _ _ (by first | assumption | omega) _) ?_ | refine W_if ?_ | refine W_ifS ?_ | refine W_and ?_) <;> (try simp (disch := first | assumption | omega) only [go_sem, seval, iz0, len0, strs_len, stsC_len, *]))
   | ((with_reducible refine W_fresh (fun b hb => ?_)); (repeat (obtain ⟨_, hb⟩ := hb)); (try simp (disch := first | assumption | omega) only [go_sem, seval, iz0, len0, strs_len, stsC_len, *]))
   | ((with_reducible refine W_app (fun o2 ho => ?_)); (try simp (disch := assumption) only [disown_set, disown_own, ownok_o, ownok_m, List.length_map, List.length_cons, List.length_nil, Nat.zero_add, iz0, len0, strs_len, stsC_len] at ho); (repeat (obtain ⟨_, ho⟩ := ho)); (try simp (disch := first | assumption | omega) only [go_sem, seval, iz0, len0, strs_len, stsC_len, *]))
   | ((with_reducible refine W_gd (fun h => ?_) (fun h => ?_)) <;> (try (exfalso; first | assumption | omega)) <;> (try simp (disch := first | assumption | omega) only [go_sem, seval, iz0, len0, strs_len, stsC_len, *]))))
  all_goals (first | refine G_ret hQ (by simp (disch := first | assumption | omega) only [res95, go_sem, seval, *] <;> rfl) ?_ | refine G_norm hQ (by simp (disch := first | assumption | omega) only [res95, go_sem, seval, *] <;> rfl) ?_ | refine G_pan hQ ?_)
  all_goals (refine ⟨_, _, Wk.of_eq ?_, ?_, rfl, rfl⟩)
  all_goals first | ((try dsimp only); (repeat (first | exact Fg.refl _ | exact Fg.own (by assumption) | (refine Fg.set ?_ _ _) | (refine Fg.setA ?_ (by first | assumption | (simp (disch := assumption) only [own_rd, St.set, if_false, if_true, *]; done))) )); done) | skip
  all_goals
    refine congrArg VV.bool ?_
    clear hQ hQe Q ho ht
    first
      | (simp_all [isB, mayB, needL, strs, dec_nil, len_emp, len_emp2, strs_len, stsC_len]; done)
      | (simp only [isB, len_emp, len_emp2, dec_nil, mayB, needL, seval, if_true, if_false, decide_true, Bool.true_and, *]
         rw [Bool.eq_iff_iff]
         simp_all [List.isEmpty_iff]
         grind)
      | trace_state
end Go.Proofs.Ytilpdejbldllbaa
