/- What is proved: Atoms as text. Conditions: texts and lists are short. Conditions: those that stand in the statements. -/
import Derived.Test.YtbfgdblebepgcaaDoorZUl
set_option linter.unusedSimpArgs false
set_option linter.unusedVariables false
set_option maxRecDepth 100000
namespace Go.Proofs.YtbfgdblebepgcaaDoor
open Go.RowKit

def trmT (t : Trm) : List UInt8 := if t.var = true then t.nm else Lib.itoa t.n
def atmT (a : Atm) : List UInt8 := (if a.not = true then [33] else []) ++ (a.rel ++ [40] ++ Lib.join (a.ts.map trmT) [44, 32] ++ [41])
def AtmS (a : Atm) : Prop := a.rel.length ≤ 1000 ∧ a.ts.length ≤ 1000 ∧ ∀ t, t ∈ a.ts → (trmT t).length ≤ 1000 ∧ -9223372036854775808 ≤ t.n ∧ t.n ≤ 9223372036854775807
set_option maxHeartbeats 2000000 in
theorem uspell_S (a : Atm) (o0 : Own) (ha : AtmS a) (s : St) : SRet Tryd.prog 19 [.agg [.bool a.not, .str a.rel, .lst (a.ts.map trmC) o0]] s (.str (atmT a)) s := by
  obtain ⟨h1, h2, h3⟩ := ha
  refine G_enter Tryd.func19 rfl Tryd.ntmps19 rfl fun Q hQ hQe => ?_
  (repeat' (first
    | with_reducible first | refine L_seq ?_ | refine L_blk ?_ | refine L_skip ?_ | refine L_endblk ?_ | refine L_ret ?_ | refine L_exit ?_ | refine X_code ?_ | refine X_back ?_ | refine X_blk ?_ | refine X_past (by decide) ?_ | refine L_back ?_
    | ((with_reducible refine Kof.use hK ?_); clear hK hE K E)
    | ((with_reducible refine Eof.use hE ?_); (try clear hK hE K E))
    | ((with_reducible refine Kof.use hKh ?_); clear hKh Kh)
    | ((with_reducible refine Kof.use hKb (P_next ?_)); clear hKb Kb)
    | with_reducible refine G_plan 10 [([0, 1, 2, 3], 4, [[0, 1, 2]])] [5, 6, 7] hQe fun K E hK hE => ?_
    | ((with_reducible refine W_cond (fun h => ?_) (fun h => ?_)) <;> (try (exfalso; first | assumption | omega)))
    | ((with_reducible first | refine G_region fun K E hK hE => ?_ | refine call_ret can17 (Itoa_S _ (by first | assumption | omega) (by first | assumption | omega) _) ?_ | refine W_if ?_ | refine W_ifS ?_ | refine P_heads fun Kh hKh => ?_ | refine P_fin fun Kh hKh => ?_ | refine P_each fun Kb hKb => ?_ | refine W_and ?_) <;> (try simp (disch := first | assumption | omega) only [go_sem, seval, List.length_map, *]))
    | ((with_reducible refine W_fresh (fun b hb => ?_)); (repeat (obtain ⟨_, hb⟩ := hb)); (try simp (disch := first | assumption | omega) only [go_sem, seval, List.length_map, *]))
    | ((with_reducible refine W_app (fun o2 ho => ?_)); (try simp (disch := assumption) only [disown_set, disown_own, ownok_o, ownok_m, List.length_map, List.length_cons, List.length_nil, Nat.zero_add, List.length_map] at ho); (repeat (obtain ⟨_, ho⟩ := ho)); (try simp (disch := first | assumption | omega) only [go_sem, seval, List.length_map, *]))
    | ((with_reducible refine W_gd (fun h => ?_) (fun h => ?_)) <;> (try (exfalso; first | assumption | omega)) <;> (try simp (disch := first | assumption | omega) only [go_sem, seval, List.length_map, *]))))
  obtain ⟨nt, rel, ts⟩ := a
  simp only at h1 h2 h3 ⊢
  have hb0 : s.set b (.obj 49 [.bool nt, .str rel, .lst (ts.map trmC) o0]) b = .obj 49 [.bool nt, .str rel, .lst (ts.map trmC) o0] := St.set_same _ _ _
  have hF0 : Fg (s.set b (.obj 49 [.bool nt, .str rel, .lst (ts.map trmC) o0])) s := Fg.of_set _ hb
  generalize s.set b (.obj 49 [.bool nt, .str rel, .lst (ts.map trmC) o0]) = B at *
  have hbf : B b ≠ .free := by rw [hb0]; simp
  have HF := Lib.hid hF0
  clear hF0 hb
  refine G_loop (fun m env s' => ∃ (i : Nat) (o : Own), i ≤ ts.length ∧ m + i = ts.length ∧ s' = B.own o 9 1 i ∧ OwnOk B o i ∧ NotOwn o b ∧ env 1 = .ptr b 0 ∧ env 3 = .lst (strs ((ts.take i).map trmT)) o ∧ env 9 = .lst (ts.map trmC) o0 ∧ env 10 = .int .i64 ts.length ∧ env 11 = .int .i64 i) ts.length ?_ ?_
  · exact ⟨B, Fg.refl _, 0, .full, by omega, by omega, rfl, rfl, trivial, by ((try simp (disch := first | assumption | omega) only [go_sem, seval, *]) <;> first | rfl | omega), by ((try simp (disch := first | assumption | omega) only [go_sem, seval, *]) <;> first | rfl | omega), by ((try simp (disch := first | assumption | omega) only [go_sem, seval, *]) <;> first | rfl | omega), by ((try simp (disch := first | assumption | omega) only [go_sem, seval, *]) <;> first | rfl | omega), by ((try simp (disch := first | assumption | omega) only [go_sem, seval, *]) <;> first | rfl | omega)⟩
  · rintro m env s' ⟨i, o, hi, hm, rfl, hO, hob, e1, e3, e9, e10, e11⟩
    by_cases hlt : i < ts.length
    · obtain ⟨c, hc⟩ := uget hlt
      obtain ⟨hc1, hc2, hc3⟩ := h3 c (List.mem_of_getElem? hc)
      have hsx := trmC_at hc
      have htk : strs ((ts.take (i + 1)).map trmT) = strs ((ts.take i).map trmT) ++ [[.str (trmT c)]] := by rw [utake hc]; simp [strs]
      have hst : (strs ((ts.take i).map trmT)).length = i := by simp [strs]; omega
      have HT := Lib.hid htk
      clear hc htk
      obtain ⟨cv, cn, cz⟩ := c
      simp only at hc1 hc2 hc3
      cases cv
      all_goals
        (repeat' (first
          | with_reducible first | refine L_seq ?_ | refine L_blk ?_ | refine L_skip ?_ | refine L_endblk ?_ | refine L_ret ?_ | refine L_exit ?_ | refine X_code ?_ | refine X_back ?_ | refine X_blk ?_ | refine X_past (by decide) ?_ | refine L_back ?_
          | ((with_reducible refine Kof.use hK ?_); clear hK hE K E)
          | ((with_reducible refine Eof.use hE ?_); (try clear hK hE K E))
          | ((with_reducible refine Kof.use hKh ?_); clear hKh Kh)
          | ((with_reducible refine Kof.use hKb (P_next ?_)); clear hKb Kb)
          | with_reducible refine G_plan 10 [([0, 1, 2, 3], 4, [[0, 1, 2]])] [5, 6, 7] hQe fun K E hK hE => ?_
          | ((with_reducible refine W_cond (fun h => ?_) (fun h => ?_)) <;> (try (exfalso; first | assumption | omega)))
          | ((with_reducible first | refine G_region fun K E hK hE => ?_ | refine call_ret can17 (Itoa_S _ (by first | assumption | omega) (by first | assumption | omega) _) ?_ | refine W_if ?_ | refine W_ifS ?_ | refine P_heads fun Kh hKh => ?_ | refine P_fin fun Kh hKh => ?_ | refine P_each fun Kb hKb => ?_ | refine W_and ?_) <;> (try simp (disch := first | assumption | omega) only [go_sem, seval, List.length_map, hsx, trmC, hst, *]))
          | ((with_reducible refine W_fresh (fun b hb => ?_)); (repeat (obtain ⟨_, hb⟩ := hb)); (try simp (disch := first | assumption | omega) only [go_sem, seval, List.length_map, hsx, trmC, hst, *]))
          | ((with_reducible refine W_app (fun o2 ho => ?_)); (try simp (disch := assumption) only [disown_set, disown_own, ownok_o, ownok_m, List.length_map, List.length_cons, List.length_nil, Nat.zero_add, List.length_map, hsx, trmC, hst] at ho); (repeat (obtain ⟨_, ho⟩ := ho)); (try simp (disch := first | assumption | omega) only [go_sem, seval, List.length_map, hsx, trmC, hst, *]))
          | ((with_reducible refine W_gd (fun h => ?_) (fun h => ?_)) <;> (try (exfalso; first | assumption | omega)) <;> (try simp (disch := first | assumption | omega) only [go_sem, seval, List.length_map, hsx, trmC, hst, *]))))
      all_goals exact ⟨_, Fg.setA (Fg.refl _) (by rw [own_fr]; exact ⟨by assumption, by assumption⟩), m - 1, by omega, i + 1, o2, by omega, by omega, rfl, by assumption, OwnOk.not (by assumption) hbf, by ((try simp (disch := first | assumption | omega) only [go_sem, seval, *]) <;> first | rfl | omega), by (rw [show strs (List.map trmT (List.take (i + 1) ts)) = _ from HT]; ((try simp (disch := first | assumption | omega) only [go_sem, seval, *]) <;> first | rfl | omega)), by ((try simp (disch := first | assumption | omega) only [go_sem, seval, *]) <;> first | rfl | omega), by ((try simp (disch := first | assumption | omega) only [go_sem, seval, *]) <;> first | rfl | omega), by ((try simp (disch := first | assumption | omega) only [go_sem, seval, *]) <;> first | rfl | omega)⟩
    · have hiL : i = ts.length := by omega
      subst hiL
      rw [List.take_length] at e3
      have hjl : (Lib.join (ts.map trmT) [44, 32]).length ≤ 10000000 := by
        have h1 := join_len 1000 [44, 32] (ts.map trmT) (fun t ht => by
          obtain ⟨x, hx, rfl⟩ := List.mem_map.1 ht
          exact (h3 x hx).1)
        simp only [List.length_map, List.length_cons, List.length_nil] at h1
        have : ts.length * (1000 + (0 + 1 + 1)) ≤ 1000 * 1002 := Nat.mul_le_mul h2 (by omega)
        omega
      have hjl2 : (Lib.join (ts.map trmT) [44, 32]).length ≤ 140737488355328 := by omega
      have hjn : (ts.map trmT).length ≤ 140737488355328 := by rw [List.length_map]; omega
      cases nt
      all_goals
        (repeat' (first
          | with_reducible first | refine L_seq ?_ | refine L_blk ?_ | refine L_skip ?_ | refine L_endblk ?_ | refine L_ret ?_ | refine L_exit ?_ | refine X_code ?_ | refine X_back ?_ | refine X_blk ?_ | refine X_past (by decide) ?_ | refine L_back ?_
          | ((with_reducible refine Kof.use hK ?_); clear hK hE K E)
          | ((with_reducible refine Eof.use hE ?_); (try clear hK hE K E))
          | ((with_reducible refine Kof.use hKh ?_); clear hKh Kh)
          | ((with_reducible refine Kof.use hKb (P_next ?_)); clear hKb Kb)
          | with_reducible refine G_plan 10 [([0, 1, 2, 3], 4, [[0, 1, 2]])] [5, 6, 7] hQe fun K E hK hE => ?_
          | ((with_reducible refine W_cond (fun h => ?_) (fun h => ?_)) <;> (try (exfalso; first | assumption | omega)))
          | ((with_reducible first | refine G_region fun K E hK hE => ?_ | refine call_ret can18 (Join_S _ _ _ (by assumption) (by assumption) _) ?_ | refine call_ret can17 (Itoa_S _ (by first | assumption | omega) (by first | assumption | omega) _) ?_ | refine W_if ?_ | refine W_ifS ?_ | refine P_heads fun Kh hKh => ?_ | refine P_fin fun Kh hKh => ?_ | refine P_each fun Kb hKb => ?_ | refine W_and ?_) <;> (try simp (disch := first | assumption | omega) only [go_sem, seval, List.length_map, List.length_append, *]))
          | ((with_reducible refine W_fresh (fun b hb => ?_)); (repeat (obtain ⟨_, hb⟩ := hb)); (try simp (disch := first | assumption | omega) only [go_sem, seval, List.length_map, List.length_append, *]))
          | ((with_reducible refine W_app (fun o2 ho => ?_)); (try simp (disch := assumption) only [disown_set, disown_own, ownok_o, ownok_m, List.length_map, List.length_cons, List.length_nil, Nat.zero_add, List.length_map, List.length_append] at ho); (repeat (obtain ⟨_, ho⟩ := ho)); (try simp (disch := first | assumption | omega) only [go_sem, seval, List.length_map, List.length_append, *]))
          | ((with_reducible refine W_gd (fun h => ?_) (fun h => ?_)) <;> (try (exfalso; first | assumption | omega)) <;> (try simp (disch := first | assumption | omega) only [go_sem, seval, List.length_map, List.length_append, *]))))
      all_goals (first | refine G_ret hQ (by simp (disch := first | assumption | omega) only [res19, go_sem, seval, *] <;> rfl) ?_ | refine G_norm hQ (by simp (disch := first | assumption | omega) only [res19, go_sem, seval, *] <;> rfl) ?_ | refine G_pan hQ ?_)
      all_goals (refine ⟨_, _, Wk.of_eq ?_, ?_, rfl, rfl⟩)
      all_goals first | exact (Fg.own hO).trans HF | (simp [atmT]; done)
end Go.Proofs.YtbfgdblebepgcaaDoor
