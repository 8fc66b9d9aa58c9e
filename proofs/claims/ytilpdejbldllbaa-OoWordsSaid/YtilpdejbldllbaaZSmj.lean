/- What is proved: What package osierref15's Same hands back. Conditions: lists of at most 2^47 parts; What package osierref15's Same hands back, on. Conditions: lists of at most 2^47 parts. Conditions: those that stand in the statements. -/
import Derived.Test.YtilpdejbldllbaaZOwj
import Derived.Test.YtilpdejbldllbaaZGq
set_option linter.unusedSimpArgs false
set_option linter.unusedVariables false
set_option maxRecDepth 100000
namespace Go.Proofs.Ytilpdejbldllbaa
open Go.RowKit

noncomputable def eqB {α : Type} (a b : α) : Bool := @decide (a = b) (Classical.propDecidable _)
theorem eqB_t {α : Type} {a b : α} (h : a = b) : eqB a b = true := @decide_eq_true _ (Classical.propDecidable _) h
theorem eqB_f {α : Type} {a b : α} (h : ¬ a = b) : eqB a b = false := @decide_eq_false _ (Classical.propDecidable _) h
theorem eqB_i {α : Type} {a b : α} : eqB a b = true ↔ a = b := ⟨fun h => @of_decide_eq_true _ (Classical.propDecidable _) h, eqB_t⟩
theorem take_eq {α : Type} {a b : List α} (hl : a.length = b.length) (h : a.take a.length = b.take a.length) : a = b := by
  rw [List.take_length, hl, List.take_length] at h
  exact h
theorem take_eq_succ {α : Type} {a b : List α} {i : Nat} {x y : α} (ha : a[i]? = some x) (hb : b[i]? = some y) (h : a.take i = b.take i) (he : x = y) : a.take (i + 1) = b.take (i + 1) := by
  rw [take_at ha, take_at hb, h, he]
theorem ne_at {α : Type} {a b : List α} {i : Nat} {x y : α} (ha : a[i]? = some x) (hb : b[i]? = some y) (he : ¬ x = y) : ¬ a = b := by
  rintro rfl
  rw [ha] at hb
  injection hb with hb
  exact he hb

set_option maxHeartbeats 1000000 in
theorem Rsame_S (a b : List (List UInt8)) (oa ob : Own) (ha : a.length ≤ 140737488355328) (s : St) : SRet Try.prog 27 [.lst (strs a) oa, .lst (strs b) ob] s (.bool (eqB a b)) s := by
  have hsa : (strs a).length = a.length := by simp [strs]
  have hsb : (strs b).length = b.length := by simp [strs]
  refine G_enter Try.func27 rfl Try.ntmps27 rfl fun Q hQ hQe => ?_
  by_cases hl : a.length = b.length
  · have hl2 : ((a.length : Int) = (b.length : Int)) = True := eq_true (by omega)
    have HL := Lib.hid hl
    clear hl
    (repeat' (first
      | with_reducible first | refine L_seq ?_ | refine L_blk ?_ | refine L_skip ?_ | refine L_endblk ?_ | refine L_ret ?_ | refine L_exit ?_ | refine X_code ?_ | refine X_back ?_ | refine X_blk ?_ | refine X_past (by decide) ?_ | refine L_back ?_
      | ((with_reducible refine Kof.use hK ?_); clear hK hE K E)
      | ((with_reducible refine Eof.use hE ?_); (try clear hK hE K E))
      | ((with_reducible refine Kof.use hKh ?_); clear hKh Kh)
      | ((with_reducible refine Kof.use hKb (P_next ?_)); clear hKb Kb)
      | with_reducible refine G_plan 6 [] [0, 1, 2, 3, 4, 5, 6, 7, 8] hQe fun K E hK hE => ?_
      | ((with_reducible refine W_cond (fun h => ?_) (fun h => ?_)) <;> (try (exfalso; first | assumption | omega)))
      | ((with_reducible first | refine G_region fun K E hK hE => ?_ | refine W_if ?_ | refine W_ifS ?_ | refine P_heads fun Kh hKh => ?_ | refine P_fin fun Kh hKh => ?_ | refine P_each fun Kb hKb => ?_ | refine W_and ?_) <;> (try simp (disch := first | assumption | omega) only [go_sem, seval, hsa, hsb, *]))
      | ((with_reducible refine W_fresh (fun b hb => ?_)); (repeat (obtain ⟨_, hb⟩ := hb)); (try simp (disch := first | assumption | omega) only [go_sem, seval, hsa, hsb, *]))
      | ((with_reducible refine W_app (fun o2 ho => ?_)); (try simp (disch := assumption) only [disown_set, disown_own, ownok_o, ownok_m, List.length_map, List.length_cons, List.length_nil, Nat.zero_add, hsa, hsb] at ho); (repeat (obtain ⟨_, ho⟩ := ho)); (try simp (disch := first | assumption | omega) only [go_sem, seval, hsa, hsb, *]))
      | ((with_reducible refine W_gd (fun h => ?_) (fun h => ?_)) <;> (try (exfalso; first | assumption | omega)) <;> (try simp (disch := first | assumption | omega) only [go_sem, seval, hsa, hsb, *]))))
    refine L_loop (fun m env s' => ∃ i : Nat, i ≤ a.length ∧ m + i = a.length ∧ a.take i = b.take i ∧ s' = s ∧ env 0 = .lst (strs a) oa ∧ env 1 = .lst (strs b) ob ∧ env 5 = .int .i64 i) a.length ⟨0, by omega, by omega, rfl, rfl, by ((try simp (disch := first | assumption | omega) only [go_sem, seval, *]) <;> first | rfl | omega), by ((try simp (disch := first | assumption | omega) only [go_sem, seval, *]) <;> first | rfl | omega), by ((try simp (disch := first | assumption | omega) only [go_sem, seval, *]) <;> first | rfl | omega)⟩ ?_
    rintro m env s' ⟨i, hi, hm, he, rfl, e0, e1, e5⟩
    have HE := Lib.hid he
    clear he
    by_cases hlt : i < a.length
    · obtain ⟨x, hx⟩ := list_get hlt
      obtain ⟨y, hy⟩ := list_get (l := b) (i := i) (by rw [← HL.out]; exact hlt)
      have hsx : (strs a)[i]? = some [.str x] := by simp [strs, hx]
      have hsy : (strs b)[i]? = some [.str y] := by simp [strs, hy]
      have HX := Lib.hid (And.intro hx hy)
      clear hx hy
      have hxy : x = y ∨ ¬ x = y := Classical.em _
      have hlb : i < b.length := by have := HL.out; omega
      rcases hxy with rfl | hxy
      · (repeat' (first
   | with_reducible first | refine L_seq ?_ | refine L_blk ?_ | refine L_skip ?_ | refine L_endblk ?_ | refine L_ret ?_ | refine L_exit ?_ | refine X_code ?_ | refine X_back ?_ | refine X_blk ?_ | refine X_past (by decide) ?_ | refine L_back ?_
   | ((with_reducible refine Kof.use hK ?_); clear hK hE K E)
   | ((with_reducible refine Eof.use hE ?_); (try clear hK hE K E))
   | ((with_reducible refine Kof.use hKh ?_); clear hKh Kh)
   | ((with_reducible refine Kof.use hKb (P_next ?_)); clear hKb Kb)
   | with_reducible refine G_plan 6 [] [0, 1, 2, 3, 4, 5, 6, 7, 8] hQe fun K E hK hE => ?_
   | ((with_reducible refine W_cond (fun h => ?_) (fun h => ?_)) <;> (try (exfalso; first | assumption | omega)))
   | ((with_reducible first | refine G_region fun K E hK hE => ?_ | refine W_if ?_ | refine W_ifS ?_ | refine P_heads fun Kh hKh => ?_ | refine P_fin fun Kh hKh => ?_ | refine P_each fun Kb hKb => ?_ | refine W_and ?_) <;> (try simp (disch := first | assumption | omega) only [go_sem, seval, hsa, hsb, hsx, hsy, *]))
   | ((with_reducible refine W_fresh (fun b hb => ?_)); (repeat (obtain ⟨_, hb⟩ := hb)); (try simp (disch := first | assumption | omega) only [go_sem, seval, hsa, hsb, hsx, hsy, *]))
   | ((with_reducible refine W_app (fun o2 ho => ?_)); (try simp (disch := assumption) only [disown_set, disown_own, ownok_o, ownok_m, List.length_map, List.length_cons, List.length_nil, Nat.zero_add, hsa, hsb, hsx, hsy] at ho); (repeat (obtain ⟨_, ho⟩ := ho)); (try simp (disch := first | assumption | omega) only [go_sem, seval, hsa, hsb, hsx, hsy, *]))
   | ((with_reducible refine W_gd (fun h => ?_) (fun h => ?_)) <;> (try (exfalso; first | assumption | omega)) <;> (try simp (disch := first | assumption | omega) only [go_sem, seval, hsa, hsb, hsx, hsy, *]))))
        all_goals exact ⟨m - 1, by omega, i + 1, by omega, by omega, take_eq_succ HX.out.1 HX.out.2 HE.out rfl, rfl, by ((try simp (disch := first | assumption | omega) only [go_sem, seval, *]) <;> first | rfl | omega), by ((try simp (disch := first | assumption | omega) only [go_sem, seval, *]) <;> first | rfl | omega), by ((try simp (disch := first | assumption | omega) only [go_sem, seval, *]) <;> first | rfl | omega)⟩
      · (repeat' (first
   | with_reducible first | refine L_seq ?_ | refine L_blk ?_ | refine L_skip ?_ | refine L_endblk ?_ | refine L_ret ?_ | refine L_exit ?_ | refine X_code ?_ | refine X_back ?_ | refine X_blk ?_ | refine X_past (by decide) ?_ | refine L_back ?_
   | ((with_reducible refine Kof.use hK ?_); clear hK hE K E)
   | ((with_reducible refine Eof.use hE ?_); (try clear hK hE K E))
   | ((with_reducible refine Kof.use hKh ?_); clear hKh Kh)
   | ((with_reducible refine Kof.use hKb (P_next ?_)); clear hKb Kb)
   | with_reducible refine G_plan 6 [] [0, 1, 2, 3, 4, 5, 6, 7, 8] hQe fun K E hK hE => ?_
   | ((with_reducible refine W_cond (fun h => ?_) (fun h => ?_)) <;> (try (exfalso; first | assumption | omega)))
   | ((with_reducible first | refine G_region fun K E hK hE => ?_ | refine W_if ?_ | refine W_ifS ?_ | refine P_heads fun Kh hKh => ?_ | refine P_fin fun Kh hKh => ?_ | refine P_each fun Kb hKb => ?_ | refine W_and ?_) <;> (try simp (disch := first | assumption | omega) only [go_sem, seval, hsa, hsb, hsx, hsy, *]))
   | ((with_reducible refine W_fresh (fun b hb => ?_)); (repeat (obtain ⟨_, hb⟩ := hb)); (try simp (disch := first | assumption | omega) only [go_sem, seval, hsa, hsb, hsx, hsy, *]))
   | ((with_reducible refine W_app (fun o2 ho => ?_)); (try simp (disch := assumption) only [disown_set, disown_own, ownok_o, ownok_m, List.length_map, List.length_cons, List.length_nil, Nat.zero_add, hsa, hsb, hsx, hsy] at ho); (repeat (obtain ⟨_, ho⟩ := ho)); (try simp (disch := first | assumption | omega) only [go_sem, seval, hsa, hsb, hsx, hsy, *]))
   | ((with_reducible refine W_gd (fun h => ?_) (fun h => ?_)) <;> (try (exfalso; first | assumption | omega)) <;> (try simp (disch := first | assumption | omega) only [go_sem, seval, hsa, hsb, hsx, hsy, *]))))
        all_goals (first | refine G_ret hQ (by simp (disch := first | assumption | omega) only [res27, go_sem, seval, *] <;> rfl) ?_ | refine G_norm hQ (by simp (disch := first | assumption | omega) only [res27, go_sem, seval, *] <;> rfl) ?_ | refine G_pan hQ ?_)
        all_goals (refine ⟨_, _, Wk.of_eq ?_, ?_, rfl, rfl⟩)
        · rw [eqB_f (ne_at HX.out.1 HX.out.2 hxy)]
        · ((try dsimp only); (repeat (first | exact Fg.refl _ | exact Fg.own (by assumption) | (refine Fg.set ?_ _ _) | (refine Fg.setA ?_ (by first | assumption | (simp (disch := assumption) only [own_rd, St.set, if_false, if_true, *]; done))) )); done)
    · (repeat' (first
   | with_reducible first | refine L_seq ?_ | refine L_blk ?_ | refine L_skip ?_ | refine L_endblk ?_ | refine L_ret ?_ | refine L_exit ?_ | refine X_code ?_ | refine X_back ?_ | refine X_blk ?_ | refine X_past (by decide) ?_ | refine L_back ?_
   | ((with_reducible refine Kof.use hK ?_); clear hK hE K E)
   | ((with_reducible refine Eof.use hE ?_); (try clear hK hE K E))
   | ((with_reducible refine Kof.use hKh ?_); clear hKh Kh)
   | ((with_reducible refine Kof.use hKb (P_next ?_)); clear hKb Kb)
   | with_reducible refine G_plan 6 [] [0, 1, 2, 3, 4, 5, 6, 7, 8] hQe fun K E hK hE => ?_
   | ((with_reducible refine W_cond (fun h => ?_) (fun h => ?_)) <;> (try (exfalso; first | assumption | omega)))
   | ((with_reducible first | refine G_region fun K E hK hE => ?_ | refine W_if ?_ | refine W_ifS ?_ | refine P_heads fun Kh hKh => ?_ | refine P_fin fun Kh hKh => ?_ | refine P_each fun Kb hKb => ?_ | refine W_and ?_) <;> (try simp (disch := first | assumption | omega) only [go_sem, seval, hsa, hsb, *]))
   | ((with_reducible refine W_fresh (fun b hb => ?_)); (repeat (obtain ⟨_, hb⟩ := hb)); (try simp (disch := first | assumption | omega) only [go_sem, seval, hsa, hsb, *]))
   | ((with_reducible refine W_app (fun o2 ho => ?_)); (try simp (disch := assumption) only [disown_set, disown_own, ownok_o, ownok_m, List.length_map, List.length_cons, List.length_nil, Nat.zero_add, hsa, hsb] at ho); (repeat (obtain ⟨_, ho⟩ := ho)); (try simp (disch := first | assumption | omega) only [go_sem, seval, hsa, hsb, *]))
   | ((with_reducible refine W_gd (fun h => ?_) (fun h => ?_)) <;> (try (exfalso; first | assumption | omega)) <;> (try simp (disch := first | assumption | omega) only [go_sem, seval, hsa, hsb, *]))))
      all_goals (first | refine G_ret hQ (by simp (disch := first | assumption | omega) only [res27, go_sem, seval, *] <;> rfl) ?_ | refine G_norm hQ (by simp (disch := first | assumption | omega) only [res27, go_sem, seval, *] <;> rfl) ?_ | refine G_pan hQ ?_)
      all_goals (refine ⟨_, _, Wk.of_eq ?_, ?_, rfl, rfl⟩)
      · rw [eqB_t (take_eq HL.out (by have := HE.out; rwa [show i = a.length by omega] at this))]
      · ((try dsimp only); (repeat (first | exact Fg.refl _ | exact Fg.own (by assumption) | (refine Fg.set ?_ _ _) | (refine Fg.setA ?_ (by first | assumption | (simp (disch := assumption) only [own_rd, St.set, if_false, if_true, *]; done))) )); done)
  · have hl2 : ¬ ((a.length : Int) = (b.length : Int)) := by omega
    (repeat' (first
      | with_reducible first | refine L_seq ?_ | refine L_blk ?_ | refine L_skip ?_ | refine L_endblk ?_ | refine L_ret ?_ | refine L_exit ?_ | refine X_code ?_ | refine X_back ?_ | refine X_blk ?_ | refine X_past (by decide) ?_ | refine L_back ?_
      | ((with_reducible refine Kof.use hK ?_); clear hK hE K E)
      | ((with_reducible refine Eof.use hE ?_); (try clear hK hE K E))
      | ((with_reducible refine Kof.use hKh ?_); clear hKh Kh)
      | ((with_reducible refine Kof.use hKb (P_next ?_)); clear hKb Kb)
      | with_reducible refine G_plan 6 [] [0, 1, 2, 3, 4, 5, 6, 7, 8] hQe fun K E hK hE => ?_
      | ((with_reducible refine W_cond (fun h => ?_) (fun h => ?_)) <;> (try (exfalso; first | assumption | omega)))
      | ((with_reducible first | refine G_region fun K E hK hE => ?_ | refine W_if ?_ | refine W_ifS ?_ | refine P_heads fun Kh hKh => ?_ | refine P_fin fun Kh hKh => ?_ | refine P_each fun Kb hKb => ?_ | refine W_and ?_) <;> (try simp (disch := first | assumption | omega) only [go_sem, seval, hsa, hsb, *]))
      | ((with_reducible refine W_fresh (fun b hb => ?_)); (repeat (obtain ⟨_, hb⟩ := hb)); (try simp (disch := first | assumption | omega) only [go_sem, seval, hsa, hsb, *]))
      | ((with_reducible refine W_app (fun o2 ho => ?_)); (try simp (disch := assumption) only [disown_set, disown_own, ownok_o, ownok_m, List.length_map, List.length_cons, List.length_nil, Nat.zero_add, hsa, hsb] at ho); (repeat (obtain ⟨_, ho⟩ := ho)); (try simp (disch := first | assumption | omega) only [go_sem, seval, hsa, hsb, *]))
      | ((with_reducible refine W_gd (fun h => ?_) (fun h => ?_)) <;> (try (exfalso; first | assumption | omega)) <;> (try simp (disch := first | assumption | omega) only [go_sem, seval, hsa, hsb, *]))))
    all_goals (first | refine G_ret hQ (by simp (disch := first | assumption | omega) only [res27, go_sem, seval, *] <;> rfl) ?_ | refine G_norm hQ (by simp (disch := first | assumption | omega) only [res27, go_sem, seval, *] <;> rfl) ?_ | refine G_pan hQ ?_)
    all_goals (refine ⟨_, _, Wk.of_eq ?_, ?_, rfl, rfl⟩)
    · rw [eqB_f (fun e => hl (by rw [e]))]
    · ((try dsimp only); (repeat (first | exact Fg.refl _ | exact Fg.own (by assumption) | (refine Fg.set ?_ _ _) | (refine Fg.setA ?_ (by first | assumption | (simp (disch := assumption) only [own_rd, St.set, if_false, if_true, *]; done))) )); done)

theorem eqB_self {α : Type} {a : α} : eqB a a = true := eqB_t rfl
mutual
def szS : Stm → Nat
  | .mk _ _ _ _ _ _ o t => 1 + szL o + szL t
def szL : List Stm → Nat
  | [] => 0
  | x :: l => szS x + szL l
end
theorem szL_at : ∀ {l : List Stm} {i : Nat} {x : Stm}, l[i]? = some x → szS x ≤ szL l
  | [], i, x, h => by simp at h
  | y :: l, 0, x, h => by simp at h; subst h; simp only [szL]; omega
  | y :: l, i + 1, x, h => by have := szL_at (l := l) (i := i) (x := x) (by simpa using h); simp only [szL]; omega

set_option maxHeartbeats 4000000 in
theorem RsameStmts_F (f : Nat) : ∀ (a b : List Stm) (oa ob : Own), szL a = f → StmsOk a → a.length ≤ 140737488355328 → ∀ s, SRet Try.prog 28 [.lst (stsC a) oa, .lst (stsC b) ob] s (.bool (eqB a b)) s := by
  induction f using Nat.strongRecOn with
  | _ f ih =>
    intro a b oa ob hf hok ha s
    refine G_enter Try.func28 rfl Try.ntmps28 rfl fun Q hQ hQe => ?_
    by_cases hl : a.length = b.length
    · have hl2 : ((a.length : Int) = (b.length : Int)) = True := eq_true (by omega)
      have HL := Lib.hid hl
      clear hl
      (repeat' (first
        | with_reducible first | refine L_seq ?_ | refine L_blk ?_ | refine L_skip ?_ | refine L_endblk ?_ | refine L_ret ?_ | refine L_exit ?_ | refine X_code ?_ | refine X_back ?_ | refine X_blk ?_ | refine X_past (by decide) ?_ | refine L_back ?_
        | ((with_reducible refine Kof.use hK ?_); clear hK hE K E)
        | ((with_reducible refine Eof.use hE ?_); (try clear hK hE K E))
        | ((with_reducible refine Kof.use hKh ?_); clear hKh Kh)
        | ((with_reducible refine Kof.use hKb (P_next ?_)); clear hKb Kb)
        | with_reducible refine G_plan2 6 [0, 1, 2, 3, 4, 5, 6, 7] 8 9 10 11 hQe fun K E hK hE => ?_
        | ((with_reducible refine W_cond (fun h => ?_) (fun h => ?_)) <;> (try (exfalso; first | assumption | omega)))
        | ((with_reducible first | refine G_region fun K E hK hE => ?_ | refine call_ret can27 (Rsame_S _ _ _ _ (by first | assumption | omega) _) ?_ | refine call_ret can28 (Rsts_S _ _ _ _ (by assumption) (by assumption) _) ?_ | refine W_if ?_ | refine W_ifS ?_ | refine P_heads fun Kh hKh => ?_ | refine P_fin fun Kh hKh => ?_ | refine P_each fun Kb hKb => ?_ | refine P_fin2 fun Kh hKh => ?_ | refine P_pair ?_ | refine W_and ?_) <;> (try simp (disch := first | assumption | omega) only [go_sem, seval, stsC_len, *]))
        | ((with_reducible refine W_fresh (fun b hb => ?_)); (repeat (obtain ⟨_, hb⟩ := hb)); (try simp (disch := first | assumption | omega) only [go_sem, seval, stsC_len, *]))
        | ((with_reducible refine W_app (fun o2 ho => ?_)); (try simp (disch := assumption) only [disown_set, disown_own, ownok_o, ownok_m, List.length_map, List.length_cons, List.length_nil, Nat.zero_add, stsC_len] at ho); (repeat (obtain ⟨_, ho⟩ := ho)); (try simp (disch := first | assumption | omega) only [go_sem, seval, stsC_len, *]))
        | ((with_reducible refine W_gd (fun h => ?_) (fun h => ?_)) <;> (try (exfalso; first | assumption | omega)) <;> (try simp (disch := first | assumption | omega) only [go_sem, seval, stsC_len, *]))))
      refine G_loop (fun m env s' => ∃ i : Nat, i ≤ a.length ∧ m + i = a.length ∧ a.take i = b.take i ∧ s' = s ∧ env 0 = .lst (stsC a) oa ∧ env 1 = .lst (stsC b) ob ∧ env 5 = .int .i64 i) a.length ⟨_, Fg.refl _, 0, by omega, by omega, rfl, rfl, by ((try simp (disch := first | assumption | omega) only [go_sem, seval, *]) <;> first | rfl | omega), by ((try simp (disch := first | assumption | omega) only [go_sem, seval, *]) <;> first | rfl | omega), by ((try simp (disch := first | assumption | omega) only [go_sem, seval, *]) <;> first | rfl | omega)⟩ ?_
      rintro m env s' ⟨i, hi, hm, he, rfl, e0, e1, e5⟩
      have HE := Lib.hid he
      clear he
      by_cases hlt : i < a.length
      · obtain ⟨x, hx⟩ := list_get hlt
        obtain ⟨y, hy⟩ := list_get (l := b) (i := i) (by rw [← HL.out]; exact hlt)
        have hsx := stsC_at hx
        have hsy := stsC_at hy
        have hxo := hok.get hx
        have hsz := szL_at hx
        have HX := Lib.hid (And.intro hx hy)
        clear hx hy hok
        have hlb : i < b.length := by have := HL.out; omega
        obtain ⟨k, d, sr, c, mm, ar, o, t⟩ := x
        obtain ⟨k2, d2, sr2, c2, mm2, ar2, o2, t2⟩ := y
        simp only [StmOk, TxOk] at hxo
        obtain ⟨_, ⟨har, _⟩, ⟨ho1, ho2⟩, ⟨ht1, ht2⟩⟩ := hxo
        simp only [szS] at hsz
        have r1 := fun s => ih (szL o) (by omega) o o2 .no .no rfl ho2 ho1 s
        have r2 := fun s => ih (szL t) (by omega) t t2 .no .no rfl ht2 ht1 s
        have r3 := fun s => Rsame_S ar ar2 .no .no har s
        clear ih hf hsz ho2 ht2
        (repeat' (first
          | with_reducible first | refine L_seq ?_ | refine L_blk ?_ | refine L_skip ?_ | refine L_endblk ?_ | refine L_ret ?_ | refine L_exit ?_ | refine X_code ?_ | refine X_back ?_ | refine X_blk ?_ | refine X_past (by decide) ?_ | refine L_back ?_
          | ((with_reducible refine Kof.use hK ?_); clear hK hE K E)
          | ((with_reducible refine Eof.use hE ?_); (try clear hK hE K E))
          | ((with_reducible refine Kof.use hKh ?_); clear hKh Kh)
          | ((with_reducible refine Kof.use hKb (P_next ?_)); clear hKb Kb)
          | with_reducible refine G_plan2 6 [0, 1, 2, 3, 4, 5, 6, 7] 8 9 10 11 hQe fun K E hK hE => ?_
          | ((with_reducible refine W_cond (fun h => ?_) (fun h => ?_)) <;> (try (exfalso; first | assumption | omega)))
          | ((with_reducible first | refine G_region fun K E hK hE => ?_ | refine call_ret can27 (r3 _) ?_ | refine call_ret can28 (r1 _) ?_ | refine call_ret can28 (r2 _) ?_ | refine call_ret can27 (Rsame_S _ _ _ _ (by first | assumption | omega) _) ?_ | refine call_ret can28 (Rsts_S _ _ _ _ (by assumption) (by assumption) _) ?_ | refine W_if ?_ | refine W_ifS ?_ | refine P_heads fun Kh hKh => ?_ | refine P_fin fun Kh hKh => ?_ | refine P_each fun Kb hKb => ?_ | refine P_fin2 fun Kh hKh => ?_ | refine P_pair ?_ | refine W_and ?_) <;> (try simp (disch := first | assumption | omega) only [go_sem, seval, stsC_len, hsx, hsy, stC, strsV, strs_C, *]))
          | ((with_reducible refine W_fresh (fun b hb => ?_)); (repeat (obtain ⟨_, hb⟩ := hb)); (try simp (disch := first | assumption | omega) only [go_sem, seval, stsC_len, hsx, hsy, stC, strsV, strs_C, *]))
          | ((with_reducible refine W_app (fun o2 ho => ?_)); (try simp (disch := assumption) only [disown_set, disown_own, ownok_o, ownok_m, List.length_map, List.length_cons, List.length_nil, Nat.zero_add, stsC_len, hsx, hsy, stC, strsV, strs_C] at ho); (repeat (obtain ⟨_, ho⟩ := ho)); (try simp (disch := first | assumption | omega) only [go_sem, seval, stsC_len, hsx, hsy, stC, strsV, strs_C, *]))
          | ((with_reducible refine W_gd (fun h => ?_) (fun h => ?_)) <;> (try (exfalso; first | assumption | omega)) <;> (try simp (disch := first | assumption | omega) only [go_sem, seval, stsC_len, hsx, hsy, stC, strsV, strs_C, *]))))
        all_goals clear r1 r2 r3 hsx hsy
        all_goals first
          | (exact ⟨_, by ((try dsimp only); (repeat (first | exact Fg.refl _ | exact Fg.own (by assumption) | (refine Fg.set ?_ _ _) | (refine Fg.setA ?_ (by first | assumption | (simp (disch := assumption) only [own_rd, St.set, if_false, if_true, *]; done))) )); done), m - 1, by omega, i + 1, by omega, by omega, take_eq_succ HX.out.1 HX.out.2 HE.out (by simp_all [eqB_i]), rfl, by ((try simp (disch := first | assumption | omega) only [go_sem, seval, *]) <;> first | rfl | omega), by ((try simp (disch := first | assumption | omega) only [go_sem, seval, *]) <;> first | rfl | omega), by ((try simp (disch := first | assumption | omega) only [go_sem, seval, *]) <;> first | rfl | omega)⟩)
          | ((first | refine G_ret hQ (by simp (disch := first | assumption | omega) only [res28, go_sem, seval, *] <;> rfl) ?_ | refine G_norm hQ (by simp (disch := first | assumption | omega) only [res28, go_sem, seval, *] <;> rfl) ?_ | refine G_pan hQ ?_)
             (refine ⟨_, _, Wk.of_eq ?_, ?_, rfl, rfl⟩)
             · rw [eqB_f (ne_at HX.out.1 HX.out.2 (fun e => by injection e; simp_all [eqB_self]))]
             · ((try dsimp only); (repeat (first | exact Fg.refl _ | exact Fg.own (by assumption) | (refine Fg.set ?_ _ _) | (refine Fg.setA ?_ (by first | assumption | (simp (disch := assumption) only [own_rd, St.set, if_false, if_true, *]; done))) )); done))
      · (repeat' (first
   | with_reducible first | refine L_seq ?_ | refine L_blk ?_ | refine L_skip ?_ | refine L_endblk ?_ | refine L_ret ?_ | refine L_exit ?_ | refine X_code ?_ | refine X_back ?_ | refine X_blk ?_ | refine X_past (by decide) ?_ | refine L_back ?_
   | ((with_reducible refine Kof.use hK ?_); clear hK hE K E)
   | ((with_reducible refine Eof.use hE ?_); (try clear hK hE K E))
   | ((with_reducible refine Kof.use hKh ?_); clear hKh Kh)
   | ((with_reducible refine Kof.use hKb (P_next ?_)); clear hKb Kb)
   | with_reducible refine G_plan2 6 [0, 1, 2, 3, 4, 5, 6, 7] 8 9 10 11 hQe fun K E hK hE => ?_
   | ((with_reducible refine W_cond (fun h => ?_) (fun h => ?_)) <;> (try (exfalso; first | assumption | omega)))
   | ((with_reducible first | refine G_region fun K E hK hE => ?_ | refine call_ret can27 (Rsame_S _ _ _ _ (by first | assumption | omega) _) ?_ | refine call_ret can28 (Rsts_S _ _ _ _ (by assumption) (by assumption) _) ?_ | refine W_if ?_ | refine W_ifS ?_ | refine P_heads fun Kh hKh => ?_ | refine P_fin fun Kh hKh => ?_ | refine P_each fun Kb hKb => ?_ | refine P_fin2 fun Kh hKh => ?_ | refine P_pair ?_ | refine W_and ?_) <;> (try simp (disch := first | assumption | omega) only [go_sem, seval, stsC_len, *]))
   | ((with_reducible refine W_fresh (fun b hb => ?_)); (repeat (obtain ⟨_, hb⟩ := hb)); (try simp (disch := first | assumption | omega) only [go_sem, seval, stsC_len, *]))
   | ((with_reducible refine W_app (fun o2 ho => ?_)); (try simp (disch := assumption) only [disown_set, disown_own, ownok_o, ownok_m, List.length_map, List.length_cons, List.length_nil, Nat.zero_add, stsC_len] at ho); (repeat (obtain ⟨_, ho⟩ := ho)); (try simp (disch := first | assumption | omega) only [go_sem, seval, stsC_len, *]))
   | ((with_reducible refine W_gd (fun h => ?_) (fun h => ?_)) <;> (try (exfalso; first | assumption | omega)) <;> (try simp (disch := first | assumption | omega) only [go_sem, seval, stsC_len, *]))))
        all_goals (first | refine G_ret hQ (by simp (disch := first | assumption | omega) only [res28, go_sem, seval, *] <;> rfl) ?_ | refine G_norm hQ (by simp (disch := first | assumption | omega) only [res28, go_sem, seval, *] <;> rfl) ?_ | refine G_pan hQ ?_)
        all_goals (refine ⟨_, _, Wk.of_eq ?_, ?_, rfl, rfl⟩)
        · rw [eqB_t (take_eq HL.out (by have := HE.out; rwa [show i = a.length by omega] at this))]
        · ((try dsimp only); (repeat (first | exact Fg.refl _ | exact Fg.own (by assumption) | (refine Fg.set ?_ _ _) | (refine Fg.setA ?_ (by first | assumption | (simp (disch := assumption) only [own_rd, St.set, if_false, if_true, *]; done))) )); done)
    · have hl2 : ¬ ((a.length : Int) = (b.length : Int)) := by omega
      (repeat' (first
        | with_reducible first | refine L_seq ?_ | refine L_blk ?_ | refine L_skip ?_ | refine L_endblk ?_ | refine L_ret ?_ | refine L_exit ?_ | refine X_code ?_ | refine X_back ?_ | refine X_blk ?_ | refine X_past (by decide) ?_ | refine L_back ?_
        | ((with_reducible refine Kof.use hK ?_); clear hK hE K E)
        | ((with_reducible refine Eof.use hE ?_); (try clear hK hE K E))
        | ((with_reducible refine Kof.use hKh ?_); clear hKh Kh)
        | ((with_reducible refine Kof.use hKb (P_next ?_)); clear hKb Kb)
        | with_reducible refine G_plan2 6 [0, 1, 2, 3, 4, 5, 6, 7] 8 9 10 11 hQe fun K E hK hE => ?_
        | ((with_reducible refine W_cond (fun h => ?_) (fun h => ?_)) <;> (try (exfalso; first | assumption | omega)))
        | ((with_reducible first | refine G_region fun K E hK hE => ?_ | refine call_ret can27 (Rsame_S _ _ _ _ (by first | assumption | omega) _) ?_ | refine call_ret can28 (Rsts_S _ _ _ _ (by assumption) (by assumption) _) ?_ | refine W_if ?_ | refine W_ifS ?_ | refine P_heads fun Kh hKh => ?_ | refine P_fin fun Kh hKh => ?_ | refine P_each fun Kb hKb => ?_ | refine P_fin2 fun Kh hKh => ?_ | refine P_pair ?_ | refine W_and ?_) <;> (try simp (disch := first | assumption | omega) only [go_sem, seval, stsC_len, *]))
        | ((with_reducible refine W_fresh (fun b hb => ?_)); (repeat (obtain ⟨_, hb⟩ := hb)); (try simp (disch := first | assumption | omega) only [go_sem, seval, stsC_len, *]))
        | ((with_reducible refine W_app (fun o2 ho => ?_)); (try simp (disch := assumption) only [disown_set, disown_own, ownok_o, ownok_m, List.length_map, List.length_cons, List.length_nil, Nat.zero_add, stsC_len] at ho); (repeat (obtain ⟨_, ho⟩ := ho)); (try simp (disch := first | assumption | omega) only [go_sem, seval, stsC_len, *]))
        | ((with_reducible refine W_gd (fun h => ?_) (fun h => ?_)) <;> (try (exfalso; first | assumption | omega)) <;> (try simp (disch := first | assumption | omega) only [go_sem, seval, stsC_len, *]))))
      all_goals (first | refine G_ret hQ (by simp (disch := first | assumption | omega) only [res28, go_sem, seval, *] <;> rfl) ?_ | refine G_norm hQ (by simp (disch := first | assumption | omega) only [res28, go_sem, seval, *] <;> rfl) ?_ | refine G_pan hQ ?_)
      all_goals (refine ⟨_, _, Wk.of_eq ?_, ?_, rfl, rfl⟩)
      · rw [eqB_f (fun e => hl (by rw [e]))]
      · ((try dsimp only); (repeat (first | exact Fg.refl _ | exact Fg.own (by assumption) | (refine Fg.set ?_ _ _) | (refine Fg.setA ?_ (by first | assumption | (simp (disch := assumption) only [own_rd, St.set, if_false, if_true, *]; done))) )); done)
theorem Rsts_S (a b : List Stm) (oa ob : Own) (h : StmsOk a) (ha : a.length ≤ 140737488355328) (s : St) : SRet Try.prog 28 [.lst (stsC a) oa, .lst (stsC b) ob] s (.bool (eqB a b)) s :=
  RsameStmts_F _ a b oa ob rfl h ha s
end Go.Proofs.Ytilpdejbldllbaa
set_option maxRecDepth 100000
namespace Go.Proofs.Ytilpdejbldllbaa
open Go.RowKit

theorem beqT {b : Bool} : (b == true) = b := by cases b <;> rfl
theorem beqF {b : Bool} : (b == false) = !b := by cases b <;> rfl
set_option maxHeartbeats 8000000 in
theorem RSame_S (ca cb : List Cls) (hok : SrcOk ca) (s : St) : SRet Try.prog 13 [srcV ca, srcV cb] s (.bool (eqB ca cb)) s := by
  obtain ⟨ha, hcs⟩ := hok
  refine G_enter Try.func13 rfl Try.ntmps13 rfl fun Q hQ hQe => ?_
  by_cases hl : ca.length = cb.length
  · have hl2 : ((ca.length : Int) = (cb.length : Int)) = True := eq_true (by omega)
    have HL := Lib.hid hl
    clear hl
    (repeat' (first
      | with_reducible first | refine L_seq ?_ | refine L_blk ?_ | refine L_skip ?_ | refine L_endblk ?_ | refine L_ret ?_ | refine L_exit ?_ | refine X_code ?_ | refine X_back ?_ | refine X_blk ?_ | refine X_past (by decide) ?_ | refine L_back ?_
      | ((with_reducible refine Kof.use hK ?_); clear hK hE K E)
      | ((with_reducible refine Eof.use hE ?_); (try clear hK hE K E))
      | ((with_reducible refine Kof.use hKh ?_); clear hKh Kh)
      | ((with_reducible refine Kof.use hKb (P_next ?_)); clear hKb Kb)
      | with_reducible first | refine G_plan2 6 [0, 1, 2, 3, 4, 5, 6, 7, 8, 9] 10 11 12 13 hQe fun K E hK hE => ?_ | refine G_plan2 12 [0, 1, 2, 3, 4, 5, 6, 7, 8, 9] 10 11 12 13 hQe fun K E hK hE => ?_
      | ((with_reducible refine W_cond (fun h => ?_) (fun h => ?_)) <;> (try (exfalso; first | assumption | omega)))
      | ((with_reducible first | refine G_region fun K E hK hE => ?_ | refine call_ret can27 (Rsame_S _ _ _ _ (by first | assumption | omega) _) ?_ | refine call_ret can28 (Rsts_S _ _ _ _ (by assumption) (by assumption) _) ?_ | refine W_if ?_ | refine W_ifS ?_ | refine P_heads fun Kh hKh => ?_ | refine P_fin fun Kh hKh => ?_ | refine P_each fun Kb hKb => ?_ | refine P_fin2 fun Kh hKh => ?_ | refine P_pair ?_ | refine W_and ?_) <;> (try simp (disch := first | assumption | omega) only [go_sem, seval, List.length_map, srcV, *]))
      | ((with_reducible refine W_fresh (fun b hb => ?_)); (repeat (obtain ⟨_, hb⟩ := hb)); (try simp (disch := first | assumption | omega) only [go_sem, seval, List.length_map, srcV, *]))
      | ((with_reducible refine W_app (fun o2 ho => ?_)); (try simp (disch := assumption) only [disown_set, disown_own, ownok_o, ownok_m, List.length_map, List.length_cons, List.length_nil, Nat.zero_add, List.length_map, srcV] at ho); (repeat (obtain ⟨_, ho⟩ := ho)); (try simp (disch := first | assumption | omega) only [go_sem, seval, List.length_map, srcV, *]))
      | ((with_reducible refine W_gd (fun h => ?_) (fun h => ?_)) <;> (try (exfalso; first | assumption | omega)) <;> (try simp (disch := first | assumption | omega) only [go_sem, seval, List.length_map, srcV, *]))))
    rename_i b2 hb2 n1 n2
    obtain ⟨b3, hb3⟩ : ∃ x, x = b := ⟨_, rfl⟩
    subst hb3
    refine G_loop (fun m env s' => ∃ i : Nat, i ≤ ca.length ∧ m + i = ca.length ∧ ca.take i = cb.take i ∧ s' = (s.set b2 (.obj 25 [.lst (ca.map clsC) .no])).set b3 (.obj 25 [.lst (cb.map clsC) .no]) ∧ env 2 = .ptr b2 0 ∧ env 3 = .ptr b3 0 ∧ env 5 = .int .i64 i) ca.length ⟨_, Fg.refl _, 0, by omega, by omega, rfl, rfl, by ((try simp (disch := first | assumption | omega) only [go_sem, seval, *]) <;> first | rfl | omega), by ((try simp (disch := first | assumption | omega) only [go_sem, seval, *]) <;> first | rfl | omega), by ((try simp (disch := first | assumption | omega) only [go_sem, seval, *]) <;> first | rfl | omega)⟩ ?_
    rintro m env s' ⟨i, hi, hm, he, rfl, e2, e3, e5⟩
    have HE := Lib.hid he
    clear he
    by_cases hlt : i < ca.length
    · obtain ⟨x, hx⟩ := list_get hlt
      obtain ⟨y, hy⟩ := list_get (l := cb) (i := i) (by rw [← HL.out]; exact hlt)
      have hsx := clsC_at hx
      have hsy := clsC_at hy
      obtain ⟨_, _, hml, hms⟩ := hcs x (List.mem_of_getElem? hx)
      have HX := Lib.hid (And.intro hx hy)
      clear hx hy
      have hlb : i < cb.length := by have := HL.out; omega
      obtain ⟨nm, pa, ms⟩ := x
      obtain ⟨nm2, pa2, ms2⟩ := y
      simp only at hml hms
      (repeat' (first
        | with_reducible first | refine L_seq ?_ | refine L_blk ?_ | refine L_skip ?_ | refine L_endblk ?_ | refine L_ret ?_ | refine L_exit ?_ | refine X_code ?_ | refine X_back ?_ | refine X_blk ?_ | refine X_past (by decide) ?_ | refine L_back ?_
        | ((with_reducible refine Kof.use hK ?_); clear hK hE K E)
        | ((with_reducible refine Eof.use hE ?_); (try clear hK hE K E))
        | ((with_reducible refine Kof.use hKh ?_); clear hKh Kh)
        | ((with_reducible refine Kof.use hKb (P_next ?_)); clear hKb Kb)
        | with_reducible first | refine G_plan2 6 [0, 1, 2, 3, 4, 5, 6, 7, 8, 9] 10 11 12 13 hQe fun K E hK hE => ?_ | refine G_plan2 12 [0, 1, 2, 3, 4, 5, 6, 7, 8, 9] 10 11 12 13 hQe fun K E hK hE => ?_
        | ((with_reducible refine W_cond (fun h => ?_) (fun h => ?_)) <;> (try (exfalso; first | assumption | omega)))
        | ((with_reducible first | refine G_region fun K E hK hE => ?_ | refine call_ret can27 (Rsame_S _ _ _ _ (by first | assumption | omega) _) ?_ | refine call_ret can28 (Rsts_S _ _ _ _ (by assumption) (by assumption) _) ?_ | refine W_if ?_ | refine W_ifS ?_ | refine P_heads fun Kh hKh => ?_ | refine P_fin fun Kh hKh => ?_ | refine P_each fun Kb hKb => ?_ | refine P_fin2 fun Kh hKh => ?_ | refine P_pair ?_ | refine W_and ?_) <;> (try simp (disch := first | assumption | omega) only [go_sem, seval, List.length_map, hsx, hsy, clsC, *]))
        | ((with_reducible refine W_fresh (fun b hb => ?_)); (repeat (obtain ⟨_, hb⟩ := hb)); (try simp (disch := first | assumption | omega) only [go_sem, seval, List.length_map, hsx, hsy, clsC, *]))
        | ((with_reducible refine W_app (fun o2 ho => ?_)); (try simp (disch := assumption) only [disown_set, disown_own, ownok_o, ownok_m, List.length_map, List.length_cons, List.length_nil, Nat.zero_add, List.length_map, hsx, hsy, clsC] at ho); (repeat (obtain ⟨_, ho⟩ := ho)); (try simp (disch := first | assumption | omega) only [go_sem, seval, List.length_map, hsx, hsy, clsC, *]))
        | ((with_reducible refine W_gd (fun h => ?_) (fun h => ?_)) <;> (try (exfalso; first | assumption | omega)) <;> (try simp (disch := first | assumption | omega) only [go_sem, seval, List.length_map, hsx, hsy, clsC, *]))))
      · have hne : ¬ ca = cb := ne_at HX.out.1 HX.out.2 (fun e => by injection e; contradiction)
        (first | refine G_ret hQ (by simp (disch := first | assumption | omega) only [res13, go_sem, seval, *] <;> rfl) ?_ | refine G_norm hQ (by simp (disch := first | assumption | omega) only [res13, go_sem, seval, *] <;> rfl) ?_ | refine G_pan hQ ?_)
        (refine ⟨_, _, Wk.of_eq ?_, ?_, rfl, rfl⟩)
        · rw [eqB_f hne]
        · ((try dsimp only); (repeat (first | exact Fg.refl _ | exact Fg.own (by assumption) | (refine Fg.set ?_ _ _) | (refine Fg.setA ?_ (by first | assumption | (simp (disch := assumption) only [own_rd, St.set, if_false, if_true, *]; done))) )); done)
      · have hne : ¬ ca = cb := ne_at HX.out.1 HX.out.2 (fun e => by injection e; contradiction)
        (first | refine G_ret hQ (by simp (disch := first | assumption | omega) only [res13, go_sem, seval, *] <;> rfl) ?_ | refine G_norm hQ (by simp (disch := first | assumption | omega) only [res13, go_sem, seval, *] <;> rfl) ?_ | refine G_pan hQ ?_)
        (refine ⟨_, _, Wk.of_eq ?_, ?_, rfl, rfl⟩)
        · rw [eqB_f hne]
        · ((try dsimp only); (repeat (first | exact Fg.refl _ | exact Fg.own (by assumption) | (refine Fg.set ?_ _ _) | (refine Fg.setA ?_ (by first | assumption | (simp (disch := assumption) only [own_rd, St.set, if_false, if_true, *]; done))) )); done)
      · have hne : ¬ ca = cb := ne_at HX.out.1 HX.out.2 (fun e => by injection e with e1 e2 e3; rw [e3] at h; exact h rfl)
        (first | refine G_ret hQ (by simp (disch := first | assumption | omega) only [res13, go_sem, seval, *] <;> rfl) ?_ | refine G_norm hQ (by simp (disch := first | assumption | omega) only [res13, go_sem, seval, *] <;> rfl) ?_ | refine G_pan hQ ?_)
        (refine ⟨_, _, Wk.of_eq ?_, ?_, rfl, rfl⟩)
        · rw [eqB_f hne]
        · ((try dsimp only); (repeat (first | exact Fg.refl _ | exact Fg.own (by assumption) | (refine Fg.set ?_ _ _) | (refine Fg.setA ?_ (by first | assumption | (simp (disch := assumption) only [own_rd, St.set, if_false, if_true, *]; done))) )); done)
      · rename_i bp q1 q2 q3 q4 hbp q5 q6 q7 q8 q9 q10 hn hp
        obtain ⟨bq, hbq⟩ : ∃ x, x = b := ⟨_, rfl⟩
        subst hbq
        have HN := Lib.hid (And.intro (of_eq_true hn) (of_eq_true hp))
        have HM := Lib.hid (of_eq_true h)
        have hml2 : ((ms.length : Int) = (ms2.length : Int)) = True := eq_true (by have := of_eq_true h; omega)
        clear hn hp h hsx hsy
        refine G_loop (fun m2 env s' => ∃ j : Nat, j ≤ ms.length ∧ m2 + j = ms.length ∧ ms.take j = ms2.take j ∧
          s' = (((s.set b2 (.obj 25 [.lst (ca.map clsC) .no])).set b3 (.obj 25 [.lst (cb.map clsC) .no])).set bp (.obj 54 [.str nm, .str pa, .lst (ms.map mthC) .no])).set bq (.obj 54 [.str nm2, .str pa2, .lst (ms2.map mthC) .no]) ∧
          env 2 = .ptr b2 0 ∧ env 3 = .ptr b3 0 ∧ env 5 = .int .i64 i ∧ env 6 = .ptr bp 0 ∧ env 7 = .ptr bq 0 ∧ env 8 = .int .i64 j) ms.length ⟨_, Fg.refl _, 0, by omega, by omega, rfl, rfl, by ((try simp (disch := first | assumption | omega) only [go_sem, seval, *]) <;> first | rfl | omega), by ((try simp (disch := first | assumption | omega) only [go_sem, seval, *]) <;> first | rfl | omega), by ((try simp (disch := first | assumption | omega) only [go_sem, seval, *]) <;> first | rfl | omega), by ((try simp (disch := first | assumption | omega) only [go_sem, seval, *]) <;> first | rfl | omega), by ((try simp (disch := first | assumption | omega) only [go_sem, seval, *]) <;> first | rfl | omega), by ((try simp (disch := first | assumption | omega) only [go_sem, seval, *]) <;> first | rfl | omega)⟩ ?_
        clear e2 e3 e5 env
        rintro m2 env s' ⟨j, hj, hm2, he2, rfl, e2, e3, e5, e6, e7, e8⟩
        have HE2 := Lib.hid he2
        clear he2
        by_cases hlt2 : j < ms.length
        · obtain ⟨x, hx⟩ := list_get hlt2
          obtain ⟨y, hy⟩ := list_get (l := ms2) (i := j) (by rw [← HM.out]; exact hlt2)
          have hsx := mthC_at hx
          have hsy := mthC_at hy
          have hmo := hms x (List.mem_of_getElem? hx)
          have HY := Lib.hid (And.intro hx hy)
          clear hx hy
          have hlb2 : j < ms2.length := by have := HM.out; omega
          obtain ⟨st, mn, ps, bd⟩ := x
          obtain ⟨st2, mn2, ps2, bd2⟩ := y
          simp only [MthOk, TxOk] at hmo
          obtain ⟨_, ⟨hps, _⟩, hbl, hbo⟩ := hmo
          have r1 := fun s => Rsts_S bd bd2 .no .no hbo hbl s
          have r3 := fun s => Rsame_S ps ps2 .no .no hps s
          cases st <;> cases st2
          all_goals (repeat' (first
   | with_reducible first | refine L_seq ?_ | refine L_blk ?_ | refine L_skip ?_ | refine L_endblk ?_ | refine L_ret ?_ | refine L_exit ?_ | refine X_code ?_ | refine X_back ?_ | refine X_blk ?_ | refine X_past (by decide) ?_ | refine L_back ?_
   | ((with_reducible refine Kof.use hK ?_); clear hK hE K E)
   | ((with_reducible refine Eof.use hE ?_); (try clear hK hE K E))
   | ((with_reducible refine Kof.use hKh ?_); clear hKh Kh)
   | ((with_reducible refine Kof.use hKb (P_next ?_)); clear hKb Kb)
   | with_reducible first | refine G_plan2 6 [0, 1, 2, 3, 4, 5, 6, 7, 8, 9] 10 11 12 13 hQe fun K E hK hE => ?_ | refine G_plan2 12 [0, 1, 2, 3, 4, 5, 6, 7, 8, 9] 10 11 12 13 hQe fun K E hK hE => ?_
   | ((with_reducible refine W_cond (fun h => ?_) (fun h => ?_)) <;> (try (exfalso; first | assumption | omega)))
   | ((with_reducible first | refine G_region fun K E hK hE => ?_ | refine call_ret can27 (r3 _) ?_ | refine call_ret can28 (r1 _) ?_ | refine call_ret can27 (Rsame_S _ _ _ _ (by first | assumption | omega) _) ?_ | refine call_ret can28 (Rsts_S _ _ _ _ (by assumption) (by assumption) _) ?_ | refine W_if ?_ | refine W_ifS ?_ | refine P_heads fun Kh hKh => ?_ | refine P_fin fun Kh hKh => ?_ | refine P_each fun Kb hKb => ?_ | refine P_fin2 fun Kh hKh => ?_ | refine P_pair ?_ | refine W_and ?_) <;> (try simp (disch := first | assumption | omega) only [go_sem, seval, List.length_map, hsx, hsy, mthC, strsV, strs_C, stsV, beqT, beqF, *]))
   | ((with_reducible refine W_fresh (fun b hb => ?_)); (repeat (obtain ⟨_, hb⟩ := hb)); (try simp (disch := first | assumption | omega) only [go_sem, seval, List.length_map, hsx, hsy, mthC, strsV, strs_C, stsV, beqT, beqF, *]))
   | ((with_reducible refine W_app (fun o2 ho => ?_)); (try simp (disch := assumption) only [disown_set, disown_own, ownok_o, ownok_m, List.length_map, List.length_cons, List.length_nil, Nat.zero_add, List.length_map, hsx, hsy, mthC, strsV, strs_C, stsV, beqT, beqF] at ho); (repeat (obtain ⟨_, ho⟩ := ho)); (try simp (disch := first | assumption | omega) only [go_sem, seval, List.length_map, hsx, hsy, mthC, strsV, strs_C, stsV, beqT, beqF, *]))
   | ((with_reducible refine W_gd (fun h => ?_) (fun h => ?_)) <;> (try (exfalso; first | assumption | omega)) <;> (try simp (disch := first | assumption | omega) only [go_sem, seval, List.length_map, hsx, hsy, mthC, strsV, strs_C, stsV, beqT, beqF, *]))))
          all_goals clear r1 r3 hsx hsy
          all_goals first
            | (exact ⟨_, by ((try dsimp only); (repeat (first | exact Fg.refl _ | exact Fg.own (by assumption) | (refine Fg.set ?_ _ _) | (refine Fg.setA ?_ (by first | assumption | (simp (disch := assumption) only [own_rd, St.set, if_false, if_true, *]; done))) )); done), m2 - 1, by omega, j + 1, by omega, by omega, take_eq_succ HY.out.1 HY.out.2 HE2.out (by simp_all [eqB_i]), rfl, by ((try simp (disch := first | assumption | omega) only [go_sem, seval, *]) <;> first | rfl | omega), by ((try simp (disch := first | assumption | omega) only [go_sem, seval, *]) <;> first | rfl | omega), by ((try simp (disch := first | assumption | omega) only [go_sem, seval, *]) <;> first | rfl | omega), by ((try simp (disch := first | assumption | omega) only [go_sem, seval, *]) <;> first | rfl | omega), by ((try simp (disch := first | assumption | omega) only [go_sem, seval, *]) <;> first | rfl | omega), by ((try simp (disch := first | assumption | omega) only [go_sem, seval, *]) <;> first | rfl | omega)⟩)
            | (have hne2 : ¬ ms = ms2 := ne_at HY.out.1 HY.out.2 (fun e => by injection e; simp_all [eqB_self])
               have hne : ¬ ca = cb := ne_at HX.out.1 HX.out.2 (fun e => by injection e; contradiction)
               (first | refine G_ret hQ (by simp (disch := first | assumption | omega) only [res13, go_sem, seval, *] <;> rfl) ?_ | refine G_norm hQ (by simp (disch := first | assumption | omega) only [res13, go_sem, seval, *] <;> rfl) ?_ | refine G_pan hQ ?_)
               (refine ⟨_, _, Wk.of_eq ?_, ?_, rfl, rfl⟩)
               · rw [eqB_f hne]
               · ((try dsimp only); (repeat (first | exact Fg.refl _ | exact Fg.own (by assumption) | (refine Fg.set ?_ _ _) | (refine Fg.setA ?_ (by first | assumption | (simp (disch := assumption) only [own_rd, St.set, if_false, if_true, *]; done))) )); done))
        · have hms : ms = ms2 := take_eq HM.out (by have := HE2.out; rwa [show j = ms.length by omega] at this)
          have heq : (⟨nm, pa, ms⟩ : Cls) = ⟨nm2, pa2, ms2⟩ := by rw [HN.out.1, HN.out.2, hms]
          clear hms
          (repeat' (first
            | with_reducible first | refine L_seq ?_ | refine L_blk ?_ | refine L_skip ?_ | refine L_endblk ?_ | refine L_ret ?_ | refine L_exit ?_ | refine X_code ?_ | refine X_back ?_ | refine X_blk ?_ | refine X_past (by decide) ?_ | refine L_back ?_
            | ((with_reducible refine Kof.use hK ?_); clear hK hE K E)
            | ((with_reducible refine Eof.use hE ?_); (try clear hK hE K E))
            | ((with_reducible refine Kof.use hKh ?_); clear hKh Kh)
            | ((with_reducible refine Kof.use hKb (P_next ?_)); clear hKb Kb)
            | with_reducible first | refine G_plan2 6 [0, 1, 2, 3, 4, 5, 6, 7, 8, 9] 10 11 12 13 hQe fun K E hK hE => ?_ | refine G_plan2 12 [0, 1, 2, 3, 4, 5, 6, 7, 8, 9] 10 11 12 13 hQe fun K E hK hE => ?_
            | ((with_reducible refine W_cond (fun h => ?_) (fun h => ?_)) <;> (try (exfalso; first | assumption | omega)))
            | ((with_reducible first | refine G_region fun K E hK hE => ?_ | refine call_ret can27 (Rsame_S _ _ _ _ (by first | assumption | omega) _) ?_ | refine call_ret can28 (Rsts_S _ _ _ _ (by assumption) (by assumption) _) ?_ | refine W_if ?_ | refine W_ifS ?_ | refine P_heads fun Kh hKh => ?_ | refine P_fin fun Kh hKh => ?_ | refine P_each fun Kb hKb => ?_ | refine P_fin2 fun Kh hKh => ?_ | refine P_pair ?_ | refine W_and ?_) <;> (try simp (disch := first | assumption | omega) only [go_sem, seval, List.length_map, *]))
            | ((with_reducible refine W_fresh (fun b hb => ?_)); (repeat (obtain ⟨_, hb⟩ := hb)); (try simp (disch := first | assumption | omega) only [go_sem, seval, List.length_map, *]))
            | ((with_reducible refine W_app (fun o2 ho => ?_)); (try simp (disch := assumption) only [disown_set, disown_own, ownok_o, ownok_m, List.length_map, List.length_cons, List.length_nil, Nat.zero_add, List.length_map] at ho); (repeat (obtain ⟨_, ho⟩ := ho)); (try simp (disch := first | assumption | omega) only [go_sem, seval, List.length_map, *]))
            | ((with_reducible refine W_gd (fun h => ?_) (fun h => ?_)) <;> (try (exfalso; first | assumption | omega)) <;> (try simp (disch := first | assumption | omega) only [go_sem, seval, List.length_map, *]))))
          all_goals exact ⟨_, by ((try dsimp only); (repeat (first | exact Fg.refl _ | exact Fg.own (by assumption) | (refine Fg.set ?_ _ _) | (refine Fg.setA ?_ (by first | assumption | (simp (disch := assumption) only [own_rd, St.set, if_false, if_true, *]; done))) )); done), m - 1, by omega, i + 1, by omega, by omega, take_eq_succ HX.out.1 HX.out.2 HE.out heq, rfl, by ((try simp (disch := first | assumption | omega) only [go_sem, seval, *]) <;> first | rfl | omega), by ((try simp (disch := first | assumption | omega) only [go_sem, seval, *]) <;> first | rfl | omega), by ((try simp (disch := first | assumption | omega) only [go_sem, seval, *]) <;> first | rfl | omega)⟩
    · (repeat' (first
   | with_reducible first | refine L_seq ?_ | refine L_blk ?_ | refine L_skip ?_ | refine L_endblk ?_ | refine L_ret ?_ | refine L_exit ?_ | refine X_code ?_ | refine X_back ?_ | refine X_blk ?_ | refine X_past (by decide) ?_ | refine L_back ?_
   | ((with_reducible refine Kof.use hK ?_); clear hK hE K E)
   | ((with_reducible refine Eof.use hE ?_); (try clear hK hE K E))
   | ((with_reducible refine Kof.use hKh ?_); clear hKh Kh)
   | ((with_reducible refine Kof.use hKb (P_next ?_)); clear hKb Kb)
   | with_reducible first | refine G_plan2 6 [0, 1, 2, 3, 4, 5, 6, 7, 8, 9] 10 11 12 13 hQe fun K E hK hE => ?_ | refine G_plan2 12 [0, 1, 2, 3, 4, 5, 6, 7, 8, 9] 10 11 12 13 hQe fun K E hK hE => ?_
   | ((with_reducible refine W_cond (fun h => ?_) (fun h => ?_)) <;> (try (exfalso; first | assumption | omega)))
   | ((with_reducible first | refine G_region fun K E hK hE => ?_ | refine call_ret can27 (Rsame_S _ _ _ _ (by first | assumption | omega) _) ?_ | refine call_ret can28 (Rsts_S _ _ _ _ (by assumption) (by assumption) _) ?_ | refine W_if ?_ | refine W_ifS ?_ | refine P_heads fun Kh hKh => ?_ | refine P_fin fun Kh hKh => ?_ | refine P_each fun Kb hKb => ?_ | refine P_fin2 fun Kh hKh => ?_ | refine P_pair ?_ | refine W_and ?_) <;> (try simp (disch := first | assumption | omega) only [go_sem, seval, List.length_map, *]))
   | ((with_reducible refine W_fresh (fun b hb => ?_)); (repeat (obtain ⟨_, hb⟩ := hb)); (try simp (disch := first | assumption | omega) only [go_sem, seval, List.length_map, *]))
   | ((with_reducible refine W_app (fun o2 ho => ?_)); (try simp (disch := assumption) only [disown_set, disown_own, ownok_o, ownok_m, List.length_map, List.length_cons, List.length_nil, Nat.zero_add, List.length_map] at ho); (repeat (obtain ⟨_, ho⟩ := ho)); (try simp (disch := first | assumption | omega) only [go_sem, seval, List.length_map, *]))
   | ((with_reducible refine W_gd (fun h => ?_) (fun h => ?_)) <;> (try (exfalso; first | assumption | omega)) <;> (try simp (disch := first | assumption | omega) only [go_sem, seval, List.length_map, *]))))
      all_goals (first | refine G_ret hQ (by simp (disch := first | assumption | omega) only [res13, go_sem, seval, *] <;> rfl) ?_ | refine G_norm hQ (by simp (disch := first | assumption | omega) only [res13, go_sem, seval, *] <;> rfl) ?_ | refine G_pan hQ ?_)
      all_goals (refine ⟨_, _, Wk.of_eq ?_, ?_, rfl, rfl⟩)
      · rw [eqB_t (take_eq HL.out (by have := HE.out; rwa [show i = ca.length by omega] at this))]
      · ((try dsimp only); (repeat (first | exact Fg.refl _ | exact Fg.own (by assumption) | (refine Fg.set ?_ _ _) | (refine Fg.setA ?_ (by first | assumption | (simp (disch := assumption) only [own_rd, St.set, if_false, if_true, *]; done))) )); done)
  · have hl2 : ¬ ((ca.length : Int) = (cb.length : Int)) := by omega
    (repeat' (first
      | with_reducible first | refine L_seq ?_ | refine L_blk ?_ | refine L_skip ?_ | refine L_endblk ?_ | refine L_ret ?_ | refine L_exit ?_ | refine X_code ?_ | refine X_back ?_ | refine X_blk ?_ | refine X_past (by decide) ?_ | refine L_back ?_
      | ((with_reducible refine Kof.use hK ?_); clear hK hE K E)
      | ((with_reducible refine Eof.use hE ?_); (try clear hK hE K E))
      | ((with_reducible refine Kof.use hKh ?_); clear hKh Kh)
      | ((with_reducible refine Kof.use hKb (P_next ?_)); clear hKb Kb)
      | with_reducible first | refine G_plan2 6 [0, 1, 2, 3, 4, 5, 6, 7, 8, 9] 10 11 12 13 hQe fun K E hK hE => ?_ | refine G_plan2 12 [0, 1, 2, 3, 4, 5, 6, 7, 8, 9] 10 11 12 13 hQe fun K E hK hE => ?_
      | ((with_reducible refine W_cond (fun h => ?_) (fun h => ?_)) <;> (try (exfalso; first | assumption | omega)))
      | ((with_reducible first | refine G_region fun K E hK hE => ?_ | refine call_ret can27 (Rsame_S _ _ _ _ (by first | assumption | omega) _) ?_ | refine call_ret can28 (Rsts_S _ _ _ _ (by assumption) (by assumption) _) ?_ | refine W_if ?_ | refine W_ifS ?_ | refine P_heads fun Kh hKh => ?_ | refine P_fin fun Kh hKh => ?_ | refine P_each fun Kb hKb => ?_ | refine P_fin2 fun Kh hKh => ?_ | refine P_pair ?_ | refine W_and ?_) <;> (try simp (disch := first | assumption | omega) only [go_sem, seval, List.length_map, srcV, *]))
      | ((with_reducible refine W_fresh (fun b hb => ?_)); (repeat (obtain ⟨_, hb⟩ := hb)); (try simp (disch := first | assumption | omega) only [go_sem, seval, List.length_map, srcV, *]))
      | ((with_reducible refine W_app (fun o2 ho => ?_)); (try simp (disch := assumption) only [disown_set, disown_own, ownok_o, ownok_m, List.length_map, List.length_cons, List.length_nil, Nat.zero_add, List.length_map, srcV] at ho); (repeat (obtain ⟨_, ho⟩ := ho)); (try simp (disch := first | assumption | omega) only [go_sem, seval, List.length_map, srcV, *]))
      | ((with_reducible refine W_gd (fun h => ?_) (fun h => ?_)) <;> (try (exfalso; first | assumption | omega)) <;> (try simp (disch := first | assumption | omega) only [go_sem, seval, List.length_map, srcV, *]))))
    all_goals (first | refine G_ret hQ (by simp (disch := first | assumption | omega) only [res13, go_sem, seval, *] <;> rfl) ?_ | refine G_norm hQ (by simp (disch := first | assumption | omega) only [res13, go_sem, seval, *] <;> rfl) ?_ | refine G_pan hQ ?_)
    all_goals (refine ⟨_, _, Wk.of_eq ?_, ?_, rfl, rfl⟩)
    · rw [eqB_f (fun e => hl (by rw [e]))]
    · ((try dsimp only); (repeat (first | exact Fg.refl _ | exact Fg.own (by assumption) | (refine Fg.set ?_ _ _) | (refine Fg.setA ?_ (by first | assumption | (simp (disch := assumption) only [own_rd, St.set, if_false, if_true, *]; done))) )); done)
end Go.Proofs.Ytilpdejbldllbaa
