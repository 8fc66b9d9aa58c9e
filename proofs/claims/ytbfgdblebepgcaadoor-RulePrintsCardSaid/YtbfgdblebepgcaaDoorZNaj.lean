/- What is proved: What package osierref11's sameAtom and sameRule hand back. Conditions: lists of at most 2^47 parts; What package osierref11's sameRule and Same hand back. Conditions: lists of at most 2^47 parts; What package osierref11's Same hands back. Conditions: lists of at most 2^47 parts; That package osierref11's Few answers. Conditions: lists of at most 2^47 parts. Conditions: those that stand in the statements. -/
import Derived.Test.YtbfgdblebepgcaaDoorZEq
import Derived.Test.YtbfgdblebepgcaaDoorZUn
set_option linter.unusedSimpArgs false
set_option linter.unusedVariables false
set_option maxRecDepth 100000
namespace Go.Proofs.YtbfgdblebepgcaaDoor
open Go.RowKit

set_option maxHeartbeats 2000000 in
theorem RsameAtom_S (a b : Atm) (oa ob : Own) (ha : a.ts.length ≤ 140737488355328) (s : St) : SRet Tryd.prog 50 [.agg [.bool a.not, .str a.rel, .lst (a.ts.map trmC) oa], .agg [.bool b.not, .str b.rel, .lst (b.ts.map trmC) ob]] s (.bool (eqB a b)) s := by
  obtain ⟨an, ar, ats⟩ := a
  obtain ⟨bn, br, bts⟩ := b
  simp only at ha ⊢
  refine G_enter Tryd.func50 rfl Tryd.ntmps50 rfl fun Q hQ hQe => ?_
  by_cases h0 : an = bn ∧ ar = br ∧ ats.length = bts.length
  · obtain ⟨rfl, rfl, hl⟩ := h0
    have hl2 : ((ats.length : Int) = (bts.length : Int)) = True := eq_true (by omega)
    have HL := Lib.hid hl
    clear hl
    (repeat' (first
      | with_reducible first | refine L_seq ?_ | refine L_blk ?_ | refine L_skip ?_ | refine L_endblk ?_ | refine L_ret ?_ | refine L_exit ?_ | refine X_code ?_ | refine X_back ?_ | refine X_blk ?_ | refine X_past (by decide) ?_ | refine L_back ?_
      | ((with_reducible refine Kof.use hK ?_); clear hK hE K E)
      | ((with_reducible refine Eof.use hE ?_); (try clear hK hE K E))
      | ((with_reducible refine Kof.use hKh ?_); clear hKh Kh)
      | ((with_reducible refine Kof.use hKb (P_next ?_)); clear hKb Kb)
      | with_reducible refine G_plan 6 [] [0, 1, 2, 3, 4, 5, 6, 7, 8, 9, 10] hQe fun K E hK hE => ?_
      | ((with_reducible refine W_cond (fun h => ?_) (fun h => ?_)) <;> (try (exfalso; first | assumption | omega)))
      | ((with_reducible first | refine G_region fun K E hK hE => ?_ | refine W_if ?_ | refine W_ifS ?_ | refine P_heads fun Kh hKh => ?_ | refine P_fin fun Kh hKh => ?_ | refine P_each fun Kb hKb => ?_ | refine W_and ?_) <;> (try simp (disch := first | assumption | omega) only [go_sem, seval, List.length_map, BEq.rfl, *]))
      | ((with_reducible refine W_fresh (fun b hb => ?_)); (repeat (obtain ⟨_, hb⟩ := hb)); (try simp (disch := first | assumption | omega) only [go_sem, seval, List.length_map, BEq.rfl, *]))
      | ((with_reducible refine W_app (fun o2 ho => ?_)); (try simp (disch := assumption) only [disown_set, disown_own, ownok_o, ownok_m, List.length_map, List.length_cons, List.length_nil, Nat.zero_add, List.length_map, BEq.rfl] at ho); (repeat (obtain ⟨_, ho⟩ := ho)); (try simp (disch := first | assumption | omega) only [go_sem, seval, List.length_map, BEq.rfl, *]))
      | ((with_reducible refine W_gd (fun h => ?_) (fun h => ?_)) <;> (try (exfalso; first | assumption | omega)) <;> (try simp (disch := first | assumption | omega) only [go_sem, seval, List.length_map, BEq.rfl, *]))))
    rename_i b2 hb2 n1 n2
    obtain ⟨b3, hb3⟩ : ∃ x, x = b := ⟨_, rfl⟩
    subst hb3
    refine G_loop (fun m env s' => ∃ i : Nat, i ≤ ats.length ∧ m + i = ats.length ∧ ats.take i = bts.take i ∧ s' = (s.set b2 (.obj 49 [.bool an, .str ar, .lst (ats.map trmC) oa])).set b3 (.obj 49 [.bool an, .str ar, .lst (bts.map trmC) ob]) ∧ env 2 = .ptr b2 0 ∧ env 3 = .ptr b3 0 ∧ env 5 = .int .i64 i) ats.length ⟨_, Fg.refl _, 0, by omega, by omega, rfl, rfl, by ((try simp (disch := first | assumption | omega) only [go_sem, seval, *]) <;> first | rfl | omega), by ((try simp (disch := first | assumption | omega) only [go_sem, seval, *]) <;> first | rfl | omega), by ((try simp (disch := first | assumption | omega) only [go_sem, seval, *]) <;> first | rfl | omega)⟩ ?_
    rintro m env s' ⟨i, hi, hm, he, rfl, e2, e3, e5⟩
    have HE := Lib.hid he
    clear he
    by_cases hlt : i < ats.length
    · obtain ⟨x, hx⟩ := uget hlt
      obtain ⟨y, hy⟩ := uget (l := bts) (i := i) (by rw [← HL.out]; exact hlt)
      have hsx := trmC_at hx
      have hsy := trmC_at hy
      have HX := Lib.hid (And.intro hx hy)
      clear hx hy
      have hlb : i < bts.length := by have := HL.out; omega
      obtain ⟨xv, xn, xk⟩ := x
      obtain ⟨yv, yn, yk⟩ := y
      (repeat' (first
        | with_reducible first | refine L_seq ?_ | refine L_blk ?_ | refine L_skip ?_ | refine L_endblk ?_ | refine L_ret ?_ | refine L_exit ?_ | refine X_code ?_ | refine X_back ?_ | refine X_blk ?_ | refine X_past (by decide) ?_ | refine L_back ?_
        | ((with_reducible refine Kof.use hK ?_); clear hK hE K E)
        | ((with_reducible refine Eof.use hE ?_); (try clear hK hE K E))
        | ((with_reducible refine Kof.use hKh ?_); clear hKh Kh)
        | ((with_reducible refine Kof.use hKb (P_next ?_)); clear hKb Kb)
        | with_reducible refine G_plan 6 [] [0, 1, 2, 3, 4, 5, 6, 7, 8, 9, 10] hQe fun K E hK hE => ?_
        | ((with_reducible refine W_cond (fun h => ?_) (fun h => ?_)) <;> (try (exfalso; first | assumption | omega)))
        | ((with_reducible first | refine G_region fun K E hK hE => ?_ | refine W_if ?_ | refine W_ifS ?_ | refine P_heads fun Kh hKh => ?_ | refine P_fin fun Kh hKh => ?_ | refine P_each fun Kb hKb => ?_ | refine W_and ?_) <;> (try simp (disch := first | assumption | omega) only [go_sem, seval, List.length_map, hsx, hsy, trmC, *]))
        | ((with_reducible refine W_fresh (fun b hb => ?_)); (repeat (obtain ⟨_, hb⟩ := hb)); (try simp (disch := first | assumption | omega) only [go_sem, seval, List.length_map, hsx, hsy, trmC, *]))
        | ((with_reducible refine W_app (fun o2 ho => ?_)); (try simp (disch := assumption) only [disown_set, disown_own, ownok_o, ownok_m, List.length_map, List.length_cons, List.length_nil, Nat.zero_add, List.length_map, hsx, hsy, trmC] at ho); (repeat (obtain ⟨_, ho⟩ := ho)); (try simp (disch := first | assumption | omega) only [go_sem, seval, List.length_map, hsx, hsy, trmC, *]))
        | ((with_reducible refine W_gd (fun h => ?_) (fun h => ?_)) <;> (try (exfalso; first | assumption | omega)) <;> (try simp (disch := first | assumption | omega) only [go_sem, seval, List.length_map, hsx, hsy, trmC, *]))))
      · have hne : ¬ ats = bts := ne_at HX.out.1 HX.out.2 (fun e => by injection e; simp_all)
        (first | refine G_ret hQ (by simp (disch := first | assumption | omega) only [res50, go_sem, seval, *] <;> rfl) ?_ | refine G_norm hQ (by simp (disch := first | assumption | omega) only [res50, go_sem, seval, *] <;> rfl) ?_ | refine G_pan hQ ?_)
        (refine ⟨_, _, Wk.of_eq ?_, ?_, rfl, rfl⟩)
        · rw [eqB_f (by intro e; injection e; contradiction)]
        · ((try dsimp only); (repeat (first | exact Fg.refl _ | exact Fg.own (by assumption) | (refine Fg.set ?_ _ _) | (refine Fg.setA ?_ (by first | assumption | (simp (disch := assumption) only [own_rd, St.set, if_false, if_true, *]; done))) )); done)
      · have heq : (⟨xv, xn, xk⟩ : Trm) = ⟨yv, yn, yk⟩ := by simp_all
        exact ⟨_, by ((try dsimp only); (repeat (first | exact Fg.refl _ | exact Fg.own (by assumption) | (refine Fg.set ?_ _ _) | (refine Fg.setA ?_ (by first | assumption | (simp (disch := assumption) only [own_rd, St.set, if_false, if_true, *]; done))) )); done), m - 1, by omega, i + 1, by omega, by omega, take_eq_succ HX.out.1 HX.out.2 HE.out heq, rfl, by ((try simp (disch := first | assumption | omega) only [go_sem, seval, *]) <;> first | rfl | omega), by ((try simp (disch := first | assumption | omega) only [go_sem, seval, *]) <;> first | rfl | omega), by ((try simp (disch := first | assumption | omega) only [go_sem, seval, *]) <;> first | rfl | omega)⟩
    · (repeat' (first
   | with_reducible first | refine L_seq ?_ | refine L_blk ?_ | refine L_skip ?_ | refine L_endblk ?_ | refine L_ret ?_ | refine L_exit ?_ | refine X_code ?_ | refine X_back ?_ | refine X_blk ?_ | refine X_past (by decide) ?_ | refine L_back ?_
   | ((with_reducible refine Kof.use hK ?_); clear hK hE K E)
   | ((with_reducible refine Eof.use hE ?_); (try clear hK hE K E))
   | ((with_reducible refine Kof.use hKh ?_); clear hKh Kh)
   | ((with_reducible refine Kof.use hKb (P_next ?_)); clear hKb Kb)
   | with_reducible refine G_plan 6 [] [0, 1, 2, 3, 4, 5, 6, 7, 8, 9, 10] hQe fun K E hK hE => ?_
   | ((with_reducible refine W_cond (fun h => ?_) (fun h => ?_)) <;> (try (exfalso; first | assumption | omega)))
   | ((with_reducible first | refine G_region fun K E hK hE => ?_ | refine W_if ?_ | refine W_ifS ?_ | refine P_heads fun Kh hKh => ?_ | refine P_fin fun Kh hKh => ?_ | refine P_each fun Kb hKb => ?_ | refine W_and ?_) <;> (try simp (disch := first | assumption | omega) only [go_sem, seval, List.length_map, *]))
   | ((with_reducible refine W_fresh (fun b hb => ?_)); (repeat (obtain ⟨_, hb⟩ := hb)); (try simp (disch := first | assumption | omega) only [go_sem, seval, List.length_map, *]))
   | ((with_reducible refine W_app (fun o2 ho => ?_)); (try simp (disch := assumption) only [disown_set, disown_own, ownok_o, ownok_m, List.length_map, List.length_cons, List.length_nil, Nat.zero_add, List.length_map] at ho); (repeat (obtain ⟨_, ho⟩ := ho)); (try simp (disch := first | assumption | omega) only [go_sem, seval, List.length_map, *]))
   | ((with_reducible refine W_gd (fun h => ?_) (fun h => ?_)) <;> (try (exfalso; first | assumption | omega)) <;> (try simp (disch := first | assumption | omega) only [go_sem, seval, List.length_map, *]))))
      all_goals (first | refine G_ret hQ (by simp (disch := first | assumption | omega) only [res50, go_sem, seval, *] <;> rfl) ?_ | refine G_norm hQ (by simp (disch := first | assumption | omega) only [res50, go_sem, seval, *] <;> rfl) ?_ | refine G_pan hQ ?_)
      all_goals (refine ⟨_, _, Wk.of_eq ?_, ?_, rfl, rfl⟩)
      · rw [take_eq HL.out (by have := HE.out; rwa [show i = ats.length by omega] at this), eqB_self]
      · ((try dsimp only); (repeat (first | exact Fg.refl _ | exact Fg.own (by assumption) | (refine Fg.set ?_ _ _) | (refine Fg.setA ?_ (by first | assumption | (simp (disch := assumption) only [own_rd, St.set, if_false, if_true, *]; done))) )); done)
  · have hne : eqB (⟨an, ar, ats⟩ : Atm) ⟨bn, br, bts⟩ = false := eqB_f (by intro e; injection e with e1 e2 e3; exact h0 ⟨e1, e2, by rw [e3]⟩)
    have HNE := Lib.hid hne
    clear hne
    by_cases h1 : ar = br
    · by_cases h2 : ats.length = bts.length
      · have h3 : ¬ an = bn := fun e => h0 ⟨e, h1, h2⟩
        have h4 : (an == bn) = false := by simpa using h3
        clear h0
        (repeat' (first
          | with_reducible first | refine L_seq ?_ | refine L_blk ?_ | refine L_skip ?_ | refine L_endblk ?_ | refine L_ret ?_ | refine L_exit ?_ | refine X_code ?_ | refine X_back ?_ | refine X_blk ?_ | refine X_past (by decide) ?_ | refine L_back ?_
          | ((with_reducible refine Kof.use hK ?_); clear hK hE K E)
          | ((with_reducible refine Eof.use hE ?_); (try clear hK hE K E))
          | ((with_reducible refine Kof.use hKh ?_); clear hKh Kh)
          | ((with_reducible refine Kof.use hKb (P_next ?_)); clear hKb Kb)
          | with_reducible refine G_plan 6 [] [0, 1, 2, 3, 4, 5, 6, 7, 8, 9, 10] hQe fun K E hK hE => ?_
          | ((with_reducible refine W_cond (fun h => ?_) (fun h => ?_)) <;> (try (exfalso; first | assumption | omega)))
          | ((with_reducible first | refine G_region fun K E hK hE => ?_ | refine W_if ?_ | refine W_ifS ?_ | refine P_heads fun Kh hKh => ?_ | refine P_fin fun Kh hKh => ?_ | refine P_each fun Kb hKb => ?_ | refine W_and ?_) <;> (try simp (disch := first | assumption | omega) only [go_sem, seval, List.length_map, *]))
          | ((with_reducible refine W_fresh (fun b hb => ?_)); (repeat (obtain ⟨_, hb⟩ := hb)); (try simp (disch := first | assumption | omega) only [go_sem, seval, List.length_map, *]))
          | ((with_reducible refine W_app (fun o2 ho => ?_)); (try simp (disch := assumption) only [disown_set, disown_own, ownok_o, ownok_m, List.length_map, List.length_cons, List.length_nil, Nat.zero_add, List.length_map] at ho); (repeat (obtain ⟨_, ho⟩ := ho)); (try simp (disch := first | assumption | omega) only [go_sem, seval, List.length_map, *]))
          | ((with_reducible refine W_gd (fun h => ?_) (fun h => ?_)) <;> (try (exfalso; first | assumption | omega)) <;> (try simp (disch := first | assumption | omega) only [go_sem, seval, List.length_map, *]))))
        all_goals (first | refine G_ret hQ (by simp (disch := first | assumption | omega) only [res50, go_sem, seval, *] <;> rfl) ?_ | refine G_norm hQ (by simp (disch := first | assumption | omega) only [res50, go_sem, seval, *] <;> rfl) ?_ | refine G_pan hQ ?_)
        all_goals (refine ⟨_, _, Wk.of_eq ?_, ?_, rfl, rfl⟩)
        all_goals first | rw [HNE.out] | ((try dsimp only); (repeat (first | exact Fg.refl _ | exact Fg.own (by assumption) | (refine Fg.set ?_ _ _) | (refine Fg.setA ?_ (by first | assumption | (simp (disch := assumption) only [own_rd, St.set, if_false, if_true, *]; done))) )); done)
      · have h3 : ¬ ((ats.length : Int) = (bts.length : Int)) := by omega
        clear h0
        cases an <;> cases bn
        all_goals (repeat' (first
   | with_reducible first | refine L_seq ?_ | refine L_blk ?_ | refine L_skip ?_ | refine L_endblk ?_ | refine L_ret ?_ | refine L_exit ?_ | refine X_code ?_ | refine X_back ?_ | refine X_blk ?_ | refine X_past (by decide) ?_ | refine L_back ?_
   | ((with_reducible refine Kof.use hK ?_); clear hK hE K E)
   | ((with_reducible refine Eof.use hE ?_); (try clear hK hE K E))
   | ((with_reducible refine Kof.use hKh ?_); clear hKh Kh)
   | ((with_reducible refine Kof.use hKb (P_next ?_)); clear hKb Kb)
   | with_reducible refine G_plan 6 [] [0, 1, 2, 3, 4, 5, 6, 7, 8, 9, 10] hQe fun K E hK hE => ?_
   | ((with_reducible refine W_cond (fun h => ?_) (fun h => ?_)) <;> (try (exfalso; first | assumption | omega)))
   | ((with_reducible first | refine G_region fun K E hK hE => ?_ | refine W_if ?_ | refine W_ifS ?_ | refine P_heads fun Kh hKh => ?_ | refine P_fin fun Kh hKh => ?_ | refine P_each fun Kb hKb => ?_ | refine W_and ?_) <;> (try simp (disch := first | assumption | omega) only [go_sem, seval, List.length_map, beqT, beqF, *]))
   | ((with_reducible refine W_fresh (fun b hb => ?_)); (repeat (obtain ⟨_, hb⟩ := hb)); (try simp (disch := first | assumption | omega) only [go_sem, seval, List.length_map, beqT, beqF, *]))
   | ((with_reducible refine W_app (fun o2 ho => ?_)); (try simp (disch := assumption) only [disown_set, disown_own, ownok_o, ownok_m, List.length_map, List.length_cons, List.length_nil, Nat.zero_add, List.length_map, beqT, beqF] at ho); (repeat (obtain ⟨_, ho⟩ := ho)); (try simp (disch := first | assumption | omega) only [go_sem, seval, List.length_map, beqT, beqF, *]))
   | ((with_reducible refine W_gd (fun h => ?_) (fun h => ?_)) <;> (try (exfalso; first | assumption | omega)) <;> (try simp (disch := first | assumption | omega) only [go_sem, seval, List.length_map, beqT, beqF, *]))))
        all_goals (first | refine G_ret hQ (by simp (disch := first | assumption | omega) only [res50, go_sem, seval, *] <;> rfl) ?_ | refine G_norm hQ (by simp (disch := first | assumption | omega) only [res50, go_sem, seval, *] <;> rfl) ?_ | refine G_pan hQ ?_)
        all_goals (refine ⟨_, _, Wk.of_eq ?_, ?_, rfl, rfl⟩)
        all_goals first | rw [HNE.out] | ((try dsimp only); (repeat (first | exact Fg.refl _ | exact Fg.own (by assumption) | (refine Fg.set ?_ _ _) | (refine Fg.setA ?_ (by first | assumption | (simp (disch := assumption) only [own_rd, St.set, if_false, if_true, *]; done))) )); done)
    · clear h0
      cases an <;> cases bn
      all_goals (repeat' (first
   | with_reducible first | refine L_seq ?_ | refine L_blk ?_ | refine L_skip ?_ | refine L_endblk ?_ | refine L_ret ?_ | refine L_exit ?_ | refine X_code ?_ | refine X_back ?_ | refine X_blk ?_ | refine X_past (by decide) ?_ | refine L_back ?_
   | ((with_reducible refine Kof.use hK ?_); clear hK hE K E)
   | ((with_reducible refine Eof.use hE ?_); (try clear hK hE K E))
   | ((with_reducible refine Kof.use hKh ?_); clear hKh Kh)
   | ((with_reducible refine Kof.use hKb (P_next ?_)); clear hKb Kb)
   | with_reducible refine G_plan 6 [] [0, 1, 2, 3, 4, 5, 6, 7, 8, 9, 10] hQe fun K E hK hE => ?_
   | ((with_reducible refine W_cond (fun h => ?_) (fun h => ?_)) <;> (try (exfalso; first | assumption | omega)))
   | ((with_reducible first | refine G_region fun K E hK hE => ?_ | refine W_if ?_ | refine W_ifS ?_ | refine P_heads fun Kh hKh => ?_ | refine P_fin fun Kh hKh => ?_ | refine P_each fun Kb hKb => ?_ | refine W_and ?_) <;> (try simp (disch := first | assumption | omega) only [go_sem, seval, List.length_map, beqT, beqF, *]))
   | ((with_reducible refine W_fresh (fun b hb => ?_)); (repeat (obtain ⟨_, hb⟩ := hb)); (try simp (disch := first | assumption | omega) only [go_sem, seval, List.length_map, beqT, beqF, *]))
   | ((with_reducible refine W_app (fun o2 ho => ?_)); (try simp (disch := assumption) only [disown_set, disown_own, ownok_o, ownok_m, List.length_map, List.length_cons, List.length_nil, Nat.zero_add, List.length_map, beqT, beqF] at ho); (repeat (obtain ⟨_, ho⟩ := ho)); (try simp (disch := first | assumption | omega) only [go_sem, seval, List.length_map, beqT, beqF, *]))
   | ((with_reducible refine W_gd (fun h => ?_) (fun h => ?_)) <;> (try (exfalso; first | assumption | omega)) <;> (try simp (disch := first | assumption | omega) only [go_sem, seval, List.length_map, beqT, beqF, *]))))
      all_goals (first | refine G_ret hQ (by simp (disch := first | assumption | omega) only [res50, go_sem, seval, *] <;> rfl) ?_ | refine G_norm hQ (by simp (disch := first | assumption | omega) only [res50, go_sem, seval, *] <;> rfl) ?_ | refine G_pan hQ ?_)
      all_goals (refine ⟨_, _, Wk.of_eq ?_, ?_, rfl, rfl⟩)
      all_goals first | rw [HNE.out] | ((try dsimp only); (repeat (first | exact Fg.refl _ | exact Fg.own (by assumption) | (refine Fg.set ?_ _ _) | (refine Fg.setA ?_ (by first | assumption | (simp (disch := assumption) only [own_rd, St.set, if_false, if_true, *]; done))) )); done)
end Go.Proofs.YtbfgdblebepgcaaDoor
set_option maxRecDepth 100000
namespace Go.Proofs.YtbfgdblebepgcaaDoor
open Go.RowKit

set_option maxHeartbeats 2000000 in
theorem RsameRule_S (a b : Rul) (ha : RulOk a) (s : St) : SRet Tryd.prog 26 [.agg (rulC a), .agg (rulC b)] s (.bool (eqB a b)) s := by
  obtain ⟨⟨an, ar, ats⟩, abd⟩ := a
  obtain ⟨⟨bn, br, bts⟩, bbd⟩ := b
  obtain ⟨⟨_, ha1, _⟩, ha2, ha3⟩ := ha
  simp only at ha1 ha2 ha3
  have r1 := fun o1 o2 s => RsameAtom_S ⟨an, ar, ats⟩ ⟨bn, br, bts⟩ o1 o2 ha1 s
  simp only at r1
  refine G_enter Tryd.func26 rfl Tryd.ntmps26 rfl fun Q hQ hQe => ?_
  cases hE : eqB (⟨an, ar, ats⟩ : Atm) ⟨bn, br, bts⟩ with
  | false =>
    rw [hE] at r1
    have hne : eqB (⟨⟨an, ar, ats⟩, abd⟩ : Rul) ⟨⟨bn, br, bts⟩, bbd⟩ = false := eqB_f (by intro e; injection e with e1 e2; rw [eqB_t e1] at hE; cases hE)
    have HNE := Lib.hid hne
    clear hne hE
    (repeat' (first
      | with_reducible first | refine L_seq ?_ | refine L_blk ?_ | refine L_skip ?_ | refine L_endblk ?_ | refine L_ret ?_ | refine L_exit ?_ | refine X_code ?_ | refine X_back ?_ | refine X_blk ?_ | refine X_past (by decide) ?_ | refine L_back ?_
      | ((with_reducible refine Kof.use hK ?_); clear hK hE K E)
      | ((with_reducible refine Eof.use hE ?_); (try clear hK hE K E))
      | ((with_reducible refine Kof.use hKh ?_); clear hKh Kh)
      | ((with_reducible refine Kof.use hKb (P_next ?_)); clear hKb Kb)
      | with_reducible refine G_plan 6 [([0, 1, 2, 3, 4, 5, 6, 7, 8, 9], 10, [[]])] [11] hQe fun K E hK hE => ?_
      | ((with_reducible refine W_cond (fun h => ?_) (fun h => ?_)) <;> (try (exfalso; first | assumption | omega)))
      | ((with_reducible first | refine G_region fun K E hK hE => ?_ | refine call_ret can50 (r1 _ _ _) ?_ | refine call_ret can50 (RsameAtom_S _ _ _ _ (by first | assumption | omega) _) ?_ | refine W_if ?_ | refine W_ifS ?_ | refine P_heads fun Kh hKh => ?_ | refine P_fin fun Kh hKh => ?_ | refine P_each fun Kb hKb => ?_ | refine W_and ?_) <;> (try simp (disch := first | assumption | omega) only [go_sem, seval, rulC, *]))
      | ((with_reducible refine W_fresh (fun b hb => ?_)); (repeat (obtain ⟨_, hb⟩ := hb)); (try simp (disch := first | assumption | omega) only [go_sem, seval, rulC, *]))
      | ((with_reducible refine W_app (fun o2 ho => ?_)); (try simp (disch := assumption) only [disown_set, disown_own, ownok_o, ownok_m, List.length_map, List.length_cons, List.length_nil, Nat.zero_add, rulC] at ho); (repeat (obtain ⟨_, ho⟩ := ho)); (try simp (disch := first | assumption | omega) only [go_sem, seval, rulC, *]))
      | ((with_reducible refine W_gd (fun h => ?_) (fun h => ?_)) <;> (try (exfalso; first | assumption | omega)) <;> (try simp (disch := first | assumption | omega) only [go_sem, seval, rulC, *]))))
    all_goals (first | refine G_ret hQ (by simp (disch := first | assumption | omega) only [res26, go_sem, seval, *] <;> rfl) ?_ | refine G_norm hQ (by simp (disch := first | assumption | omega) only [res26, go_sem, seval, *] <;> rfl) ?_ | refine G_pan hQ ?_)
    all_goals (refine ⟨_, _, Wk.of_eq ?_, ?_, rfl, rfl⟩)
    all_goals first | rw [HNE.out] | ((try dsimp only); (repeat (first | exact Fg.refl _ | exact Fg.own (by assumption) | (refine Fg.set ?_ _ _) | (refine Fg.setA ?_ (by first | assumption | (simp (disch := assumption) only [own_rd, St.set, if_false, if_true, *]; done))) )); done)
  | true =>
    rw [hE] at r1
    have heq := eqB_i.1 hE
    have HE0 := Lib.hid heq
    clear hE heq
    by_cases hl : abd.length = bbd.length
    · have hl2 : ((abd.length : Int) = (bbd.length : Int)) = True := eq_true (by omega)
      have HL := Lib.hid hl
      clear hl
      (repeat' (first
        | with_reducible first | refine L_seq ?_ | refine L_blk ?_ | refine L_skip ?_ | refine L_endblk ?_ | refine L_ret ?_ | refine L_exit ?_ | refine X_code ?_ | refine X_back ?_ | refine X_blk ?_ | refine X_past (by decide) ?_ | refine L_back ?_
        | ((with_reducible refine Kof.use hK ?_); clear hK hE K E)
        | ((with_reducible refine Eof.use hE ?_); (try clear hK hE K E))
        | ((with_reducible refine Kof.use hKh ?_); clear hKh Kh)
        | ((with_reducible refine Kof.use hKb (P_next ?_)); clear hKb Kb)
        | with_reducible refine G_plan 6 [([0, 1, 2, 3, 4, 5, 6, 7, 8, 9], 10, [[]])] [11] hQe fun K E hK hE => ?_
        | ((with_reducible refine W_cond (fun h => ?_) (fun h => ?_)) <;> (try (exfalso; first | assumption | omega)))
        | ((with_reducible first | refine G_region fun K E hK hE => ?_ | refine call_ret can50 (r1 _ _ _) ?_ | refine call_ret can50 (RsameAtom_S _ _ _ _ (by first | assumption | omega) _) ?_ | refine W_if ?_ | refine W_ifS ?_ | refine P_heads fun Kh hKh => ?_ | refine P_fin fun Kh hKh => ?_ | refine P_each fun Kb hKb => ?_ | refine W_and ?_) <;> (try simp (disch := first | assumption | omega) only [go_sem, seval, rulC, List.length_map, *]))
        | ((with_reducible refine W_fresh (fun b hb => ?_)); (repeat (obtain ⟨_, hb⟩ := hb)); (try simp (disch := first | assumption | omega) only [go_sem, seval, rulC, List.length_map, *]))
        | ((with_reducible refine W_app (fun o2 ho => ?_)); (try simp (disch := assumption) only [disown_set, disown_own, ownok_o, ownok_m, List.length_map, List.length_cons, List.length_nil, Nat.zero_add, rulC, List.length_map] at ho); (repeat (obtain ⟨_, ho⟩ := ho)); (try simp (disch := first | assumption | omega) only [go_sem, seval, rulC, List.length_map, *]))
        | ((with_reducible refine W_gd (fun h => ?_) (fun h => ?_)) <;> (try (exfalso; first | assumption | omega)) <;> (try simp (disch := first | assumption | omega) only [go_sem, seval, rulC, List.length_map, *]))))
      rename_i b2 hb2 n1 n2
      obtain ⟨b3, hb3⟩ : ∃ x, x = b := ⟨_, rfl⟩
      subst hb3
      clear r1
      refine G_loop (fun m env s' => ∃ i : Nat, i ≤ abd.length ∧ m + i = abd.length ∧ abd.take i = bbd.take i ∧ s' = (s.set b2 (.obj 52 [.bool an, .str ar, .lst (ats.map trmC) .no, .lst (abd.map atmC) .no])).set b3 (.obj 52 [.bool bn, .str br, .lst (bts.map trmC) .no, .lst (bbd.map atmC) .no]) ∧ env 2 = .ptr b2 0 ∧ env 3 = .ptr b3 0 ∧ env 5 = .int .i64 i) abd.length ⟨_, Fg.refl _, 0, by omega, by omega, rfl, rfl, by ((try simp (disch := first | assumption | omega) only [go_sem, seval, *]) <;> first | rfl | omega), by ((try simp (disch := first | assumption | omega) only [go_sem, seval, *]) <;> first | rfl | omega), by ((try simp (disch := first | assumption | omega) only [go_sem, seval, *]) <;> first | rfl | omega)⟩ ?_
      rintro m env s' ⟨i, hi, hm, he, rfl, e2, e3, e5⟩
      have HE := Lib.hid he
      clear he
      by_cases hlt : i < abd.length
      · obtain ⟨x, hx⟩ := uget hlt
        obtain ⟨y, hy⟩ := uget (l := bbd) (i := i) (by rw [← HL.out]; exact hlt)
        have hsx := atmC_at hx
        have hsy := atmC_at hy
        have hxo := (ha3 x (List.mem_of_getElem? hx)).2.1
        have HX := Lib.hid (And.intro hx hy)
        clear hx hy
        have hlb : i < bbd.length := by have := HL.out; omega
        obtain ⟨xv, xn, xk⟩ := x
        obtain ⟨yv, yn, yk⟩ := y
        have r2 := fun o1 o2 s => RsameAtom_S ⟨xv, xn, xk⟩ ⟨yv, yn, yk⟩ o1 o2 hxo s
        simp only at r2
        cases hE2 : eqB (⟨xv, xn, xk⟩ : Atm) ⟨yv, yn, yk⟩ with
        | false =>
          rw [hE2] at r2
          have hne : eqB (⟨⟨an, ar, ats⟩, abd⟩ : Rul) ⟨⟨bn, br, bts⟩, bbd⟩ = false := eqB_f (by
            intro e; injection e with e1 e2
            exact ne_at HX.out.1 HX.out.2 (by intro e; rw [eqB_t e] at hE2; cases hE2) e2)
          have HNE := Lib.hid hne
          clear hne hE2
          (repeat' (first
            | with_reducible first | refine L_seq ?_ | refine L_blk ?_ | refine L_skip ?_ | refine L_endblk ?_ | refine L_ret ?_ | refine L_exit ?_ | refine X_code ?_ | refine X_back ?_ | refine X_blk ?_ | refine X_past (by decide) ?_ | refine L_back ?_
            | ((with_reducible refine Kof.use hK ?_); clear hK hE K E)
            | ((with_reducible refine Eof.use hE ?_); (try clear hK hE K E))
            | ((with_reducible refine Kof.use hKh ?_); clear hKh Kh)
            | ((with_reducible refine Kof.use hKb (P_next ?_)); clear hKb Kb)
            | with_reducible refine G_plan 6 [([0, 1, 2, 3, 4, 5, 6, 7, 8, 9], 10, [[]])] [11] hQe fun K E hK hE => ?_
            | ((with_reducible refine W_cond (fun h => ?_) (fun h => ?_)) <;> (try (exfalso; first | assumption | omega)))
            | ((with_reducible first | refine G_region fun K E hK hE => ?_ | refine call_ret can50 (r2 _ _ _) ?_ | refine call_ret can50 (RsameAtom_S _ _ _ _ (by first | assumption | omega) _) ?_ | refine W_if ?_ | refine W_ifS ?_ | refine P_heads fun Kh hKh => ?_ | refine P_fin fun Kh hKh => ?_ | refine P_each fun Kb hKb => ?_ | refine W_and ?_) <;> (try simp (disch := first | assumption | omega) only [go_sem, seval, List.length_map, hsx, hsy, atmC, *]))
            | ((with_reducible refine W_fresh (fun b hb => ?_)); (repeat (obtain ⟨_, hb⟩ := hb)); (try simp (disch := first | assumption | omega) only [go_sem, seval, List.length_map, hsx, hsy, atmC, *]))
            | ((with_reducible refine W_app (fun o2 ho => ?_)); (try simp (disch := assumption) only [disown_set, disown_own, ownok_o, ownok_m, List.length_map, List.length_cons, List.length_nil, Nat.zero_add, List.length_map, hsx, hsy, atmC] at ho); (repeat (obtain ⟨_, ho⟩ := ho)); (try simp (disch := first | assumption | omega) only [go_sem, seval, List.length_map, hsx, hsy, atmC, *]))
            | ((with_reducible refine W_gd (fun h => ?_) (fun h => ?_)) <;> (try (exfalso; first | assumption | omega)) <;> (try simp (disch := first | assumption | omega) only [go_sem, seval, List.length_map, hsx, hsy, atmC, *]))))
          all_goals (first | refine G_ret hQ (by simp (disch := first | assumption | omega) only [res26, go_sem, seval, *] <;> rfl) ?_ | refine G_norm hQ (by simp (disch := first | assumption | omega) only [res26, go_sem, seval, *] <;> rfl) ?_ | refine G_pan hQ ?_)
          all_goals (refine ⟨_, _, Wk.of_eq ?_, ?_, rfl, rfl⟩)
          all_goals first | rw [HNE.out] | ((try dsimp only); (repeat (first | exact Fg.refl _ | exact Fg.own (by assumption) | (refine Fg.set ?_ _ _) | (refine Fg.setA ?_ (by first | assumption | (simp (disch := assumption) only [own_rd, St.set, if_false, if_true, *]; done))) )); done)
        | true =>
          rw [hE2] at r2
          have heq := eqB_i.1 hE2
          have HQ := Lib.hid heq
          clear hE2 heq
          (repeat' (first
            | with_reducible first | refine L_seq ?_ | refine L_blk ?_ | refine L_skip ?_ | refine L_endblk ?_ | refine L_ret ?_ | refine L_exit ?_ | refine X_code ?_ | refine X_back ?_ | refine X_blk ?_ | refine X_past (by decide) ?_ | refine L_back ?_
            | ((with_reducible refine Kof.use hK ?_); clear hK hE K E)
            | ((with_reducible refine Eof.use hE ?_); (try clear hK hE K E))
            | ((with_reducible refine Kof.use hKh ?_); clear hKh Kh)
            | ((with_reducible refine Kof.use hKb (P_next ?_)); clear hKb Kb)
            | with_reducible refine G_plan 6 [([0, 1, 2, 3, 4, 5, 6, 7, 8, 9], 10, [[]])] [11] hQe fun K E hK hE => ?_
            | ((with_reducible refine W_cond (fun h => ?_) (fun h => ?_)) <;> (try (exfalso; first | assumption | omega)))
            | ((with_reducible first | refine G_region fun K E hK hE => ?_ | refine call_ret can50 (r2 _ _ _) ?_ | refine call_ret can50 (RsameAtom_S _ _ _ _ (by first | assumption | omega) _) ?_ | refine W_if ?_ | refine W_ifS ?_ | refine P_heads fun Kh hKh => ?_ | refine P_fin fun Kh hKh => ?_ | refine P_each fun Kb hKb => ?_ | refine W_and ?_) <;> (try simp (disch := first | assumption | omega) only [go_sem, seval, List.length_map, hsx, hsy, atmC, *]))
            | ((with_reducible refine W_fresh (fun b hb => ?_)); (repeat (obtain ⟨_, hb⟩ := hb)); (try simp (disch := first | assumption | omega) only [go_sem, seval, List.length_map, hsx, hsy, atmC, *]))
            | ((with_reducible refine W_app (fun o2 ho => ?_)); (try simp (disch := assumption) only [disown_set, disown_own, ownok_o, ownok_m, List.length_map, List.length_cons, List.length_nil, Nat.zero_add, List.length_map, hsx, hsy, atmC] at ho); (repeat (obtain ⟨_, ho⟩ := ho)); (try simp (disch := first | assumption | omega) only [go_sem, seval, List.length_map, hsx, hsy, atmC, *]))
            | ((with_reducible refine W_gd (fun h => ?_) (fun h => ?_)) <;> (try (exfalso; first | assumption | omega)) <;> (try simp (disch := first | assumption | omega) only [go_sem, seval, List.length_map, hsx, hsy, atmC, *]))))
          exact ⟨_, by ((try dsimp only); (repeat (first | exact Fg.refl _ | exact Fg.own (by assumption) | (refine Fg.set ?_ _ _) | (refine Fg.setA ?_ (by first | assumption | (simp (disch := assumption) only [own_rd, St.set, if_false, if_true, *]; done))) )); done), m - 1, by omega, i + 1, by omega, by omega, take_eq_succ HX.out.1 HX.out.2 HE.out HQ.out, rfl, by ((try simp (disch := first | assumption | omega) only [go_sem, seval, *]) <;> first | rfl | omega), by ((try simp (disch := first | assumption | omega) only [go_sem, seval, *]) <;> first | rfl | omega), by ((try simp (disch := first | assumption | omega) only [go_sem, seval, *]) <;> first | rfl | omega)⟩
      · (repeat' (first
   | with_reducible first | refine L_seq ?_ | refine L_blk ?_ | refine L_skip ?_ | refine L_endblk ?_ | refine L_ret ?_ | refine L_exit ?_ | refine X_code ?_ | refine X_back ?_ | refine X_blk ?_ | refine X_past (by decide) ?_ | refine L_back ?_
   | ((with_reducible refine Kof.use hK ?_); clear hK hE K E)
   | ((with_reducible refine Eof.use hE ?_); (try clear hK hE K E))
   | ((with_reducible refine Kof.use hKh ?_); clear hKh Kh)
   | ((with_reducible refine Kof.use hKb (P_next ?_)); clear hKb Kb)
   | with_reducible refine G_plan 6 [([0, 1, 2, 3, 4, 5, 6, 7, 8, 9], 10, [[]])] [11] hQe fun K E hK hE => ?_
   | ((with_reducible refine W_cond (fun h => ?_) (fun h => ?_)) <;> (try (exfalso; first | assumption | omega)))
   | ((with_reducible first | refine G_region fun K E hK hE => ?_ | refine call_ret can50 (RsameAtom_S _ _ _ _ (by first | assumption | omega) _) ?_ | refine W_if ?_ | refine W_ifS ?_ | refine P_heads fun Kh hKh => ?_ | refine P_fin fun Kh hKh => ?_ | refine P_each fun Kb hKb => ?_ | refine W_and ?_) <;> (try simp (disch := first | assumption | omega) only [go_sem, seval, List.length_map, *]))
   | ((with_reducible refine W_fresh (fun b hb => ?_)); (repeat (obtain ⟨_, hb⟩ := hb)); (try simp (disch := first | assumption | omega) only [go_sem, seval, List.length_map, *]))
   | ((with_reducible refine W_app (fun o2 ho => ?_)); (try simp (disch := assumption) only [disown_set, disown_own, ownok_o, ownok_m, List.length_map, List.length_cons, List.length_nil, Nat.zero_add, List.length_map] at ho); (repeat (obtain ⟨_, ho⟩ := ho)); (try simp (disch := first | assumption | omega) only [go_sem, seval, List.length_map, *]))
   | ((with_reducible refine W_gd (fun h => ?_) (fun h => ?_)) <;> (try (exfalso; first | assumption | omega)) <;> (try simp (disch := first | assumption | omega) only [go_sem, seval, List.length_map, *]))))
        all_goals (first | refine G_ret hQ (by simp (disch := first | assumption | omega) only [res26, go_sem, seval, *] <;> rfl) ?_ | refine G_norm hQ (by simp (disch := first | assumption | omega) only [res26, go_sem, seval, *] <;> rfl) ?_ | refine G_pan hQ ?_)
        all_goals (refine ⟨_, _, Wk.of_eq ?_, ?_, rfl, rfl⟩)
        · rw [HE0.out, take_eq HL.out (by have := HE.out; rwa [show i = abd.length by omega] at this), eqB_self]
        · ((try dsimp only); (repeat (first | exact Fg.refl _ | exact Fg.own (by assumption) | (refine Fg.set ?_ _ _) | (refine Fg.setA ?_ (by first | assumption | (simp (disch := assumption) only [own_rd, St.set, if_false, if_true, *]; done))) )); done)
    · have hne : eqB (⟨⟨an, ar, ats⟩, abd⟩ : Rul) ⟨⟨bn, br, bts⟩, bbd⟩ = false := eqB_f (by intro e; injection e with e1 e2; exact hl (by rw [e2]))
      have HNE := Lib.hid hne
      have h3 : ¬ ((abd.length : Int) = (bbd.length : Int)) := by omega
      clear hne
      (repeat' (first
        | with_reducible first | refine L_seq ?_ | refine L_blk ?_ | refine L_skip ?_ | refine L_endblk ?_ | refine L_ret ?_ | refine L_exit ?_ | refine X_code ?_ | refine X_back ?_ | refine X_blk ?_ | refine X_past (by decide) ?_ | refine L_back ?_
        | ((with_reducible refine Kof.use hK ?_); clear hK hE K E)
        | ((with_reducible refine Eof.use hE ?_); (try clear hK hE K E))
        | ((with_reducible refine Kof.use hKh ?_); clear hKh Kh)
        | ((with_reducible refine Kof.use hKb (P_next ?_)); clear hKb Kb)
        | with_reducible refine G_plan 6 [([0, 1, 2, 3, 4, 5, 6, 7, 8, 9], 10, [[]])] [11] hQe fun K E hK hE => ?_
        | ((with_reducible refine W_cond (fun h => ?_) (fun h => ?_)) <;> (try (exfalso; first | assumption | omega)))
        | ((with_reducible first | refine G_region fun K E hK hE => ?_ | refine call_ret can50 (r1 _ _ _) ?_ | refine call_ret can50 (RsameAtom_S _ _ _ _ (by first | assumption | omega) _) ?_ | refine W_if ?_ | refine W_ifS ?_ | refine P_heads fun Kh hKh => ?_ | refine P_fin fun Kh hKh => ?_ | refine P_each fun Kb hKb => ?_ | refine W_and ?_) <;> (try simp (disch := first | assumption | omega) only [go_sem, seval, rulC, List.length_map, *]))
        | ((with_reducible refine W_fresh (fun b hb => ?_)); (repeat (obtain ⟨_, hb⟩ := hb)); (try simp (disch := first | assumption | omega) only [go_sem, seval, rulC, List.length_map, *]))
        | ((with_reducible refine W_app (fun o2 ho => ?_)); (try simp (disch := assumption) only [disown_set, disown_own, ownok_o, ownok_m, List.length_map, List.length_cons, List.length_nil, Nat.zero_add, rulC, List.length_map] at ho); (repeat (obtain ⟨_, ho⟩ := ho)); (try simp (disch := first | assumption | omega) only [go_sem, seval, rulC, List.length_map, *]))
        | ((with_reducible refine W_gd (fun h => ?_) (fun h => ?_)) <;> (try (exfalso; first | assumption | omega)) <;> (try simp (disch := first | assumption | omega) only [go_sem, seval, rulC, List.length_map, *]))))
      all_goals (first | refine G_ret hQ (by simp (disch := first | assumption | omega) only [res26, go_sem, seval, *] <;> rfl) ?_ | refine G_norm hQ (by simp (disch := first | assumption | omega) only [res26, go_sem, seval, *] <;> rfl) ?_ | refine G_pan hQ ?_)
      all_goals (refine ⟨_, _, Wk.of_eq ?_, ?_, rfl, rfl⟩)
      all_goals first | rw [HNE.out] | ((try dsimp only); (repeat (first | exact Fg.refl _ | exact Fg.own (by assumption) | (refine Fg.set ?_ _ _) | (refine Fg.setA ?_ (by first | assumption | (simp (disch := assumption) only [own_rd, St.set, if_false, if_true, *]; done))) )); done)
end Go.Proofs.YtbfgdblebepgcaaDoor
set_option maxRecDepth 100000
namespace Go.Proofs.YtbfgdblebepgcaaDoor
open Go.RowKit

set_option maxHeartbeats 4000000 in
theorem USame_S (a b : Pgm) (ha : PgmOk a) (s : St) : SRet Tryd.prog 12 [.agg (pgC a), .agg (pgC b)] s (.bool (eqB a b)) s := by
  obtain ⟨ad, ac, ar⟩ := a
  obtain ⟨bd, bc, br⟩ := b
  obtain ⟨hd, hc, hr, _, hdc, hrr⟩ := ha
  simp only at hd hc hr hdc hrr
  refine G_enter Tryd.func12 rfl Tryd.ntmps12 rfl fun Q hQ hQe => ?_
  by_cases h0 : ad.length = bd.length ∧ ac.length = bc.length ∧ ar.length = br.length
  · obtain ⟨l1, l2, l3⟩ := h0
    have m1 : ((ad.length : Int) = (bd.length : Int)) = True := eq_true (by omega)
    have m2 : ((ac.length : Int) = (bc.length : Int)) = True := eq_true (by omega)
    have m3 : ((ar.length : Int) = (br.length : Int)) = True := eq_true (by omega)
    have HL1 := Lib.hid l1
    have HL2 := Lib.hid l2
    have HL3 := Lib.hid l3
    clear l1 l2 l3
    (repeat' (first
      | with_reducible first | refine L_seq ?_ | refine L_blk ?_ | refine L_skip ?_ | refine L_endblk ?_ | refine L_ret ?_ | refine L_exit ?_ | refine X_code ?_ | refine X_back ?_ | refine X_blk ?_ | refine X_past (by decide) ?_ | refine L_back ?_
      | ((with_reducible refine Kof.use hK ?_); clear hK hE K E)
      | ((with_reducible refine Eof.use hE ?_); (try clear hK hE K E))
      | ((with_reducible refine Kof.use hKh ?_); clear hKh Kh)
      | ((with_reducible refine Kof.use hKb (P_next ?_)); clear hKb Kb)
      | with_reducible first | refine G_plan 6 [] [0, 1, 2, 3, 4, 5, 6, 7, 8, 9, 10] hQe fun K E hK hE => ?_ | refine G_plan 11 [] [0, 1, 2, 3, 4, 5, 6, 7, 8, 9, 10, 11, 12, 13, 14, 15, 16, 17, 18, 19, 20, 21, 22, 23, 24, 25, 26, 27, 28, 29] hQe fun K E hK hE => ?_ | refine G_plan 16 [] [0, 1, 2, 3, 4, 5, 6, 7, 8, 9, 10, 11, 12, 13, 14, 15, 16, 17, 18] hQe fun K E hK hE => ?_ | refine G_plan 21 [([0, 1, 2, 3, 4, 5, 6, 7, 8, 9], 10, [[]])] [11] hQe fun K E hK hE => ?_
      | ((with_reducible refine W_cond (fun h => ?_) (fun h => ?_)) <;> (try (exfalso; first | assumption | omega)))
      | ((with_reducible first | refine G_region fun K E hK hE => ?_ | refine call_ret can26 (RsameRule_S _ _ (by assumption) _) ?_ | refine W_if ?_ | refine W_ifS ?_ | refine P_heads fun Kh hKh => ?_ | refine P_fin fun Kh hKh => ?_ | refine P_each fun Kb hKb => ?_ | refine W_and ?_) <;> (try simp (disch := first | assumption | omega) only [go_sem, seval, pgC, List.length_map, *]))
      | ((with_reducible refine W_fresh (fun b hb => ?_)); (repeat (obtain ⟨_, hb⟩ := hb)); (try simp (disch := first | assumption | omega) only [go_sem, seval, pgC, List.length_map, *]))
      | ((with_reducible refine W_app (fun o2 ho => ?_)); (try simp (disch := assumption) only [disown_set, disown_own, ownok_o, ownok_m, List.length_map, List.length_cons, List.length_nil, Nat.zero_add, pgC, List.length_map] at ho); (repeat (obtain ⟨_, ho⟩ := ho)); (try simp (disch := first | assumption | omega) only [go_sem, seval, pgC, List.length_map, *]))
      | ((with_reducible refine W_gd (fun h => ?_) (fun h => ?_)) <;> (try (exfalso; first | assumption | omega)) <;> (try simp (disch := first | assumption | omega) only [go_sem, seval, pgC, List.length_map, *]))))
    rename_i b2 hb2 n1 n2
    obtain ⟨b3, hb3⟩ : ∃ x, x = b := ⟨_, rfl⟩
    subst hb3
    have h2 : ((s.set b2 (.obj 26 [.lst (ad.map dmC) .no, .lst (ac.map dclC) .no, .lst (ar.map rulC) .no])).set b3 (.obj 26 [.lst (bd.map dmC) .no, .lst (bc.map dclC) .no, .lst (br.map rulC) .no])) b2 = .obj 26 [.lst (ad.map dmC) .no, .lst (ac.map dclC) .no, .lst (ar.map rulC) .no] := by
      rw [St.set_other _ _ (by assumption), St.set_same]
    have h3 : ((s.set b2 (.obj 26 [.lst (ad.map dmC) .no, .lst (ac.map dclC) .no, .lst (ar.map rulC) .no])).set b3 (.obj 26 [.lst (bd.map dmC) .no, .lst (bc.map dclC) .no, .lst (br.map rulC) .no])) b3 = .obj 26 [.lst (bd.map dmC) .no, .lst (bc.map dclC) .no, .lst (br.map rulC) .no] := St.set_same _ _ _
    have hF : Fg ((s.set b2 (.obj 26 [.lst (ad.map dmC) .no, .lst (ac.map dclC) .no, .lst (ar.map rulC) .no])).set b3 (.obj 26 [.lst (bd.map dmC) .no, .lst (bc.map dclC) .no, .lst (br.map rulC) .no])) s := by ((try dsimp only); (repeat (first | exact Fg.refl _ | exact Fg.own (by assumption) | (refine Fg.set ?_ _ _) | (refine Fg.setA ?_ (by first | assumption | (simp (disch := assumption) only [own_rd, St.set, if_false, if_true, *]; done))) )); done)
    generalize ((s.set b2 (.obj 26 [.lst (ad.map dmC) .no, .lst (ac.map dclC) .no, .lst (ar.map rulC) .no])).set b3 (.obj 26 [.lst (bd.map dmC) .no, .lst (bc.map dclC) .no, .lst (br.map rulC) .no])) = S at *
    have HF := Lib.hid hF
    clear hF hb2 hb
    refine G_loop (fun m env s' => ∃ i : Nat, i ≤ ad.length ∧ m + i = ad.length ∧ ad.take i = bd.take i ∧ s' = S ∧ env 2 = .ptr b2 0 ∧ env 3 = .ptr b3 0 ∧ env 5 = .int .i64 i) ad.length ⟨_, Fg.refl _, 0, by omega, by omega, rfl, rfl, by ((try simp (disch := first | assumption | omega) only [go_sem, seval, *]) <;> first | rfl | omega), by ((try simp (disch := first | assumption | omega) only [go_sem, seval, *]) <;> first | rfl | omega), by ((try simp (disch := first | assumption | omega) only [go_sem, seval, *]) <;> first | rfl | omega)⟩ ?_
    rintro m env s' ⟨i, hi, hm, he, rfl, e2, e3, e5⟩
    have HE := Lib.hid he
    clear he
    by_cases hlt : i < ad.length
    · obtain ⟨x, hx⟩ := uget hlt
      obtain ⟨y, hy⟩ := uget (l := bd) (i := i) (by rw [← HL1.out]; exact hlt)
      have hsx := dmC_at hx
      have hsy := dmC_at hy
      have HX := Lib.hid (And.intro hx hy)
      clear hx hy
      have hlb : i < bd.length := by have := HL1.out; omega
      obtain ⟨xn, xk⟩ := x
      obtain ⟨yn, yk⟩ := y
      (repeat' (first
        | with_reducible first | refine L_seq ?_ | refine L_blk ?_ | refine L_skip ?_ | refine L_endblk ?_ | refine L_ret ?_ | refine L_exit ?_ | refine X_code ?_ | refine X_back ?_ | refine X_blk ?_ | refine X_past (by decide) ?_ | refine L_back ?_
        | ((with_reducible refine Kof.use hK ?_); clear hK hE K E)
        | ((with_reducible refine Eof.use hE ?_); (try clear hK hE K E))
        | ((with_reducible refine Kof.use hKh ?_); clear hKh Kh)
        | ((with_reducible refine Kof.use hKb (P_next ?_)); clear hKb Kb)
        | with_reducible first | refine G_plan 6 [] [0, 1, 2, 3, 4, 5, 6, 7, 8, 9, 10] hQe fun K E hK hE => ?_ | refine G_plan 11 [] [0, 1, 2, 3, 4, 5, 6, 7, 8, 9, 10, 11, 12, 13, 14, 15, 16, 17, 18, 19, 20, 21, 22, 23, 24, 25, 26, 27, 28, 29] hQe fun K E hK hE => ?_ | refine G_plan 16 [] [0, 1, 2, 3, 4, 5, 6, 7, 8, 9, 10, 11, 12, 13, 14, 15, 16, 17, 18] hQe fun K E hK hE => ?_ | refine G_plan 21 [([0, 1, 2, 3, 4, 5, 6, 7, 8, 9], 10, [[]])] [11] hQe fun K E hK hE => ?_
        | ((with_reducible refine W_cond (fun h => ?_) (fun h => ?_)) <;> (try (exfalso; first | assumption | omega)))
        | ((with_reducible first | refine G_region fun K E hK hE => ?_ | refine call_ret can26 (RsameRule_S _ _ (by assumption) _) ?_ | refine W_if ?_ | refine W_ifS ?_ | refine P_heads fun Kh hKh => ?_ | refine P_fin fun Kh hKh => ?_ | refine P_each fun Kb hKb => ?_ | refine W_and ?_) <;> (try simp (disch := first | assumption | omega) only [go_sem, seval, List.length_map, hsx, hsy, dmC, *]))
        | ((with_reducible refine W_fresh (fun b hb => ?_)); (repeat (obtain ⟨_, hb⟩ := hb)); (try simp (disch := first | assumption | omega) only [go_sem, seval, List.length_map, hsx, hsy, dmC, *]))
        | ((with_reducible refine W_app (fun o2 ho => ?_)); (try simp (disch := assumption) only [disown_set, disown_own, ownok_o, ownok_m, List.length_map, List.length_cons, List.length_nil, Nat.zero_add, List.length_map, hsx, hsy, dmC] at ho); (repeat (obtain ⟨_, ho⟩ := ho)); (try simp (disch := first | assumption | omega) only [go_sem, seval, List.length_map, hsx, hsy, dmC, *]))
        | ((with_reducible refine W_gd (fun h => ?_) (fun h => ?_)) <;> (try (exfalso; first | assumption | omega)) <;> (try simp (disch := first | assumption | omega) only [go_sem, seval, List.length_map, hsx, hsy, dmC, *]))))
      · have hne : ¬ ad = bd := ne_at HX.out.1 HX.out.2 (fun e => by injection e; simp_all)
        (first | refine G_ret hQ (by simp (disch := first | assumption | omega) only [res12, go_sem, seval, *] <;> rfl) ?_ | refine G_norm hQ (by simp (disch := first | assumption | omega) only [res12, go_sem, seval, *] <;> rfl) ?_ | refine G_pan hQ ?_)
        (refine ⟨_, _, Wk.of_eq ?_, ?_, rfl, rfl⟩)
        · rw [eqB_f (by intro e; injection e; contradiction)]
        · exact HF.out
      · have heq : (⟨xn, xk⟩ : Dm) = ⟨yn, yk⟩ := by simp_all
        exact ⟨_, Fg.refl _, m - 1, by omega, i + 1, by omega, by omega, take_eq_succ HX.out.1 HX.out.2 HE.out heq, rfl, by ((try simp (disch := first | assumption | omega) only [go_sem, seval, *]) <;> first | rfl | omega), by ((try simp (disch := first | assumption | omega) only [go_sem, seval, *]) <;> first | rfl | omega), by ((try simp (disch := first | assumption | omega) only [go_sem, seval, *]) <;> first | rfl | omega)⟩
    · have hq1 : ad = bd := take_eq HL1.out (by have := HE.out; rwa [show i = ad.length by omega] at this)
      have HQ1 := Lib.hid hq1
      clear hq1
      (repeat' (first
        | with_reducible first | refine L_seq ?_ | refine L_blk ?_ | refine L_skip ?_ | refine L_endblk ?_ | refine L_ret ?_ | refine L_exit ?_ | refine X_code ?_ | refine X_back ?_ | refine X_blk ?_ | refine X_past (by decide) ?_ | refine L_back ?_
        | ((with_reducible refine Kof.use hK ?_); clear hK hE K E)
        | ((with_reducible refine Eof.use hE ?_); (try clear hK hE K E))
        | ((with_reducible refine Kof.use hKh ?_); clear hKh Kh)
        | ((with_reducible refine Kof.use hKb (P_next ?_)); clear hKb Kb)
        | with_reducible first | refine G_plan 6 [] [0, 1, 2, 3, 4, 5, 6, 7, 8, 9, 10] hQe fun K E hK hE => ?_ | refine G_plan 11 [] [0, 1, 2, 3, 4, 5, 6, 7, 8, 9, 10, 11, 12, 13, 14, 15, 16, 17, 18, 19, 20, 21, 22, 23, 24, 25, 26, 27, 28, 29] hQe fun K E hK hE => ?_ | refine G_plan 16 [] [0, 1, 2, 3, 4, 5, 6, 7, 8, 9, 10, 11, 12, 13, 14, 15, 16, 17, 18] hQe fun K E hK hE => ?_ | refine G_plan 21 [([0, 1, 2, 3, 4, 5, 6, 7, 8, 9], 10, [[]])] [11] hQe fun K E hK hE => ?_
        | ((with_reducible refine W_cond (fun h => ?_) (fun h => ?_)) <;> (try (exfalso; first | assumption | omega)))
        | ((with_reducible first | refine G_region fun K E hK hE => ?_ | refine call_ret can26 (RsameRule_S _ _ (by assumption) _) ?_ | refine W_if ?_ | refine W_ifS ?_ | refine P_heads fun Kh hKh => ?_ | refine P_fin fun Kh hKh => ?_ | refine P_each fun Kb hKb => ?_ | refine W_and ?_) <;> (try simp (disch := first | assumption | omega) only [go_sem, seval, List.length_map, *]))
        | ((with_reducible refine W_fresh (fun b hb => ?_)); (repeat (obtain ⟨_, hb⟩ := hb)); (try simp (disch := first | assumption | omega) only [go_sem, seval, List.length_map, *]))
        | ((with_reducible refine W_app (fun o2 ho => ?_)); (try simp (disch := assumption) only [disown_set, disown_own, ownok_o, ownok_m, List.length_map, List.length_cons, List.length_nil, Nat.zero_add, List.length_map] at ho); (repeat (obtain ⟨_, ho⟩ := ho)); (try simp (disch := first | assumption | omega) only [go_sem, seval, List.length_map, *]))
        | ((with_reducible refine W_gd (fun h => ?_) (fun h => ?_)) <;> (try (exfalso; first | assumption | omega)) <;> (try simp (disch := first | assumption | omega) only [go_sem, seval, List.length_map, *]))))
      clear e5 hlt hi hm h
      refine G_loop (fun m env s'' => ∃ i : Nat, i ≤ ac.length ∧ m + i = ac.length ∧ ac.take i = bc.take i ∧ s'' = s' ∧ env 2 = .ptr b2 0 ∧ env 3 = .ptr b3 0 ∧ env 6 = .int .i64 i) ac.length ⟨_, Fg.refl _, 0, by omega, by omega, rfl, rfl, by ((try simp (disch := first | assumption | omega) only [go_sem, seval, *]) <;> first | rfl | omega), by ((try simp (disch := first | assumption | omega) only [go_sem, seval, *]) <;> first | rfl | omega), by ((try simp (disch := first | assumption | omega) only [go_sem, seval, *]) <;> first | rfl | omega)⟩ ?_
      clear e2 e3 env HE i m
      rintro m env S ⟨i, hi, hm, he, rfl, e2, e3, e6⟩
      have HE := Lib.hid he
      clear he
      by_cases hlt : i < ac.length
      · obtain ⟨x, hx⟩ := uget hlt
        obtain ⟨y, hy⟩ := uget (l := bc) (i := i) (by rw [← HL2.out]; exact hlt)
        have hsx := dclC_at hx
        have hsy := dclC_at hy
        have hxo := (hdc x (List.mem_of_getElem? hx)).2.1
        have HX := Lib.hid (And.intro hx hy)
        clear hx hy
        have hlb : i < bc.length := by have := HL2.out; omega
        obtain ⟨xn, xs⟩ := x
        obtain ⟨yn, ys⟩ := y
        simp only at hxo
        have hlx : (strs xs).length = xs.length := by simp [strs]
        have hly : (strs ys).length = ys.length := by simp [strs]
        by_cases hxy : xn = yn ∧ xs.length = ys.length
        · obtain ⟨rfl, hl⟩ := hxy
          have hl2 : ((xs.length : Int) = (ys.length : Int)) = True := eq_true (by omega)
          have HL := Lib.hid hl
          clear hl
          (repeat' (first
            | with_reducible first | refine L_seq ?_ | refine L_blk ?_ | refine L_skip ?_ | refine L_endblk ?_ | refine L_ret ?_ | refine L_exit ?_ | refine X_code ?_ | refine X_back ?_ | refine X_blk ?_ | refine X_past (by decide) ?_ | refine L_back ?_
            | ((with_reducible refine Kof.use hK ?_); clear hK hE K E)
            | ((with_reducible refine Eof.use hE ?_); (try clear hK hE K E))
            | ((with_reducible refine Kof.use hKh ?_); clear hKh Kh)
            | ((with_reducible refine Kof.use hKb (P_next ?_)); clear hKb Kb)
            | with_reducible first | refine G_plan 6 [] [0, 1, 2, 3, 4, 5, 6, 7, 8, 9, 10] hQe fun K E hK hE => ?_ | refine G_plan 11 [] [0, 1, 2, 3, 4, 5, 6, 7, 8, 9, 10, 11, 12, 13, 14, 15, 16, 17, 18, 19, 20, 21, 22, 23, 24, 25, 26, 27, 28, 29] hQe fun K E hK hE => ?_ | refine G_plan 16 [] [0, 1, 2, 3, 4, 5, 6, 7, 8, 9, 10, 11, 12, 13, 14, 15, 16, 17, 18] hQe fun K E hK hE => ?_ | refine G_plan 21 [([0, 1, 2, 3, 4, 5, 6, 7, 8, 9], 10, [[]])] [11] hQe fun K E hK hE => ?_
            | ((with_reducible refine W_cond (fun h => ?_) (fun h => ?_)) <;> (try (exfalso; first | assumption | omega)))
            | ((with_reducible first | refine G_region fun K E hK hE => ?_ | refine call_ret can26 (RsameRule_S _ _ (by assumption) _) ?_ | refine W_if ?_ | refine W_ifS ?_ | refine P_heads fun Kh hKh => ?_ | refine P_fin fun Kh hKh => ?_ | refine P_each fun Kb hKb => ?_ | refine W_and ?_) <;> (try simp (disch := first | assumption | omega) only [go_sem, seval, List.length_map, hsx, hsy, dclC, hlx, hly, *]))
            | ((with_reducible refine W_fresh (fun b hb => ?_)); (repeat (obtain ⟨_, hb⟩ := hb)); (try simp (disch := first | assumption | omega) only [go_sem, seval, List.length_map, hsx, hsy, dclC, hlx, hly, *]))
            | ((with_reducible refine W_app (fun o2 ho => ?_)); (try simp (disch := assumption) only [disown_set, disown_own, ownok_o, ownok_m, List.length_map, List.length_cons, List.length_nil, Nat.zero_add, List.length_map, hsx, hsy, dclC, hlx, hly] at ho); (repeat (obtain ⟨_, ho⟩ := ho)); (try simp (disch := first | assumption | omega) only [go_sem, seval, List.length_map, hsx, hsy, dclC, hlx, hly, *]))
            | ((with_reducible refine W_gd (fun h => ?_) (fun h => ?_)) <;> (try (exfalso; first | assumption | omega)) <;> (try simp (disch := first | assumption | omega) only [go_sem, seval, List.length_map, hsx, hsy, dclC, hlx, hly, *]))))
          refine G_loop (fun m env s'' => ∃ j : Nat, j ≤ xs.length ∧ m + j = xs.length ∧ xs.take j = ys.take j ∧ s'' = S ∧ env 2 = .ptr b2 0 ∧ env 3 = .ptr b3 0 ∧ env 6 = .int .i64 i ∧ env 7 = .int .i64 j) xs.length ⟨_, Fg.refl _, 0, by omega, by omega, rfl, rfl, by ((try simp (disch := first | assumption | omega) only [go_sem, seval, *]) <;> first | rfl | omega), by ((try simp (disch := first | assumption | omega) only [go_sem, seval, *]) <;> first | rfl | omega), by ((try simp (disch := first | assumption | omega) only [go_sem, seval, *]) <;> first | rfl | omega), by ((try simp (disch := first | assumption | omega) only [go_sem, seval, *]) <;> first | rfl | omega)⟩ ?_
          clear e2 e3 e6 env
          rintro m2 env S2 ⟨j, hj, hm2, hej, rfl, e2, e3, e6, e7⟩
          have HEJ := Lib.hid hej
          clear hej
          by_cases hlt2 : j < xs.length
          · obtain ⟨t, ht⟩ := uget hlt2
            obtain ⟨u, hu⟩ := uget (l := ys) (i := j) (by rw [← HL.out]; exact hlt2)
            have htx := strs_at ht
            have htu := strs_at hu
            have HT := Lib.hid (And.intro ht hu)
            clear ht hu
            have hlb2 : j < ys.length := by have := HL.out; omega
            by_cases htt : t = u
            · subst htt
              (repeat' (first
                | with_reducible first | refine L_seq ?_ | refine L_blk ?_ | refine L_skip ?_ | refine L_endblk ?_ | refine L_ret ?_ | refine L_exit ?_ | refine X_code ?_ | refine X_back ?_ | refine X_blk ?_ | refine X_past (by decide) ?_ | refine L_back ?_
                | ((with_reducible refine Kof.use hK ?_); clear hK hE K E)
                | ((with_reducible refine Eof.use hE ?_); (try clear hK hE K E))
                | ((with_reducible refine Kof.use hKh ?_); clear hKh Kh)
                | ((with_reducible refine Kof.use hKb (P_next ?_)); clear hKb Kb)
                | with_reducible first | refine G_plan 6 [] [0, 1, 2, 3, 4, 5, 6, 7, 8, 9, 10] hQe fun K E hK hE => ?_ | refine G_plan 11 [] [0, 1, 2, 3, 4, 5, 6, 7, 8, 9, 10, 11, 12, 13, 14, 15, 16, 17, 18, 19, 20, 21, 22, 23, 24, 25, 26, 27, 28, 29] hQe fun K E hK hE => ?_ | refine G_plan 16 [] [0, 1, 2, 3, 4, 5, 6, 7, 8, 9, 10, 11, 12, 13, 14, 15, 16, 17, 18] hQe fun K E hK hE => ?_ | refine G_plan 21 [([0, 1, 2, 3, 4, 5, 6, 7, 8, 9], 10, [[]])] [11] hQe fun K E hK hE => ?_
                | ((with_reducible refine W_cond (fun h => ?_) (fun h => ?_)) <;> (try (exfalso; first | assumption | omega)))
                | ((with_reducible first | refine G_region fun K E hK hE => ?_ | refine call_ret can26 (RsameRule_S _ _ (by assumption) _) ?_ | refine W_if ?_ | refine W_ifS ?_ | refine P_heads fun Kh hKh => ?_ | refine P_fin fun Kh hKh => ?_ | refine P_each fun Kb hKb => ?_ | refine W_and ?_) <;> (try simp (disch := first | assumption | omega) only [go_sem, seval, List.length_map, hsx, hsy, dclC, hlx, hly, htx, htu, *]))
                | ((with_reducible refine W_fresh (fun b hb => ?_)); (repeat (obtain ⟨_, hb⟩ := hb)); (try simp (disch := first | assumption | omega) only [go_sem, seval, List.length_map, hsx, hsy, dclC, hlx, hly, htx, htu, *]))
                | ((with_reducible refine W_app (fun o2 ho => ?_)); (try simp (disch := assumption) only [disown_set, disown_own, ownok_o, ownok_m, List.length_map, List.length_cons, List.length_nil, Nat.zero_add, List.length_map, hsx, hsy, dclC, hlx, hly, htx, htu] at ho); (repeat (obtain ⟨_, ho⟩ := ho)); (try simp (disch := first | assumption | omega) only [go_sem, seval, List.length_map, hsx, hsy, dclC, hlx, hly, htx, htu, *]))
                | ((with_reducible refine W_gd (fun h => ?_) (fun h => ?_)) <;> (try (exfalso; first | assumption | omega)) <;> (try simp (disch := first | assumption | omega) only [go_sem, seval, List.length_map, hsx, hsy, dclC, hlx, hly, htx, htu, *]))))
              exact ⟨_, Fg.refl _, m2 - 1, by omega, j + 1, by omega, by omega, take_eq_succ HT.out.1 HT.out.2 HEJ.out rfl, rfl, by ((try simp (disch := first | assumption | omega) only [go_sem, seval, *]) <;> first | rfl | omega), by ((try simp (disch := first | assumption | omega) only [go_sem, seval, *]) <;> first | rfl | omega), by ((try simp (disch := first | assumption | omega) only [go_sem, seval, *]) <;> first | rfl | omega), by ((try simp (disch := first | assumption | omega) only [go_sem, seval, *]) <;> first | rfl | omega)⟩
            · have hne : ¬ ac = bc := ne_at HX.out.1 HX.out.2 (fun e => by injection e with _ e; exact ne_at HT.out.1 HT.out.2 htt e)
              have HNE := Lib.hid hne
              clear hne
              (repeat' (first
                | with_reducible first | refine L_seq ?_ | refine L_blk ?_ | refine L_skip ?_ | refine L_endblk ?_ | refine L_ret ?_ | refine L_exit ?_ | refine X_code ?_ | refine X_back ?_ | refine X_blk ?_ | refine X_past (by decide) ?_ | refine L_back ?_
                | ((with_reducible refine Kof.use hK ?_); clear hK hE K E)
                | ((with_reducible refine Eof.use hE ?_); (try clear hK hE K E))
                | ((with_reducible refine Kof.use hKh ?_); clear hKh Kh)
                | ((with_reducible refine Kof.use hKb (P_next ?_)); clear hKb Kb)
                | with_reducible first | refine G_plan 6 [] [0, 1, 2, 3, 4, 5, 6, 7, 8, 9, 10] hQe fun K E hK hE => ?_ | refine G_plan 11 [] [0, 1, 2, 3, 4, 5, 6, 7, 8, 9, 10, 11, 12, 13, 14, 15, 16, 17, 18, 19, 20, 21, 22, 23, 24, 25, 26, 27, 28, 29] hQe fun K E hK hE => ?_ | refine G_plan 16 [] [0, 1, 2, 3, 4, 5, 6, 7, 8, 9, 10, 11, 12, 13, 14, 15, 16, 17, 18] hQe fun K E hK hE => ?_ | refine G_plan 21 [([0, 1, 2, 3, 4, 5, 6, 7, 8, 9], 10, [[]])] [11] hQe fun K E hK hE => ?_
                | ((with_reducible refine W_cond (fun h => ?_) (fun h => ?_)) <;> (try (exfalso; first | assumption | omega)))
                | ((with_reducible first | refine G_region fun K E hK hE => ?_ | refine call_ret can26 (RsameRule_S _ _ (by assumption) _) ?_ | refine W_if ?_ | refine W_ifS ?_ | refine P_heads fun Kh hKh => ?_ | refine P_fin fun Kh hKh => ?_ | refine P_each fun Kb hKb => ?_ | refine W_and ?_) <;> (try simp (disch := first | assumption | omega) only [go_sem, seval, List.length_map, hsx, hsy, dclC, hlx, hly, htx, htu, *]))
                | ((with_reducible refine W_fresh (fun b hb => ?_)); (repeat (obtain ⟨_, hb⟩ := hb)); (try simp (disch := first | assumption | omega) only [go_sem, seval, List.length_map, hsx, hsy, dclC, hlx, hly, htx, htu, *]))
                | ((with_reducible refine W_app (fun o2 ho => ?_)); (try simp (disch := assumption) only [disown_set, disown_own, ownok_o, ownok_m, List.length_map, List.length_cons, List.length_nil, Nat.zero_add, List.length_map, hsx, hsy, dclC, hlx, hly, htx, htu] at ho); (repeat (obtain ⟨_, ho⟩ := ho)); (try simp (disch := first | assumption | omega) only [go_sem, seval, List.length_map, hsx, hsy, dclC, hlx, hly, htx, htu, *]))
                | ((with_reducible refine W_gd (fun h => ?_) (fun h => ?_)) <;> (try (exfalso; first | assumption | omega)) <;> (try simp (disch := first | assumption | omega) only [go_sem, seval, List.length_map, hsx, hsy, dclC, hlx, hly, htx, htu, *]))))
              all_goals (first | refine G_ret hQ (by simp (disch := first | assumption | omega) only [res12, go_sem, seval, *] <;> rfl) ?_ | refine G_norm hQ (by simp (disch := first | assumption | omega) only [res12, go_sem, seval, *] <;> rfl) ?_ | refine G_pan hQ ?_)
              all_goals (refine ⟨_, _, Wk.of_eq ?_, ?_, rfl, rfl⟩)
              · rw [eqB_f (by intro e; injection e with _ e _; exact HNE.out e)]
              · exact HF.out
          · have hxe : xs = ys := take_eq HL.out (by have := HEJ.out; rwa [show j = xs.length by omega] at this)
            have heq : (⟨xn, xs⟩ : Dcl) = ⟨xn, ys⟩ := by rw [hxe]
            have HQ := Lib.hid heq
            clear heq hxe
            (repeat' (first
              | with_reducible first | refine L_seq ?_ | refine L_blk ?_ | refine L_skip ?_ | refine L_endblk ?_ | refine L_ret ?_ | refine L_exit ?_ | refine X_code ?_ | refine X_back ?_ | refine X_blk ?_ | refine X_past (by decide) ?_ | refine L_back ?_
              | ((with_reducible refine Kof.use hK ?_); clear hK hE K E)
              | ((with_reducible refine Eof.use hE ?_); (try clear hK hE K E))
              | ((with_reducible refine Kof.use hKh ?_); clear hKh Kh)
              | ((with_reducible refine Kof.use hKb (P_next ?_)); clear hKb Kb)
              | with_reducible first | refine G_plan 6 [] [0, 1, 2, 3, 4, 5, 6, 7, 8, 9, 10] hQe fun K E hK hE => ?_ | refine G_plan 11 [] [0, 1, 2, 3, 4, 5, 6, 7, 8, 9, 10, 11, 12, 13, 14, 15, 16, 17, 18, 19, 20, 21, 22, 23, 24, 25, 26, 27, 28, 29] hQe fun K E hK hE => ?_ | refine G_plan 16 [] [0, 1, 2, 3, 4, 5, 6, 7, 8, 9, 10, 11, 12, 13, 14, 15, 16, 17, 18] hQe fun K E hK hE => ?_ | refine G_plan 21 [([0, 1, 2, 3, 4, 5, 6, 7, 8, 9], 10, [[]])] [11] hQe fun K E hK hE => ?_
              | ((with_reducible refine W_cond (fun h => ?_) (fun h => ?_)) <;> (try (exfalso; first | assumption | omega)))
              | ((with_reducible first | refine G_region fun K E hK hE => ?_ | refine call_ret can26 (RsameRule_S _ _ (by assumption) _) ?_ | refine W_if ?_ | refine W_ifS ?_ | refine P_heads fun Kh hKh => ?_ | refine P_fin fun Kh hKh => ?_ | refine P_each fun Kb hKb => ?_ | refine W_and ?_) <;> (try simp (disch := first | assumption | omega) only [go_sem, seval, List.length_map, hsx, hsy, dclC, hlx, hly, *]))
              | ((with_reducible refine W_fresh (fun b hb => ?_)); (repeat (obtain ⟨_, hb⟩ := hb)); (try simp (disch := first | assumption | omega) only [go_sem, seval, List.length_map, hsx, hsy, dclC, hlx, hly, *]))
              | ((with_reducible refine W_app (fun o2 ho => ?_)); (try simp (disch := assumption) only [disown_set, disown_own, ownok_o, ownok_m, List.length_map, List.length_cons, List.length_nil, Nat.zero_add, List.length_map, hsx, hsy, dclC, hlx, hly] at ho); (repeat (obtain ⟨_, ho⟩ := ho)); (try simp (disch := first | assumption | omega) only [go_sem, seval, List.length_map, hsx, hsy, dclC, hlx, hly, *]))
              | ((with_reducible refine W_gd (fun h => ?_) (fun h => ?_)) <;> (try (exfalso; first | assumption | omega)) <;> (try simp (disch := first | assumption | omega) only [go_sem, seval, List.length_map, hsx, hsy, dclC, hlx, hly, *]))))
            exact ⟨_, Fg.refl _, m - 1, by omega, i + 1, by omega, by omega, take_eq_succ HX.out.1 HX.out.2 HE.out HQ.out, rfl, by ((try simp (disch := first | assumption | omega) only [go_sem, seval, *]) <;> first | rfl | omega), by ((try simp (disch := first | assumption | omega) only [go_sem, seval, *]) <;> first | rfl | omega), by ((try simp (disch := first | assumption | omega) only [go_sem, seval, *]) <;> first | rfl | omega)⟩
        · have hne : ¬ ac = bc := ne_at HX.out.1 HX.out.2 (fun e => by injection e with e1 e2; exact hxy ⟨e1, by rw [e2]⟩)
          have HNE := Lib.hid hne
          clear hne
          by_cases hn : xn = yn
          · subst hn
            have h3' : ¬ ((xs.length : Int) = (ys.length : Int)) := fun e => hxy ⟨rfl, by omega⟩
            clear hxy
            (repeat' (first
              | with_reducible first | refine L_seq ?_ | refine L_blk ?_ | refine L_skip ?_ | refine L_endblk ?_ | refine L_ret ?_ | refine L_exit ?_ | refine X_code ?_ | refine X_back ?_ | refine X_blk ?_ | refine X_past (by decide) ?_ | refine L_back ?_
              | ((with_reducible refine Kof.use hK ?_); clear hK hE K E)
              | ((with_reducible refine Eof.use hE ?_); (try clear hK hE K E))
              | ((with_reducible refine Kof.use hKh ?_); clear hKh Kh)
              | ((with_reducible refine Kof.use hKb (P_next ?_)); clear hKb Kb)
              | with_reducible first | refine G_plan 6 [] [0, 1, 2, 3, 4, 5, 6, 7, 8, 9, 10] hQe fun K E hK hE => ?_ | refine G_plan 11 [] [0, 1, 2, 3, 4, 5, 6, 7, 8, 9, 10, 11, 12, 13, 14, 15, 16, 17, 18, 19, 20, 21, 22, 23, 24, 25, 26, 27, 28, 29] hQe fun K E hK hE => ?_ | refine G_plan 16 [] [0, 1, 2, 3, 4, 5, 6, 7, 8, 9, 10, 11, 12, 13, 14, 15, 16, 17, 18] hQe fun K E hK hE => ?_ | refine G_plan 21 [([0, 1, 2, 3, 4, 5, 6, 7, 8, 9], 10, [[]])] [11] hQe fun K E hK hE => ?_
              | ((with_reducible refine W_cond (fun h => ?_) (fun h => ?_)) <;> (try (exfalso; first | assumption | omega)))
              | ((with_reducible first | refine G_region fun K E hK hE => ?_ | refine call_ret can26 (RsameRule_S _ _ (by assumption) _) ?_ | refine W_if ?_ | refine W_ifS ?_ | refine P_heads fun Kh hKh => ?_ | refine P_fin fun Kh hKh => ?_ | refine P_each fun Kb hKb => ?_ | refine W_and ?_) <;> (try simp (disch := first | assumption | omega) only [go_sem, seval, List.length_map, hsx, hsy, dclC, hlx, hly, *]))
              | ((with_reducible refine W_fresh (fun b hb => ?_)); (repeat (obtain ⟨_, hb⟩ := hb)); (try simp (disch := first | assumption | omega) only [go_sem, seval, List.length_map, hsx, hsy, dclC, hlx, hly, *]))
              | ((with_reducible refine W_app (fun o2 ho => ?_)); (try simp (disch := assumption) only [disown_set, disown_own, ownok_o, ownok_m, List.length_map, List.length_cons, List.length_nil, Nat.zero_add, List.length_map, hsx, hsy, dclC, hlx, hly] at ho); (repeat (obtain ⟨_, ho⟩ := ho)); (try simp (disch := first | assumption | omega) only [go_sem, seval, List.length_map, hsx, hsy, dclC, hlx, hly, *]))
              | ((with_reducible refine W_gd (fun h => ?_) (fun h => ?_)) <;> (try (exfalso; first | assumption | omega)) <;> (try simp (disch := first | assumption | omega) only [go_sem, seval, List.length_map, hsx, hsy, dclC, hlx, hly, *]))))
            all_goals (first | refine G_ret hQ (by simp (disch := first | assumption | omega) only [res12, go_sem, seval, *] <;> rfl) ?_ | refine G_norm hQ (by simp (disch := first | assumption | omega) only [res12, go_sem, seval, *] <;> rfl) ?_ | refine G_pan hQ ?_)
            all_goals (refine ⟨_, _, Wk.of_eq ?_, ?_, rfl, rfl⟩)
            · rw [eqB_f (by intro e; injection e with _ e _; exact HNE.out e)]
            · exact HF.out
          · clear hxy
            (repeat' (first
              | with_reducible first | refine L_seq ?_ | refine L_blk ?_ | refine L_skip ?_ | refine L_endblk ?_ | refine L_ret ?_ | refine L_exit ?_ | refine X_code ?_ | refine X_back ?_ | refine X_blk ?_ | refine X_past (by decide) ?_ | refine L_back ?_
              | ((with_reducible refine Kof.use hK ?_); clear hK hE K E)
              | ((with_reducible refine Eof.use hE ?_); (try clear hK hE K E))
              | ((with_reducible refine Kof.use hKh ?_); clear hKh Kh)
              | ((with_reducible refine Kof.use hKb (P_next ?_)); clear hKb Kb)
              | with_reducible first | refine G_plan 6 [] [0, 1, 2, 3, 4, 5, 6, 7, 8, 9, 10] hQe fun K E hK hE => ?_ | refine G_plan 11 [] [0, 1, 2, 3, 4, 5, 6, 7, 8, 9, 10, 11, 12, 13, 14, 15, 16, 17, 18, 19, 20, 21, 22, 23, 24, 25, 26, 27, 28, 29] hQe fun K E hK hE => ?_ | refine G_plan 16 [] [0, 1, 2, 3, 4, 5, 6, 7, 8, 9, 10, 11, 12, 13, 14, 15, 16, 17, 18] hQe fun K E hK hE => ?_ | refine G_plan 21 [([0, 1, 2, 3, 4, 5, 6, 7, 8, 9], 10, [[]])] [11] hQe fun K E hK hE => ?_
              | ((with_reducible refine W_cond (fun h => ?_) (fun h => ?_)) <;> (try (exfalso; first | assumption | omega)))
              | ((with_reducible first | refine G_region fun K E hK hE => ?_ | refine call_ret can26 (RsameRule_S _ _ (by assumption) _) ?_ | refine W_if ?_ | refine W_ifS ?_ | refine P_heads fun Kh hKh => ?_ | refine P_fin fun Kh hKh => ?_ | refine P_each fun Kb hKb => ?_ | refine W_and ?_) <;> (try simp (disch := first | assumption | omega) only [go_sem, seval, List.length_map, hsx, hsy, dclC, hlx, hly, *]))
              | ((with_reducible refine W_fresh (fun b hb => ?_)); (repeat (obtain ⟨_, hb⟩ := hb)); (try simp (disch := first | assumption | omega) only [go_sem, seval, List.length_map, hsx, hsy, dclC, hlx, hly, *]))
              | ((with_reducible refine W_app (fun o2 ho => ?_)); (try simp (disch := assumption) only [disown_set, disown_own, ownok_o, ownok_m, List.length_map, List.length_cons, List.length_nil, Nat.zero_add, List.length_map, hsx, hsy, dclC, hlx, hly] at ho); (repeat (obtain ⟨_, ho⟩ := ho)); (try simp (disch := first | assumption | omega) only [go_sem, seval, List.length_map, hsx, hsy, dclC, hlx, hly, *]))
              | ((with_reducible refine W_gd (fun h => ?_) (fun h => ?_)) <;> (try (exfalso; first | assumption | omega)) <;> (try simp (disch := first | assumption | omega) only [go_sem, seval, List.length_map, hsx, hsy, dclC, hlx, hly, *]))))
            all_goals (first | refine G_ret hQ (by simp (disch := first | assumption | omega) only [res12, go_sem, seval, *] <;> rfl) ?_ | refine G_norm hQ (by simp (disch := first | assumption | omega) only [res12, go_sem, seval, *] <;> rfl) ?_ | refine G_pan hQ ?_)
            all_goals (refine ⟨_, _, Wk.of_eq ?_, ?_, rfl, rfl⟩)
            · rw [eqB_f (by intro e; injection e with _ e _; exact HNE.out e)]
            · exact HF.out
      · have hq2 : ac = bc := take_eq HL2.out (by have := HE.out; rwa [show i = ac.length by omega] at this)
        have HQ2 := Lib.hid hq2
        clear hq2
        (repeat' (first
          | with_reducible first | refine L_seq ?_ | refine L_blk ?_ | refine L_skip ?_ | refine L_endblk ?_ | refine L_ret ?_ | refine L_exit ?_ | refine X_code ?_ | refine X_back ?_ | refine X_blk ?_ | refine X_past (by decide) ?_ | refine L_back ?_
          | ((with_reducible refine Kof.use hK ?_); clear hK hE K E)
          | ((with_reducible refine Eof.use hE ?_); (try clear hK hE K E))
          | ((with_reducible refine Kof.use hKh ?_); clear hKh Kh)
          | ((with_reducible refine Kof.use hKb (P_next ?_)); clear hKb Kb)
          | with_reducible first | refine G_plan 6 [] [0, 1, 2, 3, 4, 5, 6, 7, 8, 9, 10] hQe fun K E hK hE => ?_ | refine G_plan 11 [] [0, 1, 2, 3, 4, 5, 6, 7, 8, 9, 10, 11, 12, 13, 14, 15, 16, 17, 18, 19, 20, 21, 22, 23, 24, 25, 26, 27, 28, 29] hQe fun K E hK hE => ?_ | refine G_plan 16 [] [0, 1, 2, 3, 4, 5, 6, 7, 8, 9, 10, 11, 12, 13, 14, 15, 16, 17, 18] hQe fun K E hK hE => ?_ | refine G_plan 21 [([0, 1, 2, 3, 4, 5, 6, 7, 8, 9], 10, [[]])] [11] hQe fun K E hK hE => ?_
          | ((with_reducible refine W_cond (fun h => ?_) (fun h => ?_)) <;> (try (exfalso; first | assumption | omega)))
          | ((with_reducible first | refine G_region fun K E hK hE => ?_ | refine call_ret can26 (RsameRule_S _ _ (by assumption) _) ?_ | refine W_if ?_ | refine W_ifS ?_ | refine P_heads fun Kh hKh => ?_ | refine P_fin fun Kh hKh => ?_ | refine P_each fun Kb hKb => ?_ | refine W_and ?_) <;> (try simp (disch := first | assumption | omega) only [go_sem, seval, List.length_map, *]))
          | ((with_reducible refine W_fresh (fun b hb => ?_)); (repeat (obtain ⟨_, hb⟩ := hb)); (try simp (disch := first | assumption | omega) only [go_sem, seval, List.length_map, *]))
          | ((with_reducible refine W_app (fun o2 ho => ?_)); (try simp (disch := assumption) only [disown_set, disown_own, ownok_o, ownok_m, List.length_map, List.length_cons, List.length_nil, Nat.zero_add, List.length_map] at ho); (repeat (obtain ⟨_, ho⟩ := ho)); (try simp (disch := first | assumption | omega) only [go_sem, seval, List.length_map, *]))
          | ((with_reducible refine W_gd (fun h => ?_) (fun h => ?_)) <;> (try (exfalso; first | assumption | omega)) <;> (try simp (disch := first | assumption | omega) only [go_sem, seval, List.length_map, *]))))
        clear e6 hlt hi hm h
        refine G_loop (fun m env s'' => ∃ i : Nat, i ≤ ar.length ∧ m + i = ar.length ∧ ar.take i = br.take i ∧ s'' = S ∧ env 2 = .ptr b2 0 ∧ env 3 = .ptr b3 0 ∧ env 8 = .int .i64 i) ar.length ⟨_, Fg.refl _, 0, by omega, by omega, rfl, rfl, by ((try simp (disch := first | assumption | omega) only [go_sem, seval, *]) <;> first | rfl | omega), by ((try simp (disch := first | assumption | omega) only [go_sem, seval, *]) <;> first | rfl | omega), by ((try simp (disch := first | assumption | omega) only [go_sem, seval, *]) <;> first | rfl | omega)⟩ ?_
        clear e2 e3 env HE i m
        rintro m env s' ⟨i, hi, hm, he, rfl, e2, e3, e8⟩
        have HE := Lib.hid he
        clear he
        by_cases hlt : i < ar.length
        · obtain ⟨x, hx⟩ := uget hlt
          obtain ⟨y, hy⟩ := uget (l := br) (i := i) (by rw [← HL3.out]; exact hlt)
          have hsx := rulC_at hx
          have hsy := rulC_at hy
          have hxo := hrr x (List.mem_of_getElem? hx)
          have HX := Lib.hid (And.intro hx hy)
          clear hx hy
          have hlb : i < br.length := by have := HL3.out; omega
          have r2 := fun s => RsameRule_S x y hxo s
          simp only [rulC] at r2
          cases hE2 : eqB x y with
          | false =>
            rw [hE2] at r2
            have hne : ¬ ar = br := ne_at HX.out.1 HX.out.2 (by intro e; rw [eqB_t e] at hE2; cases hE2)
            have HNE := Lib.hid hne
            clear hne hE2
            (repeat' (first
              | with_reducible first | refine L_seq ?_ | refine L_blk ?_ | refine L_skip ?_ | refine L_endblk ?_ | refine L_ret ?_ | refine L_exit ?_ | refine X_code ?_ | refine X_back ?_ | refine X_blk ?_ | refine X_past (by decide) ?_ | refine L_back ?_
              | ((with_reducible refine Kof.use hK ?_); clear hK hE K E)
              | ((with_reducible refine Eof.use hE ?_); (try clear hK hE K E))
              | ((with_reducible refine Kof.use hKh ?_); clear hKh Kh)
              | ((with_reducible refine Kof.use hKb (P_next ?_)); clear hKb Kb)
              | with_reducible first | refine G_plan 6 [] [0, 1, 2, 3, 4, 5, 6, 7, 8, 9, 10] hQe fun K E hK hE => ?_ | refine G_plan 11 [] [0, 1, 2, 3, 4, 5, 6, 7, 8, 9, 10, 11, 12, 13, 14, 15, 16, 17, 18, 19, 20, 21, 22, 23, 24, 25, 26, 27, 28, 29] hQe fun K E hK hE => ?_ | refine G_plan 16 [] [0, 1, 2, 3, 4, 5, 6, 7, 8, 9, 10, 11, 12, 13, 14, 15, 16, 17, 18] hQe fun K E hK hE => ?_ | refine G_plan 21 [([0, 1, 2, 3, 4, 5, 6, 7, 8, 9], 10, [[]])] [11] hQe fun K E hK hE => ?_
              | ((with_reducible refine W_cond (fun h => ?_) (fun h => ?_)) <;> (try (exfalso; first | assumption | omega)))
              | ((with_reducible first | refine G_region fun K E hK hE => ?_ | refine call_ret can26 (r2 _) ?_ | refine call_ret can26 (RsameRule_S _ _ (by assumption) _) ?_ | refine W_if ?_ | refine W_ifS ?_ | refine P_heads fun Kh hKh => ?_ | refine P_fin fun Kh hKh => ?_ | refine P_each fun Kb hKb => ?_ | refine W_and ?_) <;> (try simp (disch := first | assumption | omega) only [go_sem, seval, List.length_map, hsx, hsy, rulC, *]))
              | ((with_reducible refine W_fresh (fun b hb => ?_)); (repeat (obtain ⟨_, hb⟩ := hb)); (try simp (disch := first | assumption | omega) only [go_sem, seval, List.length_map, hsx, hsy, rulC, *]))
              | ((with_reducible refine W_app (fun o2 ho => ?_)); (try simp (disch := assumption) only [disown_set, disown_own, ownok_o, ownok_m, List.length_map, List.length_cons, List.length_nil, Nat.zero_add, List.length_map, hsx, hsy, rulC] at ho); (repeat (obtain ⟨_, ho⟩ := ho)); (try simp (disch := first | assumption | omega) only [go_sem, seval, List.length_map, hsx, hsy, rulC, *]))
              | ((with_reducible refine W_gd (fun h => ?_) (fun h => ?_)) <;> (try (exfalso; first | assumption | omega)) <;> (try simp (disch := first | assumption | omega) only [go_sem, seval, List.length_map, hsx, hsy, rulC, *]))))
            all_goals (first | refine G_ret hQ (by simp (disch := first | assumption | omega) only [res12, go_sem, seval, *] <;> rfl) ?_ | refine G_norm hQ (by simp (disch := first | assumption | omega) only [res12, go_sem, seval, *] <;> rfl) ?_ | refine G_pan hQ ?_)
            all_goals (refine ⟨_, _, Wk.of_eq ?_, ?_, rfl, rfl⟩)
            · rw [eqB_f (by intro e; injection e with _ _ e; exact HNE.out e)]
            · exact HF.out
          | true =>
            rw [hE2] at r2
            have heq := eqB_i.1 hE2
            have HQ := Lib.hid heq
            clear hE2 heq
            (repeat' (first
              | with_reducible first | refine L_seq ?_ | refine L_blk ?_ | refine L_skip ?_ | refine L_endblk ?_ | refine L_ret ?_ | refine L_exit ?_ | refine X_code ?_ | refine X_back ?_ | refine X_blk ?_ | refine X_past (by decide) ?_ | refine L_back ?_
              | ((with_reducible refine Kof.use hK ?_); clear hK hE K E)
              | ((with_reducible refine Eof.use hE ?_); (try clear hK hE K E))
              | ((with_reducible refine Kof.use hKh ?_); clear hKh Kh)
              | ((with_reducible refine Kof.use hKb (P_next ?_)); clear hKb Kb)
              | with_reducible first | refine G_plan 6 [] [0, 1, 2, 3, 4, 5, 6, 7, 8, 9, 10] hQe fun K E hK hE => ?_ | refine G_plan 11 [] [0, 1, 2, 3, 4, 5, 6, 7, 8, 9, 10, 11, 12, 13, 14, 15, 16, 17, 18, 19, 20, 21, 22, 23, 24, 25, 26, 27, 28, 29] hQe fun K E hK hE => ?_ | refine G_plan 16 [] [0, 1, 2, 3, 4, 5, 6, 7, 8, 9, 10, 11, 12, 13, 14, 15, 16, 17, 18] hQe fun K E hK hE => ?_ | refine G_plan 21 [([0, 1, 2, 3, 4, 5, 6, 7, 8, 9], 10, [[]])] [11] hQe fun K E hK hE => ?_
              | ((with_reducible refine W_cond (fun h => ?_) (fun h => ?_)) <;> (try (exfalso; first | assumption | omega)))
              | ((with_reducible first | refine G_region fun K E hK hE => ?_ | refine call_ret can26 (r2 _) ?_ | refine call_ret can26 (RsameRule_S _ _ (by assumption) _) ?_ | refine W_if ?_ | refine W_ifS ?_ | refine P_heads fun Kh hKh => ?_ | refine P_fin fun Kh hKh => ?_ | refine P_each fun Kb hKb => ?_ | refine W_and ?_) <;> (try simp (disch := first | assumption | omega) only [go_sem, seval, List.length_map, hsx, hsy, rulC, *]))
              | ((with_reducible refine W_fresh (fun b hb => ?_)); (repeat (obtain ⟨_, hb⟩ := hb)); (try simp (disch := first | assumption | omega) only [go_sem, seval, List.length_map, hsx, hsy, rulC, *]))
              | ((with_reducible refine W_app (fun o2 ho => ?_)); (try simp (disch := assumption) only [disown_set, disown_own, ownok_o, ownok_m, List.length_map, List.length_cons, List.length_nil, Nat.zero_add, List.length_map, hsx, hsy, rulC] at ho); (repeat (obtain ⟨_, ho⟩ := ho)); (try simp (disch := first | assumption | omega) only [go_sem, seval, List.length_map, hsx, hsy, rulC, *]))
              | ((with_reducible refine W_gd (fun h => ?_) (fun h => ?_)) <;> (try (exfalso; first | assumption | omega)) <;> (try simp (disch := first | assumption | omega) only [go_sem, seval, List.length_map, hsx, hsy, rulC, *]))))
            exact ⟨_, Fg.refl _, m - 1, by omega, i + 1, by omega, by omega, take_eq_succ HX.out.1 HX.out.2 HE.out HQ.out, rfl, by ((try simp (disch := first | assumption | omega) only [go_sem, seval, *]) <;> first | rfl | omega), by ((try simp (disch := first | assumption | omega) only [go_sem, seval, *]) <;> first | rfl | omega), by ((try simp (disch := first | assumption | omega) only [go_sem, seval, *]) <;> first | rfl | omega)⟩
        · (repeat' (first
   | with_reducible first | refine L_seq ?_ | refine L_blk ?_ | refine L_skip ?_ | refine L_endblk ?_ | refine L_ret ?_ | refine L_exit ?_ | refine X_code ?_ | refine X_back ?_ | refine X_blk ?_ | refine X_past (by decide) ?_ | refine L_back ?_
   | ((with_reducible refine Kof.use hK ?_); clear hK hE K E)
   | ((with_reducible refine Eof.use hE ?_); (try clear hK hE K E))
   | ((with_reducible refine Kof.use hKh ?_); clear hKh Kh)
   | ((with_reducible refine Kof.use hKb (P_next ?_)); clear hKb Kb)
   | with_reducible first | refine G_plan 6 [] [0, 1, 2, 3, 4, 5, 6, 7, 8, 9, 10] hQe fun K E hK hE => ?_ | refine G_plan 11 [] [0, 1, 2, 3, 4, 5, 6, 7, 8, 9, 10, 11, 12, 13, 14, 15, 16, 17, 18, 19, 20, 21, 22, 23, 24, 25, 26, 27, 28, 29] hQe fun K E hK hE => ?_ | refine G_plan 16 [] [0, 1, 2, 3, 4, 5, 6, 7, 8, 9, 10, 11, 12, 13, 14, 15, 16, 17, 18] hQe fun K E hK hE => ?_ | refine G_plan 21 [([0, 1, 2, 3, 4, 5, 6, 7, 8, 9], 10, [[]])] [11] hQe fun K E hK hE => ?_
   | ((with_reducible refine W_cond (fun h => ?_) (fun h => ?_)) <;> (try (exfalso; first | assumption | omega)))
   | ((with_reducible first | refine G_region fun K E hK hE => ?_ | refine call_ret can26 (RsameRule_S _ _ (by assumption) _) ?_ | refine W_if ?_ | refine W_ifS ?_ | refine P_heads fun Kh hKh => ?_ | refine P_fin fun Kh hKh => ?_ | refine P_each fun Kb hKb => ?_ | refine W_and ?_) <;> (try simp (disch := first | assumption | omega) only [go_sem, seval, List.length_map, *]))
   | ((with_reducible refine W_fresh (fun b hb => ?_)); (repeat (obtain ⟨_, hb⟩ := hb)); (try simp (disch := first | assumption | omega) only [go_sem, seval, List.length_map, *]))
   | ((with_reducible refine W_app (fun o2 ho => ?_)); (try simp (disch := assumption) only [disown_set, disown_own, ownok_o, ownok_m, List.length_map, List.length_cons, List.length_nil, Nat.zero_add, List.length_map] at ho); (repeat (obtain ⟨_, ho⟩ := ho)); (try simp (disch := first | assumption | omega) only [go_sem, seval, List.length_map, *]))
   | ((with_reducible refine W_gd (fun h => ?_) (fun h => ?_)) <;> (try (exfalso; first | assumption | omega)) <;> (try simp (disch := first | assumption | omega) only [go_sem, seval, List.length_map, *]))))
          all_goals (first | refine G_ret hQ (by simp (disch := first | assumption | omega) only [res12, go_sem, seval, *] <;> rfl) ?_ | refine G_norm hQ (by simp (disch := first | assumption | omega) only [res12, go_sem, seval, *] <;> rfl) ?_ | refine G_pan hQ ?_)
          all_goals (refine ⟨_, _, Wk.of_eq ?_, ?_, rfl, rfl⟩)
          · rw [HQ1.out, HQ2.out, take_eq HL3.out (by have := HE.out; rwa [show i = ar.length by omega] at this), eqB_self]
          · exact HF.out
  · have hne : eqB (⟨ad, ac, ar⟩ : Pgm) ⟨bd, bc, br⟩ = false := eqB_f (by intro e; injection e with e1 e2 e3; exact h0 ⟨by rw [e1], by rw [e2], by rw [e3]⟩)
    have HNE := Lib.hid hne
    clear hne
    by_cases h1 : ad.length = bd.length
    · have m1 : ((ad.length : Int) = (bd.length : Int)) = True := eq_true (by omega)
      by_cases h2 : ac.length = bc.length
      · have m2 : ((ac.length : Int) = (bc.length : Int)) = True := eq_true (by omega)
        have m3 : ¬ ((ar.length : Int) = (br.length : Int)) := fun e => h0 ⟨h1, h2, by omega⟩
        clear h0 h1 h2
        (repeat' (first
          | with_reducible first | refine L_seq ?_ | refine L_blk ?_ | refine L_skip ?_ | refine L_endblk ?_ | refine L_ret ?_ | refine L_exit ?_ | refine X_code ?_ | refine X_back ?_ | refine X_blk ?_ | refine X_past (by decide) ?_ | refine L_back ?_
          | ((with_reducible refine Kof.use hK ?_); clear hK hE K E)
          | ((with_reducible refine Eof.use hE ?_); (try clear hK hE K E))
          | ((with_reducible refine Kof.use hKh ?_); clear hKh Kh)
          | ((with_reducible refine Kof.use hKb (P_next ?_)); clear hKb Kb)
          | with_reducible first | refine G_plan 6 [] [0, 1, 2, 3, 4, 5, 6, 7, 8, 9, 10] hQe fun K E hK hE => ?_ | refine G_plan 11 [] [0, 1, 2, 3, 4, 5, 6, 7, 8, 9, 10, 11, 12, 13, 14, 15, 16, 17, 18, 19, 20, 21, 22, 23, 24, 25, 26, 27, 28, 29] hQe fun K E hK hE => ?_ | refine G_plan 16 [] [0, 1, 2, 3, 4, 5, 6, 7, 8, 9, 10, 11, 12, 13, 14, 15, 16, 17, 18] hQe fun K E hK hE => ?_ | refine G_plan 21 [([0, 1, 2, 3, 4, 5, 6, 7, 8, 9], 10, [[]])] [11] hQe fun K E hK hE => ?_
          | ((with_reducible refine W_cond (fun h => ?_) (fun h => ?_)) <;> (try (exfalso; first | assumption | omega)))
          | ((with_reducible first | refine G_region fun K E hK hE => ?_ | refine call_ret can26 (RsameRule_S _ _ (by assumption) _) ?_ | refine W_if ?_ | refine W_ifS ?_ | refine P_heads fun Kh hKh => ?_ | refine P_fin fun Kh hKh => ?_ | refine P_each fun Kb hKb => ?_ | refine W_and ?_) <;> (try simp (disch := first | assumption | omega) only [go_sem, seval, pgC, List.length_map, *]))
          | ((with_reducible refine W_fresh (fun b hb => ?_)); (repeat (obtain ⟨_, hb⟩ := hb)); (try simp (disch := first | assumption | omega) only [go_sem, seval, pgC, List.length_map, *]))
          | ((with_reducible refine W_app (fun o2 ho => ?_)); (try simp (disch := assumption) only [disown_set, disown_own, ownok_o, ownok_m, List.length_map, List.length_cons, List.length_nil, Nat.zero_add, pgC, List.length_map] at ho); (repeat (obtain ⟨_, ho⟩ := ho)); (try simp (disch := first | assumption | omega) only [go_sem, seval, pgC, List.length_map, *]))
          | ((with_reducible refine W_gd (fun h => ?_) (fun h => ?_)) <;> (try (exfalso; first | assumption | omega)) <;> (try simp (disch := first | assumption | omega) only [go_sem, seval, pgC, List.length_map, *]))))
        all_goals (first | refine G_ret hQ (by simp (disch := first | assumption | omega) only [res12, go_sem, seval, *] <;> rfl) ?_ | refine G_norm hQ (by simp (disch := first | assumption | omega) only [res12, go_sem, seval, *] <;> rfl) ?_ | refine G_pan hQ ?_)
        all_goals (refine ⟨_, _, Wk.of_eq ?_, ?_, rfl, rfl⟩)
        all_goals first | rw [HNE.out] | ((try dsimp only); (repeat (first | exact Fg.refl _ | exact Fg.own (by assumption) | (refine Fg.set ?_ _ _) | (refine Fg.setA ?_ (by first | assumption | (simp (disch := assumption) only [own_rd, St.set, if_false, if_true, *]; done))) )); done)
      · have m2 : ¬ ((ac.length : Int) = (bc.length : Int)) := by omega
        clear h0 h1 h2
        (repeat' (first
          | with_reducible first | refine L_seq ?_ | refine L_blk ?_ | refine L_skip ?_ | refine L_endblk ?_ | refine L_ret ?_ | refine L_exit ?_ | refine X_code ?_ | refine X_back ?_ | refine X_blk ?_ | refine X_past (by decide) ?_ | refine L_back ?_
          | ((with_reducible refine Kof.use hK ?_); clear hK hE K E)
          | ((with_reducible refine Eof.use hE ?_); (try clear hK hE K E))
          | ((with_reducible refine Kof.use hKh ?_); clear hKh Kh)
          | ((with_reducible refine Kof.use hKb (P_next ?_)); clear hKb Kb)
          | with_reducible first | refine G_plan 6 [] [0, 1, 2, 3, 4, 5, 6, 7, 8, 9, 10] hQe fun K E hK hE => ?_ | refine G_plan 11 [] [0, 1, 2, 3, 4, 5, 6, 7, 8, 9, 10, 11, 12, 13, 14, 15, 16, 17, 18, 19, 20, 21, 22, 23, 24, 25, 26, 27, 28, 29] hQe fun K E hK hE => ?_ | refine G_plan 16 [] [0, 1, 2, 3, 4, 5, 6, 7, 8, 9, 10, 11, 12, 13, 14, 15, 16, 17, 18] hQe fun K E hK hE => ?_ | refine G_plan 21 [([0, 1, 2, 3, 4, 5, 6, 7, 8, 9], 10, [[]])] [11] hQe fun K E hK hE => ?_
          | ((with_reducible refine W_cond (fun h => ?_) (fun h => ?_)) <;> (try (exfalso; first | assumption | omega)))
          | ((with_reducible first | refine G_region fun K E hK hE => ?_ | refine call_ret can26 (RsameRule_S _ _ (by assumption) _) ?_ | refine W_if ?_ | refine W_ifS ?_ | refine P_heads fun Kh hKh => ?_ | refine P_fin fun Kh hKh => ?_ | refine P_each fun Kb hKb => ?_ | refine W_and ?_) <;> (try simp (disch := first | assumption | omega) only [go_sem, seval, pgC, List.length_map, *]))
          | ((with_reducible refine W_fresh (fun b hb => ?_)); (repeat (obtain ⟨_, hb⟩ := hb)); (try simp (disch := first | assumption | omega) only [go_sem, seval, pgC, List.length_map, *]))
          | ((with_reducible refine W_app (fun o2 ho => ?_)); (try simp (disch := assumption) only [disown_set, disown_own, ownok_o, ownok_m, List.length_map, List.length_cons, List.length_nil, Nat.zero_add, pgC, List.length_map] at ho); (repeat (obtain ⟨_, ho⟩ := ho)); (try simp (disch := first | assumption | omega) only [go_sem, seval, pgC, List.length_map, *]))
          | ((with_reducible refine W_gd (fun h => ?_) (fun h => ?_)) <;> (try (exfalso; first | assumption | omega)) <;> (try simp (disch := first | assumption | omega) only [go_sem, seval, pgC, List.length_map, *]))))
        all_goals (first | refine G_ret hQ (by simp (disch := first | assumption | omega) only [res12, go_sem, seval, *] <;> rfl) ?_ | refine G_norm hQ (by simp (disch := first | assumption | omega) only [res12, go_sem, seval, *] <;> rfl) ?_ | refine G_pan hQ ?_)
        all_goals (refine ⟨_, _, Wk.of_eq ?_, ?_, rfl, rfl⟩)
        all_goals first | rw [HNE.out] | ((try dsimp only); (repeat (first | exact Fg.refl _ | exact Fg.own (by assumption) | (refine Fg.set ?_ _ _) | (refine Fg.setA ?_ (by first | assumption | (simp (disch := assumption) only [own_rd, St.set, if_false, if_true, *]; done))) )); done)
    · have m1 : ¬ ((ad.length : Int) = (bd.length : Int)) := by omega
      clear h0 h1
      (repeat' (first
        | with_reducible first | refine L_seq ?_ | refine L_blk ?_ | refine L_skip ?_ | refine L_endblk ?_ | refine L_ret ?_ | refine L_exit ?_ | refine X_code ?_ | refine X_back ?_ | refine X_blk ?_ | refine X_past (by decide) ?_ | refine L_back ?_
        | ((with_reducible refine Kof.use hK ?_); clear hK hE K E)
        | ((with_reducible refine Eof.use hE ?_); (try clear hK hE K E))
        | ((with_reducible refine Kof.use hKh ?_); clear hKh Kh)
        | ((with_reducible refine Kof.use hKb (P_next ?_)); clear hKb Kb)
        | with_reducible first | refine G_plan 6 [] [0, 1, 2, 3, 4, 5, 6, 7, 8, 9, 10] hQe fun K E hK hE => ?_ | refine G_plan 11 [] [0, 1, 2, 3, 4, 5, 6, 7, 8, 9, 10, 11, 12, 13, 14, 15, 16, 17, 18, 19, 20, 21, 22, 23, 24, 25, 26, 27, 28, 29] hQe fun K E hK hE => ?_ | refine G_plan 16 [] [0, 1, 2, 3, 4, 5, 6, 7, 8, 9, 10, 11, 12, 13, 14, 15, 16, 17, 18] hQe fun K E hK hE => ?_ | refine G_plan 21 [([0, 1, 2, 3, 4, 5, 6, 7, 8, 9], 10, [[]])] [11] hQe fun K E hK hE => ?_
        | ((with_reducible refine W_cond (fun h => ?_) (fun h => ?_)) <;> (try (exfalso; first | assumption | omega)))
        | ((with_reducible first | refine G_region fun K E hK hE => ?_ | refine call_ret can26 (RsameRule_S _ _ (by assumption) _) ?_ | refine W_if ?_ | refine W_ifS ?_ | refine P_heads fun Kh hKh => ?_ | refine P_fin fun Kh hKh => ?_ | refine P_each fun Kb hKb => ?_ | refine W_and ?_) <;> (try simp (disch := first | assumption | omega) only [go_sem, seval, pgC, List.length_map, *]))
        | ((with_reducible refine W_fresh (fun b hb => ?_)); (repeat (obtain ⟨_, hb⟩ := hb)); (try simp (disch := first | assumption | omega) only [go_sem, seval, pgC, List.length_map, *]))
        | ((with_reducible refine W_app (fun o2 ho => ?_)); (try simp (disch := assumption) only [disown_set, disown_own, ownok_o, ownok_m, List.length_map, List.length_cons, List.length_nil, Nat.zero_add, pgC, List.length_map] at ho); (repeat (obtain ⟨_, ho⟩ := ho)); (try simp (disch := first | assumption | omega) only [go_sem, seval, pgC, List.length_map, *]))
        | ((with_reducible refine W_gd (fun h => ?_) (fun h => ?_)) <;> (try (exfalso; first | assumption | omega)) <;> (try simp (disch := first | assumption | omega) only [go_sem, seval, pgC, List.length_map, *]))))
      all_goals (first | refine G_ret hQ (by simp (disch := first | assumption | omega) only [res12, go_sem, seval, *] <;> rfl) ?_ | refine G_norm hQ (by simp (disch := first | assumption | omega) only [res12, go_sem, seval, *] <;> rfl) ?_ | refine G_pan hQ ?_)
      all_goals (refine ⟨_, _, Wk.of_eq ?_, ?_, rfl, rfl⟩)
      all_goals first | rw [HNE.out] | ((try dsimp only); (repeat (first | exact Fg.refl _ | exact Fg.own (by assumption) | (refine Fg.set ?_ _ _) | (refine Fg.setA ?_ (by first | assumption | (simp (disch := assumption) only [own_rd, St.set, if_false, if_true, *]; done))) )); done)
end Go.Proofs.YtbfgdblebepgcaaDoor
set_option maxRecDepth 100000
namespace Go.Proofs.YtbfgdblebepgcaaDoor
open Go.RowKit

theorem min_anyU {k : IntKind} {a b : Int} : vminmax false (.int k a) (.int k b) = some (.int k (if b < a then b else a)) := by
  simp only [vminmax, if_true, Bool.false_eq_true, if_false]
set_option maxHeartbeats 2000000 in
theorem Ufew_S (a : Atm) (o0 : Own) (ha : a.ts.length ≤ 140737488355328) (s : St) : SCalls Tryd.prog 14 [.agg [.bool a.not, .str a.rel, .lst (a.ts.map trmC) o0]] s fun w u => ∃ r : Int, w = .ret (.int .i64 r) ∧ u = s ∧ True := by
  obtain ⟨an, ar, ats⟩ := a
  simp only at ha ⊢
  refine G_enter Tryd.func14 rfl Tryd.ntmps14 rfl fun Q hQ hQe => ?_
  (repeat' (first
    | with_reducible first | refine L_seq ?_ | refine L_blk ?_ | refine L_skip ?_ | refine L_endblk ?_ | refine L_ret ?_ | refine L_exit ?_ | refine X_code ?_ | refine X_back ?_ | refine X_blk ?_ | refine X_past (by decide) ?_ | refine L_back ?_
    | ((with_reducible refine Kof.use hK ?_); clear hK hE K E)
    | ((with_reducible refine Eof.use hE ?_); (try clear hK hE K E))
    | ((with_reducible refine W_cond (fun h => ?_) (fun h => ?_)) <;> (try (exfalso; first | assumption | omega)))
    | ((with_reducible first | refine G_region fun K E hK hE => ?_ | refine W_if ?_ | refine W_ifS ?_ | refine W_and ?_) <;> (try simp (disch := first | assumption | omega) only [go_sem, seval, List.length_map, min_anyU, *]))
    | ((with_reducible refine W_fresh (fun b hb => ?_)); (repeat (obtain ⟨_, hb⟩ := hb)); (try simp (disch := first | assumption | omega) only [go_sem, seval, List.length_map, min_anyU, *]))
    | ((with_reducible refine W_app (fun o2 ho => ?_)); (try simp (disch := assumption) only [disown_set, disown_own, ownok_o, ownok_m, List.length_map, List.length_cons, List.length_nil, Nat.zero_add, List.length_map, min_anyU] at ho); (repeat (obtain ⟨_, ho⟩ := ho)); (try simp (disch := first | assumption | omega) only [go_sem, seval, List.length_map, min_anyU, *]))
    | ((with_reducible refine W_gd (fun h => ?_) (fun h => ?_)) <;> (try (exfalso; first | assumption | omega)) <;> (try simp (disch := first | assumption | omega) only [go_sem, seval, List.length_map, min_anyU, *]))))
  · (first | refine G_ret hQ (by simp (disch := first | assumption | omega) only [res14, go_sem, seval, *] <;> rfl) ?_ | refine G_norm hQ (by simp (disch := first | assumption | omega) only [res14, go_sem, seval, *] <;> rfl) ?_ | refine G_pan hQ ?_)
    exact ⟨_, _, Wk.refl _, by ((try dsimp only); (repeat (first | exact Fg.refl _ | exact Fg.own (by assumption) | (refine Fg.set ?_ _ _) | (refine Fg.setA ?_ (by first | assumption | (simp (disch := assumption) only [own_rd, St.set, if_false, if_true, *]; done))) )); done), _, rfl, rfl, trivial⟩
  all_goals
    obtain ⟨bx, hbx⟩ : ∃ z, z = b := ⟨_, rfl⟩
    subst hbx
    refine G_loop (fun m env s' => ∃ (i : Nat) (n : Int), i ≤ ats.length ∧ m + i = ats.length ∧ s' = s.set bx (.obj 49 [.bool an, .str ar, .lst (ats.map trmC) o0]) ∧
      env 1 = .ptr bx 0 ∧ env 3 = .int .i64 n ∧ env 4 = .int .i64 i) ats.length ⟨_, Fg.refl _, 0, _, by omega, by omega, rfl, by ((try simp (disch := first | assumption | omega) only [go_sem, seval, *]) <;> first | rfl | omega), by ((try simp (disch := first | assumption | omega) only [go_sem, seval, *]) <;> rfl), by ((try simp (disch := first | assumption | omega) only [go_sem, seval, *]) <;> first | rfl | omega)⟩ ?_
    rintro m env s' ⟨i, n, hi, hm, rfl, e1, e3, e4⟩
    by_cases hlt : i < ats.length
    · obtain ⟨x, hx⟩ := uget hlt
      have hsx := trmC_at hx
      clear hx
      obtain ⟨xv, xn, xk⟩ := x
      (repeat' (first
        | with_reducible first | refine L_seq ?_ | refine L_blk ?_ | refine L_skip ?_ | refine L_endblk ?_ | refine L_ret ?_ | refine L_exit ?_ | refine X_code ?_ | refine X_back ?_ | refine X_blk ?_ | refine X_past (by decide) ?_ | refine L_back ?_
        | ((with_reducible refine Kof.use hK ?_); clear hK hE K E)
        | ((with_reducible refine Eof.use hE ?_); (try clear hK hE K E))
        | ((with_reducible refine W_cond (fun h => ?_) (fun h => ?_)) <;> (try (exfalso; first | assumption | omega)))
        | ((with_reducible first | refine G_region fun K E hK hE => ?_ | refine W_if ?_ | refine W_ifS ?_ | refine W_and ?_) <;> (try simp (disch := first | assumption | omega) only [go_sem, seval, List.length_map, hsx, trmC, min_anyU, *]))
        | ((with_reducible refine W_fresh (fun b hb => ?_)); (repeat (obtain ⟨_, hb⟩ := hb)); (try simp (disch := first | assumption | omega) only [go_sem, seval, List.length_map, hsx, trmC, min_anyU, *]))
        | ((with_reducible refine W_app (fun o2 ho => ?_)); (try simp (disch := assumption) only [disown_set, disown_own, ownok_o, ownok_m, List.length_map, List.length_cons, List.length_nil, Nat.zero_add, List.length_map, hsx, trmC, min_anyU] at ho); (repeat (obtain ⟨_, ho⟩ := ho)); (try simp (disch := first | assumption | omega) only [go_sem, seval, List.length_map, hsx, trmC, min_anyU, *]))
        | ((with_reducible refine W_gd (fun h => ?_) (fun h => ?_)) <;> (try (exfalso; first | assumption | omega)) <;> (try simp (disch := first | assumption | omega) only [go_sem, seval, List.length_map, hsx, trmC, min_anyU, *]))))
      all_goals exact ⟨_, by ((try dsimp only); (repeat (first | exact Fg.refl _ | exact Fg.own (by assumption) | (refine Fg.set ?_ _ _) | (refine Fg.setA ?_ (by first | assumption | (simp (disch := assumption) only [own_rd, St.set, if_false, if_true, *]; done))) )); done), m - 1, by omega, i + 1, _, by omega, by omega, rfl, by ((try simp (disch := first | assumption | omega) only [go_sem, seval, *]) <;> first | rfl | omega), by ((try simp (disch := first | assumption | omega) only [go_sem, seval, *]) <;> rfl), by ((try simp (disch := first | assumption | omega) only [go_sem, seval, *]) <;> first | rfl | omega)⟩
    · (repeat' (first
   | with_reducible first | refine L_seq ?_ | refine L_blk ?_ | refine L_skip ?_ | refine L_endblk ?_ | refine L_ret ?_ | refine L_exit ?_ | refine X_code ?_ | refine X_back ?_ | refine X_blk ?_ | refine X_past (by decide) ?_ | refine L_back ?_
   | ((with_reducible refine Kof.use hK ?_); clear hK hE K E)
   | ((with_reducible refine Eof.use hE ?_); (try clear hK hE K E))
   | ((with_reducible refine W_cond (fun h => ?_) (fun h => ?_)) <;> (try (exfalso; first | assumption | omega)))
   | ((with_reducible first | refine G_region fun K E hK hE => ?_ | refine W_if ?_ | refine W_ifS ?_ | refine W_and ?_) <;> (try simp (disch := first | assumption | omega) only [go_sem, seval, List.length_map, *]))
   | ((with_reducible refine W_fresh (fun b hb => ?_)); (repeat (obtain ⟨_, hb⟩ := hb)); (try simp (disch := first | assumption | omega) only [go_sem, seval, List.length_map, *]))
   | ((with_reducible refine W_app (fun o2 ho => ?_)); (try simp (disch := assumption) only [disown_set, disown_own, ownok_o, ownok_m, List.length_map, List.length_cons, List.length_nil, Nat.zero_add, List.length_map] at ho); (repeat (obtain ⟨_, ho⟩ := ho)); (try simp (disch := first | assumption | omega) only [go_sem, seval, List.length_map, *]))
   | ((with_reducible refine W_gd (fun h => ?_) (fun h => ?_)) <;> (try (exfalso; first | assumption | omega)) <;> (try simp (disch := first | assumption | omega) only [go_sem, seval, List.length_map, *]))))
      all_goals (first | refine G_ret hQ (by simp (disch := first | assumption | omega) only [res14, go_sem, seval, *] <;> rfl) ?_ | refine G_norm hQ (by simp (disch := first | assumption | omega) only [res14, go_sem, seval, *] <;> rfl) ?_ | refine G_pan hQ ?_)
      all_goals exact ⟨_, _, Wk.refl _, by ((try dsimp only); (repeat (first | exact Fg.refl _ | exact Fg.own (by assumption) | (refine Fg.set ?_ _ _) | (refine Fg.setA ?_ (by first | assumption | (simp (disch := assumption) only [own_rd, St.set, if_false, if_true, *]; done))) )); done), _, rfl, rfl, trivial⟩
set_option maxHeartbeats 4000000 in
theorem UFew_S (a : Pgm) (ha : PgmOk a) (s : St) : SCalls Tryd.prog 7 [.agg (pgC a)] s fun w u => ∃ r : Bool, w = .ret (.bool r) ∧ u = s ∧ True := by
  obtain ⟨ad, ac, ar⟩ := a
  obtain ⟨hd, hc, hr, _, hdc, hrr⟩ := ha
  simp only at hd hc hr hdc hrr
  refine G_enter Tryd.func7 rfl Tryd.ntmps7 rfl fun Q hQ hQe => ?_
  (repeat' (first
    | with_reducible first | refine L_seq ?_ | refine L_blk ?_ | refine L_skip ?_ | refine L_endblk ?_ | refine L_ret ?_ | refine L_exit ?_ | refine X_code ?_ | refine X_back ?_ | refine X_blk ?_ | refine X_past (by decide) ?_ | refine L_back ?_
    | ((with_reducible refine Kof.use hK ?_); clear hK hE K E)
    | ((with_reducible refine Eof.use hE ?_); (try clear hK hE K E))
    | ((with_reducible refine W_cond (fun h => ?_) (fun h => ?_)) <;> (try (exfalso; first | assumption | omega)))
    | ((with_reducible first | refine G_region fun K E hK hE => ?_ | refine W_if ?_ | refine W_ifS ?_ | refine W_and ?_) <;> (try simp (disch := first | assumption | omega) only [go_sem, seval, pgC, List.length_map, *]))
    | ((with_reducible refine call_ex can14 (Ufew_S _ _ (by assumption) _) (fun a h => ?_)); (try simp (disch := first | assumption | omega) only [go_sem, seval, pgC, List.length_map, *]))
    | ((with_reducible refine W_fresh (fun b hb => ?_)); (repeat (obtain ⟨_, hb⟩ := hb)); (try simp (disch := first | assumption | omega) only [go_sem, seval, pgC, List.length_map, *]))
    | ((with_reducible refine W_app (fun o2 ho => ?_)); (try simp (disch := assumption) only [disown_set, disown_own, ownok_o, ownok_m, List.length_map, List.length_cons, List.length_nil, Nat.zero_add, pgC, List.length_map] at ho); (repeat (obtain ⟨_, ho⟩ := ho)); (try simp (disch := first | assumption | omega) only [go_sem, seval, pgC, List.length_map, *]))
    | ((with_reducible refine W_gd (fun h => ?_) (fun h => ?_)) <;> (try (exfalso; first | assumption | omega)) <;> (try simp (disch := first | assumption | omega) only [go_sem, seval, pgC, List.length_map, *]))))
  all_goals first
    | ((first | refine G_ret hQ (by simp (disch := first | assumption | omega) only [res7, go_sem, seval, *] <;> rfl) ?_ | refine G_norm hQ (by simp (disch := first | assumption | omega) only [res7, go_sem, seval, *] <;> rfl) ?_ | refine G_pan hQ ?_)
       exact ⟨_, _, Wk.refl _, by ((try dsimp only); (repeat (first | exact Fg.refl _ | exact Fg.own (by assumption) | (refine Fg.set ?_ _ _) | (refine Fg.setA ?_ (by first | assumption | (simp (disch := assumption) only [own_rd, St.set, if_false, if_true, *]; done))) )); done), _, rfl, rfl, trivial⟩)
    | skip
  obtain ⟨b2, hbx⟩ : ∃ z, z = b := ⟨_, rfl⟩
  subst hbx
  have h2 : (s.set b2 (.obj 26 [.lst (ad.map dmC) .no, .lst (ac.map dclC) .no, .lst (ar.map rulC) .no])) b2 = .obj 26 [.lst (ad.map dmC) .no, .lst (ac.map dclC) .no, .lst (ar.map rulC) .no] := St.set_same _ _ _
  have hF : Fg (s.set b2 (.obj 26 [.lst (ad.map dmC) .no, .lst (ac.map dclC) .no, .lst (ar.map rulC) .no])) s := by ((try dsimp only); (repeat (first | exact Fg.refl _ | exact Fg.own (by assumption) | (refine Fg.set ?_ _ _) | (refine Fg.setA ?_ (by first | assumption | (simp (disch := assumption) only [own_rd, St.set, if_false, if_true, *]; done))) )); done)
  generalize (s.set b2 (.obj 26 [.lst (ad.map dmC) .no, .lst (ac.map dclC) .no, .lst (ar.map rulC) .no])) = S at *
  have HF := Lib.hid hF
  clear hF hb
  refine G_loop (fun m env s' => ∃ (i : Nat) (n : Int), i ≤ ad.length ∧ m + i = ad.length ∧ s' = S ∧ env 1 = .ptr b2 0 ∧ env 3 = .int .i64 n ∧ env 4 = .int .i64 i) ad.length ⟨_, Fg.refl _, 0, _, by omega, by omega, rfl, by ((try simp (disch := first | assumption | omega) only [go_sem, seval, *]) <;> first | rfl | omega), by ((try simp (disch := first | assumption | omega) only [go_sem, seval, *]) <;> rfl), by ((try simp (disch := first | assumption | omega) only [go_sem, seval, *]) <;> first | rfl | omega)⟩ ?_
  rintro m env s' ⟨i, n, hi, hm, rfl, e1, e3, e4⟩
  by_cases hlt : i < ad.length
  · obtain ⟨x, hx⟩ := uget hlt
    have hsx := dmC_at hx
    clear hx
    obtain ⟨xn, xk⟩ := x
    (repeat' (first
      | with_reducible first | refine L_seq ?_ | refine L_blk ?_ | refine L_skip ?_ | refine L_endblk ?_ | refine L_ret ?_ | refine L_exit ?_ | refine X_code ?_ | refine X_back ?_ | refine X_blk ?_ | refine X_past (by decide) ?_ | refine L_back ?_
      | ((with_reducible refine Kof.use hK ?_); clear hK hE K E)
      | ((with_reducible refine Eof.use hE ?_); (try clear hK hE K E))
      | ((with_reducible refine W_cond (fun h => ?_) (fun h => ?_)) <;> (try (exfalso; first | assumption | omega)))
      | ((with_reducible first | refine G_region fun K E hK hE => ?_ | refine W_if ?_ | refine W_ifS ?_ | refine W_and ?_) <;> (try simp (disch := first | assumption | omega) only [go_sem, seval, List.length_map, hsx, dmC, min_anyU, *]))
      | ((with_reducible refine call_ex can14 (Ufew_S _ _ (by assumption) _) (fun a h => ?_)); (try simp (disch := first | assumption | omega) only [go_sem, seval, List.length_map, hsx, dmC, min_anyU, *]))
      | ((with_reducible refine W_fresh (fun b hb => ?_)); (repeat (obtain ⟨_, hb⟩ := hb)); (try simp (disch := first | assumption | omega) only [go_sem, seval, List.length_map, hsx, dmC, min_anyU, *]))
      | ((with_reducible refine W_app (fun o2 ho => ?_)); (try simp (disch := assumption) only [disown_set, disown_own, ownok_o, ownok_m, List.length_map, List.length_cons, List.length_nil, Nat.zero_add, List.length_map, hsx, dmC, min_anyU] at ho); (repeat (obtain ⟨_, ho⟩ := ho)); (try simp (disch := first | assumption | omega) only [go_sem, seval, List.length_map, hsx, dmC, min_anyU, *]))
      | ((with_reducible refine W_gd (fun h => ?_) (fun h => ?_)) <;> (try (exfalso; first | assumption | omega)) <;> (try simp (disch := first | assumption | omega) only [go_sem, seval, List.length_map, hsx, dmC, min_anyU, *]))))
    all_goals exact ⟨_, by ((try dsimp only); (repeat (first | exact Fg.refl _ | exact Fg.own (by assumption) | (refine Fg.set ?_ _ _) | (refine Fg.setA ?_ (by first | assumption | (simp (disch := assumption) only [own_rd, St.set, if_false, if_true, *]; done))) )); done), m - 1, by omega, i + 1, _, by omega, by omega, rfl, by ((try simp (disch := first | assumption | omega) only [go_sem, seval, *]) <;> first | rfl | omega), by ((try simp (disch := first | assumption | omega) only [go_sem, seval, *]) <;> rfl), by ((try simp (disch := first | assumption | omega) only [go_sem, seval, *]) <;> first | rfl | omega)⟩
  · (repeat' (first
   | with_reducible first | refine L_seq ?_ | refine L_blk ?_ | refine L_skip ?_ | refine L_endblk ?_ | refine L_ret ?_ | refine L_exit ?_ | refine X_code ?_ | refine X_back ?_ | refine X_blk ?_ | refine X_past (by decide) ?_ | refine L_back ?_
   | ((with_reducible refine Kof.use hK ?_); clear hK hE K E)
   | ((with_reducible refine Eof.use hE ?_); (try clear hK hE K E))
   | ((with_reducible refine W_cond (fun h => ?_) (fun h => ?_)) <;> (try (exfalso; first | assumption | omega)))
   | ((with_reducible first | refine G_region fun K E hK hE => ?_ | refine W_if ?_ | refine W_ifS ?_ | refine W_and ?_) <;> (try simp (disch := first | assumption | omega) only [go_sem, seval, List.length_map, *]))
   | ((with_reducible refine call_ex can14 (Ufew_S _ _ (by assumption) _) (fun a h => ?_)); (try simp (disch := first | assumption | omega) only [go_sem, seval, List.length_map, *]))
   | ((with_reducible refine W_fresh (fun b hb => ?_)); (repeat (obtain ⟨_, hb⟩ := hb)); (try simp (disch := first | assumption | omega) only [go_sem, seval, List.length_map, *]))
   | ((with_reducible refine W_app (fun o2 ho => ?_)); (try simp (disch := assumption) only [disown_set, disown_own, ownok_o, ownok_m, List.length_map, List.length_cons, List.length_nil, Nat.zero_add, List.length_map] at ho); (repeat (obtain ⟨_, ho⟩ := ho)); (try simp (disch := first | assumption | omega) only [go_sem, seval, List.length_map, *]))
   | ((with_reducible refine W_gd (fun h => ?_) (fun h => ?_)) <;> (try (exfalso; first | assumption | omega)) <;> (try simp (disch := first | assumption | omega) only [go_sem, seval, List.length_map, *]))))
    clear e4 hlt hi hm h
    refine G_loop (fun m env s'' => ∃ (i : Nat) (n : Int), i ≤ ac.length ∧ m + i = ac.length ∧ s'' = s' ∧ env 1 = .ptr b2 0 ∧ env 3 = .int .i64 n ∧ env 5 = .int .i64 i) ac.length ⟨_, Fg.refl _, 0, _, by omega, by omega, rfl, by ((try simp (disch := first | assumption | omega) only [go_sem, seval, *]) <;> first | rfl | omega), by ((try simp (disch := first | assumption | omega) only [go_sem, seval, *]) <;> rfl), by ((try simp (disch := first | assumption | omega) only [go_sem, seval, *]) <;> first | rfl | omega)⟩ ?_
    clear e1 e3 env i m n
    rintro m env S ⟨i, n, hi, hm, rfl, e1, e3, e5⟩
    by_cases hlt : i < ac.length
    · obtain ⟨x, hx⟩ := uget hlt
      have hsx := dclC_at hx
      have hxo := (hdc x (List.mem_of_getElem? hx)).2.1
      clear hx
      obtain ⟨xn, xs⟩ := x
      simp only at hxo
      have hlx : (strs xs).length = xs.length := by simp [strs]
      (repeat' (first
        | with_reducible first | refine L_seq ?_ | refine L_blk ?_ | refine L_skip ?_ | refine L_endblk ?_ | refine L_ret ?_ | refine L_exit ?_ | refine X_code ?_ | refine X_back ?_ | refine X_blk ?_ | refine X_past (by decide) ?_ | refine L_back ?_
        | ((with_reducible refine Kof.use hK ?_); clear hK hE K E)
        | ((with_reducible refine Eof.use hE ?_); (try clear hK hE K E))
        | ((with_reducible refine W_cond (fun h => ?_) (fun h => ?_)) <;> (try (exfalso; first | assumption | omega)))
        | ((with_reducible first | refine G_region fun K E hK hE => ?_ | refine W_if ?_ | refine W_ifS ?_ | refine W_and ?_) <;> (try simp (disch := first | assumption | omega) only [go_sem, seval, List.length_map, hsx, dclC, hlx, min_anyU, *]))
        | ((with_reducible refine call_ex can14 (Ufew_S _ _ (by assumption) _) (fun a h => ?_)); (try simp (disch := first | assumption | omega) only [go_sem, seval, List.length_map, hsx, dclC, hlx, min_anyU, *]))
        | ((with_reducible refine W_fresh (fun b hb => ?_)); (repeat (obtain ⟨_, hb⟩ := hb)); (try simp (disch := first | assumption | omega) only [go_sem, seval, List.length_map, hsx, dclC, hlx, min_anyU, *]))
        | ((with_reducible refine W_app (fun o2 ho => ?_)); (try simp (disch := assumption) only [disown_set, disown_own, ownok_o, ownok_m, List.length_map, List.length_cons, List.length_nil, Nat.zero_add, List.length_map, hsx, dclC, hlx, min_anyU] at ho); (repeat (obtain ⟨_, ho⟩ := ho)); (try simp (disch := first | assumption | omega) only [go_sem, seval, List.length_map, hsx, dclC, hlx, min_anyU, *]))
        | ((with_reducible refine W_gd (fun h => ?_) (fun h => ?_)) <;> (try (exfalso; first | assumption | omega)) <;> (try simp (disch := first | assumption | omega) only [go_sem, seval, List.length_map, hsx, dclC, hlx, min_anyU, *]))))
      all_goals first
        | ((first | refine G_ret hQ (by simp (disch := first | assumption | omega) only [res7, go_sem, seval, *] <;> rfl) ?_ | refine G_norm hQ (by simp (disch := first | assumption | omega) only [res7, go_sem, seval, *] <;> rfl) ?_ | refine G_pan hQ ?_)
           exact ⟨_, _, Wk.refl _, HF.out, _, rfl, rfl, trivial⟩)
        | skip
      all_goals
        refine G_loop (fun m env s'' => ∃ (j : Nat) (n : Int), j ≤ xs.length ∧ m + j = xs.length ∧ s'' = S ∧ env 1 = .ptr b2 0 ∧ env 3 = .int .i64 n ∧ env 5 = .int .i64 i ∧ env 6 = .int .i64 j) xs.length ⟨_, Fg.refl _, 0, _, by omega, by omega, rfl, by ((try simp (disch := first | assumption | omega) only [go_sem, seval, *]) <;> first | rfl | omega), by ((try simp (disch := first | assumption | omega) only [go_sem, seval, *]) <;> rfl), by ((try simp (disch := first | assumption | omega) only [go_sem, seval, *]) <;> first | rfl | omega), by ((try simp (disch := first | assumption | omega) only [go_sem, seval, *]) <;> first | rfl | omega)⟩ ?_
        clear e1 e3 e5 env n
        rintro m2 env S2 ⟨j, n, hj, hm2, rfl, e1, e3, e5, e6⟩
        by_cases hlt2 : j < xs.length
        · obtain ⟨t, ht⟩ := uget hlt2
          have htx := strs_at ht
          clear ht
          (repeat' (first
            | with_reducible first | refine L_seq ?_ | refine L_blk ?_ | refine L_skip ?_ | refine L_endblk ?_ | refine L_ret ?_ | refine L_exit ?_ | refine X_code ?_ | refine X_back ?_ | refine X_blk ?_ | refine X_past (by decide) ?_ | refine L_back ?_
            | ((with_reducible refine Kof.use hK ?_); clear hK hE K E)
            | ((with_reducible refine Eof.use hE ?_); (try clear hK hE K E))
            | ((with_reducible refine W_cond (fun h => ?_) (fun h => ?_)) <;> (try (exfalso; first | assumption | omega)))
            | ((with_reducible first | refine G_region fun K E hK hE => ?_ | refine W_if ?_ | refine W_ifS ?_ | refine W_and ?_) <;> (try simp (disch := first | assumption | omega) only [go_sem, seval, List.length_map, hsx, dclC, hlx, htx, min_anyU, *]))
            | ((with_reducible refine call_ex can14 (Ufew_S _ _ (by assumption) _) (fun a h => ?_)); (try simp (disch := first | assumption | omega) only [go_sem, seval, List.length_map, hsx, dclC, hlx, htx, min_anyU, *]))
            | ((with_reducible refine W_fresh (fun b hb => ?_)); (repeat (obtain ⟨_, hb⟩ := hb)); (try simp (disch := first | assumption | omega) only [go_sem, seval, List.length_map, hsx, dclC, hlx, htx, min_anyU, *]))
            | ((with_reducible refine W_app (fun o2 ho => ?_)); (try simp (disch := assumption) only [disown_set, disown_own, ownok_o, ownok_m, List.length_map, List.length_cons, List.length_nil, Nat.zero_add, List.length_map, hsx, dclC, hlx, htx, min_anyU] at ho); (repeat (obtain ⟨_, ho⟩ := ho)); (try simp (disch := first | assumption | omega) only [go_sem, seval, List.length_map, hsx, dclC, hlx, htx, min_anyU, *]))
            | ((with_reducible refine W_gd (fun h => ?_) (fun h => ?_)) <;> (try (exfalso; first | assumption | omega)) <;> (try simp (disch := first | assumption | omega) only [go_sem, seval, List.length_map, hsx, dclC, hlx, htx, min_anyU, *]))))
          all_goals exact ⟨_, Fg.refl _, m2 - 1, by omega, j + 1, _, by omega, by omega, rfl, by ((try simp (disch := first | assumption | omega) only [go_sem, seval, *]) <;> first | rfl | omega), by ((try simp (disch := first | assumption | omega) only [go_sem, seval, *]) <;> rfl), by ((try simp (disch := first | assumption | omega) only [go_sem, seval, *]) <;> first | rfl | omega), by ((try simp (disch := first | assumption | omega) only [go_sem, seval, *]) <;> first | rfl | omega)⟩
        · (repeat' (first
   | with_reducible first | refine L_seq ?_ | refine L_blk ?_ | refine L_skip ?_ | refine L_endblk ?_ | refine L_ret ?_ | refine L_exit ?_ | refine X_code ?_ | refine X_back ?_ | refine X_blk ?_ | refine X_past (by decide) ?_ | refine L_back ?_
   | ((with_reducible refine Kof.use hK ?_); clear hK hE K E)
   | ((with_reducible refine Eof.use hE ?_); (try clear hK hE K E))
   | ((with_reducible refine W_cond (fun h => ?_) (fun h => ?_)) <;> (try (exfalso; first | assumption | omega)))
   | ((with_reducible first | refine G_region fun K E hK hE => ?_ | refine W_if ?_ | refine W_ifS ?_ | refine W_and ?_) <;> (try simp (disch := first | assumption | omega) only [go_sem, seval, List.length_map, hsx, dclC, hlx, *]))
   | ((with_reducible refine call_ex can14 (Ufew_S _ _ (by assumption) _) (fun a h => ?_)); (try simp (disch := first | assumption | omega) only [go_sem, seval, List.length_map, hsx, dclC, hlx, *]))
   | ((with_reducible refine W_fresh (fun b hb => ?_)); (repeat (obtain ⟨_, hb⟩ := hb)); (try simp (disch := first | assumption | omega) only [go_sem, seval, List.length_map, hsx, dclC, hlx, *]))
   | ((with_reducible refine W_app (fun o2 ho => ?_)); (try simp (disch := assumption) only [disown_set, disown_own, ownok_o, ownok_m, List.length_map, List.length_cons, List.length_nil, Nat.zero_add, List.length_map, hsx, dclC, hlx] at ho); (repeat (obtain ⟨_, ho⟩ := ho)); (try simp (disch := first | assumption | omega) only [go_sem, seval, List.length_map, hsx, dclC, hlx, *]))
   | ((with_reducible refine W_gd (fun h => ?_) (fun h => ?_)) <;> (try (exfalso; first | assumption | omega)) <;> (try simp (disch := first | assumption | omega) only [go_sem, seval, List.length_map, hsx, dclC, hlx, *]))))
          all_goals exact ⟨_, Fg.refl _, m - 1, by omega, i + 1, _, by omega, by omega, rfl, by ((try simp (disch := first | assumption | omega) only [go_sem, seval, *]) <;> first | rfl | omega), by ((try simp (disch := first | assumption | omega) only [go_sem, seval, *]) <;> rfl), by ((try simp (disch := first | assumption | omega) only [go_sem, seval, *]) <;> first | rfl | omega)⟩
    · (repeat' (first
   | with_reducible first | refine L_seq ?_ | refine L_blk ?_ | refine L_skip ?_ | refine L_endblk ?_ | refine L_ret ?_ | refine L_exit ?_ | refine X_code ?_ | refine X_back ?_ | refine X_blk ?_ | refine X_past (by decide) ?_ | refine L_back ?_
   | ((with_reducible refine Kof.use hK ?_); clear hK hE K E)
   | ((with_reducible refine Eof.use hE ?_); (try clear hK hE K E))
   | ((with_reducible refine W_cond (fun h => ?_) (fun h => ?_)) <;> (try (exfalso; first | assumption | omega)))
   | ((with_reducible first | refine G_region fun K E hK hE => ?_ | refine W_if ?_ | refine W_ifS ?_ | refine W_and ?_) <;> (try simp (disch := first | assumption | omega) only [go_sem, seval, List.length_map, *]))
   | ((with_reducible refine call_ex can14 (Ufew_S _ _ (by assumption) _) (fun a h => ?_)); (try simp (disch := first | assumption | omega) only [go_sem, seval, List.length_map, *]))
   | ((with_reducible refine W_fresh (fun b hb => ?_)); (repeat (obtain ⟨_, hb⟩ := hb)); (try simp (disch := first | assumption | omega) only [go_sem, seval, List.length_map, *]))
   | ((with_reducible refine W_app (fun o2 ho => ?_)); (try simp (disch := assumption) only [disown_set, disown_own, ownok_o, ownok_m, List.length_map, List.length_cons, List.length_nil, Nat.zero_add, List.length_map] at ho); (repeat (obtain ⟨_, ho⟩ := ho)); (try simp (disch := first | assumption | omega) only [go_sem, seval, List.length_map, *]))
   | ((with_reducible refine W_gd (fun h => ?_) (fun h => ?_)) <;> (try (exfalso; first | assumption | omega)) <;> (try simp (disch := first | assumption | omega) only [go_sem, seval, List.length_map, *]))))
      clear e5 hlt hi hm h
      refine G_loop (fun m env s'' => ∃ (i : Nat) (n : Int), i ≤ ar.length ∧ m + i = ar.length ∧ s'' = S ∧ env 1 = .ptr b2 0 ∧ env 3 = .int .i64 n ∧ env 7 = .int .i64 i) ar.length ⟨_, Fg.refl _, 0, _, by omega, by omega, rfl, by ((try simp (disch := first | assumption | omega) only [go_sem, seval, *]) <;> first | rfl | omega), by ((try simp (disch := first | assumption | omega) only [go_sem, seval, *]) <;> rfl), by ((try simp (disch := first | assumption | omega) only [go_sem, seval, *]) <;> first | rfl | omega)⟩ ?_
      clear e1 e3 env i m n
      rintro m env s' ⟨i, n, hi, hm, rfl, e1, e3, e7⟩
      by_cases hlt : i < ar.length
      · obtain ⟨x, hx⟩ := uget hlt
        have hsx := rulC_at hx
        obtain ⟨⟨_, hxh, _⟩, hxl, hxb⟩ := hrr x (List.mem_of_getElem? hx)
        clear hx
        obtain ⟨⟨xv, xn, xk⟩, xb⟩ := x
        simp only at hxl hxb hxh
        have w1 := fun s => Ufew_S ⟨xv, xn, xk⟩ .no hxh s
        simp only at w1
        (repeat' (first
          | with_reducible first | refine L_seq ?_ | refine L_blk ?_ | refine L_skip ?_ | refine L_endblk ?_ | refine L_ret ?_ | refine L_exit ?_ | refine X_code ?_ | refine X_back ?_ | refine X_blk ?_ | refine X_past (by decide) ?_ | refine L_back ?_
          | ((with_reducible refine Kof.use hK ?_); clear hK hE K E)
          | ((with_reducible refine Eof.use hE ?_); (try clear hK hE K E))
          | ((with_reducible refine W_cond (fun h => ?_) (fun h => ?_)) <;> (try (exfalso; first | assumption | omega)))
          | ((with_reducible first | refine G_region fun K E hK hE => ?_ | refine W_if ?_ | refine W_ifS ?_ | refine W_and ?_) <;> (try simp (disch := first | assumption | omega) only [go_sem, seval, List.length_map, hsx, rulC, *]))
          | ((with_reducible refine call_ex can14 (w1 _) (fun a h => ?_)); (try simp (disch := first | assumption | omega) only [go_sem, seval, List.length_map, hsx, rulC, *]))
          | ((with_reducible refine call_ex can14 (Ufew_S _ _ (by assumption) _) (fun a h => ?_)); (try simp (disch := first | assumption | omega) only [go_sem, seval, List.length_map, hsx, rulC, *]))
          | ((with_reducible refine W_fresh (fun b hb => ?_)); (repeat (obtain ⟨_, hb⟩ := hb)); (try simp (disch := first | assumption | omega) only [go_sem, seval, List.length_map, hsx, rulC, *]))
          | ((with_reducible refine W_app (fun o2 ho => ?_)); (try simp (disch := assumption) only [disown_set, disown_own, ownok_o, ownok_m, List.length_map, List.length_cons, List.length_nil, Nat.zero_add, List.length_map, hsx, rulC] at ho); (repeat (obtain ⟨_, ho⟩ := ho)); (try simp (disch := first | assumption | omega) only [go_sem, seval, List.length_map, hsx, rulC, *]))
          | ((with_reducible refine W_gd (fun h => ?_) (fun h => ?_)) <;> (try (exfalso; first | assumption | omega)) <;> (try simp (disch := first | assumption | omega) only [go_sem, seval, List.length_map, hsx, rulC, *]))))
        all_goals first
          | ((first | refine G_ret hQ (by simp (disch := first | assumption | omega) only [res7, go_sem, seval, *] <;> rfl) ?_ | refine G_norm hQ (by simp (disch := first | assumption | omega) only [res7, go_sem, seval, *] <;> rfl) ?_ | refine G_pan hQ ?_)
             exact ⟨_, _, Wk.refl _, HF.out, _, rfl, rfl, trivial⟩)
          | skip
        all_goals
          refine G_loop (fun m env s'' => ∃ (j : Nat) (n : Int), j ≤ xb.length ∧ m + j = xb.length ∧ s'' = s' ∧ env 1 = .ptr b2 0 ∧ env 3 = .int .i64 n ∧ env 7 = .int .i64 i ∧ env 8 = .int .i64 j) xb.length ⟨_, Fg.refl _, 0, _, by omega, by omega, rfl, by ((try simp (disch := first | assumption | omega) only [go_sem, seval, *]) <;> first | rfl | omega), by ((try simp (disch := first | assumption | omega) only [go_sem, seval, *]) <;> rfl), by ((try simp (disch := first | assumption | omega) only [go_sem, seval, *]) <;> first | rfl | omega), by ((try simp (disch := first | assumption | omega) only [go_sem, seval, *]) <;> first | rfl | omega)⟩ ?_
          clear e1 e3 e7 env n w1
          rintro m2 env S2 ⟨j, n, hj, hm2, rfl, e1, e3, e7, e8⟩
          by_cases hlt2 : j < xb.length
          · obtain ⟨t, ht⟩ := uget hlt2
            have htx := atmC_at ht
            have hto := (hxb t (List.mem_of_getElem? ht)).2.1
            clear ht
            obtain ⟨tv, tn, tk⟩ := t
            have w1 := fun s => Ufew_S ⟨tv, tn, tk⟩ .no hto s
            simp only at w1
            (repeat' (first
              | with_reducible first | refine L_seq ?_ | refine L_blk ?_ | refine L_skip ?_ | refine L_endblk ?_ | refine L_ret ?_ | refine L_exit ?_ | refine X_code ?_ | refine X_back ?_ | refine X_blk ?_ | refine X_past (by decide) ?_ | refine L_back ?_
              | ((with_reducible refine Kof.use hK ?_); clear hK hE K E)
              | ((with_reducible refine Eof.use hE ?_); (try clear hK hE K E))
              | ((with_reducible refine W_cond (fun h => ?_) (fun h => ?_)) <;> (try (exfalso; first | assumption | omega)))
              | ((with_reducible first | refine G_region fun K E hK hE => ?_ | refine W_if ?_ | refine W_ifS ?_ | refine W_and ?_) <;> (try simp (disch := first | assumption | omega) only [go_sem, seval, List.length_map, hsx, rulC, atmC, htx, *]))
              | ((with_reducible refine call_ex can14 (w1 _) (fun a h => ?_)); (try simp (disch := first | assumption | omega) only [go_sem, seval, List.length_map, hsx, rulC, atmC, htx, *]))
              | ((with_reducible refine call_ex can14 (Ufew_S _ _ (by assumption) _) (fun a h => ?_)); (try simp (disch := first | assumption | omega) only [go_sem, seval, List.length_map, hsx, rulC, atmC, htx, *]))
              | ((with_reducible refine W_fresh (fun b hb => ?_)); (repeat (obtain ⟨_, hb⟩ := hb)); (try simp (disch := first | assumption | omega) only [go_sem, seval, List.length_map, hsx, rulC, atmC, htx, *]))
              | ((with_reducible refine W_app (fun o2 ho => ?_)); (try simp (disch := assumption) only [disown_set, disown_own, ownok_o, ownok_m, List.length_map, List.length_cons, List.length_nil, Nat.zero_add, List.length_map, hsx, rulC, atmC, htx] at ho); (repeat (obtain ⟨_, ho⟩ := ho)); (try simp (disch := first | assumption | omega) only [go_sem, seval, List.length_map, hsx, rulC, atmC, htx, *]))
              | ((with_reducible refine W_gd (fun h => ?_) (fun h => ?_)) <;> (try (exfalso; first | assumption | omega)) <;> (try simp (disch := first | assumption | omega) only [go_sem, seval, List.length_map, hsx, rulC, atmC, htx, *]))))
            all_goals exact ⟨_, Fg.refl _, m2 - 1, by omega, j + 1, _, by omega, by omega, rfl, by ((try simp (disch := first | assumption | omega) only [go_sem, seval, *]) <;> first | rfl | omega), by ((try simp (disch := first | assumption | omega) only [go_sem, seval, *]) <;> rfl), by ((try simp (disch := first | assumption | omega) only [go_sem, seval, *]) <;> first | rfl | omega), by ((try simp (disch := first | assumption | omega) only [go_sem, seval, *]) <;> first | rfl | omega)⟩
          · (repeat' (first
   | with_reducible first | refine L_seq ?_ | refine L_blk ?_ | refine L_skip ?_ | refine L_endblk ?_ | refine L_ret ?_ | refine L_exit ?_ | refine X_code ?_ | refine X_back ?_ | refine X_blk ?_ | refine X_past (by decide) ?_ | refine L_back ?_
   | ((with_reducible refine Kof.use hK ?_); clear hK hE K E)
   | ((with_reducible refine Eof.use hE ?_); (try clear hK hE K E))
   | ((with_reducible refine W_cond (fun h => ?_) (fun h => ?_)) <;> (try (exfalso; first | assumption | omega)))
   | ((with_reducible first | refine G_region fun K E hK hE => ?_ | refine W_if ?_ | refine W_ifS ?_ | refine W_and ?_) <;> (try simp (disch := first | assumption | omega) only [go_sem, seval, List.length_map, hsx, rulC, *]))
   | ((with_reducible refine call_ex can14 (Ufew_S _ _ (by assumption) _) (fun a h => ?_)); (try simp (disch := first | assumption | omega) only [go_sem, seval, List.length_map, hsx, rulC, *]))
   | ((with_reducible refine W_fresh (fun b hb => ?_)); (repeat (obtain ⟨_, hb⟩ := hb)); (try simp (disch := first | assumption | omega) only [go_sem, seval, List.length_map, hsx, rulC, *]))
   | ((with_reducible refine W_app (fun o2 ho => ?_)); (try simp (disch := assumption) only [disown_set, disown_own, ownok_o, ownok_m, List.length_map, List.length_cons, List.length_nil, Nat.zero_add, List.length_map, hsx, rulC] at ho); (repeat (obtain ⟨_, ho⟩ := ho)); (try simp (disch := first | assumption | omega) only [go_sem, seval, List.length_map, hsx, rulC, *]))
   | ((with_reducible refine W_gd (fun h => ?_) (fun h => ?_)) <;> (try (exfalso; first | assumption | omega)) <;> (try simp (disch := first | assumption | omega) only [go_sem, seval, List.length_map, hsx, rulC, *]))))
            all_goals exact ⟨_, Fg.refl _, m - 1, by omega, i + 1, _, by omega, by omega, rfl, by ((try simp (disch := first | assumption | omega) only [go_sem, seval, *]) <;> first | rfl | omega), by ((try simp (disch := first | assumption | omega) only [go_sem, seval, *]) <;> rfl), by ((try simp (disch := first | assumption | omega) only [go_sem, seval, *]) <;> first | rfl | omega)⟩
      · (repeat' (first
   | with_reducible first | refine L_seq ?_ | refine L_blk ?_ | refine L_skip ?_ | refine L_endblk ?_ | refine L_ret ?_ | refine L_exit ?_ | refine X_code ?_ | refine X_back ?_ | refine X_blk ?_ | refine X_past (by decide) ?_ | refine L_back ?_
   | ((with_reducible refine Kof.use hK ?_); clear hK hE K E)
   | ((with_reducible refine Eof.use hE ?_); (try clear hK hE K E))
   | ((with_reducible refine W_cond (fun h => ?_) (fun h => ?_)) <;> (try (exfalso; first | assumption | omega)))
   | ((with_reducible first | refine G_region fun K E hK hE => ?_ | refine W_if ?_ | refine W_ifS ?_ | refine W_and ?_) <;> (try simp (disch := first | assumption | omega) only [go_sem, seval, List.length_map, *]))
   | ((with_reducible refine call_ex can14 (Ufew_S _ _ (by assumption) _) (fun a h => ?_)); (try simp (disch := first | assumption | omega) only [go_sem, seval, List.length_map, *]))
   | ((with_reducible refine W_fresh (fun b hb => ?_)); (repeat (obtain ⟨_, hb⟩ := hb)); (try simp (disch := first | assumption | omega) only [go_sem, seval, List.length_map, *]))
   | ((with_reducible refine W_app (fun o2 ho => ?_)); (try simp (disch := assumption) only [disown_set, disown_own, ownok_o, ownok_m, List.length_map, List.length_cons, List.length_nil, Nat.zero_add, List.length_map] at ho); (repeat (obtain ⟨_, ho⟩ := ho)); (try simp (disch := first | assumption | omega) only [go_sem, seval, List.length_map, *]))
   | ((with_reducible refine W_gd (fun h => ?_) (fun h => ?_)) <;> (try (exfalso; first | assumption | omega)) <;> (try simp (disch := first | assumption | omega) only [go_sem, seval, List.length_map, *]))))
        all_goals (first | refine G_ret hQ (by simp (disch := first | assumption | omega) only [res7, go_sem, seval, *] <;> rfl) ?_ | refine G_norm hQ (by simp (disch := first | assumption | omega) only [res7, go_sem, seval, *] <;> rfl) ?_ | refine G_pan hQ ?_)
        all_goals exact ⟨_, _, Wk.refl _, HF.out, _, rfl, rfl, trivial⟩
end Go.Proofs.YtbfgdblebepgcaaDoor
