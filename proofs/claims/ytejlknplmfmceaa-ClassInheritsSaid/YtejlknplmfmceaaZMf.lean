/- What is proved: That package osierref15's Few answers. Conditions: texts and lists of at most 2^47 parts. Conditions: those that stand in the statements. -/
import Derived.Test.YtejlknplmfmceaaZMaj
set_option linter.unusedSimpArgs false
set_option linter.unusedVariables false
set_option maxRecDepth 100000
namespace Go.Proofs.Ytejlknplmfmceaa
open Go.RowKit

theorem min_any {k : IntKind} {a b : Int} : vminmax false (.int k a) (.int k b) = some (.int k (if b < a then b else a)) := by
  simp only [vminmax, if_true, Bool.false_eq_true, if_false]
set_option maxHeartbeats 4000000 in
theorem bytes_F (f : Nat) : ∀ (dp : Nat), dp + f = 11 → ∀ (l : List Stm) (o0 : Own), StmsOk l → l.length ≤ 140737488355328 → ∀ s : St,
    SCalls Try.prog 13 [.lst (stsC l) o0, .int .i64 dp] s fun w u => ∃ r : Int, w = .ret (.int .i64 r) ∧ u = s ∧ True := by
  induction f with
  | zero =>
    intro dp hdp l o0 hl hll s
    have h9 : dp = 11 := by omega
    subst h9
    refine G_enter Try.func13 rfl Try.ntmps13 rfl fun Q hQ hQe => ?_
    (repeat' (first | refine Ctl ?_ | ((with_reducible refine Kof.use hK ?_); clear hK hE K E) | ((with_reducible refine Eof.use hE ?_); (try clear hK hE K E)) | ((with_reducible refine Kof.use hKh ?_); clear hKh Kh) | ((with_reducible refine Kof.use hKb (P_next ?_)); clear hKb Kb) | (with_reducible refine G_plan 13 [([0, 1, 2, 3, 4, 7, 8, 9, 10], 5, [[0, 7, 8, 9, 10]]), ([6], 11, [[6], [0]])] [12, 13] hQe fun K E hK hE => ?_) | ((with_reducible refine W_cond (fun h => ?_) (fun h => ?_)) <;> (try (exfalso; first | assumption | omega))) | ((first | (with_reducible first | refine G_region fun K E hK hE => ?_ | refine W_if ?_ | refine W_ifS ?_ | refine P_heads fun Kh hKh => ?_ | refine P_fin fun Kh hKh => ?_ | refine P_each fun Kb hKb => ?_ | refine W_and ?_) | ((with_reducible refine W_fresh (fun b hb => ?_)); (repeat (obtain ⟨_, hb⟩ := hb))) | ((with_reducible refine W_gd (fun h => ?_) (fun h => ?_)) <;> (try (exfalso; first | assumption | omega)))) <;> (try simp (disch := first | assumption | omega) only [go_sem, seval, *]))))
    all_goals (first | refine W_ret res13 hQ ?_ | refine W_norm res13 hQ ?_ | refine G_pan hQ ?_)
    exact ⟨_, _, Wk.refl _, Fg.refl _, 1048576, rfl, rfl, trivial⟩
  | succ f ih =>
    intro dp hdp l o0 hl hll s
    replace ih := ih (dp + 1) (by omega)
    refine G_enter Try.func13 rfl Try.ntmps13 rfl fun Q hQ hQe => ?_
    (repeat' (first | refine Ctl ?_ | ((with_reducible refine Kof.use hK ?_); clear hK hE K E) | ((with_reducible refine Eof.use hE ?_); (try clear hK hE K E)) | ((with_reducible refine Kof.use hKh ?_); clear hKh Kh) | ((with_reducible refine Kof.use hKb (P_next ?_)); clear hKb Kb) | (with_reducible refine G_plan 13 [([0, 1, 2, 3, 4, 7, 8, 9, 10], 5, [[0, 7, 8, 9, 10]]), ([6], 11, [[6], [0]])] [12, 13] hQe fun K E hK hE => ?_) | ((with_reducible refine W_cond (fun h => ?_) (fun h => ?_)) <;> (try (exfalso; first | assumption | omega))) | ((first | (with_reducible first | refine G_region fun K E hK hE => ?_ | refine W_if ?_ | refine W_ifS ?_ | refine P_heads fun Kh hKh => ?_ | refine P_fin fun Kh hKh => ?_ | refine P_each fun Kb hKb => ?_ | refine W_and ?_) | ((with_reducible refine W_fresh (fun b hb => ?_)); (repeat (obtain ⟨_, hb⟩ := hb))) | ((with_reducible refine W_gd (fun h => ?_) (fun h => ?_)) <;> (try (exfalso; first | assumption | omega)))) <;> (try simp (disch := first | assumption | omega) only [go_sem, seval, stsC_len, *]))))
    refine G_loop (fun m env s' => ∃ (i : Nat) (n : Int), i ≤ l.length ∧ m + i = l.length ∧ s' = s ∧ env 0 = .lst (stsC l) o0 ∧ env 1 = .int .i64 dp ∧ env 5 = .int .i64 n ∧ env 6 = .int .i64 i) l.length
      ⟨_, Fg.refl _, 0, 0, by omega, by omega, rfl, z_sl, z_sl, z_sl, z_sl⟩ ?_
    rintro m env s' ⟨i, n, hi, hm, rfl, e0, e1, e5, e6⟩
    by_cases hlt : i < l.length
    · obtain ⟨x, hx⟩ := list_get hlt
      have hxo := hl.get hx
      have hsx := stsC_at hx
      obtain ⟨k, d, sr, c, mm, ar, o, t⟩ := x
      simp only [StmOk, TxOk] at hxo
      obtain ⟨_, ⟨har, _⟩, ⟨ho1, ho2⟩, ⟨ht1, ht2⟩⟩ := hxo
      have hsl : (strs ar).length = ar.length := by simp [strs]
      clear hx
      (repeat' (first | refine Ctl ?_ | ((with_reducible refine Kof.use hK ?_); clear hK hE K E) | ((with_reducible refine Eof.use hE ?_); (try clear hK hE K E)) | ((with_reducible refine Kof.use hKh ?_); clear hKh Kh) | ((with_reducible refine Kof.use hKb (P_next ?_)); clear hKb Kb) | (with_reducible refine G_plan 13 [([0, 1, 2, 3, 4, 7, 8, 9, 10], 5, [[0, 7, 8, 9, 10]]), ([6], 11, [[6], [0]])] [12, 13] hQe fun K E hK hE => ?_) | ((with_reducible refine W_cond (fun h => ?_) (fun h => ?_)) <;> (try (exfalso; first | assumption | omega))) | ((first | (with_reducible first | refine G_region fun K E hK hE => ?_ | refine W_if ?_ | refine W_ifS ?_ | refine P_heads fun Kh hKh => ?_ | refine P_fin fun Kh hKh => ?_ | refine P_each fun Kb hKb => ?_ | refine W_and ?_) | ((with_reducible refine W_fresh (fun b hb => ?_)); (repeat (obtain ⟨_, hb⟩ := hb))) | ((with_reducible refine W_gd (fun h => ?_) (fun h => ?_)) <;> (try (exfalso; first | assumption | omega)))) <;> (try simp (disch := first | assumption | omega) only [go_sem, seval, stsC_len, hsx, stC, strsV, strs_C, min_any, hsl, *]))))
      · obtain ⟨bv, hbv⟩ : ∃ z, z = b := ⟨_, rfl⟩
        subst hbv
        refine G_loop (fun m2 env s2 => ∃ (j : Nat) (n2 : Int), j ≤ ar.length ∧ m2 + j = ar.length ∧ s2 = s'.set bv (.obj 58 [.int .i64 k, .str d, .str sr, .str c, .str mm, .lst (strs ar) .no, .lst (stsC o) .no, .lst (stsC t) .no]) ∧
          env 0 = .lst (stsC l) o0 ∧ env 1 = .int .i64 dp ∧ env 5 = .int .i64 n2 ∧ env 6 = .int .i64 i ∧ env 7 = .ptr bv 0 ∧ env 8 = .int .i64 j) ar.length
          ⟨_, Fg.refl _, 0, _, by omega, by omega, rfl, z_sl, z_sl, z_sr, z_sl, z_sl, z_sl⟩ ?_
        clear e0 e1 e5 e6 env
        rintro m2 env s2 ⟨j, n2, hj, hm2, rfl, e0, e1, e5, e6, e7, e8⟩
        by_cases hlt2 : j < ar.length
        · obtain ⟨y, hy⟩ := list_get hlt2
          have hsy : (strs ar)[j]? = some [.str y] := by simp [strs, hy]
          clear hy
          (repeat' (first | refine Ctl ?_ | ((with_reducible refine Kof.use hK ?_); clear hK hE K E) | ((with_reducible refine Eof.use hE ?_); (try clear hK hE K E)) | ((with_reducible refine Kof.use hKh ?_); clear hKh Kh) | ((with_reducible refine Kof.use hKb (P_next ?_)); clear hKb Kb) | (with_reducible refine G_plan 13 [([0, 1, 2, 3, 4, 7, 8, 9, 10], 5, [[0, 7, 8, 9, 10]]), ([6], 11, [[6], [0]])] [12, 13] hQe fun K E hK hE => ?_) | ((with_reducible refine W_cond (fun h => ?_) (fun h => ?_)) <;> (try (exfalso; first | assumption | omega))) | ((first | (with_reducible first | refine G_region fun K E hK hE => ?_ | refine W_if ?_ | refine W_ifS ?_ | refine P_heads fun Kh hKh => ?_ | refine P_fin fun Kh hKh => ?_ | refine P_each fun Kb hKb => ?_ | refine W_and ?_) | ((with_reducible refine call_ex can13 (ih _ _ (by assumption) (by assumption) _) (fun a h => ?_))) | ((with_reducible refine W_fresh (fun b hb => ?_)); (repeat (obtain ⟨_, hb⟩ := hb))) | ((with_reducible refine W_gd (fun h => ?_) (fun h => ?_)) <;> (try (exfalso; first | assumption | omega)))) <;> (try simp (disch := first | assumption | omega) only [go_sem, seval, stsC_len, stC, min_any, hsl, hsy, *]))))
          all_goals first
            | exact ⟨_, z_fg, m2 - 1, by omega, j + 1, _, by omega, by omega, rfl, z_sl, z_sl, z_sr, z_sl, z_sl, z_sl⟩
            | exact ⟨_, z_fg, m - 1, by omega, i + 1, _, by omega, by omega, rfl, z_sl, z_sl, z_sr, z_sl⟩
        · (repeat' (first | refine Ctl ?_ | ((with_reducible refine Kof.use hK ?_); clear hK hE K E) | ((with_reducible refine Eof.use hE ?_); (try clear hK hE K E)) | ((with_reducible refine Kof.use hKh ?_); clear hKh Kh) | ((with_reducible refine Kof.use hKb (P_next ?_)); clear hKb Kb) | (with_reducible refine G_plan 13 [([0, 1, 2, 3, 4, 7, 8, 9, 10], 5, [[0, 7, 8, 9, 10]]), ([6], 11, [[6], [0]])] [12, 13] hQe fun K E hK hE => ?_) | ((with_reducible refine W_cond (fun h => ?_) (fun h => ?_)) <;> (try (exfalso; first | assumption | omega))) | ((first | (with_reducible first | refine G_region fun K E hK hE => ?_ | refine W_if ?_ | refine W_ifS ?_ | refine P_heads fun Kh hKh => ?_ | refine P_fin fun Kh hKh => ?_ | refine P_each fun Kb hKb => ?_ | refine W_and ?_) | ((with_reducible refine call_ex can13 (ih _ _ (by assumption) (by assumption) _) (fun a h => ?_))) | ((with_reducible refine W_fresh (fun b hb => ?_)); (repeat (obtain ⟨_, hb⟩ := hb))) | ((with_reducible refine W_gd (fun h => ?_) (fun h => ?_)) <;> (try (exfalso; first | assumption | omega)))) <;> (try simp (disch := first | assumption | omega) only [go_sem, seval, stsC_len, stC, min_any, hsl, *]))))
          all_goals exact ⟨_, z_fg, m - 1, by omega, i + 1, _, by omega, by omega, rfl, z_sl, z_sl, z_sr, z_sl⟩
      · all_goals (first | refine W_ret res13 hQ ?_ | refine W_norm res13 hQ ?_ | refine G_pan hQ ?_)
        all_goals exact ⟨_, _, Wk.refl _, z_fg, n, rfl, rfl, trivial⟩
    · (repeat' (first | refine Ctl ?_ | ((with_reducible refine Kof.use hK ?_); clear hK hE K E) | ((with_reducible refine Eof.use hE ?_); (try clear hK hE K E)) | ((with_reducible refine Kof.use hKh ?_); clear hKh Kh) | ((with_reducible refine Kof.use hKb (P_next ?_)); clear hKb Kb) | (with_reducible refine G_plan 13 [([0, 1, 2, 3, 4, 7, 8, 9, 10], 5, [[0, 7, 8, 9, 10]]), ([6], 11, [[6], [0]])] [12, 13] hQe fun K E hK hE => ?_) | ((with_reducible refine W_cond (fun h => ?_) (fun h => ?_)) <;> (try (exfalso; first | assumption | omega))) | ((first | (with_reducible first | refine G_region fun K E hK hE => ?_ | refine W_if ?_ | refine W_ifS ?_ | refine P_heads fun Kh hKh => ?_ | refine P_fin fun Kh hKh => ?_ | refine P_each fun Kb hKb => ?_ | refine W_and ?_) | ((with_reducible refine W_fresh (fun b hb => ?_)); (repeat (obtain ⟨_, hb⟩ := hb))) | ((with_reducible refine W_gd (fun h => ?_) (fun h => ?_)) <;> (try (exfalso; first | assumption | omega)))) <;> (try simp (disch := first | assumption | omega) only [go_sem, seval, stsC_len, *]))))
      all_goals (first | refine W_ret res13 hQ ?_ | refine W_norm res13 hQ ?_ | refine G_pan hQ ?_)
      all_goals exact ⟨_, _, Wk.refl _, z_fg, n, rfl, rfl, trivial⟩
theorem bytes_S (l : List Stm) (o0 : Own) (h : StmsOk l) (hl : l.length ≤ 140737488355328) (s : St) :
    SCalls Try.prog 13 [.lst (stsC l) o0, .int .i64 0] s fun w u => ∃ r : Int, w = .ret (.int .i64 r) ∧ u = s ∧ True := bytes_F 11 0 (by omega) l o0 h hl s

set_option maxHeartbeats 4000000 in
theorem Few_S (x : List Cls) (hx : SrcOk x) (s : St) : SCalls Try.prog 7 [srcV x] s fun w u => ∃ r : Bool, w = .ret (.bool r) ∧ u = s ∧ (r = true → x.length ≤ 40) := by
  obtain ⟨hxl, hxc⟩ := hx
  refine G_enter Try.func7 rfl Try.ntmps7 rfl fun Q hQ hQe => ?_
  (repeat' (first | refine Ctl ?_ | ((with_reducible refine Kof.use hK ?_); clear hK hE K E) | ((with_reducible refine Eof.use hE ?_); (try clear hK hE K E)) | ((with_reducible refine Kof.use hKh ?_); clear hKh Kh) | ((with_reducible refine Kof.use hKb (P_next ?_)); clear hKb Kb) | (with_reducible refine G_plan 13 [([0, 1, 2, 3, 4, 5, 6, 7], 8, [[0, 1, 2, 3, 4, 5]])] [9, 10] hQe fun K E hK hE => ?_) | ((with_reducible refine W_cond (fun h => ?_) (fun h => ?_)) <;> (try (exfalso; first | assumption | omega))) | ((first | (with_reducible first | refine G_region fun K E hK hE => ?_ | refine W_if ?_ | refine W_ifS ?_ | refine P_heads fun Kh hKh => ?_ | refine P_fin fun Kh hKh => ?_ | refine P_each fun Kb hKb => ?_ | refine W_and ?_) | ((with_reducible refine W_fresh (fun b hb => ?_)); (repeat (obtain ⟨_, hb⟩ := hb))) | ((with_reducible refine W_gd (fun h => ?_) (fun h => ?_)) <;> (try (exfalso; first | assumption | omega)))) <;> (try simp (disch := first | assumption | omega) only [go_sem, seval, List.length_map, srcV, *]))))
  obtain ⟨bx, hbx⟩ : ∃ z, z = b := ⟨_, rfl⟩
  subst hbx
  refine G_loop (fun m env s' => ∃ (i : Nat) (n : Int), i ≤ x.length ∧ m + i = x.length ∧ s' = s.set bx (.obj 24 [.lst (x.map clsC) .no]) ∧
    env 1 = .ptr bx 0 ∧ env 3 = .int .i64 n ∧ env 4 = .int .i64 i) x.length ?_ ?_
  · exact ⟨_, Fg.refl _, 0, 0, by omega, by omega, rfl, z_sl, z_sl, z_sl⟩
  · rintro m env s' ⟨i, n, hi, hm, rfl, e1, e3, e4⟩
    by_cases hlt : i < x.length
    · obtain ⟨c, hc⟩ := list_get hlt
      obtain ⟨hc1, hc2, hc3, hc4⟩ := hxc c (List.mem_of_getElem? hc)
      have hsx := clsC_at hc
      clear hc
      obtain ⟨nm, pa, ms⟩ := c
      simp only at hc1 hc2 hc3 hc4
      (repeat' (first | refine Ctl ?_ | ((with_reducible refine Kof.use hK ?_); clear hK hE K E) | ((with_reducible refine Eof.use hE ?_); (try clear hK hE K E)) | ((with_reducible refine Kof.use hKh ?_); clear hKh Kh) | ((with_reducible refine Kof.use hKb (P_next ?_)); clear hKb Kb) | (with_reducible refine G_plan 13 [([0, 1, 2, 3, 4, 5, 6, 7], 8, [[0, 1, 2, 3, 4, 5]])] [9, 10] hQe fun K E hK hE => ?_) | ((with_reducible refine W_cond (fun h => ?_) (fun h => ?_)) <;> (try (exfalso; first | assumption | omega))) | ((first | (with_reducible first | refine G_region fun K E hK hE => ?_ | refine W_if ?_ | refine W_ifS ?_ | refine P_heads fun Kh hKh => ?_ | refine P_fin fun Kh hKh => ?_ | refine P_each fun Kb hKb => ?_ | refine W_and ?_) | ((with_reducible refine W_fresh (fun b hb => ?_)); (repeat (obtain ⟨_, hb⟩ := hb))) | ((with_reducible refine W_gd (fun h => ?_) (fun h => ?_)) <;> (try (exfalso; first | assumption | omega)))) <;> (try simp (disch := first | assumption | omega) only [go_sem, seval, List.length_map, hsx, clsC, min_any, *]))))
      all_goals first
        | ((first | refine W_ret res7 hQ ?_ | refine W_norm res7 hQ ?_ | refine G_pan hQ ?_)
           exact ⟨_, _, Wk.refl _, z_fg, _, rfl, rfl, by first | (intro _; omega) | (intro h; cases h)⟩)
        | skip
      obtain ⟨bc, hbc⟩ : ∃ z, z = b := ⟨_, rfl⟩
      subst hbc
      refine G_loop (fun m2 env s' => ∃ (j : Nat) (n2 : Int), j ≤ ms.length ∧ m2 + j = ms.length ∧
        s' = (s.set bx (.obj 24 [.lst (x.map clsC) .no])).set bc (.obj 38 [.str nm, .str pa, .lst (ms.map mthC) .no]) ∧
        env 1 = .ptr bx 0 ∧ env 3 = .int .i64 n2 ∧ env 4 = .int .i64 i ∧ env 5 = .ptr bc 0 ∧ env 6 = .int .i64 j) ms.length ?_ ?_
      · exact ⟨_, Fg.refl _, 0, _, by omega, by omega, rfl, z_sl, z_sr, z_sl, z_sl, z_sl⟩
      · clear e1 e3 e4 env
        rintro m2 env s' ⟨j, n2, hj, hm2, rfl, e1, e3, e4, e5, e6⟩
        by_cases hlt2 : j < ms.length
        · obtain ⟨c, hc⟩ := list_get hlt2
          have hmok := hc4 c (List.mem_of_getElem? hc)
          have hsm := mthC_at hc
          clear hc
          obtain ⟨st, mn, ps, bd⟩ := c
          simp only [MthOk, TxOk] at hmok
          obtain ⟨_, ⟨hps, _⟩, hbl, hbo⟩ := hmok
          have hpl : (strs ps).length = ps.length := by simp [strs]
          have w1 := fun s => bytes_S bd .no hbo hbl s
          (repeat' (first | refine Ctl ?_ | ((with_reducible refine Kof.use hK ?_); clear hK hE K E) | ((with_reducible refine Eof.use hE ?_); (try clear hK hE K E)) | ((with_reducible refine Kof.use hKh ?_); clear hKh Kh) | ((with_reducible refine Kof.use hKb (P_next ?_)); clear hKb Kb) | (with_reducible refine G_plan 13 [([0, 1, 2, 3, 4, 5, 6, 7], 8, [[0, 1, 2, 3, 4, 5]])] [9, 10] hQe fun K E hK hE => ?_) | ((with_reducible refine W_cond (fun h => ?_) (fun h => ?_)) <;> (try (exfalso; first | assumption | omega))) | ((first | (with_reducible first | refine G_region fun K E hK hE => ?_ | refine W_if ?_ | refine W_ifS ?_ | refine P_heads fun Kh hKh => ?_ | refine P_fin fun Kh hKh => ?_ | refine P_each fun Kb hKb => ?_ | refine W_and ?_) | ((with_reducible refine call_ex can13 (w1 _) (fun a h => ?_))) | ((with_reducible refine W_fresh (fun b hb => ?_)); (repeat (obtain ⟨_, hb⟩ := hb))) | ((with_reducible refine W_gd (fun h => ?_) (fun h => ?_)) <;> (try (exfalso; first | assumption | omega)))) <;> (try simp (disch := first | assumption | omega) only [go_sem, seval, List.length_map, hsm, mthC, strsV, strs_C, stsV, min_any, hpl, *]))))
          all_goals first
            | exact ⟨_, z_fg, m - 1, by omega, i + 1, n2, by omega, by omega, rfl, z_sl, z_sl, z_sl⟩
            | ((first | refine W_ret res7 hQ ?_ | refine W_norm res7 hQ ?_ | refine G_pan hQ ?_)
               exact ⟨_, _, Wk.refl _, z_fg, _, rfl, rfl, by first | (intro _; omega) | (intro h; cases h)⟩)
            | skip
          obtain ⟨bm, hbm⟩ : ∃ z, z = b := ⟨_, rfl⟩
          subst hbm
          refine G_loop (fun m3 env s' => ∃ (k : Nat) (n3 : Int), k ≤ ps.length ∧ m3 + k = ps.length ∧
            s' = ((s.set bx (.obj 24 [.lst (x.map clsC) .no])).set bc (.obj 38 [.str nm, .str pa, .lst (ms.map mthC) .no])).set bm (.obj 41 [.bool st, .str mn, .lst (strs ps) .no, .lst (stsC bd) .no]) ∧
            env 1 = .ptr bx 0 ∧ env 3 = .int .i64 n3 ∧ env 4 = .int .i64 i ∧ env 5 = .ptr bc 0 ∧ env 6 = .int .i64 j ∧ env 7 = .ptr bm 0 ∧ env 8 = .int .i64 k) ps.length ?_ ?_
          · exact ⟨_, Fg.refl _, 0, _, by omega, by omega, rfl, z_sl, z_sr, z_sl, z_sl, z_sl, z_sl, z_sl⟩
          · clear e1 e3 e4 e5 e6 env
            rintro m3 env s' ⟨k, n3, hk, hm3, rfl, e1, e3, e4, e5, e6, e7, e8⟩
            by_cases hlt3 : k < ps.length
            · obtain ⟨y, hy⟩ := list_get hlt3
              have hsy : (strs ps)[k]? = some [.str y] := by simp [strs, hy]
              clear hy
              (repeat' (first | refine Ctl ?_ | ((with_reducible refine Kof.use hK ?_); clear hK hE K E) | ((with_reducible refine Eof.use hE ?_); (try clear hK hE K E)) | ((with_reducible refine Kof.use hKh ?_); clear hKh Kh) | ((with_reducible refine Kof.use hKb (P_next ?_)); clear hKb Kb) | (with_reducible refine G_plan 13 [([0, 1, 2, 3, 4, 5, 6, 7], 8, [[0, 1, 2, 3, 4, 5]])] [9, 10] hQe fun K E hK hE => ?_) | ((with_reducible refine W_cond (fun h => ?_) (fun h => ?_)) <;> (try (exfalso; first | assumption | omega))) | ((first | (with_reducible first | refine G_region fun K E hK hE => ?_ | refine W_if ?_ | refine W_ifS ?_ | refine P_heads fun Kh hKh => ?_ | refine P_fin fun Kh hKh => ?_ | refine P_each fun Kb hKb => ?_ | refine W_and ?_) | ((with_reducible refine W_fresh (fun b hb => ?_)); (repeat (obtain ⟨_, hb⟩ := hb))) | ((with_reducible refine W_gd (fun h => ?_) (fun h => ?_)) <;> (try (exfalso; first | assumption | omega)))) <;> (try simp (disch := first | assumption | omega) only [go_sem, seval, List.length_map, hsy, min_any, hpl, *]))))
              all_goals exact ⟨_, z_fg, m3 - 1, by omega, k + 1, _, by omega, by omega, rfl, z_sl, z_sr, z_sl, z_sl, z_sl, z_sl, z_sl⟩
            · (repeat' (first | refine Ctl ?_ | ((with_reducible refine Kof.use hK ?_); clear hK hE K E) | ((with_reducible refine Eof.use hE ?_); (try clear hK hE K E)) | ((with_reducible refine Kof.use hKh ?_); clear hKh Kh) | ((with_reducible refine Kof.use hKb (P_next ?_)); clear hKb Kb) | (with_reducible refine G_plan 13 [([0, 1, 2, 3, 4, 5, 6, 7], 8, [[0, 1, 2, 3, 4, 5]])] [9, 10] hQe fun K E hK hE => ?_) | ((with_reducible refine W_cond (fun h => ?_) (fun h => ?_)) <;> (try (exfalso; first | assumption | omega))) | ((first | (with_reducible first | refine G_region fun K E hK hE => ?_ | refine W_if ?_ | refine W_ifS ?_ | refine P_heads fun Kh hKh => ?_ | refine P_fin fun Kh hKh => ?_ | refine P_each fun Kb hKb => ?_ | refine W_and ?_) | ((with_reducible refine W_fresh (fun b hb => ?_)); (repeat (obtain ⟨_, hb⟩ := hb))) | ((with_reducible refine W_gd (fun h => ?_) (fun h => ?_)) <;> (try (exfalso; first | assumption | omega)))) <;> (try simp (disch := first | assumption | omega) only [go_sem, seval, List.length_map, min_any, hpl, *]))))
              all_goals exact ⟨_, z_fg, m2 - 1, by omega, j + 1, _, by omega, by omega, rfl, z_sl, z_sr, z_sl, z_sl, z_sl⟩
        · (repeat' (first | refine Ctl ?_ | ((with_reducible refine Kof.use hK ?_); clear hK hE K E) | ((with_reducible refine Eof.use hE ?_); (try clear hK hE K E)) | ((with_reducible refine Kof.use hKh ?_); clear hKh Kh) | ((with_reducible refine Kof.use hKb (P_next ?_)); clear hKb Kb) | (with_reducible refine G_plan 13 [([0, 1, 2, 3, 4, 5, 6, 7], 8, [[0, 1, 2, 3, 4, 5]])] [9, 10] hQe fun K E hK hE => ?_) | ((with_reducible refine W_cond (fun h => ?_) (fun h => ?_)) <;> (try (exfalso; first | assumption | omega))) | ((first | (with_reducible first | refine G_region fun K E hK hE => ?_ | refine W_if ?_ | refine W_ifS ?_ | refine P_heads fun Kh hKh => ?_ | refine P_fin fun Kh hKh => ?_ | refine P_each fun Kb hKb => ?_ | refine W_and ?_) | ((with_reducible refine W_fresh (fun b hb => ?_)); (repeat (obtain ⟨_, hb⟩ := hb))) | ((with_reducible refine W_gd (fun h => ?_) (fun h => ?_)) <;> (try (exfalso; first | assumption | omega)))) <;> (try simp (disch := first | assumption | omega) only [go_sem, seval, List.length_map, *]))))
          all_goals exact ⟨_, z_fg, m - 1, by omega, i + 1, n2, by omega, by omega, rfl, z_sl, z_sl, z_sl⟩
    · (repeat' (first | refine Ctl ?_ | ((with_reducible refine Kof.use hK ?_); clear hK hE K E) | ((with_reducible refine Eof.use hE ?_); (try clear hK hE K E)) | ((with_reducible refine Kof.use hKh ?_); clear hKh Kh) | ((with_reducible refine Kof.use hKb (P_next ?_)); clear hKb Kb) | (with_reducible refine G_plan 13 [([0, 1, 2, 3, 4, 5, 6, 7], 8, [[0, 1, 2, 3, 4, 5]])] [9, 10] hQe fun K E hK hE => ?_) | ((with_reducible refine W_cond (fun h => ?_) (fun h => ?_)) <;> (try (exfalso; first | assumption | omega))) | ((first | (with_reducible first | refine G_region fun K E hK hE => ?_ | refine W_if ?_ | refine W_ifS ?_ | refine P_heads fun Kh hKh => ?_ | refine P_fin fun Kh hKh => ?_ | refine P_each fun Kb hKb => ?_ | refine W_and ?_) | ((with_reducible refine W_fresh (fun b hb => ?_)); (repeat (obtain ⟨_, hb⟩ := hb))) | ((with_reducible refine W_gd (fun h => ?_) (fun h => ?_)) <;> (try (exfalso; first | assumption | omega)))) <;> (try simp (disch := first | assumption | omega) only [go_sem, seval, List.length_map, *]))))
      all_goals (first | refine W_ret res7 hQ ?_ | refine W_norm res7 hQ ?_ | refine G_pan hQ ?_)
      all_goals exact ⟨_, _, Wk.refl _, z_fg, _, rfl, rfl, by first | (intro _; omega) | (intro h; cases h)⟩
end Go.Proofs.Ytejlknplmfmceaa
