/- What is proved: What osierlaw16's same, source and awake hand back. Conditions: what fits a memory. Conditions: those that stand in the statements. -/
import Derived.Test.YtejlknplmfmceaaZCy
import Derived.Test.YtejlknplmfmceaaZRg
import Derived.KernelRfl
set_option linter.unusedSimpArgs false
set_option linter.unusedVariables false
set_option maxRecDepth 100000
namespace Go.Proofs.Ytejlknplmfmceaa
open Go.RowKit

theorem lst_eqC {α : Type} {a b : List α} (hl : a.length = b.length) (h : ∀ i : Nat, i < a.length → a[i]? = b[i]?) : a = b := by
  apply List.ext_getElem?
  intro i
  by_cases hi : i < a.length
  · exact h i hi
  · rw [List.getElem?_eq_none (by omega), List.getElem?_eq_none (by omega)]
theorem strs_at {l : List (List UInt8)} {i : Nat} {x : List UInt8} (h : l[i]? = some x) : (strs l)[i]? = some [.str x] := by simp [strs, h]
set_option maxHeartbeats 2000000 in
theorem same16_S (a b : List (List UInt8)) (o1 o2 : Own) (ha : a.length ≤ 140737488355328) (hb : b.length ≤ 140737488355328) (t : St) : SRet Try.prog 12 [.lst (strs a) o1, .lst (strs b) o2] t (.bool (decide (a = b))) t := by
  have la := strsl_len a
  have lb := strsl_len b
  by_cases hl : a.length = b.length
  · have hli : ((a.length : Int) = (b.length : Int)) = True := eq_true (by omega)
    have hlz : ((b.length : Int) = (b.length : Int)) = True := eq_true rfl
    refine G_enter Try.func12 rfl Try.ntmps12 rfl fun Q hQ hQe => ?_
    (repeat' (first | refine Ctl ?_ | ((with_reducible refine Kof.use hK ?_); clear hK hE K E) | ((with_reducible refine Eof.use hE ?_); (try clear hK hE K E)) | ((with_reducible refine Kof.use hKh ?_); clear hKh Kh) | ((with_reducible refine Kof.use hKb (P_next ?_)); clear hKb Kb) | (with_reducible refine G_plan 6 [] [0, 1, 2, 3, 4, 5, 6, 7, 8] hQe fun K E hK hE => ?_) | ((with_reducible refine W_cond (fun h => ?_) (fun h => ?_)) <;> (try (exfalso; first | assumption | omega))) | ((first | (with_reducible first | refine G_region fun K E hK hE => ?_ | refine W_if ?_ | refine W_ifS ?_ | refine P_heads fun Kh hKh => ?_ | refine P_fin fun Kh hKh => ?_ | refine P_each fun Kb hKb => ?_ | refine W_and ?_)) <;> (try simp (disch := first | assumption | omega) only [go_sem, seval, la, lb, hl, *]))))
    refine G_loop (fun m env s' => ∃ i : Nat, i ≤ a.length ∧ m + i = a.length ∧ s' = t ∧ Hid (∀ j : Nat, j < i → a[j]? = b[j]?) ∧ env 0 = .lst (strs a) o1 ∧ env 1 = .lst (strs b) o2 ∧ env 5 = .int .i64 i) a.length ?_ ?_
    · exact ⟨t, Fg.refl _, 0, by omega, by omega, rfl, Lib.hid (fun j hj => by omega), z_sl, z_sl, z_sl⟩
    · rintro m env s' ⟨i, hi, hm, rfl, HE, e0, e1, e5⟩
      by_cases hlt : i < a.length
      · obtain ⟨c, hc⟩ := uget hlt
        obtain ⟨d, hd⟩ := uget (l := b) (i := i) (by omega)
        have hsx := strs_at hc
        have hsy := strs_at hd
        have HC := Lib.hid hc
        have HD := Lib.hid hd
        clear hc hd
        by_cases hcd : c = d
        · have HCD := Lib.hid hcd
          have hcc : (c = d) = True := eq_true hcd
          clear hcd
          (repeat' (first | refine Ctl ?_ | ((with_reducible refine Kof.use hK ?_); clear hK hE K E) | ((with_reducible refine Eof.use hE ?_); (try clear hK hE K E)) | ((with_reducible refine Kof.use hKh ?_); clear hKh Kh) | ((with_reducible refine Kof.use hKb (P_next ?_)); clear hKb Kb) | (with_reducible refine G_plan 6 [] [0, 1, 2, 3, 4, 5, 6, 7, 8] hQe fun K E hK hE => ?_) | ((with_reducible refine W_cond (fun h => ?_) (fun h => ?_)) <;> (try (exfalso; first | assumption | omega))) | ((first | (with_reducible first | refine G_region fun K E hK hE => ?_ | refine W_if ?_ | refine W_ifS ?_ | refine P_heads fun Kh hKh => ?_ | refine P_fin fun Kh hKh => ?_ | refine P_each fun Kb hKb => ?_ | refine W_and ?_)) <;> (try simp (disch := first | assumption | omega) only [go_sem, seval, la, lb, hl, hsx, hsy, *]))))
          refine ⟨s', Fg.refl _, m - 1, by omega, i + 1, by omega, by omega, rfl, Lib.hid (fun j hj => ?_), z_sl, z_sl, z_sl⟩
          by_cases hj2 : j = i
          · subst hj2; rw [HC.out, HD.out, HCD.out]
          · exact HE.out j (by omega)
        · have hcc : (c = d) = False := eq_false hcd
          (repeat' (first | refine Ctl ?_ | ((with_reducible refine Kof.use hK ?_); clear hK hE K E) | ((with_reducible refine Eof.use hE ?_); (try clear hK hE K E)) | ((with_reducible refine Kof.use hKh ?_); clear hKh Kh) | ((with_reducible refine Kof.use hKb (P_next ?_)); clear hKb Kb) | (with_reducible refine G_plan 6 [] [0, 1, 2, 3, 4, 5, 6, 7, 8] hQe fun K E hK hE => ?_) | ((with_reducible refine W_cond (fun h => ?_) (fun h => ?_)) <;> (try (exfalso; first | assumption | omega))) | ((first | (with_reducible first | refine G_region fun K E hK hE => ?_ | refine W_if ?_ | refine W_ifS ?_ | refine P_heads fun Kh hKh => ?_ | refine P_fin fun Kh hKh => ?_ | refine P_each fun Kb hKb => ?_ | refine W_and ?_)) <;> (try simp (disch := first | assumption | omega) only [go_sem, seval, la, lb, hl, hsx, hsy, *]))))
          all_goals (first | refine W_ret res12 hQ ?_ | refine W_norm res12 hQ ?_ | refine G_pan hQ ?_)
          all_goals (refine ⟨_, _, Wk.of_eq ?_, ?_, rfl, rfl⟩)
          · rw [decide_eq_false (fun h => hcd (by have := HC.out; rw [h, HD.out] at this; injection this with this; exact this.symm))]
          · (exact z_fg)
      · (repeat' (first | refine Ctl ?_ | ((with_reducible refine Kof.use hK ?_); clear hK hE K E) | ((with_reducible refine Eof.use hE ?_); (try clear hK hE K E)) | ((with_reducible refine Kof.use hKh ?_); clear hKh Kh) | ((with_reducible refine Kof.use hKb (P_next ?_)); clear hKb Kb) | (with_reducible refine G_plan 6 [] [0, 1, 2, 3, 4, 5, 6, 7, 8] hQe fun K E hK hE => ?_) | ((with_reducible refine W_cond (fun h => ?_) (fun h => ?_)) <;> (try (exfalso; first | assumption | omega))) | ((first | (with_reducible first | refine G_region fun K E hK hE => ?_ | refine W_if ?_ | refine W_ifS ?_ | refine P_heads fun Kh hKh => ?_ | refine P_fin fun Kh hKh => ?_ | refine P_each fun Kb hKb => ?_ | refine W_and ?_)) <;> (try simp (disch := first | assumption | omega) only [go_sem, seval, la, lb, hl, *]))))
        all_goals (first | refine W_ret res12 hQ ?_ | refine W_norm res12 hQ ?_ | refine G_pan hQ ?_)
        all_goals (refine ⟨_, _, Wk.of_eq ?_, ?_, rfl, rfl⟩)
        · rw [decide_eq_true (lst_eqC hl (fun j hj => HE.out j (by omega)))]
        · (exact z_fg)
  · have hli : ((a.length : Int) = (b.length : Int)) = False := eq_false (by omega)
    refine G_enter Try.func12 rfl Try.ntmps12 rfl fun Q hQ hQe => ?_
    (repeat' (first | refine Ctl ?_ | ((with_reducible refine Kof.use hK ?_); clear hK hE K E) | ((with_reducible refine Eof.use hE ?_); (try clear hK hE K E)) | ((with_reducible refine Kof.use hKh ?_); clear hKh Kh) | ((with_reducible refine Kof.use hKb (P_next ?_)); clear hKb Kb) | (with_reducible refine G_plan 6 [] [0, 1, 2, 3, 4, 5, 6, 7, 8] hQe fun K E hK hE => ?_) | ((with_reducible refine W_cond (fun h => ?_) (fun h => ?_)) <;> (try (exfalso; first | assumption | omega))) | ((first | (with_reducible first | refine G_region fun K E hK hE => ?_ | refine W_if ?_ | refine W_ifS ?_ | refine P_heads fun Kh hKh => ?_ | refine P_fin fun Kh hKh => ?_ | refine P_each fun Kb hKb => ?_ | refine W_and ?_)) <;> (try simp (disch := first | assumption | omega) only [go_sem, seval, la, lb, *]))))
    all_goals (first | refine W_ret res12 hQ ?_ | refine W_norm res12 hQ ?_ | refine G_pan hQ ?_)
    all_goals (refine ⟨_, _, Wk.of_eq ?_, ?_, rfl, rfl⟩)
    · rw [decide_eq_false (fun h => hl (by rw [h]))]
    · (exact z_fg)
theorem source16_S (l : List UInt8) (hl : l.length ≤ 9223372036854775000) (x : List Cls) (h : parseS l = .ok x) (t : St) : SRet Try.prog 15 [.str l] t (srcV x) t := by
  have w0 := fun s => Rparse_S l hl s
  rw [h] at w0
  simp only [parseV, srcV] at w0 ⊢
  clear h
  refine G_enter Try.func15 rfl Try.ntmps15 rfl fun Q hQ hQe => ?_
  (repeat' (first | refine Ctl ?_ | ((with_reducible refine Kof.use hK ?_); clear hK hE K E) | ((with_reducible refine Eof.use hE ?_); (try clear hK hE K E)) | ((with_reducible refine W_cond (fun h => ?_) (fun h => ?_)) <;> (try (exfalso; first | assumption | omega))) | ((first | (with_reducible first | refine G_region fun K E hK hE => ?_ | refine call_ret can26 (w0 _) ?_ | refine call_ret can26 (Rparse_S _ (by first | assumption | omega) _) ?_ | refine W_if ?_ | refine W_ifS ?_ | refine W_and ?_) | ((with_reducible refine W_fresh (fun b hb => ?_)); (repeat (obtain ⟨_, hb⟩ := hb)))) <;> (try simp (disch := first | assumption | omega) only [go_sem, seval, *]))))
  all_goals (first | refine W_ret res15 hQ ?_ | refine W_norm res15 hQ ?_ | refine G_pan hQ ?_)
  all_goals (refine ⟨_, _, Wk.of_eq ?_, ?_, rfl, rfl⟩)
  all_goals first | rfl | (exact z_fg)
def aw16 : List Cls := [⟨[65], [], [⟨false, [109], [], [.mk 4 [116, 104, 105, 115] [116, 104, 105, 115] [] [102] [] [] []]⟩]⟩, ⟨[66], [65], []⟩, ⟨[77, 97, 105, 110], [], [⟨true, [109, 97, 105, 110], [], [.mk 1 [120] [] [] [66] [] [] [], .mk 5 [] [120] [] [109] [] [] []]⟩]⟩]
def aw16b : List Cls := [⟨[65], [], []⟩]
theorem aw16P : parseS [99, 108, 97, 115, 115, 32, 65, 32, 123, 32, 109, 40, 41, 32, 123, 32, 116, 104, 105, 115, 46, 102, 32, 61, 32, 116, 104, 105, 115, 59, 32, 125, 32, 125, 32, 99, 108, 97, 115, 115, 32, 66, 32, 101, 120, 116, 101, 110, 100, 115, 32, 65, 32, 123, 32, 125, 32, 99, 108, 97, 115, 115, 32, 77, 97, 105, 110, 32, 123, 32, 115, 116, 97, 116, 105, 99, 32, 109, 97, 105, 110, 40, 41, 32, 123, 32, 120, 32, 61, 32, 110, 101, 119, 32, 66, 59, 32, 120, 46, 109, 40, 41, 59, 32, 125, 32, 125] = .ok aw16 := by kernel_rfl
theorem aw16bP : parseS [99, 108, 97, 115, 115, 32, 65, 32, 123, 32, 125] = .ok aw16b := by kernel_rfl
theorem aw16R : rightE aw16 = 0 := by kernel_rfl
theorem aw16bR : rightE aw16b = 160 := by kernel_rfl
theorem aw16F : findA aw16 [66] [109] false = (0, 0) := by kernel_rfl
theorem aw16N : fctN (namesR aw16) = [.lst [[.str [65, 58, 58, 109]], [.str [77, 97, 105, 110, 58, 58, 109, 97, 105, 110]]] .no, .lst [[.str [65, 58, 58, 109, 46, 116, 104, 105, 115]], [.str [65, 58, 58, 109, 46, 114, 101, 116, 117, 114, 110]], [.str [77, 97, 105, 110, 58, 58, 109, 97, 105, 110, 46, 114, 101, 116, 117, 114, 110]], [.str [77, 97, 105, 110, 58, 58, 109, 97, 105, 110, 46, 120]]] .no, .lst [[.str [66]]] .no, .lst [[.str [77, 97, 105, 110, 58, 58, 109, 97, 105, 110]]] .no, .lst [[.str [102]]] .no, .lst [[.str [109]]] .no,
  .lst [[.int .i64 0], [.int .i64 0], [.int .i64 1], [.int .i64 1]] .no, .lst [[.int .i64 1]] .no, .int .i64 1, .lst [] .full, .lst [] .full, .lst [] .full, .lst [] .full, .lst [] .full, .lst [] .full, .lst [] .full, .lst [] .full, .lst [] .full, .lst [] .full, .lst [] .full, .lst [] .full] := by kernel_rfl
theorem aw16Ok : SrcOk aw16 := by simp [SrcOk, aw16, ClsOk, MthOk, TxOk, StmOk, StmsOk]
theorem aw16bOk : SrcOk aw16b := by simp [SrcOk, aw16b, ClsOk, MthOk, TxOk, StmOk, StmsOk]
set_option maxHeartbeats 4000000 in
theorem awake16_S (t : St) : SRet Try.prog 9 [] t (.bool true) t := by
  have w1 := fun s => source16_S _ (by decide) aw16 aw16P s
  have w2 := fun s => source16_S _ (by decide) aw16b aw16bP s
  have w3 := fun s => CNames_S aw16 aw16Ok s
  have w4 := fun s => CFind_S aw16 aw16Ok [66] [109] false s
  have w5 := fun s => CCheck_S aw16b aw16bOk s
  rw [aw16F] at w4
  rw [aw16R, aw16N] at w3
  rw [aw16bR] at w5
  simp only [srcV] at w1 w2 w3 w4 w5
  generalize hX : aw16.map clsC = xs at w1 w3 w4
  generalize hY : aw16b.map clsC = ys at w2 w5
  clear hX hY
  refine G_enter Try.func9 rfl Try.ntmps9 rfl fun Q hQ hQe => ?_
  (repeat' (first | refine Ctl ?_ | ((with_reducible refine Kof.use hK ?_); clear hK hE K E) | ((with_reducible refine Eof.use hE ?_); (try clear hK hE K E)) | ((with_reducible refine W_cond (fun h => ?_) (fun h => ?_)) <;> (try (exfalso; first | assumption | omega))) | ((first | (with_reducible first | refine G_region fun K E hK hE => ?_ | refine call_ret can15 (w1 _) ?_ | refine call_ret can15 (w2 _) ?_ | refine call_ret can10 (w3 _) ?_ | refine call_ret can11 (w4 _) ?_ | refine call_ret can8 (w5 _) ?_ | refine W_if ?_ | refine W_ifS ?_ | refine W_and ?_) | ((with_reducible refine W_fresh (fun b hb => ?_)); (repeat (obtain ⟨_, hb⟩ := hb))) | ((with_reducible refine W_gd (fun h => ?_) (fun h => ?_)) <;> (try (exfalso; first | assumption | omega)))) <;> (try simp (disch := first | assumption | omega) only [go_sem, seval, List.append_eq, *]))))
  all_goals (first | refine W_ret res9 hQ ?_ | refine W_norm res9 hQ ?_ | refine G_pan hQ ?_)
  all_goals (refine ⟨_, _, Wk.of_eq ?_, ?_, rfl, rfl⟩)
  all_goals first | rfl | (exact z_fg)
end Go.Proofs.Ytejlknplmfmceaa
