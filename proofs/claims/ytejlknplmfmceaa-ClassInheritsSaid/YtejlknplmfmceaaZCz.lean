/- What is proved: What osierlaw16's same, source and awake hand back. Conditions: what fits a memory. Conditions: those that stand in the statements. -/
import Derived.Test.YtejlknplmfmceaaZCy
import Derived.Test.YtejlknplmfmceaaZRg
import Derived.KernelRfl
set_option linter.unusedSimpArgs false
set_option linter.unusedVariables false
set_option maxRecDepth 100000
namespace Go.Proofs.Ytejlknplmfmceaa
open Go.RowKit

theorem strs_at {l : List (List UInt8)} {i : Nat} {x : List UInt8} (h : l[i]? = some x) : (strs l)[i]? = some [.str x] := by simp [strs, h]
theorem source16_S (l : List UInt8) (hl : l.length ≤ 9223372036854775000) (x : List Cls) (h : parseS l = .ok x) (t : St) : SRet Try.prog 15 [.str l] t (srcV x) t := by
  have w0 := fun s => Rparse_S l hl s
  rw [h] at w0
  simp only [parseV, srcV] at w0 ⊢
  clear h
  refine G_enter Try.func15 rfl Try.ntmps15 rfl fun Q hQ hQe => ?_
  (repeat' (first | refine Ctl ?_ | ((with_reducible refine Kof.use hK ?_); clear hK hE K E) | ((with_reducible refine Eof.use hE ?_); (try clear hK hE K E)) | ((with_reducible refine W_cond (fun h => ?_) (fun h => ?_)) <;> (try (exfalso; first | assumption | omega))) | ((first | (with_reducible first | refine G_region fun K E hK hE => ?_ | refine call_ret can26 (w0 _) ?_ | refine call_ret can26 (Rparse_S _ (by first | assumption | omega) _) ?_ | refine W_if ?_ | refine W_ifS ?_ | refine W_and ?_) | ((with_reducible refine W_fresh (fun b hb => ?_)); (repeat (obtain ⟨_, hb⟩ := hb)))) <;> (try simp (disch := first | assumption | omega) only [go_sem, seval, *]))))
  all_goals (first | refine W_ret res15 hQ ?_ | refine W_norm res15 hQ ?_ | refine G_pan hQ ?_)
  all_goals (refine ⟨_, _, Wk.of_eq ?_, ?_, rfl, rfl⟩)
  all_goals first | rfl | (exact z_fg)
def aw16 : List Cls := [⟨[65], [], [⟨false, [109], [], [.mk 4 [116, 104, 105, 115] [116, 104, 105, 115] [] [102] [] [] []]⟩]⟩, ⟨[66], [65], []⟩, ⟨[77, 97, 105, 110], [], [⟨true, [109, 97, 105, 110], [], [.mk 1 [120] [] [] [66] [] [] [], .mk 5 [] [120] [] [109] [] [] []]⟩]⟩]
def aw16b : List Cls := [⟨[65], [], []⟩]
theorem aw16P : parseS [99, 108, 97, 115, 115, 32, 65, 32, 123, 32, 109, 40, 41, 32, 123, 32, 116, 104, 105, 115, 46, 102, 32, 61, 32, 116, 104, 105, 115, 59, 32, 125, 32, 125, 32, 99, 108, 97, 115, 115, 32, 66, 32, 101, 120, 116, 101, 110, 100, 115, 32, 65, 32, 123, 32, 125, 32, 99, 108, 97, 115, 115, 32, 77, 97, 105, 110, 32, 123, 32, 115, 116, 97, 116, 105, 99, 32, 109, 97, 105, 110, 40, 41, 32, 123, 32, 120, 32, 61, 32, 110, 101, 119, 32, 66, 59, 32, 120, 46, 109, 40, 41, 59, 32, 125, 32, 125] = .ok aw16 := by kernel_rfl
theorem aw16bP : parseS [99, 108, 97, 115, 115, 32, 65, 32, 123, 32, 125] = .ok aw16b := by kernel_rfl
theorem aw16R : rightE aw16 = 0 := by kernel_rfl
theorem aw16bR : rightE aw16b = 160 := by kernel_rfl
theorem aw16F : findA aw16 [66] [109] false = (0, 0) := by kernel_rfl
theorem aw16N : fctN (namesR aw16) = [.lst [[.str [65, 58, 58, 109]], [.str [77, 97, 105, 110, 58, 58, 109, 97, 105, 110]]] .no, .lst [[.str [65, 58, 58, 109, 46, 116, 104, 105, 115]], [.str [65, 58, 58, 109, 46, 114, 101, 116, 117, 114, 110]], [.str [77, 97, 105, 110, 58, 58, 109, 97, 105, 110, 46, 114, 101, 116, 117, 114, 110]], [.str [77, 97, 105, 110, 58, 58, 109, 97, 105, 110, 46, 120]]] .no, .lst [[.str [66]]] .no, .lst [[.str [77, 97, 105, 110, 58, 58, 109, 97, 105, 110]]] .no, .lst [[.str [102]]] .no, .lst [[.str [109]]] .no,
  .lst [[.int .i64 0], [.int .i64 0], [.int .i64 1], [.int .i64 1]] .no, .lst [[.int .i64 1]] .no, .int .i64 1, .lst [] .full, .lst [] .full, .lst [] .full, .lst [] .full, .lst [] .full, .lst [] .full, .lst [] .full, .lst [] .full, .lst [] .full, .lst [] .full, .lst [] .full, .lst [] .full] := by kernel_rfl
theorem aw16Ok : SrcOk aw16 := by simp [SrcOk, aw16, ClsOk, MthOk, TxOk, StmOk, StmsOk]
theorem aw16bOk : SrcOk aw16b := by simp [SrcOk, aw16b, ClsOk, MthOk, TxOk, StmOk, StmsOk]
set_option maxHeartbeats 4000000 in
theorem awake16_S (t : St) : SRet Try.prog 9 [] t (.bool true) t := by
  have w1 := fun s => source16_S _ (by decide) aw16 aw16P s
  have w2 := fun s => source16_S _ (by decide) aw16b aw16bP s
  have w3 := fun s => CNames_S aw16 aw16Ok s
  have w4 := fun s => CFind_S aw16 aw16Ok [66] [109] false s
  have w5 := fun s => CCheck_S aw16b aw16bOk s
  rw [aw16F] at w4
  rw [aw16R, aw16N] at w3
  rw [aw16bR] at w5
  simp only [srcV] at w1 w2 w3 w4 w5
  generalize hX : aw16.map clsC = xs at w1 w3 w4
  generalize hY : aw16b.map clsC = ys at w2 w5
  clear hX hY
  refine G_enter Try.func9 rfl Try.ntmps9 rfl fun Q hQ hQe => ?_
  (repeat' (first | refine Ctl ?_ | ((with_reducible refine Kof.use hK ?_); clear hK hE K E) | ((with_reducible refine Eof.use hE ?_); (try clear hK hE K E)) | ((with_reducible refine W_cond (fun h => ?_) (fun h => ?_)) <;> (try (exfalso; first | assumption | omega))) | ((first | (with_reducible first | refine G_region fun K E hK hE => ?_ | refine call_ret can15 (w1 _) ?_ | refine call_ret can15 (w2 _) ?_ | refine call_ret can10 (w3 _) ?_ | refine call_ret can11 (w4 _) ?_ | refine call_ret can8 (w5 _) ?_ | refine W_if ?_ | refine W_ifS ?_ | refine W_and ?_) | ((with_reducible refine W_fresh (fun b hb => ?_)); (repeat (obtain ⟨_, hb⟩ := hb))) | ((with_reducible refine W_gd (fun h => ?_) (fun h => ?_)) <;> (try (exfalso; first | assumption | omega)))) <;> (try simp (disch := first | assumption | omega) only [go_sem, seval, List.append_eq, *]))))
  all_goals (first | refine W_ret res9 hQ ?_ | refine W_norm res9 hQ ?_ | refine G_pan hQ ?_)
  all_goals (refine ⟨_, _, Wk.of_eq ?_, ?_, rfl, rfl⟩)
  all_goals first | rfl | (exact z_fg)
end Go.Proofs.Ytejlknplmfmceaa
