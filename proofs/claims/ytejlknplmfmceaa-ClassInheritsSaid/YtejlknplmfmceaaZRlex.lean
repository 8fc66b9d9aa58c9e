/- What is proved: What package osierref10 hands back. Conditions: those that stand in the statements. -/
import Derived.Test.YtejlknplmfmceaaZOoH
import Derived.Test.YtejlknplmfmceaaZGpj
import Derived.Test.YtejlknplmfmceaaZLexP
import Derived.Lib.IndexAny
import Derived.Test.YtejlknplmfmceaaZRlj
set_option linter.unusedSimpArgs false
set_option linter.unusedVariables false
set_option maxRecDepth 100000
namespace Go.Proofs.Ytejlknplmfmceaa
open Go.RowKit

def RnameB (t : List UInt8) : Bool := RisB 1 t && !kwB t
def kws : List (List UInt8) := [[99, 108, 97, 115, 115], [101, 120, 116, 101, 110, 100, 115], [115, 116, 97, 116, 105, 99], [110, 101, 119], [114, 101, 116, 117, 114, 110], [105, 102], [101, 108, 115, 101], [108, 111, 111, 112]]
theorem kwB_mem (t : List UInt8) : kwB t = decide (t ∈ kws) := by
  rw [Bool.eq_iff_iff]
  simp only [kwB, kws, Bool.or_eq_true, decide_eq_true_eq, List.mem_cons, List.not_mem_nil, or_false, or_assoc]
theorem Rkeyword_S (t : List UInt8) (s : St) : SRet Try.prog 71 [.str t] s (.bool (kwB t)) s := by
  refine G_enter Try.func71 rfl Try.ntmps71 rfl fun Q hQ hQe => ?_
  (repeat' (first | refine Ctl ?_ | ((with_reducible refine Kof.use hK ?_); clear hK hE K E) | ((with_reducible refine Eof.use hE ?_); (try clear hK hE K E)) | ((with_reducible refine W_cond (fun h => ?_) (fun h => ?_)) <;> (try (exfalso; first | assumption | omega))) | ((first | (with_reducible first | refine G_region fun K E hK hE => ?_ | refine W_if ?_ | refine W_ifS ?_ | refine W_and ?_)) <;> (try simp (disch := first | assumption | omega) only [go_sem, seval, vrow, *]))))
  refine L_loop (fun m env s' => ∃ k : Nat, k ≤ 8 ∧ m + k = 8 ∧ (∀ j, j < k → kws[j]? ≠ some t) ∧ s' = s ∧ env 0 = .str t ∧ env 3 = .lst (kws.map strC) .full ∧ env 4 = .int .i64 k) 8 ⟨0, by omega, by omega, by omega, rfl, z_sl, z_sl, z_sl⟩ ?_
  rintro m env s' ⟨k, hk, hm, hj, rfl, e0, e3, e4⟩
  have hk8 : kws.length = 8 := rfl
  rcases Nat.lt_or_ge k 8 with h8 | h8
  · obtain ⟨d, hdk⟩ : ∃ d, kws[k]? = some d := ⟨_, List.getElem?_eq_getElem (by omega)⟩
    (repeat' (first | refine Ctl ?_ | ((with_reducible refine Kof.use hK ?_); clear hK hE K E) | ((with_reducible refine Eof.use hE ?_); (try clear hK hE K E)) | ((with_reducible refine W_cond (fun h => ?_) (fun h => ?_)) <;> (try (exfalso; first | assumption | omega))) | ((first | (with_reducible first | refine G_region fun K E hK hE => ?_ | refine W_if ?_ | refine W_ifS ?_ | refine W_and ?_)) <;> (try simp (disch := first | assumption | omega) only [go_sem, seval, List.getElem?_map, List.length_map, strC, *]))))
    all_goals first
      | refine ⟨m - 1, by omega, k + 1, by omega, by omega, fun j hj1 => ?_, rfl, z_sl, z_sl, z_sl⟩
        rcases Nat.lt_or_ge j k with hjk | hjk
        · exact hj j hjk
        · have : j = k := by omega
          subst this
          grind
      | (first | refine W_ret res71 hQ ?_ | refine W_norm res71 hQ ?_ | refine G_pan hQ ?_)
        (refine ⟨_, _, Wk.of_eq ?_, ?_, rfl, rfl⟩)
        · rw [kwB_mem, decide_eq_true (by have := List.mem_of_getElem? hdk; grind)]
        · exact Fg.refl _
  · have : k = 8 := by omega
    subst this
    have hnm : t ∉ kws := fun hm => by
      obtain ⟨j, hj9, e⟩ := List.mem_iff_getElem.1 hm
      exact hj j hj9 (by rw [List.getElem?_eq_getElem hj9, e])
    (repeat' (first | refine Ctl ?_ | ((with_reducible refine Kof.use hK ?_); clear hK hE K E) | ((with_reducible refine Eof.use hE ?_); (try clear hK hE K E)) | ((with_reducible refine W_cond (fun h => ?_) (fun h => ?_)) <;> (try (exfalso; first | assumption | omega))) | ((first | (with_reducible first | refine G_region fun K E hK hE => ?_ | refine W_if ?_ | refine W_ifS ?_ | refine W_and ?_)) <;> (try simp (disch := first | assumption | omega) only [go_sem, seval, List.getElem?_map, List.length_map, strC, *]))))
    all_goals (first | refine W_ret res71 hQ ?_ | refine W_norm res71 hQ ?_ | refine G_pan hQ ?_)
    all_goals (refine ⟨_, _, Wk.of_eq ?_, ?_, rfl, rfl⟩)
    all_goals first | exact Fg.refl _ | (rw [kwB_mem, decide_eq_false hnm])

theorem Rname_S (t : List UInt8) (s : St) : SRet Try.prog 51 [.str t] s (.bool (RnameB t)) s := by
  refine G_enter Try.func51 rfl Try.ntmps51 rfl fun Q hQ hQe => ?_
  (repeat' (first | refine Ctl ?_ | ((with_reducible refine Kof.use hK ?_); clear hK hE K E) | ((with_reducible refine Eof.use hE ?_); (try clear hK hE K E)) | ((with_reducible refine W_cond (fun h => ?_) (fun h => ?_)) <;> (try (exfalso; first | assumption | omega))) | ((first | (with_reducible first | refine G_region fun K E hK hE => ?_ | refine call_ret can70 (Ris_S _ _ _ _) ?_ | refine call_ret can71 (Rkeyword_S _ _) ?_ | refine W_if ?_ | refine W_ifS ?_ | refine W_and ?_) | ((with_reducible refine W_gd (fun h => ?_) (fun h => ?_)) <;> (try (exfalso; first | assumption | omega)))) <;> (try simp (disch := first | assumption | omega) only [go_sem, seval, *]))))
  all_goals (first | refine W_ret res51 hQ ?_ | refine W_norm res51 hQ ?_ | refine G_pan hQ ?_)
  all_goals (refine ⟨_, _, Wk.of_eq ?_, ?_, rfl, rfl⟩)
  all_goals first | (exact z_fg) | skip
  all_goals (simp only [RnameB, VV.bool.injEq]; grind)
end Go.Proofs.Ytejlknplmfmceaa
