/- What is proved: What package osierref10 hands back; The signs that package osierref10 hands back. Conditions: those that stand in the statements. -/
import Derived.Test.YtejlknplmfmceaaZGpj
import Derived.Test.YtejlknplmfmceaaZLexP
import Derived.Lib.IndexAny
set_option linter.unusedSimpArgs false
set_option linter.unusedVariables false
set_option maxRecDepth 100000
namespace Go.Proofs.Ytejlknplmfmceaa
open Go.RowKit

theorem u8_eq {c d : UInt8} : ((c.toNat : Int) = (d.toNat : Int)) = (c = d) := by
  apply propext
  rw [Int.natCast_inj, UInt8.toNat_inj]
theorem Rdigit_S (c : UInt8) (s : St) : SRet Try.prog 66 [.int .u8 c.toNat] s (.bool (digB c)) s := by
  refine G_enter Try.func66 rfl Try.ntmps66 rfl fun Q hQ hQe => ?_
  (repeat' (first | refine Ctl ?_ | ((with_reducible refine Kof.use hK ?_); clear hK hE K E) | ((with_reducible refine Eof.use hE ?_); (try clear hK hE K E)) | ((with_reducible refine W_cond (fun h => ?_) (fun h => ?_)) <;> (try (exfalso; first | assumption | omega))) | ((first | (with_reducible first | refine G_region fun K E hK hE => ?_ | refine W_if ?_ | refine W_ifS ?_ | refine W_and ?_) | ((with_reducible refine W_gd (fun h => ?_) (fun h => ?_)) <;> (try (exfalso; first | assumption | omega)))) <;> (try simp (disch := first | assumption | omega) only [go_sem, seval, *]))))
  all_goals (first | refine W_ret res66 hQ ?_ | refine W_norm res66 hQ ?_ | refine G_pan hQ ?_)
  all_goals (refine ⟨_, _, Wk.of_eq ?_, ?_, rfl, rfl⟩)
  all_goals first | exact Fg.refl _ | skip
  all_goals (simp only [VV.bool.injEq, digB]; grind)

theorem Rpart_S (c : UInt8) (s : St) : SRet Try.prog 68 [.int .u8 c.toNat] s (.bool (partB c)) s := by
  refine G_enter Try.func68 rfl Try.ntmps68 rfl fun Q hQ hQe => ?_
  (repeat' (first | refine Ctl ?_ | ((with_reducible refine Kof.use hK ?_); clear hK hE K E) | ((with_reducible refine Eof.use hE ?_); (try clear hK hE K E)) | ((with_reducible refine W_cond (fun h => ?_) (fun h => ?_)) <;> (try (exfalso; first | assumption | omega))) | ((first | (with_reducible first | refine G_region fun K E hK hE => ?_ | refine call_ret can66 (Rdigit_S _ _) ?_ | refine W_if ?_ | refine W_ifS ?_ | refine W_and ?_) | ((with_reducible refine W_gd (fun h => ?_) (fun h => ?_)) <;> (try (exfalso; first | assumption | omega)))) <;> (try simp (disch := first | assumption | omega) only [go_sem, seval, *]))))
  all_goals (first | refine W_ret res68 hQ ?_ | refine W_norm res68 hQ ?_ | refine G_pan hQ ?_)
  all_goals (refine ⟨_, _, Wk.of_eq ?_, ?_, rfl, rfl⟩)
  all_goals first | exact Fg.refl _ | skip
  all_goals (simp only [VV.bool.injEq, partB, digB]; grind)

def rpB (d : Bool) (c : UInt8) : Bool := partB c && (!d || digB c)
theorem digB_part {c : UInt8} (h : digB c = true) : partB c = true := by simp [partB, h]
theorem rpB_t (c : UInt8) : rpB true c = digB c := by
  unfold rpB
  cases h : digB c with
  | true => simp [digB_part h]
  | false => simp
theorem rpB_f (c : UInt8) : rpB false c = partB c := by simp [rpB]

theorem Rrun_S (l : List UInt8) (a : Nat) (d : Bool) (s : St) (ha : a ≤ l.length) (hl : l.length ≤ 9223372036854775000) :
    SRet Try.prog 67 [.str l, .int .i64 a, .bool d] s (.int .i64 (runN (rpB d) (l.drop a))) s := by
  refine G_enter Try.func67 rfl Try.ntmps67 rfl fun Q hQ hQe => ?_
  (repeat' (first | refine Ctl ?_ | ((with_reducible refine Kof.use hK ?_); clear hK hE K E) | ((with_reducible refine Eof.use hE ?_); (try clear hK hE K E)) | ((with_reducible refine W_cond (fun h => ?_) (fun h => ?_)) <;> (try (exfalso; first | assumption | omega))) | ((first | (with_reducible first | refine G_region fun K E hK hE => ?_ | refine call_ret can66 (Rdigit_S _ _) ?_ | refine call_ret can68 (Rpart_S _ _) ?_ | refine W_if ?_ | refine W_ifS ?_ | refine W_and ?_) | ((with_reducible refine W_gd (fun h => ?_) (fun h => ?_)) <;> (try (exfalso; first | assumption | omega)))) <;> (try simp (disch := first | assumption | omega) only [go_sem, seval, *]))))
  have hle := runN_le (rpB d) (l.drop a)
  rw [List.length_drop] at hle
  refine L_loop (fun m env s' => ∃ k : Nat, k ≤ runN (rpB d) (l.drop a) ∧ m + k = runN (rpB d) (l.drop a) ∧ s' = s ∧ env 0 = .str l ∧ env 1 = .int .i64 a ∧ env 2 = .bool d ∧ env 7 = .int .i64 k) (runN (rpB d) (l.drop a)) ⟨0, by omega, by omega, rfl, by (simp (disch := first | assumption | omega) only [go_sem, seval, *]), by (simp (disch := first | assumption | omega) only [go_sem, seval, *]), by (simp (disch := first | assumption | omega) only [go_sem, seval, *]), by (simp (disch := first | assumption | omega) only [go_sem, seval, *])⟩ ?_
  rintro m env s' ⟨k, hk, hm, rfl, e0, e1, e2, e7⟩
  obtain ⟨r1, r2, r3⟩ := runN_at (rpB d) (l.drop a) k hk
  simp only [List.getElem?_drop] at r1 r2 r3
  have c1 : (a : Int) + (k : Int) = ((a + k : Nat) : Int) := by omega
  rcases hc : l[a + k]? with _ | c
  · have hlt : ¬ a + k < l.length := by have := List.getElem?_eq_none_iff.1 hc; omega
    have := r3 hc
    (repeat' (first | refine Ctl ?_ | ((with_reducible refine Kof.use hK ?_); clear hK hE K E) | ((with_reducible refine Eof.use hE ?_); (try clear hK hE K E)) | ((with_reducible refine W_cond (fun h => ?_) (fun h => ?_)) <;> (try (exfalso; first | assumption | omega))) | ((first | (with_reducible first | refine G_region fun K E hK hE => ?_ | refine call_ret can66 (Rdigit_S _ _) ?_ | refine call_ret can68 (Rpart_S _ _) ?_ | refine W_if ?_ | refine W_ifS ?_ | refine W_and ?_) | ((with_reducible refine W_gd (fun h => ?_) (fun h => ?_)) <;> (try (exfalso; first | assumption | omega)))) <;> (try simp (disch := first | assumption | omega) only [go_sem, seval, c1, *]))))
    all_goals (first | refine W_ret res67 hQ ?_ | refine W_norm res67 hQ ?_ | refine G_pan hQ ?_)
    all_goals (refine ⟨_, _, Wk.of_eq ?_, ?_, rfl, rfl⟩)
    · rw [this]
    · exact Fg.refl _
  · have hlt : a + k < l.length := (List.getElem?_eq_some_iff.1 hc).1
    have hr1 := r1 c hc
    have hr2 := r2 c hc
    clear r1 r2 r3
    (repeat' (first | refine Ctl ?_ | ((with_reducible refine Kof.use hK ?_); clear hK hE K E) | ((with_reducible refine Eof.use hE ?_); (try clear hK hE K E)) | ((with_reducible refine W_cond (fun h => ?_) (fun h => ?_)) <;> (try (exfalso; first | assumption | omega))) | ((first | (with_reducible first | refine G_region fun K E hK hE => ?_ | refine call_ret can66 (Rdigit_S _ _) ?_ | refine call_ret can68 (Rpart_S _ _) ?_ | refine W_if ?_ | refine W_ifS ?_ | refine W_and ?_) | ((with_reducible refine W_gd (fun h => ?_) (fun h => ?_)) <;> (try (exfalso; first | assumption | omega)))) <;> (try simp (disch := first | assumption | omega) only [go_sem, seval, c1, *]))))
    all_goals first
      | (have := hr1 (by simp only [rpB]; grind)
         refine ⟨m - 1, by omega, k + 1, by omega, by omega, rfl, z_sl, z_sl, z_sl, z_sl⟩)
      | ((first | refine W_ret res67 hQ ?_ | refine W_norm res67 hQ ?_ | refine G_pan hQ ?_); (refine ⟨_, _, Wk.of_eq ?_, ?_, rfl, rfl⟩) <;> first | exact Fg.refl _ | (rw [hr2 (by simp only [rpB]; grind)]))

theorem marks_mem (c : UInt8) : (0 ≤ Lib.indexByte marks c) = (c ∈ marks) := by
  have := Lib.contains_iff_indexByte marks c
  rw [← decide_eq_true_eq (p := 0 ≤ Lib.indexByte marks c), ← this]; simp
theorem markN_cons (c : UInt8) (r : List UInt8) : markN (c :: r) = if ((c :: r).take 2 = [58, 45] ∨ (c :: r).take 2 = [58, 58] ∨ (c :: r).take 2 = [33, 61]) then 2 else if c ∈ marks then 1 else 0 := by
  have pre : ∀ p : List UInt8, p.length = 2 → p.isPrefixOf (c :: r) = decide ((c :: r).take 2 = p) := fun p hp => by
    rw [← hp]
    by_cases h : p.length ≤ (c :: r).length
    · exact (prefix_take p _ h).symm
    · rw [prefix_long p _ h]
      symm
      rw [decide_eq_false_iff_not]
      intro e
      have := congrArg List.length e
      rw [List.length_take] at this
      omega
  simp only [markN, pre [58, 45] rfl, pre [58, 58] rfl, pre [33, 61] rfl, marks_mem, decide_eq_true_eq]
  grind
theorem take2_drop (l : List UInt8) (a : Nat) : List.drop a (List.take (a + 2) l) = (l.drop a).take 2 := by
  rw [List.drop_take]; simp
theorem Rmark_S (l : List UInt8) (a : Nat) (c : UInt8) (r : List UInt8) (s : St) (hd : l.drop a = c :: r) (hl : l.length ≤ 9223372036854775000) :
    SRet Try.prog 69 [.str l, .int .i64 a] s (.int .i64 (markN (c :: r))) s := by
  refine G_enter Try.func69 rfl Try.ntmps69 rfl fun Q hQ hQe => ?_
  have hlen : a + 1 + r.length = l.length := by have := congrArg List.length hd; simp at this; omega
  have hc : l[a]? = some c := by have := List.getElem?_drop (xs := l) (i := a) (j := 0); rw [hd] at this; simpa using this.symm
  have hT := take2_drop l a
  rw [hd] at hT
  have c1 : (a : Int) + 2 = ((a + 2 : Nat) : Int) := by omega
  have hs : r.length = 0 → r = [] := List.eq_nil_of_length_eq_zero
  (repeat' (first | refine Ctl ?_ | ((with_reducible refine Kof.use hK ?_); clear hK hE K E) | ((with_reducible refine Eof.use hE ?_); (try clear hK hE K E)) | ((with_reducible refine Kof.use hKh ?_); clear hKh Kh) | ((with_reducible refine Kof.use hKb (P_next ?_)); clear hKb Kb) | (with_reducible refine G_plan 8 [] [0, 1, 2, 3, 4, 5] hQe fun K E hK hE => ?_) | ((with_reducible refine W_cond (fun h => ?_) (fun h => ?_)) <;> (try (exfalso; first | assumption | omega))) | ((first | (with_reducible first | refine G_region fun K E hK hE => ?_ | refine W_if ?_ | refine W_ifS ?_ | refine P_heads fun Kh hKh => ?_ | refine P_fin fun Kh hKh => ?_ | refine P_each fun Kb hKb => ?_ | refine W_and ?_) | ((with_reducible refine W_gd (fun h => ?_) (fun h => ?_)) <;> (try (exfalso; first | assumption | omega)))) <;> (try simp (disch := first | assumption | omega) only [go_sem, seval, c1, *]))))
  all_goals try ((first | refine W_ret res69 hQ ?_ | refine W_norm res69 hQ ?_ | refine G_pan hQ ?_); (refine ⟨_, _, Wk.of_eq ?_, ?_, rfl, rfl⟩) <;> first | exact Fg.refl _ | (rw [markN_cons]; grind))
  all_goals
    have hno : ¬ ((c :: r).take 2 = [58, 45] ∨ (c :: r).take 2 = [58, 58] ∨ (c :: r).take 2 = [33, 61]) := by
      first | (rw [hs (by omega)]; simp; done) | (rw [hT] at *; simp_all; done)
    refine L_loop (fun m env s' => ∃ k : Nat, k ≤ 9 ∧ m + k = 9 ∧ (∀ j, j < k → marks[j]? ≠ some c) ∧ s' = s ∧ env 0 = .str l ∧ env 1 = .int .i64 a ∧ env 6 = .int .i64 k) 9 ⟨0, by omega, by omega, by omega, rfl, z_sl, z_sl, z_sl⟩ ?_
    rintro m env s' ⟨k, hk, hm, hj, rfl, e0, e1, e6⟩
    rcases Nat.lt_or_ge k 9 with h9 | h9
    · obtain ⟨d, hdk⟩ : ∃ d, marks[k]? = some d := ⟨_, List.getElem?_eq_getElem (by simp [marks]; omega)⟩
      have hmk : ([40, 41, 123, 125, 44, 46, 59, 61, 33] : List UInt8)[k]? = some d := hdk
      (repeat' (first | refine Ctl ?_ | ((with_reducible refine Kof.use hK ?_); clear hK hE K E) | ((with_reducible refine Eof.use hE ?_); (try clear hK hE K E)) | ((with_reducible refine Kof.use hKh ?_); clear hKh Kh) | ((with_reducible refine Kof.use hKb (P_next ?_)); clear hKb Kb) | (with_reducible refine G_plan 8 [] [0, 1, 2, 3, 4, 5] hQe fun K E hK hE => ?_) | ((with_reducible refine W_cond (fun h => ?_) (fun h => ?_)) <;> (try (exfalso; first | assumption | omega))) | ((first | (with_reducible first | refine G_region fun K E hK hE => ?_ | refine W_if ?_ | refine W_ifS ?_ | refine P_heads fun Kh hKh => ?_ | refine P_fin fun Kh hKh => ?_ | refine P_each fun Kb hKb => ?_ | refine W_and ?_) | ((with_reducible refine W_gd (fun h => ?_) (fun h => ?_)) <;> (try (exfalso; first | assumption | omega)))) <;> (try simp (disch := first | assumption | omega) only [go_sem, seval, *]))))
      all_goals first
        | refine ⟨m - 1, by omega, k + 1, by omega, by omega, fun j hj1 => ?_, rfl, z_sl, z_sl, z_sl⟩
          rcases Nat.lt_or_ge j k with hjk | hjk
          · exact hj j hjk
          · have : j = k := by omega
            subst this
            rw [hdk]
            intro e
            injection e with e
            exact ‹¬ c.toNat = d.toNat› (by rw [e])
        | have hcd : c = d := UInt8.toNat_inj.1 (of_eq_true ‹(c.toNat = d.toNat) = True›)
          (first | refine W_ret res69 hQ ?_ | refine W_norm res69 hQ ?_ | refine G_pan hQ ?_)
          (refine ⟨_, _, Wk.of_eq ?_, ?_, rfl, rfl⟩)
          · rw [markN_cons, if_neg hno, if_pos (hcd ▸ List.mem_of_getElem? hdk)]; rfl
          · exact Fg.refl _
    · have : k = 9 := by omega
      subst this
      have hnm : c ∉ marks := fun hm => by
        obtain ⟨j, hj9, e⟩ := List.mem_iff_getElem.1 hm
        exact hj j hj9 (by rw [List.getElem?_eq_getElem hj9, e])
      (repeat' (first | refine Ctl ?_ | ((with_reducible refine Kof.use hK ?_); clear hK hE K E) | ((with_reducible refine Eof.use hE ?_); (try clear hK hE K E)) | ((with_reducible refine Kof.use hKh ?_); clear hKh Kh) | ((with_reducible refine Kof.use hKb (P_next ?_)); clear hKb Kb) | (with_reducible refine G_plan 8 [] [0, 1, 2, 3, 4, 5] hQe fun K E hK hE => ?_) | ((with_reducible refine W_cond (fun h => ?_) (fun h => ?_)) <;> (try (exfalso; first | assumption | omega))) | ((first | (with_reducible first | refine G_region fun K E hK hE => ?_ | refine W_if ?_ | refine W_ifS ?_ | refine P_heads fun Kh hKh => ?_ | refine P_fin fun Kh hKh => ?_ | refine P_each fun Kb hKb => ?_ | refine W_and ?_) | ((with_reducible refine W_gd (fun h => ?_) (fun h => ?_)) <;> (try (exfalso; first | assumption | omega)))) <;> (try simp (disch := first | assumption | omega) only [go_sem, seval, *]))))
      all_goals (first | refine W_ret res69 hQ ?_ | refine W_norm res69 hQ ?_ | refine G_pan hQ ?_)
      all_goals (refine ⟨_, _, Wk.of_eq ?_, ?_, rfl, rfl⟩)
      all_goals first | exact Fg.refl _ | (rw [markN_cons, if_neg hno, if_neg hnm]; rfl)

def RoneV (a : Nat) (l : List UInt8) : VV := .tup [if (oneK l).2 = 0 ∧ (oneK l).1 = 0 then .agg [.int .i64 0, .str [], .int .i64 0] else .agg [.int .i64 (oneK l).1, .str (l.take (oneK l).2), .int .i64 a], .bool (decide (0 < (oneK l).2))]
theorem rp_t : rpB true = digB := funext rpB_t
theorem rp_f : rpB false = partB := funext rpB_f
theorem Rone_S (l : List UInt8) (a : Nat) (c : UInt8) (r : List UInt8) (s : St) (hd : l.drop a = c :: r) (hl : l.length ≤ 9223372036854775000) :
    SRet Try.prog 47 [.str l, .int .i64 a] s (RoneV a (c :: r)) s := by
  refine G_enter Try.func47 rfl Try.ntmps47 rfl fun Q hQ hQe => ?_
  have hlen : a + 1 + r.length = l.length := by have := congrArg List.length hd; simp at this; omega
  have hc : l[a]? = some c := by have := List.getElem?_drop (xs := l) (i := a) (j := 0); rw [hd] at this; simpa using this.symm
  have h1 := runN_le digB (c :: r)
  have h2 := runN_le partB (c :: r)
  have h3 : (oneK (c :: r)).2 ≤ r.length + 1 := oneK_le c r
  simp only [List.length_cons] at h1 h2
  have h4 : markN (c :: r) ≤ 2 := by unfold markN; grind
  have e48 : ((c.toNat : Int) = 48) = (c = 48) := u8_eq (c := c) (d := 48)
  have h5 : markN (c :: r) ≤ r.length + 1 := by rw [markN_cons]; cases r <;> grind
  have hT : ∀ k, List.drop a (List.take (a + k) l) = (c :: r).take k := fun k => by rw [List.drop_take, hd]; simp
  have c1 : ∀ k : Nat, (a : Int) + (k : Int) = ((a + k : Nat) : Int) := fun k => by omega
  (repeat' (first | refine Ctl ?_ | ((with_reducible refine Kof.use hK ?_); clear hK hE K E) | ((with_reducible refine Eof.use hE ?_); (try clear hK hE K E)) | ((with_reducible refine W_cond (fun h => ?_) (fun h => ?_)) <;> (try (exfalso; first | assumption | omega))) | ((first | (with_reducible first | refine G_region fun K E hK hE => ?_ | refine call_ret can66 (Rdigit_S _ _) ?_ | refine call_ret can68 (Rpart_S _ _) ?_ | refine call_ret can67 (Rrun_S _ _ _ _ (by first | assumption | omega) (by first | assumption | omega)) ?_ | refine call_ret can69 (Rmark_S _ _ _ _ _ (by first | assumption | omega) (by first | assumption | omega)) ?_ | refine W_if ?_ | refine W_ifS ?_ | refine W_and ?_) | ((with_reducible refine W_fresh (fun b hb => ?_)); (repeat (obtain ⟨_, hb⟩ := hb))) | ((with_reducible refine W_gd (fun h => ?_) (fun h => ?_)) <;> (try (exfalso; first | assumption | omega)))) <;> (try simp (disch := first | assumption | omega) only [go_sem, seval, c1, hd, rp_t, rp_f, *]))))
  all_goals (first | refine W_ret res47 hQ ?_ | refine W_norm res47 hQ ?_ | refine G_pan hQ ?_)
  all_goals (refine ⟨_, _, Wk.of_eq ?_, ?_, rfl, rfl⟩)
  all_goals first | (exact z_fg) | skip
  all_goals (simp only [RoneV, oneK, VV.tup.injEq, List.cons.injEq, VV.bool.injEq, and_true, List.length_cons]; grind)

def RisB (k : Nat) (t : List UInt8) : Bool := decide (t ≠ [] ∧ t.length ≤ 32 ∧ oneK t = (k, t.length))
theorem Ris_S (k : Nat) (t : List UInt8) (a : Int) (s : St) : SRet Try.prog 70 [.agg [.int .i64 k, .str t, .int .i64 a]] s (.bool (RisB k t)) s := by
  refine G_enter Try.func70 rfl Try.ntmps70 rfl fun Q hQ hQe => ?_
  rcases t with _ | ⟨c, r⟩
  · (repeat' (first | refine Ctl ?_ | ((with_reducible refine Kof.use hK ?_); clear hK hE K E) | ((with_reducible refine Eof.use hE ?_); (try clear hK hE K E)) | ((with_reducible refine W_cond (fun h => ?_) (fun h => ?_)) <;> (try (exfalso; first | assumption | omega))) | ((first | (with_reducible first | refine G_region fun K E hK hE => ?_ | refine call_ret can47 (Rone_S _ _ _ _ _ (by first | assumption | omega) (by first | assumption | omega)) ?_ | refine W_if ?_ | refine W_ifS ?_ | refine W_and ?_) | ((with_reducible refine W_fresh (fun b hb => ?_)); (repeat (obtain ⟨_, hb⟩ := hb))) | ((with_reducible refine W_gd (fun h => ?_) (fun h => ?_)) <;> (try (exfalso; first | assumption | omega)))) <;> (try simp (disch := first | assumption | omega) only [go_sem, seval, *]))))
    all_goals (first | refine W_ret res70 hQ ?_ | refine W_norm res70 hQ ?_ | refine G_pan hQ ?_)
    all_goals (refine ⟨_, _, Wk.of_eq ?_, ?_, rfl, rfl⟩)
    all_goals first | (exact z_fg) | skip
    all_goals simp [RisB]
  · have h3 : (oneK (c :: r)).2 ≤ r.length + 1 := oneK_le c r
    have htk : ((c :: r).take (oneK (c :: r)).2 = c :: r) = ((oneK (c :: r)).2 = r.length + 1) := by
      apply propext
      constructor
      · intro e; have := congrArg List.length e; rw [List.length_take] at this; simp only [List.length_cons] at this; omega
      · intro e; rw [e]; exact List.take_of_length_le (by simp)
    by_cases hz : (oneK (c :: r)).2 = 0 ∧ (oneK (c :: r)).1 = 0
    · have hv : RoneV 0 (c :: r) = .tup [.agg [.int .i64 0, .str [], .int .i64 0], .bool false] := by simp only [RoneV]; rw [if_pos hz]; simp [hz.1]
      have hone := fun (hl : (c :: r).length ≤ 9223372036854775000) (s : St) => hv ▸ Rone_S (c :: r) 0 c r s rfl hl
      clear hv
      (repeat' (first | refine Ctl ?_ | ((with_reducible refine Kof.use hK ?_); clear hK hE K E) | ((with_reducible refine Eof.use hE ?_); (try clear hK hE K E)) | ((with_reducible refine W_cond (fun h => ?_) (fun h => ?_)) <;> (try (exfalso; first | assumption | omega))) | ((first | (with_reducible first | refine G_region fun K E hK hE => ?_ | refine call_ret can47 (hone (by simp; omega) _) ?_ | refine call_ret can47 (Rone_S _ _ _ _ _ (by first | assumption | omega) (by first | assumption | omega)) ?_ | refine W_if ?_ | refine W_ifS ?_ | refine W_and ?_) | ((with_reducible refine W_fresh (fun b hb => ?_)); (repeat (obtain ⟨_, hb⟩ := hb))) | ((with_reducible refine W_gd (fun h => ?_) (fun h => ?_)) <;> (try (exfalso; first | assumption | omega)))) <;> (try simp (disch := first | assumption | omega) only [go_sem, seval, *]))))
      all_goals (first | refine W_ret res70 hQ ?_ | refine W_norm res70 hQ ?_ | refine G_pan hQ ?_)
      all_goals (refine ⟨_, _, Wk.of_eq ?_, ?_, rfl, rfl⟩)
      all_goals first | (exact z_fg) | skip
      all_goals (simp only [RisB, VV.bool.injEq]; grind)
    · have hv : RoneV 0 (c :: r) = .tup [.agg [.int .i64 (oneK (c :: r)).1, .str ((c :: r).take (oneK (c :: r)).2), .int .i64 0], .bool (decide (0 < (oneK (c :: r)).2))] := by simp only [RoneV]; rw [if_neg hz]; rfl
      have hone := fun (hl : (c :: r).length ≤ 9223372036854775000) (s : St) => hv ▸ Rone_S (c :: r) 0 c r s rfl hl
      clear hv
      (repeat' (first | refine Ctl ?_ | ((with_reducible refine Kof.use hK ?_); clear hK hE K E) | ((with_reducible refine Eof.use hE ?_); (try clear hK hE K E)) | ((with_reducible refine W_cond (fun h => ?_) (fun h => ?_)) <;> (try (exfalso; first | assumption | omega))) | ((first | (with_reducible first | refine G_region fun K E hK hE => ?_ | refine call_ret can47 (hone (by simp; omega) _) ?_ | refine call_ret can47 (Rone_S _ _ _ _ _ (by first | assumption | omega) (by first | assumption | omega)) ?_ | refine W_if ?_ | refine W_ifS ?_ | refine W_and ?_) | ((with_reducible refine W_fresh (fun b hb => ?_)); (repeat (obtain ⟨_, hb⟩ := hb))) | ((with_reducible refine W_gd (fun h => ?_) (fun h => ?_)) <;> (try (exfalso; first | assumption | omega)))) <;> (try simp (disch := first | assumption | omega) only [go_sem, seval, *]))))
      all_goals (first | refine W_ret res70 hQ ?_ | refine W_norm res70 hQ ?_ | refine G_pan hQ ?_)
      all_goals (refine ⟨_, _, Wk.of_eq ?_, ?_, rfl, rfl⟩)
      all_goals first | (exact z_fg) | skip
      all_goals (simp only [RisB, VV.bool.injEq]; generalize oneK (c :: r) = q at *; obtain ⟨q1, q2⟩ := q; grind)

end Go.Proofs.Ytejlknplmfmceaa
set_option maxRecDepth 100000
namespace Go.Proofs.Ytejlknplmfmceaa
open Go.RowKit

theorem Rsigns_S (l : List UInt8) (hl : l.length ≤ 9223372036854775000) (s : St) : SRet Try.prog 36 [.str l] s (signsV (lexSigns l)) s := by
  refine G_enter Try.func36 rfl Try.ntmps36 rfl fun Q hQ hQe => ?_
  by_cases hbig : 16384 < l.length
  · (repeat' (first | refine Ctl ?_ | ((with_reducible refine Kof.use hK ?_); clear hK hE K E) | ((with_reducible refine Eof.use hE ?_); (try clear hK hE K E)) | ((with_reducible refine W_cond (fun h => ?_) (fun h => ?_)) <;> (try (exfalso; first | assumption | omega))) | ((first | (with_reducible first | refine G_region fun K E hK hE => ?_ | refine call_ret can47 (Rone_S _ _ _ _ _ (by first | assumption | omega) (by first | assumption | omega)) ?_ | refine W_if ?_ | refine W_ifS ?_ | refine W_and ?_) | ((with_reducible refine W_fresh (fun b hb => ?_)); (repeat (obtain ⟨_, hb⟩ := hb))) | ((with_reducible refine W_app (fun o2 ho => ?_)); (repeat (obtain ⟨_, ho⟩ := ho))) | ((with_reducible refine W_gd (fun h => ?_) (fun h => ?_)) <;> (try (exfalso; first | assumption | omega)))) <;> (try simp (disch := first | assumption | omega) only [go_sem, seval, *]))))
    all_goals (first | refine W_ret res36 hQ ?_ | refine W_norm res36 hQ ?_ | refine G_pan hQ ?_)
    all_goals (refine ⟨_, _, ?_, ?_, rfl, rfl⟩)
    · rw [show lexSigns l = .error (0, 1) by unfold lexSigns; rw [if_pos hbig]]
      exact Wk.tup3
    · exact Fg.refl _
  · (repeat' (first | refine Ctl ?_ | ((with_reducible refine Kof.use hK ?_); clear hK hE K E) | ((with_reducible refine Eof.use hE ?_); (try clear hK hE K E)) | ((with_reducible refine W_cond (fun h => ?_) (fun h => ?_)) <;> (try (exfalso; first | assumption | omega))) | ((first | (with_reducible first | refine G_region fun K E hK hE => ?_ | refine call_ret can47 (Rone_S _ _ _ _ _ (by first | assumption | omega) (by first | assumption | omega)) ?_ | refine W_if ?_ | refine W_ifS ?_ | refine W_and ?_) | ((with_reducible refine W_fresh (fun b hb => ?_)); (repeat (obtain ⟨_, hb⟩ := hb))) | ((with_reducible refine W_app (fun o2 ho => ?_)); (repeat (obtain ⟨_, ho⟩ := ho))) | ((with_reducible refine W_gd (fun h => ?_) (fun h => ?_)) <;> (try (exfalso; first | assumption | omega)))) <;> (try simp (disch := first | assumption | omega) only [go_sem, seval, *]))))
    have hr : lexSigns l = lexR l 0 [] := by unfold lexSigns lexR; rw [if_neg (by omega)]
    generalize lexSigns l = r at *
    refine G_loop (fun n env s' => ∃ (at_ : Nat) (out : List Sgn) (o : Own), at_ ≤ l.length ∧ n + at_ = l.length ∧ out.length ≤ 4096 ∧ r = lexR (l.drop at_) at_ out ∧ s' = s.own o 100 3 out.length ∧ OwnOk s o out.length ∧
      env 0 = .str l ∧ env 5 = .lst (out.map sgnC) o ∧ env 6 = .int .i64 at_) l.length ?_ ?_
    · exact ⟨_, Fg.refl _, 0, [], .full, Nat.zero_le _, by omega, Nat.zero_le _, by simpa using hr, rfl, rfl, z_sl, z_sl, z_sl⟩
    · rintro n env s' ⟨at_, out, o, hat, hn, hout, hgo, rfl, hown, e0, e5, e6⟩
      rcases hd : l.drop at_ with _ | ⟨c, rr⟩
      · have h1 : l.length ≤ at_ := List.drop_eq_nil_iff.1 hd
        rw [hd, lexR_nil] at hgo
        subst hgo
        (repeat' (first | refine Ctl ?_ | ((with_reducible refine Kof.use hK ?_); clear hK hE K E) | ((with_reducible refine Eof.use hE ?_); (try clear hK hE K E)) | ((with_reducible refine W_cond (fun h => ?_) (fun h => ?_)) <;> (try (exfalso; first | assumption | omega))) | ((first | (with_reducible first | refine G_region fun K E hK hE => ?_ | refine call_ret can47 (Rone_S _ _ _ _ _ (by first | assumption | omega) (by first | assumption | omega)) ?_ | refine W_if ?_ | refine W_ifS ?_ | refine W_and ?_) | ((with_reducible refine W_fresh (fun b hb => ?_)); (repeat (obtain ⟨_, hb⟩ := hb))) | ((with_reducible refine W_app (fun o2 ho => ?_)); (repeat (obtain ⟨_, ho⟩ := ho))) | ((with_reducible refine W_gd (fun h => ?_) (fun h => ?_)) <;> (try (exfalso; first | assumption | omega)))) <;> (try simp (disch := first | assumption | omega) only [go_sem, seval, *]))))
        all_goals (first | refine W_ret res36 hQ ?_ | refine W_norm res36 hQ ?_ | refine G_pan hQ ?_)
        all_goals (refine ⟨_, _, ?_, ?_, rfl, rfl⟩)
        · exact Wk.tup3
        · exact Fg.own hown
      · have hlen : at_ + 1 + rr.length = l.length := by have := congrArg List.length hd; simp at this; omega
        have hc : l[at_]? = some c := by have := List.getElem?_drop (xs := l) (i := at_) (j := 0); rw [hd] at this; simpa using this.symm
        have hd1 : l.drop (at_ + 1) = rr := by rw [← List.drop_drop, hd]; rfl
        by_cases hb : blankB c = true
        · rw [hd, lexR_blank hb] at hgo
          rw [blankB_mem] at hb
          have e9 : ((c.toNat : Int) = 9) = (c = 9) := u8_eq (c := c) (d := 9)
          have e10 : ((c.toNat : Int) = 10) = (c = 10) := u8_eq (c := c) (d := 10)
          have e13 : ((c.toNat : Int) = 13) = (c = 13) := u8_eq (c := c) (d := 13)
          have e32 : ((c.toNat : Int) = 32) = (c = 32) := u8_eq (c := c) (d := 32)
          have hbb := of_decide_eq_true hb
          clear hb
          (repeat' (first | refine Ctl ?_ | ((with_reducible refine Kof.use hK ?_); clear hK hE K E) | ((with_reducible refine Eof.use hE ?_); (try clear hK hE K E)) | ((with_reducible refine W_cond (fun h => ?_) (fun h => ?_)) <;> (try (exfalso; first | assumption | omega))) | ((first | (with_reducible first | refine G_region fun K E hK hE => ?_ | refine call_ret can47 (Rone_S _ _ _ _ _ (by first | assumption | omega) (by first | assumption | omega)) ?_ | refine W_if ?_ | refine W_ifS ?_ | refine W_and ?_) | ((with_reducible refine W_fresh (fun b hb => ?_)); (repeat (obtain ⟨_, hb⟩ := hb))) | ((with_reducible refine W_app (fun o2 ho => ?_)); (repeat (obtain ⟨_, ho⟩ := ho))) | ((with_reducible refine W_gd (fun h => ?_) (fun h => ?_)) <;> (try (exfalso; first | assumption | omega)))) <;> (try simp (disch := first | assumption | omega) only [go_sem, seval, *]))))
          all_goals first
            | (exfalso; grind; done)
            | exact ⟨_, Fg.refl _, n - 1, by omega, at_ + 1, out, o, by omega, by omega, hout, by rw [hd1]; exact hgo, rfl, hown, z_sl, z_sl, z_sl⟩
        · have hbn : ¬ (c = 32 ∨ c = 9 ∨ c = 10 ∨ c = 13) := by rw [blankB_mem] at hb; simpa using hb
          simp only [not_or] at hbn
          obtain ⟨n32, n9, n10, n13⟩ := hbn
          have e9 : ((c.toNat : Int) = 9) = (c = 9) := u8_eq (c := c) (d := 9)
          have e10 : ((c.toNat : Int) = 10) = (c = 10) := u8_eq (c := c) (d := 10)
          have e13 : ((c.toNat : Int) = 13) = (c = 13) := u8_eq (c := c) (d := 13)
          have e32 : ((c.toNat : Int) = 32) = (c = 32) := u8_eq (c := c) (d := 32)
          have e35 : ((c.toNat : Int) = 35) = (c = 35) := u8_eq (c := c) (d := 35)
          by_cases hh : c = 35
          · have hc35 : c.toNat = 35 := by rw [hh]; rfl
            rw [hd, lexR_hash hc35, ← hd] at hgo
            replace hh := eq_true hh
            clear hc35
            (repeat' (first | refine Ctl ?_ | ((with_reducible refine Kof.use hK ?_); clear hK hE K E) | ((with_reducible refine Eof.use hE ?_); (try clear hK hE K E)) | ((with_reducible refine W_cond (fun h => ?_) (fun h => ?_)) <;> (try (exfalso; first | assumption | omega))) | ((first | (with_reducible first | refine G_region fun K E hK hE => ?_ | refine call_ret can47 (Rone_S _ _ _ _ _ (by first | assumption | omega) (by first | assumption | omega)) ?_ | refine W_if ?_ | refine W_ifS ?_ | refine W_and ?_) | ((with_reducible refine W_fresh (fun b hb => ?_)); (repeat (obtain ⟨_, hb⟩ := hb))) | ((with_reducible refine W_app (fun o2 ho => ?_)); (repeat (obtain ⟨_, ho⟩ := ho))) | ((with_reducible refine W_gd (fun h => ?_) (fun h => ?_)) <;> (try (exfalso; first | assumption | omega)))) <;> (try simp (disch := first | assumption | omega) only [go_sem, seval, *]))))
            refine L_loop (fun m env s' => ∃ a2 : Nat, a2 ≤ l.length ∧ m + a2 = l.length ∧ (at_ < a2 ∨ a2 = at_) ∧ r = lexR ((l.drop a2).drop (runN noLine (l.drop a2))) (a2 + runN noLine (l.drop a2)) out ∧ s' = s.own o 100 3 out.length ∧ OwnOk s o out.length ∧
              env 0 = .str l ∧ env 5 = .lst (out.map sgnC) o ∧ env 6 = .int .i64 a2) n ⟨at_, by omega, by omega, .inr rfl, hgo, rfl, hown, z_sl, z_sl, z_sl⟩ ?_
            rintro m env2 s2 ⟨a2, ha2, hm, hat2, hgo2, rfl, _, f0, f5, f6⟩
            clear e0 e5 e6 hgo
            rcases hd2 : l.drop a2 with _ | ⟨c2, r2⟩
            · have h1 : l.length ≤ a2 := List.drop_eq_nil_iff.1 hd2
              have hgo3 : r = lexR (l.drop a2) a2 out := by rw [hgo2, hd2]; rfl
              (repeat' (first | refine Ctl ?_ | ((with_reducible refine Kof.use hK ?_); clear hK hE K E) | ((with_reducible refine Eof.use hE ?_); (try clear hK hE K E)) | ((with_reducible refine W_cond (fun h => ?_) (fun h => ?_)) <;> (try (exfalso; first | assumption | omega))) | ((first | (with_reducible first | refine G_region fun K E hK hE => ?_ | refine call_ret can47 (Rone_S _ _ _ _ _ (by first | assumption | omega) (by first | assumption | omega)) ?_ | refine W_if ?_ | refine W_ifS ?_ | refine W_and ?_) | ((with_reducible refine W_fresh (fun b hb => ?_)); (repeat (obtain ⟨_, hb⟩ := hb))) | ((with_reducible refine W_app (fun o2 ho => ?_)); (repeat (obtain ⟨_, ho⟩ := ho))) | ((with_reducible refine W_gd (fun h => ?_) (fun h => ?_)) <;> (try (exfalso; first | assumption | omega)))) <;> (try simp (disch := first | assumption | omega) only [go_sem, seval, *]))))
              all_goals exact ⟨_, Fg.refl _, l.length - a2, by omega, a2, out, o, by omega, by omega, hout, hgo3, rfl, hown, z_sl, z_sl, z_sl⟩
            · have hlen2 : a2 + 1 + r2.length = l.length := by have := congrArg List.length hd2; simp at this; omega
              have hc2 : l[a2]? = some c2 := by have := List.getElem?_drop (xs := l) (i := a2) (j := 0); rw [hd2] at this; simpa using this.symm
              have hd3 : l.drop (a2 + 1) = r2 := by rw [← List.drop_drop, hd2]; rfl
              have f10 : ((c2.toNat : Int) = 10) = (c2 = 10) := u8_eq (c := c2) (d := 10)
              by_cases hnl : c2 = 10
              · have hne : ¬ a2 = at_ := fun e => by subst e; rw [hc] at hc2; injection hc2 with e2; exact n10 (e2.trans hnl)
                have hgo3 : r = lexR (l.drop a2) a2 out := by
                  rw [hgo2, hd2, runN_cons, if_neg (by simp [noLine, hnl])]; rfl
                replace hnl := eq_true hnl
                (repeat' (first | refine Ctl ?_ | ((with_reducible refine Kof.use hK ?_); clear hK hE K E) | ((with_reducible refine Eof.use hE ?_); (try clear hK hE K E)) | ((with_reducible refine W_cond (fun h => ?_) (fun h => ?_)) <;> (try (exfalso; first | assumption | omega))) | ((first | (with_reducible first | refine G_region fun K E hK hE => ?_ | refine call_ret can47 (Rone_S _ _ _ _ _ (by first | assumption | omega) (by first | assumption | omega)) ?_ | refine W_if ?_ | refine W_ifS ?_ | refine W_and ?_) | ((with_reducible refine W_fresh (fun b hb => ?_)); (repeat (obtain ⟨_, hb⟩ := hb))) | ((with_reducible refine W_app (fun o2 ho => ?_)); (repeat (obtain ⟨_, ho⟩ := ho))) | ((with_reducible refine W_gd (fun h => ?_) (fun h => ?_)) <;> (try (exfalso; first | assumption | omega)))) <;> (try simp (disch := first | assumption | omega) only [go_sem, seval, *]))))
                all_goals exact ⟨_, Fg.refl _, l.length - a2, by omega, a2, out, o, by omega, by omega, hout, hgo3, rfl, hown, z_sl, z_sl, z_sl⟩
              · have hn2 : noLine c2 = true := by simp only [noLine]; rw [decide_eq_false (by rw [f10]; exact hnl)]; rfl
                have hgo3 := hgo2
                rw [hd2, lexR_noline hn2, ← hd3] at hgo3
                (repeat' (first | refine Ctl ?_ | ((with_reducible refine Kof.use hK ?_); clear hK hE K E) | ((with_reducible refine Eof.use hE ?_); (try clear hK hE K E)) | ((with_reducible refine W_cond (fun h => ?_) (fun h => ?_)) <;> (try (exfalso; first | assumption | omega))) | ((first | (with_reducible first | refine G_region fun K E hK hE => ?_ | refine call_ret can47 (Rone_S _ _ _ _ _ (by first | assumption | omega) (by first | assumption | omega)) ?_ | refine W_if ?_ | refine W_ifS ?_ | refine W_and ?_) | ((with_reducible refine W_fresh (fun b hb => ?_)); (repeat (obtain ⟨_, hb⟩ := hb))) | ((with_reducible refine W_app (fun o2 ho => ?_)); (repeat (obtain ⟨_, ho⟩ := ho))) | ((with_reducible refine W_gd (fun h => ?_) (fun h => ?_)) <;> (try (exfalso; first | assumption | omega)))) <;> (try simp (disch := first | assumption | omega) only [go_sem, seval, *]))))
                all_goals exact ⟨m - 1, by omega, a2 + 1, by omega, by omega, by omega, hgo3, rfl, hown, z_sl, z_sl, z_sl⟩
          · have hc35 : ¬ c.toNat = 35 := fun e => hh (UInt8.toNat_inj.1 e)
            rw [hd, lexR_sign (by simpa using hb) hc35, ← hd] at hgo
            have hone := fun s => Rone_S l at_ c rr s hd (by omega)
            have hle := oneK_le c rr
            rw [← hd] at hle
            simp only [← hd] at hone
            have hll : (l.drop at_).length = l.length - at_ := List.length_drop
            by_cases hz : (oneK (l.drop at_)).2 = 0
            · have hv2 : ∃ a1 a2 a3, RoneV at_ (l.drop at_) = .tup [.agg [.int .i64 a1, .str a2, .int .i64 a3], .bool false] := by
                unfold RoneV
                by_cases hz2 : (oneK (l.drop at_)).1 = 0
                · rw [if_pos ⟨hz, hz2⟩, hz]; exact ⟨_, _, _, rfl⟩
                · rw [if_neg (fun h => hz2 h.2), hz]; exact ⟨_, _, _, rfl⟩
              obtain ⟨a1, a2, a3, hA⟩ := hv2
              rw [if_pos hz] at hgo
              simp only [hA] at hone
              clear hA
              (repeat' (first | refine Ctl ?_ | ((with_reducible refine Kof.use hK ?_); clear hK hE K E) | ((with_reducible refine Eof.use hE ?_); (try clear hK hE K E)) | ((with_reducible refine W_cond (fun h => ?_) (fun h => ?_)) <;> (try (exfalso; first | assumption | omega))) | ((first | (with_reducible first | refine G_region fun K E hK hE => ?_ | refine call_ret can47 ((hone _)) ?_ | refine call_ret can47 (Rone_S _ _ _ _ _ (by first | assumption | omega) (by first | assumption | omega)) ?_ | refine W_if ?_ | refine W_ifS ?_ | refine W_and ?_) | ((with_reducible refine W_fresh (fun b hb => ?_)); (repeat (obtain ⟨_, hb⟩ := hb))) | ((with_reducible refine W_app (fun o2 ho => ?_)); (repeat (obtain ⟨_, ho⟩ := ho))) | ((with_reducible refine W_gd (fun h => ?_) (fun h => ?_)) <;> (try (exfalso; first | assumption | omega)))) <;> (try simp (disch := first | assumption | omega) only [go_sem, seval, *]))))
              all_goals (first | refine W_ret res36 hQ ?_ | refine W_norm res36 hQ ?_ | refine G_pan hQ ?_)
              all_goals (refine ⟨_, _, ?_, ?_, rfl, rfl⟩)
              · rw [hgo]; exact Wk.tup3
              · (exact z_fg)
            · have hA : RoneV at_ (l.drop at_) = .tup [.agg [.int .i64 (oneK (l.drop at_)).1, .str ((l.drop at_).take (oneK (l.drop at_)).2), .int .i64 at_], .bool true] := by
                unfold RoneV
                rw [if_neg (fun h => hz h.1), decide_eq_true (by omega)]
              simp only [hA] at hone
              rw [if_neg hz] at hgo
              have hdd : (l.drop at_).drop (oneK (l.drop at_)).2 = l.drop (at_ + (oneK (l.drop at_)).2) := List.drop_drop
              have htl : ((l.drop at_).take (oneK (l.drop at_)).2).length = (oneK (l.drop at_)).2 := by rw [List.length_take]; omega
              rw [hdd] at hgo
              clear hA
              generalize (l.drop at_).take (oneK (l.drop at_)).2 = tx at *
              generalize (oneK (l.drop at_)).1 = kd at *
              generalize (oneK (l.drop at_)).2 = nn at *
              by_cases hfull : 4096 ≤ out.length
              · rw [if_pos hfull] at hgo
                (repeat' (first | refine Ctl ?_ | ((with_reducible refine Kof.use hK ?_); clear hK hE K E) | ((with_reducible refine Eof.use hE ?_); (try clear hK hE K E)) | ((with_reducible refine W_cond (fun h => ?_) (fun h => ?_)) <;> (try (exfalso; first | assumption | omega))) | ((first | (with_reducible first | refine G_region fun K E hK hE => ?_ | refine call_ret can47 ((hone _)) ?_ | refine call_ret can47 (Rone_S _ _ _ _ _ (by first | assumption | omega) (by first | assumption | omega)) ?_ | refine W_if ?_ | refine W_ifS ?_ | refine W_and ?_) | ((with_reducible refine W_fresh (fun b hb => ?_)); (repeat (obtain ⟨_, hb⟩ := hb))) | ((with_reducible refine W_app (fun o2 ho => ?_)); (try simp (disch := assumption) only [disown_set, disown_own, ownok_o, ownok_m, List.length_map, List.length_cons, List.length_nil, Nat.zero_add, List.length_map] at ho); (repeat (obtain ⟨_, ho⟩ := ho))) | ((with_reducible refine W_gd (fun h => ?_) (fun h => ?_)) <;> (try (exfalso; first | assumption | omega)))) <;> (try simp (disch := first | assumption | omega) only [go_sem, seval, List.length_map, *]))))
                all_goals (first | refine W_ret res36 hQ ?_ | refine W_norm res36 hQ ?_ | refine G_pan hQ ?_)
                all_goals (refine ⟨_, _, ?_, ?_, rfl, rfl⟩)
                · rw [hgo]; exact Wk.tup3
                · (exact z_fg)
              · rw [if_neg hfull] at hgo
                (repeat' (first | refine Ctl ?_ | ((with_reducible refine Kof.use hK ?_); clear hK hE K E) | ((with_reducible refine Eof.use hE ?_); (try clear hK hE K E)) | ((with_reducible refine W_cond (fun h => ?_) (fun h => ?_)) <;> (try (exfalso; first | assumption | omega))) | ((first | (with_reducible first | refine G_region fun K E hK hE => ?_ | refine call_ret can47 ((hone _)) ?_ | refine call_ret can47 (Rone_S _ _ _ _ _ (by first | assumption | omega) (by first | assumption | omega)) ?_ | refine W_if ?_ | refine W_ifS ?_ | refine W_and ?_) | ((with_reducible refine W_fresh (fun b hb => ?_)); (repeat (obtain ⟨_, hb⟩ := hb))) | ((with_reducible refine W_app (fun o2 ho => ?_)); (try simp (disch := assumption) only [disown_set, disown_own, ownok_o, ownok_m, List.length_map, List.length_cons, List.length_nil, Nat.zero_add, List.length_map, htl, vrow] at ho); (repeat (obtain ⟨_, ho⟩ := ho))) | ((with_reducible refine W_gd (fun h => ?_) (fun h => ?_)) <;> (try (exfalso; first | assumption | omega)))) <;> (try simp (disch := first | assumption | omega) only [go_sem, seval, List.length_map, htl, vrow, *]))))
                refine ⟨_, ?_, n - nn, by omega, at_ + nn, out ++ [{ kind := kd, text := tx, at_ := at_ }], _, by omega, by omega, by simp; omega, hgo, rfl, by simpa using ho, z_sl, ?_, z_sl⟩
                · simp only [List.length_append, List.length_cons, List.length_nil]
                  (exact z_fg)
                · (simp (disch := first | assumption | omega) only [go_sem, seval, *])
                  simp [sgnC]

def GoodL (L : List Sgn) : Prop := ∀ x, x ∈ L → decide (x.kind = 1) = RisB 1 x.text
theorem runN_take (p : UInt8 → Bool) : ∀ l : List UInt8, runN p (l.take (runN p l)) = runN p l
  | [] => rfl
  | c :: l => by
    rw [runN_cons]
    split
    · rename_i h
      rw [List.take_succ_cons, runN_cons, if_pos h, runN_take p l]
    · rfl
theorem sign_good (c : UInt8) (r : List UInt8) (h : (oneK (c :: r)).2 ≠ 0) : decide ((oneK (c :: r)).1 = 1) = RisB 1 ((c :: r).take (oneK (c :: r)).2) := by
  obtain ⟨n, hn⟩ : ∃ n, (oneK (c :: r)).2 = n + 1 := ⟨(oneK (c :: r)).2 - 1, by omega⟩
  have hle := oneK_le c r
  have hl : ((c :: r).take (n + 1)).length = n + 1 := by rw [List.length_take]; omega
  rw [hn]
  have ht : (c :: r).take (n + 1) = c :: r.take n := rfl
  by_cases hd : digB c = true
  · have h1 : (oneK (c :: r)).1 ≠ 1 := by simp only [oneK, hd, if_true]; split <;> simp
    have h2 : (oneK (c :: r.take n)).1 ≠ 1 := by simp only [oneK, hd, if_true]; split <;> simp
    rw [decide_eq_false h1]
    unfold RisB
    rw [ht, decide_eq_false]
    rintro ⟨_, _, e⟩
    rw [e] at h2
    exact h2 rfl
  · have hd : digB c = false := by simpa using hd
    by_cases hp : partB c = true
    · have h0 := h
      simp only [oneK, hd, hp, if_true, Bool.false_eq_true, if_false] at h0 hn ⊢
      by_cases hb : 32 < runN partB (c :: r)
      · rw [if_pos hb] at h0; exact absurd rfl h0
      · rw [if_neg hb] at hn
        simp only at hn
        rw [if_neg hb]
        have ho : oneK (c :: r.take n) = (1, n + 1) := by
          simp only [oneK, hd, hp, if_true, Bool.false_eq_true, if_false]
          have hr := runN_take partB (c :: r)
          rw [hn, ht] at hr
          rw [hr, if_neg (by omega)]
        unfold RisB
        rw [ht] at hl
        rw [ht, ho, hl]
        simp
        omega
    · have hp : partB c = false := by simpa using hp
      have h1 : (oneK (c :: r)).1 = 3 := by simp only [oneK, hd, hp, Bool.false_eq_true, if_false]
      have h2 : (oneK (c :: r.take n)).1 = 3 := by simp only [oneK, hd, hp, Bool.false_eq_true, if_false]
      rw [h1]
      unfold RisB
      rw [ht, decide_eq_false (by decide), decide_eq_false]
      rintro ⟨_, _, e⟩
      rw [e] at h2
      cases h2
theorem lexGo_good : ∀ (f : Nat) (l : List UInt8) (at_ : Nat) (out L : List Sgn), GoodL out → out.length ≤ 4096 → lexGo f l at_ out = .ok L → GoodL L ∧ L.length ≤ 4096
  | 0, l, at_, out, L, hg, hl, h => by simp only [lexGo] at h; injection h with h; subst h; exact ⟨hg, hl⟩
  | f + 1, l, at_, out, L, hg, hl, h => by
    simp only [lexGo] at h
    cases hd : l.drop (runN blankB l) with
    | nil => rw [hd] at h; injection h with h; subst h; exact ⟨hg, hl⟩
    | cons c r =>
      rw [hd] at h
      simp only at h
      split at h
      · exact lexGo_good f _ _ _ _ hg hl h
      · split at h
        · cases h
        · rename_i h0
          split at h
          · cases h
          · rename_i hf
            refine lexGo_good f _ _ _ _ ?_ (by simp; omega) h
            intro x hx
            rcases List.mem_append.1 hx with hx | hx
            · exact hg x hx
            · rw [List.mem_singleton] at hx
              subst hx
              exact sign_good c r h0
theorem lexSigns_good {s : List UInt8} {L : List Sgn} (h : lexSigns s = .ok L) : GoodL L ∧ L.length ≤ 4096 := by
  unfold lexSigns at h
  split at h
  · cases h
  · exact lexGo_good _ _ _ _ _ (fun x hx => by cases hx) (by simp) h
end Go.Proofs.Ytejlknplmfmceaa
