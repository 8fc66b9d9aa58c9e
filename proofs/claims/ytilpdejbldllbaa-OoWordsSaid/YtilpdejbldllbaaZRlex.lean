/- What is proved: What package osierref10 hands back. Conditions: those that stand in the statements. -/
import Derived.Test.YtilpdejbldllbaaZOoH
import Derived.Test.YtilpdejbldllbaaZGp
import Derived.Test.YtilpdejbldllbaaZLexP
import Derived.Lib.IndexAny
set_option linter.unusedSimpArgs false
set_option linter.unusedVariables false
set_option maxRecDepth 100000
namespace Go.Proofs.Ytilpdejbldllbaa
open Go.RowKit

theorem u8_eq {c d : UInt8} : ((c.toNat : Int) = (d.toNat : Int)) = (c = d) := by
  apply propext
  rw [Int.natCast_inj, UInt8.toNat_inj]
theorem u8_ge {c : UInt8} {k : Nat} : (((k:Nat):Int) ≤ (c.toNat : Int)) = (k ≤ c.toNat) := by simp
theorem Rdigit_S (c : UInt8) (s : St) : SRet Try.prog 77 [.int .u8 c.toNat] s (.bool (digB c)) s := by
  refine G_enter Try.func77 rfl Try.ntmps77 rfl fun Q hQ hQe => ?_
  (repeat' (first
    | with_reducible first | refine L_seq ?_ | refine L_blk ?_ | refine L_skip ?_ | refine L_endblk ?_ | refine L_ret ?_ | refine L_exit ?_ | refine X_code ?_ | refine X_back ?_ | refine X_blk ?_ | refine X_past (by decide) ?_ | refine L_back ?_
    | ((with_reducible refine Kof.use hK ?_); clear hK hE K E)
    | ((with_reducible refine Eof.use hE ?_); (try clear hK hE K E))
    | ((with_reducible refine W_cond (fun h => ?_) (fun h => ?_)) <;> (try (exfalso; first | assumption | omega)))
    | ((with_reducible first | refine G_region fun K E hK hE => ?_ | refine W_if ?_ | refine W_ifS ?_ | refine W_and ?_) <;> (try simp (disch := first | assumption | omega) only [go_sem, seval, *]))
    | ((with_reducible refine W_fresh (fun b hb => ?_)); (repeat (obtain ⟨_, hb⟩ := hb)); (try simp (disch := first | assumption | omega) only [go_sem, seval, *]))
    | ((with_reducible refine W_app (fun o2 ho => ?_)); (repeat (obtain ⟨_, ho⟩ := ho)); (try simp (disch := first | assumption | omega) only [go_sem, seval, *]))
    | ((with_reducible refine W_gd (fun h => ?_) (fun h => ?_)) <;> (try (exfalso; first | assumption | omega)) <;> (try simp (disch := first | assumption | omega) only [go_sem, seval, *]))))
  all_goals (first | refine G_ret hQ (by simp (disch := first | assumption | omega) only [res77, go_sem, seval, *] <;> rfl) ?_ | refine G_norm hQ (by simp (disch := first | assumption | omega) only [res77, go_sem, seval, *] <;> rfl) ?_ | refine G_pan hQ ?_)
  all_goals (refine ⟨_, _, Wk.of_eq ?_, ?_, rfl, rfl⟩)
  all_goals first | exact Fg.refl _ | skip
  all_goals (simp only [VV.bool.injEq, digB]; grind)

theorem Rpart_S (c : UInt8) (s : St) : SRet Try.prog 79 [.int .u8 c.toNat] s (.bool (partB c)) s := by
  refine G_enter Try.func79 rfl Try.ntmps79 rfl fun Q hQ hQe => ?_
  (repeat' (first
    | with_reducible first | refine L_seq ?_ | refine L_blk ?_ | refine L_skip ?_ | refine L_endblk ?_ | refine L_ret ?_ | refine L_exit ?_ | refine X_code ?_ | refine X_back ?_ | refine X_blk ?_ | refine X_past (by decide) ?_ | refine L_back ?_
    | ((with_reducible refine Kof.use hK ?_); clear hK hE K E)
    | ((with_reducible refine Eof.use hE ?_); (try clear hK hE K E))
    | ((with_reducible refine W_cond (fun h => ?_) (fun h => ?_)) <;> (try (exfalso; first | assumption | omega)))
    | ((with_reducible first | refine G_region fun K E hK hE => ?_ | refine call_ret can77 (Rdigit_S _ _) ?_ | refine W_if ?_ | refine W_ifS ?_ | refine W_and ?_) <;> (try simp (disch := first | assumption | omega) only [go_sem, seval, *]))
    | ((with_reducible refine W_fresh (fun b hb => ?_)); (repeat (obtain ⟨_, hb⟩ := hb)); (try simp (disch := first | assumption | omega) only [go_sem, seval, *]))
    | ((with_reducible refine W_app (fun o2 ho => ?_)); (repeat (obtain ⟨_, ho⟩ := ho)); (try simp (disch := first | assumption | omega) only [go_sem, seval, *]))
    | ((with_reducible refine W_gd (fun h => ?_) (fun h => ?_)) <;> (try (exfalso; first | assumption | omega)) <;> (try simp (disch := first | assumption | omega) only [go_sem, seval, *]))))
  all_goals (first | refine G_ret hQ (by simp (disch := first | assumption | omega) only [res79, go_sem, seval, *] <;> rfl) ?_ | refine G_norm hQ (by simp (disch := first | assumption | omega) only [res79, go_sem, seval, *] <;> rfl) ?_ | refine G_pan hQ ?_)
  all_goals (refine ⟨_, _, Wk.of_eq ?_, ?_, rfl, rfl⟩)
  all_goals first | exact Fg.refl _ | skip
  all_goals (simp only [VV.bool.injEq, partB, digB]; grind)

def rpB (d : Bool) (c : UInt8) : Bool := partB c && (!d || digB c)
theorem digB_part {c : UInt8} (h : digB c = true) : partB c = true := by simp [partB, h]
theorem rpB_t (c : UInt8) : rpB true c = digB c := by
  unfold rpB
  cases h : digB c with
  | true => simp [digB_part h]
  | false => simp
theorem rpB_f (c : UInt8) : rpB false c = partB c := by simp [rpB]

theorem Rrun_S (l : List UInt8) (a : Nat) (d : Bool) (s : St) (ha : a ≤ l.length) (hl : l.length ≤ 9223372036854775000) :
    SRet Try.prog 78 [.str l, .int .i64 a, .bool d] s (.int .i64 (runN (rpB d) (l.drop a))) s := by
  refine G_enter Try.func78 rfl Try.ntmps78 rfl fun Q hQ hQe => ?_
  (repeat' (first
    | with_reducible first | refine L_seq ?_ | refine L_blk ?_ | refine L_skip ?_ | refine L_endblk ?_ | refine L_ret ?_ | refine L_exit ?_ | refine X_code ?_ | refine X_back ?_ | refine X_blk ?_ | refine X_past (by decide) ?_ | refine L_back ?_
    | ((with_reducible refine Kof.use hK ?_); clear hK hE K E)
    | ((with_reducible refine Eof.use hE ?_); (try clear hK hE K E))
    | ((with_reducible refine W_cond (fun h => ?_) (fun h => ?_)) <;> (try (exfalso; first | assumption | omega)))
    | ((with_reducible first | refine G_region fun K E hK hE => ?_ | refine call_ret can77 (Rdigit_S _ _) ?_ | refine call_ret can79 (Rpart_S _ _) ?_ | refine W_if ?_ | refine W_ifS ?_ | refine W_and ?_) <;> (try simp (disch := first | assumption | omega) only [go_sem, seval, *]))
    | ((with_reducible refine W_fresh (fun b hb => ?_)); (repeat (obtain ⟨_, hb⟩ := hb)); (try simp (disch := first | assumption | omega) only [go_sem, seval, *]))
    | ((with_reducible refine W_app (fun o2 ho => ?_)); (repeat (obtain ⟨_, ho⟩ := ho)); (try simp (disch := first | assumption | omega) only [go_sem, seval, *]))
    | ((with_reducible refine W_gd (fun h => ?_) (fun h => ?_)) <;> (try (exfalso; first | assumption | omega)) <;> (try simp (disch := first | assumption | omega) only [go_sem, seval, *]))))
  have hle := runN_le (rpB d) (l.drop a)
  rw [List.length_drop] at hle
  refine L_loop (fun m env s' => ∃ k : Nat, k ≤ runN (rpB d) (l.drop a) ∧ m + k = runN (rpB d) (l.drop a) ∧ s' = s ∧ env 0 = .str l ∧ env 1 = .int .i64 a ∧ env 2 = .bool d ∧ env 7 = .int .i64 k) (runN (rpB d) (l.drop a)) ⟨0, by omega, by omega, rfl, by (simp (disch := first | assumption | omega) only [go_sem, seval, *]), by (simp (disch := first | assumption | omega) only [go_sem, seval, *]), by (simp (disch := first | assumption | omega) only [go_sem, seval, *]), by (simp (disch := first | assumption | omega) only [go_sem, seval, *])⟩ ?_
  rintro m env s' ⟨k, hk, hm, rfl, e0, e1, e2, e7⟩
  obtain ⟨r1, r2, r3⟩ := runN_at (rpB d) (l.drop a) k hk
  simp only [List.getElem?_drop] at r1 r2 r3
  have c1 : (a : Int) + (k : Int) = ((a + k : Nat) : Int) := by omega
  rcases hc : l[a + k]? with _ | c
  · have hlt : ¬ a + k < l.length := by have := List.getElem?_eq_none_iff.1 hc; omega
    have := r3 hc
    (repeat' (first
      | with_reducible first | refine L_seq ?_ | refine L_blk ?_ | refine L_skip ?_ | refine L_endblk ?_ | refine L_ret ?_ | refine L_exit ?_ | refine X_code ?_ | refine X_back ?_ | refine X_blk ?_ | refine X_past (by decide) ?_ | refine L_back ?_
      | ((with_reducible refine Kof.use hK ?_); clear hK hE K E)
      | ((with_reducible refine Eof.use hE ?_); (try clear hK hE K E))
      | ((with_reducible refine W_cond (fun h => ?_) (fun h => ?_)) <;> (try (exfalso; first | assumption | omega)))
      | ((with_reducible first | refine G_region fun K E hK hE => ?_ | refine call_ret can77 (Rdigit_S _ _) ?_ | refine call_ret can79 (Rpart_S _ _) ?_ | refine W_if ?_ | refine W_ifS ?_ | refine W_and ?_) <;> (try simp (disch := first | assumption | omega) only [go_sem, seval, c1, *]))
      | ((with_reducible refine W_fresh (fun b hb => ?_)); (repeat (obtain ⟨_, hb⟩ := hb)); (try simp (disch := first | assumption | omega) only [go_sem, seval, c1, *]))
      | ((with_reducible refine W_app (fun o2 ho => ?_)); (try simp (disch := assumption) only [disown_set, disown_own, ownok_o, ownok_m, List.length_map, List.length_cons, List.length_nil, Nat.zero_add, c1] at ho); (repeat (obtain ⟨_, ho⟩ := ho)); (try simp (disch := first | assumption | omega) only [go_sem, seval, c1, *]))
      | ((with_reducible refine W_gd (fun h => ?_) (fun h => ?_)) <;> (try (exfalso; first | assumption | omega)) <;> (try simp (disch := first | assumption | omega) only [go_sem, seval, c1, *]))))
    all_goals (first | refine G_ret hQ (by simp (disch := first | assumption | omega) only [res78, go_sem, seval, *] <;> rfl) ?_ | refine G_norm hQ (by simp (disch := first | assumption | omega) only [res78, go_sem, seval, *] <;> rfl) ?_ | refine G_pan hQ ?_)
    all_goals (refine ⟨_, _, Wk.of_eq ?_, ?_, rfl, rfl⟩)
    · rw [this]
    · exact Fg.refl _
  · have hlt : a + k < l.length := (List.getElem?_eq_some_iff.1 hc).1
    have hr1 := r1 c hc
    have hr2 := r2 c hc
    clear r1 r2 r3
    (repeat' (first
      | with_reducible first | refine L_seq ?_ | refine L_blk ?_ | refine L_skip ?_ | refine L_endblk ?_ | refine L_ret ?_ | refine L_exit ?_ | refine X_code ?_ | refine X_back ?_ | refine X_blk ?_ | refine X_past (by decide) ?_ | refine L_back ?_
      | ((with_reducible refine Kof.use hK ?_); clear hK hE K E)
      | ((with_reducible refine Eof.use hE ?_); (try clear hK hE K E))
      | ((with_reducible refine W_cond (fun h => ?_) (fun h => ?_)) <;> (try (exfalso; first | assumption | omega)))
      | ((with_reducible first | refine G_region fun K E hK hE => ?_ | refine call_ret can77 (Rdigit_S _ _) ?_ | refine call_ret can79 (Rpart_S _ _) ?_ | refine W_if ?_ | refine W_ifS ?_ | refine W_and ?_) <;> (try simp (disch := first | assumption | omega) only [go_sem, seval, c1, *]))
      | ((with_reducible refine W_fresh (fun b hb => ?_)); (repeat (obtain ⟨_, hb⟩ := hb)); (try simp (disch := first | assumption | omega) only [go_sem, seval, c1, *]))
      | ((with_reducible refine W_app (fun o2 ho => ?_)); (try simp (disch := assumption) only [disown_set, disown_own, ownok_o, ownok_m, List.length_map, List.length_cons, List.length_nil, Nat.zero_add, c1] at ho); (repeat (obtain ⟨_, ho⟩ := ho)); (try simp (disch := first | assumption | omega) only [go_sem, seval, c1, *]))
      | ((with_reducible refine W_gd (fun h => ?_) (fun h => ?_)) <;> (try (exfalso; first | assumption | omega)) <;> (try simp (disch := first | assumption | omega) only [go_sem, seval, c1, *]))))
    all_goals first
      | (have := hr1 (by simp only [rpB]; grind)
         refine ⟨m - 1, by omega, k + 1, by omega, by omega, rfl, by ((try simp (disch := first | assumption | omega) only [go_sem, seval, *]) <;> first | rfl | omega), by ((try simp (disch := first | assumption | omega) only [go_sem, seval, *]) <;> first | rfl | omega), by ((try simp (disch := first | assumption | omega) only [go_sem, seval, *]) <;> first | rfl | omega), by ((try simp (disch := first | assumption | omega) only [go_sem, seval, *]) <;> first | rfl | omega)⟩)
      | ((first | refine G_ret hQ (by simp (disch := first | assumption | omega) only [res78, go_sem, seval, *] <;> rfl) ?_ | refine G_norm hQ (by simp (disch := first | assumption | omega) only [res78, go_sem, seval, *] <;> rfl) ?_ | refine G_pan hQ ?_); (refine ⟨_, _, Wk.of_eq ?_, ?_, rfl, rfl⟩) <;> first | exact Fg.refl _ | (rw [hr2 (by simp only [rpB]; grind)]))

theorem marks_mem (c : UInt8) : (0 ≤ Lib.indexByte marks c) = (c ∈ marks) := by
  have := Lib.contains_iff_indexByte marks c
  rw [← decide_eq_true_eq (p := 0 ≤ Lib.indexByte marks c), ← this]; simp
theorem markN_cons (c : UInt8) (r : List UInt8) : markN (c :: r) = if ((c :: r).take 2 = [58, 45] ∨ (c :: r).take 2 = [58, 58] ∨ (c :: r).take 2 = [33, 61]) then 2 else if c ∈ marks then 1 else 0 := by
  have pre : ∀ p : List UInt8, p.length = 2 → p.isPrefixOf (c :: r) = decide ((c :: r).take 2 = p) := fun p hp => by
    rw [← hp]
    by_cases h : p.length ≤ (c :: r).length
    · exact (prefix_take p _ h).symm
    · rw [prefix_long p _ h]
      symm
      rw [decide_eq_false_iff_not]
      intro e
      have := congrArg List.length e
      rw [List.length_take] at this
      omega
  simp only [markN, pre [58, 45] rfl, pre [58, 58] rfl, pre [33, 61] rfl, marks_mem, decide_eq_true_eq]
  grind
theorem take2_drop (l : List UInt8) (a : Nat) : List.drop a (List.take (a + 2) l) = (l.drop a).take 2 := by
  rw [List.drop_take]; simp
theorem Rmark_S (l : List UInt8) (a : Nat) (c : UInt8) (r : List UInt8) (s : St) (hd : l.drop a = c :: r) (hl : l.length ≤ 9223372036854775000) :
    SRet Try.prog 80 [.str l, .int .i64 a] s (.int .i64 (markN (c :: r))) s := by
  refine G_enter Try.func80 rfl Try.ntmps80 rfl fun Q hQ hQe => ?_
  have hlen : a + 1 + r.length = l.length := by have := congrArg List.length hd; simp at this; omega
  have hc : l[a]? = some c := by have := List.getElem?_drop (xs := l) (i := a) (j := 0); rw [hd] at this; simpa using this.symm
  have hT := take2_drop l a
  rw [hd] at hT
  have c1 : (a : Int) + 2 = ((a + 2 : Nat) : Int) := by omega
  have hs : r.length = 0 → r = [] := List.eq_nil_of_length_eq_zero
  (repeat' (first
    | with_reducible first | refine L_seq ?_ | refine L_blk ?_ | refine L_skip ?_ | refine L_endblk ?_ | refine L_ret ?_ | refine L_exit ?_ | refine X_code ?_ | refine X_back ?_ | refine X_blk ?_ | refine X_past (by decide) ?_ | refine L_back ?_
    | ((with_reducible refine Kof.use hK ?_); clear hK hE K E)
    | ((with_reducible refine Eof.use hE ?_); (try clear hK hE K E))
    | ((with_reducible refine Kof.use hKh ?_); clear hKh Kh)
    | ((with_reducible refine Kof.use hKb (P_next ?_)); clear hKb Kb)
    | with_reducible refine G_plan 8 [] [0, 1, 2, 3, 4, 5] hQe fun K E hK hE => ?_
    | ((with_reducible refine W_cond (fun h => ?_) (fun h => ?_)) <;> (try (exfalso; first | assumption | omega)))
    | ((with_reducible first | refine G_region fun K E hK hE => ?_ | refine W_if ?_ | refine W_ifS ?_ | refine P_heads fun Kh hKh => ?_ | refine P_fin fun Kh hKh => ?_ | refine P_each fun Kb hKb => ?_ | refine W_and ?_) <;> (try simp (disch := first | assumption | omega) only [go_sem, seval, c1, *]))
    | ((with_reducible refine W_fresh (fun b hb => ?_)); (repeat (obtain ⟨_, hb⟩ := hb)); (try simp (disch := first | assumption | omega) only [go_sem, seval, c1, *]))
    | ((with_reducible refine W_app (fun o2 ho => ?_)); (try simp (disch := assumption) only [disown_set, disown_own, ownok_o, ownok_m, List.length_map, List.length_cons, List.length_nil, Nat.zero_add, c1] at ho); (repeat (obtain ⟨_, ho⟩ := ho)); (try simp (disch := first | assumption | omega) only [go_sem, seval, c1, *]))
    | ((with_reducible refine W_gd (fun h => ?_) (fun h => ?_)) <;> (try (exfalso; first | assumption | omega)) <;> (try simp (disch := first | assumption | omega) only [go_sem, seval, c1, *]))))
  all_goals try ((first | refine G_ret hQ (by simp (disch := first | assumption | omega) only [res80, go_sem, seval, *] <;> rfl) ?_ | refine G_norm hQ (by simp (disch := first | assumption | omega) only [res80, go_sem, seval, *] <;> rfl) ?_ | refine G_pan hQ ?_); (refine ⟨_, _, Wk.of_eq ?_, ?_, rfl, rfl⟩) <;> first | exact Fg.refl _ | (rw [markN_cons]; grind))
  all_goals
    have hno : ¬ ((c :: r).take 2 = [58, 45] ∨ (c :: r).take 2 = [58, 58] ∨ (c :: r).take 2 = [33, 61]) := by
      first | (rw [hs (by omega)]; simp; done) | (rw [hT] at *; simp_all; done)
    refine L_loop (fun m env s' => ∃ k : Nat, k ≤ 9 ∧ m + k = 9 ∧ (∀ j, j < k → marks[j]? ≠ some c) ∧ s' = s ∧ env 0 = .str l ∧ env 1 = .int .i64 a ∧ env 6 = .int .i64 k) 9 ⟨0, by omega, by omega, by omega, rfl, by ((try simp (disch := first | assumption | omega) only [go_sem, seval, *]) <;> first | rfl | omega), by ((try simp (disch := first | assumption | omega) only [go_sem, seval, *]) <;> first | rfl | omega), by ((try simp (disch := first | assumption | omega) only [go_sem, seval, *]) <;> first | rfl | omega)⟩ ?_
    rintro m env s' ⟨k, hk, hm, hj, rfl, e0, e1, e6⟩
    rcases Nat.lt_or_ge k 9 with h9 | h9
    · obtain ⟨d, hdk⟩ : ∃ d, marks[k]? = some d := ⟨_, List.getElem?_eq_getElem (by simp [marks]; omega)⟩
      have hmk : ([40, 41, 123, 125, 44, 46, 59, 61, 33] : List UInt8)[k]? = some d := hdk
      (repeat' (first
        | with_reducible first | refine L_seq ?_ | refine L_blk ?_ | refine L_skip ?_ | refine L_endblk ?_ | refine L_ret ?_ | refine L_exit ?_ | refine X_code ?_ | refine X_back ?_ | refine X_blk ?_ | refine X_past (by decide) ?_ | refine L_back ?_
        | ((with_reducible refine Kof.use hK ?_); clear hK hE K E)
        | ((with_reducible refine Eof.use hE ?_); (try clear hK hE K E))
        | ((with_reducible refine Kof.use hKh ?_); clear hKh Kh)
        | ((with_reducible refine Kof.use hKb (P_next ?_)); clear hKb Kb)
        | with_reducible refine G_plan 8 [] [0, 1, 2, 3, 4, 5] hQe fun K E hK hE => ?_
        | ((with_reducible refine W_cond (fun h => ?_) (fun h => ?_)) <;> (try (exfalso; first | assumption | omega)))
        | ((with_reducible first | refine G_region fun K E hK hE => ?_ | refine W_if ?_ | refine W_ifS ?_ | refine P_heads fun Kh hKh => ?_ | refine P_fin fun Kh hKh => ?_ | refine P_each fun Kb hKb => ?_ | refine W_and ?_) <;> (try simp (disch := first | assumption | omega) only [go_sem, seval, *]))
        | ((with_reducible refine W_fresh (fun b hb => ?_)); (repeat (obtain ⟨_, hb⟩ := hb)); (try simp (disch := first | assumption | omega) only [go_sem, seval, *]))
        | ((with_reducible refine W_app (fun o2 ho => ?_)); (repeat (obtain ⟨_, ho⟩ := ho)); (try simp (disch := first | assumption | omega) only [go_sem, seval, *]))
        | ((with_reducible refine W_gd (fun h => ?_) (fun h => ?_)) <;> (try (exfalso; first | assumption | omega)) <;> (try simp (disch := first | assumption | omega) only [go_sem, seval, *]))))
      all_goals first
        | refine ⟨m - 1, by omega, k + 1, by omega, by omega, fun j hj1 => ?_, rfl, by ((try simp (disch := first | assumption | omega) only [go_sem, seval, *]) <;> first | rfl | omega), by ((try simp (disch := first | assumption | omega) only [go_sem, seval, *]) <;> first | rfl | omega), by ((try simp (disch := first | assumption | omega) only [go_sem, seval, *]) <;> first | rfl | omega)⟩
          rcases Nat.lt_or_ge j k with hjk | hjk
          · exact hj j hjk
          · have : j = k := by omega
            subst this
            rw [hdk]
            intro e
            injection e with e
            exact ‹¬ c.toNat = d.toNat› (by rw [e])
        | have hcd : c = d := UInt8.toNat_inj.1 (of_eq_true ‹(c.toNat = d.toNat) = True›)
          (first | refine G_ret hQ (by simp (disch := first | assumption | omega) only [res80, go_sem, seval, *] <;> rfl) ?_ | refine G_norm hQ (by simp (disch := first | assumption | omega) only [res80, go_sem, seval, *] <;> rfl) ?_ | refine G_pan hQ ?_)
          (refine ⟨_, _, Wk.of_eq ?_, ?_, rfl, rfl⟩)
          · rw [markN_cons, if_neg hno, if_pos (hcd ▸ List.mem_of_getElem? hdk)]; rfl
          · exact Fg.refl _
    · have : k = 9 := by omega
      subst this
      have hnm : c ∉ marks := fun hm => by
        obtain ⟨j, hj9, e⟩ := List.mem_iff_getElem.1 hm
        exact hj j hj9 (by rw [List.getElem?_eq_getElem hj9, e])
      (repeat' (first
        | with_reducible first | refine L_seq ?_ | refine L_blk ?_ | refine L_skip ?_ | refine L_endblk ?_ | refine L_ret ?_ | refine L_exit ?_ | refine X_code ?_ | refine X_back ?_ | refine X_blk ?_ | refine X_past (by decide) ?_ | refine L_back ?_
        | ((with_reducible refine Kof.use hK ?_); clear hK hE K E)
        | ((with_reducible refine Eof.use hE ?_); (try clear hK hE K E))
        | ((with_reducible refine Kof.use hKh ?_); clear hKh Kh)
        | ((with_reducible refine Kof.use hKb (P_next ?_)); clear hKb Kb)
        | with_reducible refine G_plan 8 [] [0, 1, 2, 3, 4, 5] hQe fun K E hK hE => ?_
        | ((with_reducible refine W_cond (fun h => ?_) (fun h => ?_)) <;> (try (exfalso; first | assumption | omega)))
        | ((with_reducible first | refine G_region fun K E hK hE => ?_ | refine W_if ?_ | refine W_ifS ?_ | refine P_heads fun Kh hKh => ?_ | refine P_fin fun Kh hKh => ?_ | refine P_each fun Kb hKb => ?_ | refine W_and ?_) <;> (try simp (disch := first | assumption | omega) only [go_sem, seval, *]))
        | ((with_reducible refine W_fresh (fun b hb => ?_)); (repeat (obtain ⟨_, hb⟩ := hb)); (try simp (disch := first | assumption | omega) only [go_sem, seval, *]))
        | ((with_reducible refine W_app (fun o2 ho => ?_)); (repeat (obtain ⟨_, ho⟩ := ho)); (try simp (disch := first | assumption | omega) only [go_sem, seval, *]))
        | ((with_reducible refine W_gd (fun h => ?_) (fun h => ?_)) <;> (try (exfalso; first | assumption | omega)) <;> (try simp (disch := first | assumption | omega) only [go_sem, seval, *]))))
      all_goals (first | refine G_ret hQ (by simp (disch := first | assumption | omega) only [res80, go_sem, seval, *] <;> rfl) ?_ | refine G_norm hQ (by simp (disch := first | assumption | omega) only [res80, go_sem, seval, *] <;> rfl) ?_ | refine G_pan hQ ?_)
      all_goals (refine ⟨_, _, Wk.of_eq ?_, ?_, rfl, rfl⟩)
      all_goals first | exact Fg.refl _ | (rw [markN_cons, if_neg hno, if_neg hnm]; rfl)

/-- A sign that begins at a place. -/
def sgnV (x : Sgn) : VV := .agg (sgnC x)
def RoneV (a : Nat) (l : List UInt8) : VV := .tup [if (oneK l).2 = 0 ∧ (oneK l).1 = 0 then .agg [.int .i64 0, .str [], .int .i64 0] else .agg [.int .i64 (oneK l).1, .str (l.take (oneK l).2), .int .i64 a], .bool (decide (0 < (oneK l).2))]
theorem rp_t : rpB true = digB := funext rpB_t
theorem rp_f : rpB false = partB := funext rpB_f
theorem Rone_S (l : List UInt8) (a : Nat) (c : UInt8) (r : List UInt8) (s : St) (hd : l.drop a = c :: r) (hl : l.length ≤ 9223372036854775000) :
    SRet Try.prog 53 [.str l, .int .i64 a] s (RoneV a (c :: r)) s := by
  refine G_enter Try.func53 rfl Try.ntmps53 rfl fun Q hQ hQe => ?_
  have hlen : a + 1 + r.length = l.length := by have := congrArg List.length hd; simp at this; omega
  have hc : l[a]? = some c := by have := List.getElem?_drop (xs := l) (i := a) (j := 0); rw [hd] at this; simpa using this.symm
  have h1 := runN_le digB (c :: r)
  have h2 := runN_le partB (c :: r)
  have h3 : (oneK (c :: r)).2 ≤ r.length + 1 := oneK_le c r
  simp only [List.length_cons] at h1 h2
  have h4 : markN (c :: r) ≤ 2 := by unfold markN; grind
  have e48 : ((c.toNat : Int) = 48) = (c = 48) := u8_eq (c := c) (d := 48)
  have h5 : markN (c :: r) ≤ r.length + 1 := by rw [markN_cons]; cases r <;> grind
  have hT : ∀ k, List.drop a (List.take (a + k) l) = (c :: r).take k := fun k => by rw [List.drop_take, hd]; simp
  have c1 : ∀ k : Nat, (a : Int) + (k : Int) = ((a + k : Nat) : Int) := fun k => by omega
  (repeat' (first
    | with_reducible first | refine L_seq ?_ | refine L_blk ?_ | refine L_skip ?_ | refine L_endblk ?_ | refine L_ret ?_ | refine L_exit ?_ | refine X_code ?_ | refine X_back ?_ | refine X_blk ?_ | refine X_past (by decide) ?_ | refine L_back ?_
    | ((with_reducible refine Kof.use hK ?_); clear hK hE K E)
    | ((with_reducible refine Eof.use hE ?_); (try clear hK hE K E))
    | ((with_reducible refine W_cond (fun h => ?_) (fun h => ?_)) <;> (try (exfalso; first | assumption | omega)))
    | ((with_reducible first | refine G_region fun K E hK hE => ?_ | refine call_ret can77 (Rdigit_S _ _) ?_ | refine call_ret can79 (Rpart_S _ _) ?_ | refine call_ret can78 (Rrun_S _ _ _ _ (by first | assumption | omega) (by first | assumption | omega)) ?_ | refine call_ret can80 (Rmark_S _ _ _ _ _ (by first | assumption | omega) (by first | assumption | omega)) ?_ | refine W_if ?_ | refine W_ifS ?_ | refine W_and ?_) <;> (try simp (disch := first | assumption | omega) only [go_sem, seval, c1, hd, rp_t, rp_f, *]))
    | ((with_reducible refine W_fresh (fun b hb => ?_)); (repeat (obtain ⟨_, hb⟩ := hb)); (try simp (disch := first | assumption | omega) only [go_sem, seval, c1, hd, rp_t, rp_f, *]))
    | ((with_reducible refine W_app (fun o2 ho => ?_)); (try simp (disch := assumption) only [disown_set, disown_own, ownok_o, ownok_m, List.length_map, List.length_cons, List.length_nil, Nat.zero_add, c1, hd, rp_t, rp_f] at ho); (repeat (obtain ⟨_, ho⟩ := ho)); (try simp (disch := first | assumption | omega) only [go_sem, seval, c1, hd, rp_t, rp_f, *]))
    | ((with_reducible refine W_gd (fun h => ?_) (fun h => ?_)) <;> (try (exfalso; first | assumption | omega)) <;> (try simp (disch := first | assumption | omega) only [go_sem, seval, c1, hd, rp_t, rp_f, *]))))
  all_goals (first | refine G_ret hQ (by simp (disch := first | assumption | omega) only [res53, go_sem, seval, *] <;> rfl) ?_ | refine G_norm hQ (by simp (disch := first | assumption | omega) only [res53, go_sem, seval, *] <;> rfl) ?_ | refine G_pan hQ ?_)
  all_goals (refine ⟨_, _, Wk.of_eq ?_, ?_, rfl, rfl⟩)
  all_goals first | ((try dsimp only); (repeat (first | exact Fg.refl _ | exact Fg.own (by assumption) | (refine Fg.set ?_ _ _) | (refine Fg.setA ?_ (by first | assumption | (simp (disch := assumption) only [own_rd, St.set, if_false, if_true, *]; done))) )); done) | skip
  all_goals (simp only [RoneV, oneK, VV.tup.injEq, List.cons.injEq, VV.bool.injEq, and_true, List.length_cons]; grind)

def RisB (k : Nat) (t : List UInt8) : Bool := decide (t ≠ [] ∧ t.length ≤ 32 ∧ oneK t = (k, t.length))
theorem Ris_S (k : Nat) (t : List UInt8) (a : Int) (s : St) : SRet Try.prog 44 [.agg [.int .i64 k, .str t, .int .i64 a]] s (.bool (RisB k t)) s := by
  refine G_enter Try.func44 rfl Try.ntmps44 rfl fun Q hQ hQe => ?_
  rcases t with _ | ⟨c, r⟩
  · (repeat' (first
   | with_reducible first | refine L_seq ?_ | refine L_blk ?_ | refine L_skip ?_ | refine L_endblk ?_ | refine L_ret ?_ | refine L_exit ?_ | refine X_code ?_ | refine X_back ?_ | refine X_blk ?_ | refine X_past (by decide) ?_ | refine L_back ?_
   | ((with_reducible refine Kof.use hK ?_); clear hK hE K E)
   | ((with_reducible refine Eof.use hE ?_); (try clear hK hE K E))
   | ((with_reducible refine W_cond (fun h => ?_) (fun h => ?_)) <;> (try (exfalso; first | assumption | omega)))
   | ((with_reducible first | refine G_region fun K E hK hE => ?_ | refine call_ret can53 (Rone_S _ _ _ _ _ (by first | assumption | omega) (by first | assumption | omega)) ?_ | refine W_if ?_ | refine W_ifS ?_ | refine W_and ?_) <;> (try simp (disch := first | assumption | omega) only [go_sem, seval, *]))
   | ((with_reducible refine W_fresh (fun b hb => ?_)); (repeat (obtain ⟨_, hb⟩ := hb)); (try simp (disch := first | assumption | omega) only [go_sem, seval, *]))
   | ((with_reducible refine W_app (fun o2 ho => ?_)); (repeat (obtain ⟨_, ho⟩ := ho)); (try simp (disch := first | assumption | omega) only [go_sem, seval, *]))
   | ((with_reducible refine W_gd (fun h => ?_) (fun h => ?_)) <;> (try (exfalso; first | assumption | omega)) <;> (try simp (disch := first | assumption | omega) only [go_sem, seval, *]))))
    all_goals (first | refine G_ret hQ (by simp (disch := first | assumption | omega) only [res44, go_sem, seval, *] <;> rfl) ?_ | refine G_norm hQ (by simp (disch := first | assumption | omega) only [res44, go_sem, seval, *] <;> rfl) ?_ | refine G_pan hQ ?_)
    all_goals (refine ⟨_, _, Wk.of_eq ?_, ?_, rfl, rfl⟩)
    all_goals first | ((try dsimp only); (repeat (first | exact Fg.refl _ | exact Fg.own (by assumption) | (refine Fg.set ?_ _ _) | (refine Fg.setA ?_ (by first | assumption | (simp (disch := assumption) only [own_rd, St.set, if_false, if_true, *]; done))) )); done) | skip
    all_goals simp [RisB]
  · have h3 : (oneK (c :: r)).2 ≤ r.length + 1 := oneK_le c r
    have htk : ((c :: r).take (oneK (c :: r)).2 = c :: r) = ((oneK (c :: r)).2 = r.length + 1) := by
      apply propext
      constructor
      · intro e; have := congrArg List.length e; rw [List.length_take] at this; simp only [List.length_cons] at this; omega
      · intro e; rw [e]; exact List.take_of_length_le (by simp)
    by_cases hz : (oneK (c :: r)).2 = 0 ∧ (oneK (c :: r)).1 = 0
    · have hv : RoneV 0 (c :: r) = .tup [.agg [.int .i64 0, .str [], .int .i64 0], .bool false] := by simp only [RoneV]; rw [if_pos hz]; simp [hz.1]
      have hone := fun (hl : (c :: r).length ≤ 9223372036854775000) (s : St) => hv ▸ Rone_S (c :: r) 0 c r s rfl hl
      clear hv
      (repeat' (first
        | with_reducible first | refine L_seq ?_ | refine L_blk ?_ | refine L_skip ?_ | refine L_endblk ?_ | refine L_ret ?_ | refine L_exit ?_ | refine X_code ?_ | refine X_back ?_ | refine X_blk ?_ | refine X_past (by decide) ?_ | refine L_back ?_
        | ((with_reducible refine Kof.use hK ?_); clear hK hE K E)
        | ((with_reducible refine Eof.use hE ?_); (try clear hK hE K E))
        | ((with_reducible refine W_cond (fun h => ?_) (fun h => ?_)) <;> (try (exfalso; first | assumption | omega)))
        | ((with_reducible first | refine G_region fun K E hK hE => ?_ | refine call_ret can53 (hone (by simp; omega) _) ?_ | refine call_ret can53 (Rone_S _ _ _ _ _ (by first | assumption | omega) (by first | assumption | omega)) ?_ | refine W_if ?_ | refine W_ifS ?_ | refine W_and ?_) <;> (try simp (disch := first | assumption | omega) only [go_sem, seval, *]))
        | ((with_reducible refine W_fresh (fun b hb => ?_)); (repeat (obtain ⟨_, hb⟩ := hb)); (try simp (disch := first | assumption | omega) only [go_sem, seval, *]))
        | ((with_reducible refine W_app (fun o2 ho => ?_)); (repeat (obtain ⟨_, ho⟩ := ho)); (try simp (disch := first | assumption | omega) only [go_sem, seval, *]))
        | ((with_reducible refine W_gd (fun h => ?_) (fun h => ?_)) <;> (try (exfalso; first | assumption | omega)) <;> (try simp (disch := first | assumption | omega) only [go_sem, seval, *]))))
      all_goals (first | refine G_ret hQ (by simp (disch := first | assumption | omega) only [res44, go_sem, seval, *] <;> rfl) ?_ | refine G_norm hQ (by simp (disch := first | assumption | omega) only [res44, go_sem, seval, *] <;> rfl) ?_ | refine G_pan hQ ?_)
      all_goals (refine ⟨_, _, Wk.of_eq ?_, ?_, rfl, rfl⟩)
      all_goals first | ((try dsimp only); (repeat (first | exact Fg.refl _ | exact Fg.own (by assumption) | (refine Fg.set ?_ _ _) | (refine Fg.setA ?_ (by first | assumption | (simp (disch := assumption) only [own_rd, St.set, if_false, if_true, *]; done))) )); done) | skip
      all_goals (simp only [RisB, VV.bool.injEq]; grind)
    · have hv : RoneV 0 (c :: r) = .tup [.agg [.int .i64 (oneK (c :: r)).1, .str ((c :: r).take (oneK (c :: r)).2), .int .i64 0], .bool (decide (0 < (oneK (c :: r)).2))] := by simp only [RoneV]; rw [if_neg hz]; rfl
      have hone := fun (hl : (c :: r).length ≤ 9223372036854775000) (s : St) => hv ▸ Rone_S (c :: r) 0 c r s rfl hl
      clear hv
      (repeat' (first
        | with_reducible first | refine L_seq ?_ | refine L_blk ?_ | refine L_skip ?_ | refine L_endblk ?_ | refine L_ret ?_ | refine L_exit ?_ | refine X_code ?_ | refine X_back ?_ | refine X_blk ?_ | refine X_past (by decide) ?_ | refine L_back ?_
        | ((with_reducible refine Kof.use hK ?_); clear hK hE K E)
        | ((with_reducible refine Eof.use hE ?_); (try clear hK hE K E))
        | ((with_reducible refine W_cond (fun h => ?_) (fun h => ?_)) <;> (try (exfalso; first | assumption | omega)))
        | ((with_reducible first | refine G_region fun K E hK hE => ?_ | refine call_ret can53 (hone (by simp; omega) _) ?_ | refine call_ret can53 (Rone_S _ _ _ _ _ (by first | assumption | omega) (by first | assumption | omega)) ?_ | refine W_if ?_ | refine W_ifS ?_ | refine W_and ?_) <;> (try simp (disch := first | assumption | omega) only [go_sem, seval, *]))
        | ((with_reducible refine W_fresh (fun b hb => ?_)); (repeat (obtain ⟨_, hb⟩ := hb)); (try simp (disch := first | assumption | omega) only [go_sem, seval, *]))
        | ((with_reducible refine W_app (fun o2 ho => ?_)); (repeat (obtain ⟨_, ho⟩ := ho)); (try simp (disch := first | assumption | omega) only [go_sem, seval, *]))
        | ((with_reducible refine W_gd (fun h => ?_) (fun h => ?_)) <;> (try (exfalso; first | assumption | omega)) <;> (try simp (disch := first | assumption | omega) only [go_sem, seval, *]))))
      all_goals (first | refine G_ret hQ (by simp (disch := first | assumption | omega) only [res44, go_sem, seval, *] <;> rfl) ?_ | refine G_norm hQ (by simp (disch := first | assumption | omega) only [res44, go_sem, seval, *] <;> rfl) ?_ | refine G_pan hQ ?_)
      all_goals (refine ⟨_, _, Wk.of_eq ?_, ?_, rfl, rfl⟩)
      all_goals first | ((try dsimp only); (repeat (first | exact Fg.refl _ | exact Fg.own (by assumption) | (refine Fg.set ?_ _ _) | (refine Fg.setA ?_ (by first | assumption | (simp (disch := assumption) only [own_rd, St.set, if_false, if_true, *]; done))) )); done) | skip
      all_goals (simp only [RisB, VV.bool.injEq]; generalize oneK (c :: r) = q at *; obtain ⟨q1, q2⟩ := q; grind)

def RnameB (t : List UInt8) : Bool := RisB 1 t && !kwB t
def kws : List (List UInt8) := [[99, 108, 97, 115, 115], [101, 120, 116, 101, 110, 100, 115], [115, 116, 97, 116, 105, 99], [110, 101, 119], [114, 101, 116, 117, 114, 110], [105, 102], [101, 108, 115, 101], [108, 111, 111, 112]]
theorem kwB_mem (t : List UInt8) : kwB t = decide (t ∈ kws) := by
  rw [Bool.eq_iff_iff]
  simp only [kwB, kws, Bool.or_eq_true, decide_eq_true_eq, List.mem_cons, List.not_mem_nil, or_false, or_assoc]
theorem Rkeyword_S (t : List UInt8) (s : St) : SRet Try.prog 45 [.str t] s (.bool (kwB t)) s := by
  refine G_enter Try.func45 rfl Try.ntmps45 rfl fun Q hQ hQe => ?_
  (repeat' (first
    | with_reducible first | refine L_seq ?_ | refine L_blk ?_ | refine L_skip ?_ | refine L_endblk ?_ | refine L_ret ?_ | refine L_exit ?_ | refine X_code ?_ | refine X_back ?_ | refine X_blk ?_ | refine X_past (by decide) ?_ | refine L_back ?_
    | ((with_reducible refine Kof.use hK ?_); clear hK hE K E)
    | ((with_reducible refine Eof.use hE ?_); (try clear hK hE K E))
    | ((with_reducible refine W_cond (fun h => ?_) (fun h => ?_)) <;> (try (exfalso; first | assumption | omega)))
    | ((with_reducible first | refine G_region fun K E hK hE => ?_ | refine W_if ?_ | refine W_ifS ?_ | refine W_and ?_) <;> (try simp (disch := first | assumption | omega) only [go_sem, seval, vrow, *]))
    | ((with_reducible refine W_fresh (fun b hb => ?_)); (repeat (obtain ⟨_, hb⟩ := hb)); (try simp (disch := first | assumption | omega) only [go_sem, seval, vrow, *]))
    | ((with_reducible refine W_app (fun o2 ho => ?_)); (try simp (disch := assumption) only [disown_set, disown_own, ownok_o, ownok_m, List.length_map, List.length_cons, List.length_nil, Nat.zero_add, vrow] at ho); (repeat (obtain ⟨_, ho⟩ := ho)); (try simp (disch := first | assumption | omega) only [go_sem, seval, vrow, *]))
    | ((with_reducible refine W_gd (fun h => ?_) (fun h => ?_)) <;> (try (exfalso; first | assumption | omega)) <;> (try simp (disch := first | assumption | omega) only [go_sem, seval, vrow, *]))))
  refine L_loop (fun m env s' => ∃ k : Nat, k ≤ 8 ∧ m + k = 8 ∧ (∀ j, j < k → kws[j]? ≠ some t) ∧ s' = s ∧ env 0 = .str t ∧ env 3 = .lst (kws.map strC) .full ∧ env 4 = .int .i64 k) 8 ⟨0, by omega, by omega, by omega, rfl, by ((try simp (disch := first | assumption | omega) only [go_sem, seval, *]) <;> first | rfl | omega), by ((try simp (disch := first | assumption | omega) only [go_sem, seval, *]) <;> first | rfl | omega), by ((try simp (disch := first | assumption | omega) only [go_sem, seval, *]) <;> first | rfl | omega)⟩ ?_
  rintro m env s' ⟨k, hk, hm, hj, rfl, e0, e3, e4⟩
  have hk8 : kws.length = 8 := rfl
  rcases Nat.lt_or_ge k 8 with h8 | h8
  · obtain ⟨d, hdk⟩ : ∃ d, kws[k]? = some d := ⟨_, List.getElem?_eq_getElem (by omega)⟩
    (repeat' (first
      | with_reducible first | refine L_seq ?_ | refine L_blk ?_ | refine L_skip ?_ | refine L_endblk ?_ | refine L_ret ?_ | refine L_exit ?_ | refine X_code ?_ | refine X_back ?_ | refine X_blk ?_ | refine X_past (by decide) ?_ | refine L_back ?_
      | ((with_reducible refine Kof.use hK ?_); clear hK hE K E)
      | ((with_reducible refine Eof.use hE ?_); (try clear hK hE K E))
      | ((with_reducible refine W_cond (fun h => ?_) (fun h => ?_)) <;> (try (exfalso; first | assumption | omega)))
      | ((with_reducible first | refine G_region fun K E hK hE => ?_ | refine W_if ?_ | refine W_ifS ?_ | refine W_and ?_) <;> (try simp (disch := first | assumption | omega) only [go_sem, seval, List.getElem?_map, List.length_map, strC, *]))
      | ((with_reducible refine W_fresh (fun b hb => ?_)); (repeat (obtain ⟨_, hb⟩ := hb)); (try simp (disch := first | assumption | omega) only [go_sem, seval, List.getElem?_map, List.length_map, strC, *]))
      | ((with_reducible refine W_app (fun o2 ho => ?_)); (try simp (disch := assumption) only [disown_set, disown_own, ownok_o, ownok_m, List.length_map, List.length_cons, List.length_nil, Nat.zero_add, List.getElem?_map, List.length_map, strC] at ho); (repeat (obtain ⟨_, ho⟩ := ho)); (try simp (disch := first | assumption | omega) only [go_sem, seval, List.getElem?_map, List.length_map, strC, *]))
      | ((with_reducible refine W_gd (fun h => ?_) (fun h => ?_)) <;> (try (exfalso; first | assumption | omega)) <;> (try simp (disch := first | assumption | omega) only [go_sem, seval, List.getElem?_map, List.length_map, strC, *]))))
    all_goals first
      | refine ⟨m - 1, by omega, k + 1, by omega, by omega, fun j hj1 => ?_, rfl, by ((try simp (disch := first | assumption | omega) only [go_sem, seval, *]) <;> first | rfl | omega), by ((try simp (disch := first | assumption | omega) only [go_sem, seval, *]) <;> first | rfl | omega), by ((try simp (disch := first | assumption | omega) only [go_sem, seval, *]) <;> first | rfl | omega)⟩
        rcases Nat.lt_or_ge j k with hjk | hjk
        · exact hj j hjk
        · have : j = k := by omega
          subst this
          grind
      | (first | refine G_ret hQ (by simp (disch := first | assumption | omega) only [res45, go_sem, seval, *] <;> rfl) ?_ | refine G_norm hQ (by simp (disch := first | assumption | omega) only [res45, go_sem, seval, *] <;> rfl) ?_ | refine G_pan hQ ?_)
        (refine ⟨_, _, Wk.of_eq ?_, ?_, rfl, rfl⟩)
        · rw [kwB_mem, decide_eq_true (by have := List.mem_of_getElem? hdk; grind)]
        · exact Fg.refl _
  · have : k = 8 := by omega
    subst this
    have hnm : t ∉ kws := fun hm => by
      obtain ⟨j, hj9, e⟩ := List.mem_iff_getElem.1 hm
      exact hj j hj9 (by rw [List.getElem?_eq_getElem hj9, e])
    (repeat' (first
      | with_reducible first | refine L_seq ?_ | refine L_blk ?_ | refine L_skip ?_ | refine L_endblk ?_ | refine L_ret ?_ | refine L_exit ?_ | refine X_code ?_ | refine X_back ?_ | refine X_blk ?_ | refine X_past (by decide) ?_ | refine L_back ?_
      | ((with_reducible refine Kof.use hK ?_); clear hK hE K E)
      | ((with_reducible refine Eof.use hE ?_); (try clear hK hE K E))
      | ((with_reducible refine W_cond (fun h => ?_) (fun h => ?_)) <;> (try (exfalso; first | assumption | omega)))
      | ((with_reducible first | refine G_region fun K E hK hE => ?_ | refine W_if ?_ | refine W_ifS ?_ | refine W_and ?_) <;> (try simp (disch := first | assumption | omega) only [go_sem, seval, List.getElem?_map, List.length_map, strC, *]))
      | ((with_reducible refine W_fresh (fun b hb => ?_)); (repeat (obtain ⟨_, hb⟩ := hb)); (try simp (disch := first | assumption | omega) only [go_sem, seval, List.getElem?_map, List.length_map, strC, *]))
      | ((with_reducible refine W_app (fun o2 ho => ?_)); (try simp (disch := assumption) only [disown_set, disown_own, ownok_o, ownok_m, List.length_map, List.length_cons, List.length_nil, Nat.zero_add, List.getElem?_map, List.length_map, strC] at ho); (repeat (obtain ⟨_, ho⟩ := ho)); (try simp (disch := first | assumption | omega) only [go_sem, seval, List.getElem?_map, List.length_map, strC, *]))
      | ((with_reducible refine W_gd (fun h => ?_) (fun h => ?_)) <;> (try (exfalso; first | assumption | omega)) <;> (try simp (disch := first | assumption | omega) only [go_sem, seval, List.getElem?_map, List.length_map, strC, *]))))
    all_goals (first | refine G_ret hQ (by simp (disch := first | assumption | omega) only [res45, go_sem, seval, *] <;> rfl) ?_ | refine G_norm hQ (by simp (disch := first | assumption | omega) only [res45, go_sem, seval, *] <;> rfl) ?_ | refine G_pan hQ ?_)
    all_goals (refine ⟨_, _, Wk.of_eq ?_, ?_, rfl, rfl⟩)
    all_goals first | exact Fg.refl _ | (rw [kwB_mem, decide_eq_false hnm])

theorem Rname_S (t : List UInt8) (s : St) : SRet Try.prog 18 [.str t] s (.bool (RnameB t)) s := by
  refine G_enter Try.func18 rfl Try.ntmps18 rfl fun Q hQ hQe => ?_
  (repeat' (first
    | with_reducible first | refine L_seq ?_ | refine L_blk ?_ | refine L_skip ?_ | refine L_endblk ?_ | refine L_ret ?_ | refine L_exit ?_ | refine X_code ?_ | refine X_back ?_ | refine X_blk ?_ | refine X_past (by decide) ?_ | refine L_back ?_
    | ((with_reducible refine Kof.use hK ?_); clear hK hE K E)
    | ((with_reducible refine Eof.use hE ?_); (try clear hK hE K E))
    | ((with_reducible refine W_cond (fun h => ?_) (fun h => ?_)) <;> (try (exfalso; first | assumption | omega)))
    | ((with_reducible first | refine G_region fun K E hK hE => ?_ | refine call_ret can44 (Ris_S _ _ _ _) ?_ | refine call_ret can45 (Rkeyword_S _ _) ?_ | refine W_if ?_ | refine W_ifS ?_ | refine W_and ?_) <;> (try simp (disch := first | assumption | omega) only [go_sem, seval, *]))
    | ((with_reducible refine W_fresh (fun b hb => ?_)); (repeat (obtain ⟨_, hb⟩ := hb)); (try simp (disch := first | assumption | omega) only [go_sem, seval, *]))
    | ((with_reducible refine W_app (fun o2 ho => ?_)); (repeat (obtain ⟨_, ho⟩ := ho)); (try simp (disch := first | assumption | omega) only [go_sem, seval, *]))
    | ((with_reducible refine W_gd (fun h => ?_) (fun h => ?_)) <;> (try (exfalso; first | assumption | omega)) <;> (try simp (disch := first | assumption | omega) only [go_sem, seval, *]))))
  all_goals (first | refine G_ret hQ (by simp (disch := first | assumption | omega) only [res18, go_sem, seval, *] <;> rfl) ?_ | refine G_norm hQ (by simp (disch := first | assumption | omega) only [res18, go_sem, seval, *] <;> rfl) ?_ | refine G_pan hQ ?_)
  all_goals (refine ⟨_, _, Wk.of_eq ?_, ?_, rfl, rfl⟩)
  all_goals first | ((try dsimp only); (repeat (first | exact Fg.refl _ | exact Fg.own (by assumption) | (refine Fg.set ?_ _ _) | (refine Fg.setA ?_ (by first | assumption | (simp (disch := assumption) only [own_rd, St.set, if_false, if_true, *]; done))) )); done) | skip
  all_goals (simp only [RnameB, VV.bool.injEq]; grind)
end Go.Proofs.Ytilpdejbldllbaa
