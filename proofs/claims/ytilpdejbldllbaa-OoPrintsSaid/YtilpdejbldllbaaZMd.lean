/- What is proved: The texts of statements, as package osierref15 makes them. Conditions: texts and lists of at most 2^47 parts. Conditions: those that stand in the statements. -/
import Derived.Test.YtilpdejbldllbaaZMaj
import Derived.Test.YtilpdejbldllbaaZOy
set_option linter.unusedSimpArgs false
set_option linter.unusedVariables false
set_option maxRecDepth 100000
namespace Go.Proofs.Ytilpdejbldllbaa
open Go.RowKit

theorem repeatL_succ (x : List UInt8) : ∀ n, Lib.repeatL x (n + 1) = Lib.repeatL x n ++ x
  | 0 => by simp [Lib.repeatL]
  | n + 1 => by
    have := repeatL_succ x n
    simp only [Lib.repeatL] at this ⊢
    rw [List.append_assoc, ← this]
theorem Rpad_S (n : Nat) (hn : n ≤ 100000) (s : St) : SRet Try.prog 69 [.int .i64 n] s (.str (Lib.repeatL [32, 32] n)) s := by
  refine G_enter Try.func69 rfl Try.ntmps69 rfl fun Q hQ hQe => ?_
  (repeat' (first
    | with_reducible first | refine L_seq ?_ | refine L_blk ?_ | refine L_skip ?_ | refine L_endblk ?_ | refine L_ret ?_ | refine L_exit ?_ | refine X_code ?_ | refine X_back ?_ | refine X_blk ?_ | refine X_past (by decide) ?_ | refine L_back ?_
    | ((with_reducible refine Kof.use hK ?_); clear hK hE K E)
    | ((with_reducible refine Eof.use hE ?_); (try clear hK hE K E))
    | ((with_reducible refine W_cond (fun h => ?_) (fun h => ?_)) <;> (try (exfalso; first | assumption | omega)))
    | ((with_reducible first | refine G_region fun K E hK hE => ?_ | refine W_if ?_ | refine W_ifS ?_ | refine W_and ?_) <;> (try simp (disch := first | assumption | omega) only [go_sem, seval, *]))
    | ((with_reducible refine W_fresh (fun b hb => ?_)); (repeat (obtain ⟨_, hb⟩ := hb)); (try simp (disch := first | assumption | omega) only [go_sem, seval, *]))
    | ((with_reducible refine W_app (fun o2 ho => ?_)); (repeat (obtain ⟨_, ho⟩ := ho)); (try simp (disch := first | assumption | omega) only [go_sem, seval, *]))
    | ((with_reducible refine W_gd (fun h => ?_) (fun h => ?_)) <;> (try (exfalso; first | assumption | omega)) <;> (try simp (disch := first | assumption | omega) only [go_sem, seval, *]))))
  refine L_loop (fun m env s' => ∃ (i : Nat) (t : List UInt8), i ≤ n ∧ m + i = n ∧ t = Lib.repeatL [32, 32] i ∧ t.length = 2 * i ∧ s' = s ∧ env 0 = .int .i64 n ∧ env 3 = .str t ∧ env 4 = .int .i64 i) n ⟨0, [], by omega, by omega, rfl, rfl, rfl, by ((try simp (disch := first | assumption | omega) only [go_sem, seval, *]) <;> first | rfl | omega), by ((try simp (disch := first | assumption | omega) only [go_sem, seval, *]) <;> first | rfl | omega), by ((try simp (disch := first | assumption | omega) only [go_sem, seval, *]) <;> first | rfl | omega)⟩ ?_
  rintro m env s' ⟨i, t, hi, hm, ht, htl, rfl, e0, e3, e4⟩
  have HT := Lib.hid ht
  have HTL := Lib.hid htl
  have htl2 : t.length ≤ 300000 := by omega
  clear ht htl
  by_cases hlt : i < n
  · (repeat' (first
   | with_reducible first | refine L_seq ?_ | refine L_blk ?_ | refine L_skip ?_ | refine L_endblk ?_ | refine L_ret ?_ | refine L_exit ?_ | refine X_code ?_ | refine X_back ?_ | refine X_blk ?_ | refine X_past (by decide) ?_ | refine L_back ?_
   | ((with_reducible refine Kof.use hK ?_); clear hK hE K E)
   | ((with_reducible refine Eof.use hE ?_); (try clear hK hE K E))
   | ((with_reducible refine W_cond (fun h => ?_) (fun h => ?_)) <;> (try (exfalso; first | assumption | omega)))
   | ((with_reducible first | refine G_region fun K E hK hE => ?_ | refine W_if ?_ | refine W_ifS ?_ | refine W_and ?_) <;> (try simp (disch := first | assumption | omega) only [go_sem, seval, *]))
   | ((with_reducible refine W_fresh (fun b hb => ?_)); (repeat (obtain ⟨_, hb⟩ := hb)); (try simp (disch := first | assumption | omega) only [go_sem, seval, *]))
   | ((with_reducible refine W_app (fun o2 ho => ?_)); (repeat (obtain ⟨_, ho⟩ := ho)); (try simp (disch := first | assumption | omega) only [go_sem, seval, *]))
   | ((with_reducible refine W_gd (fun h => ?_) (fun h => ?_)) <;> (try (exfalso; first | assumption | omega)) <;> (try simp (disch := first | assumption | omega) only [go_sem, seval, *]))))
    all_goals exact ⟨m - 1, by omega, i + 1, _, by omega, by omega, by rw [repeatL_succ, ← HT.out], by have := HTL.out; simp; omega, rfl, by ((try simp (disch := first | assumption | omega) only [go_sem, seval, *]) <;> first | rfl | omega), by ((try simp (disch := first | assumption | omega) only [go_sem, seval, *]) <;> first | rfl | omega), by ((try simp (disch := first | assumption | omega) only [go_sem, seval, *]) <;> first | rfl | omega)⟩
  · have hin : i = n := by omega
    have hres : t = Lib.repeatL [32, 32] n := by rw [HT.out, hin]
    (repeat' (first
      | with_reducible first | refine L_seq ?_ | refine L_blk ?_ | refine L_skip ?_ | refine L_endblk ?_ | refine L_ret ?_ | refine L_exit ?_ | refine X_code ?_ | refine X_back ?_ | refine X_blk ?_ | refine X_past (by decide) ?_ | refine L_back ?_
      | ((with_reducible refine Kof.use hK ?_); clear hK hE K E)
      | ((with_reducible refine Eof.use hE ?_); (try clear hK hE K E))
      | ((with_reducible refine W_cond (fun h => ?_) (fun h => ?_)) <;> (try (exfalso; first | assumption | omega)))
      | ((with_reducible first | refine G_region fun K E hK hE => ?_ | refine W_if ?_ | refine W_ifS ?_ | refine W_and ?_) <;> (try simp (disch := first | assumption | omega) only [go_sem, seval, *]))
      | ((with_reducible refine W_fresh (fun b hb => ?_)); (repeat (obtain ⟨_, hb⟩ := hb)); (try simp (disch := first | assumption | omega) only [go_sem, seval, *]))
      | ((with_reducible refine W_app (fun o2 ho => ?_)); (repeat (obtain ⟨_, ho⟩ := ho)); (try simp (disch := first | assumption | omega) only [go_sem, seval, *]))
      | ((with_reducible refine W_gd (fun h => ?_) (fun h => ?_)) <;> (try (exfalso; first | assumption | omega)) <;> (try simp (disch := first | assumption | omega) only [go_sem, seval, *]))))
    all_goals (first | refine G_ret hQ (by simp (disch := first | assumption | omega) only [res69, go_sem, seval, *] <;> rfl) ?_ | refine G_norm hQ (by simp (disch := first | assumption | omega) only [res69, go_sem, seval, *] <;> rfl) ?_ | refine G_pan hQ ?_)
    all_goals (refine ⟨_, _, Wk.of_eq ?_, ?_, rfl, rfl⟩)
    · rw [← hres]
    · ((try dsimp only); (repeat (first | exact Fg.refl _ | exact Fg.own (by assumption) | (refine Fg.set ?_ _ _) | (refine Fg.setA ?_ (by first | assumption | (simp (disch := assumption) only [own_rd, St.set, if_false, if_true, *]; done))) )); done)

/-- A list of texts in brackets, as the document has it. -/
theorem join_snoc (sep : List UInt8) : ∀ (l : List (List UInt8)) (x : List UInt8), Lib.join (l ++ [x]) sep = if l = [] then x else Lib.join l sep ++ sep ++ x
  | [], x => by simp [Lib.join_cons, Lib.joinTail]
  | y :: l, x => by
    rw [List.cons_append, Lib.join_cons, Lib.join_cons]
    simp [Lib.joinTail, List.append_assoc]
theorem Rjoin_S (l : List (List UInt8)) (o0 : Own) (h8 : l.length ≤ 8) (h32 : ∀ x, x ∈ l → x.length ≤ 32) (s : St) : SRet Try.prog 37 [.lst (strs l) o0] s (.str (40 :: (Lib.join l [44, 32] ++ [41]))) s := by
  have hsl : (strs l).length = l.length := by simp [strs]
  refine G_enter Try.func37 rfl Try.ntmps37 rfl fun Q hQ hQe => ?_
  (repeat' (first
    | with_reducible first | refine L_seq ?_ | refine L_blk ?_ | refine L_skip ?_ | refine L_endblk ?_ | refine L_ret ?_ | refine L_exit ?_ | refine X_code ?_ | refine X_back ?_ | refine X_blk ?_ | refine X_past (by decide) ?_ | refine L_back ?_
    | ((with_reducible refine Kof.use hK ?_); clear hK hE K E)
    | ((with_reducible refine Eof.use hE ?_); (try clear hK hE K E))
    | ((with_reducible refine W_cond (fun h => ?_) (fun h => ?_)) <;> (try (exfalso; first | assumption | omega)))
    | ((with_reducible first | refine G_region fun K E hK hE => ?_ | refine W_if ?_ | refine W_ifS ?_ | refine W_and ?_) <;> (try simp (disch := first | assumption | omega) only [go_sem, seval, hsl, *]))
    | ((with_reducible refine W_fresh (fun b hb => ?_)); (repeat (obtain ⟨_, hb⟩ := hb)); (try simp (disch := first | assumption | omega) only [go_sem, seval, hsl, *]))
    | ((with_reducible refine W_app (fun o2 ho => ?_)); (try simp (disch := assumption) only [disown_set, disown_own, ownok_o, ownok_m, List.length_map, List.length_cons, List.length_nil, Nat.zero_add, hsl] at ho); (repeat (obtain ⟨_, ho⟩ := ho)); (try simp (disch := first | assumption | omega) only [go_sem, seval, hsl, *]))
    | ((with_reducible refine W_gd (fun h => ?_) (fun h => ?_)) <;> (try (exfalso; first | assumption | omega)) <;> (try simp (disch := first | assumption | omega) only [go_sem, seval, hsl, *]))))
  refine L_loop (fun m env s' => ∃ (i : Nat) (t : List UInt8), i ≤ l.length ∧ m + i = l.length ∧ t = 40 :: Lib.join (l.take i) [44, 32] ∧ t.length ≤ 1 + 34 * i ∧ s' = s ∧ env 0 = .lst (strs l) o0 ∧ env 3 = .str t ∧ env 4 = .int .i64 i) l.length
    ⟨0, [40], by omega, by omega, by simp [Lib.join_nil], by simp, rfl, by ((try simp (disch := first | assumption | omega) only [go_sem, seval, *]) <;> first | rfl | omega), by ((try simp (disch := first | assumption | omega) only [go_sem, seval, *]) <;> first | rfl | omega), by ((try simp (disch := first | assumption | omega) only [go_sem, seval, *]) <;> first | rfl | omega)⟩ ?_
  rintro m env s' ⟨i, t, hi, hm, ht, htl, rfl, e0, e3, e4⟩
  have HT := Lib.hid ht
  clear ht
  by_cases hlt : i < l.length
  · obtain ⟨x, hx⟩ := list_get hlt
    have hxl := h32 x (List.mem_of_getElem? hx)
    have hsx : (strs l)[i]? = some [.str x] := by simp [strs, hx]
    have HX := Lib.hid hx
    clear hx
    by_cases hi0 : i = 0
    · subst hi0
      have hN : t ++ x = 40 :: Lib.join (l.take (0 + 1)) [44, 32] := by rw [take_at HX.out, HT.out]; simp [Lib.join_nil, Lib.join_cons, Lib.joinTail]
      have HN := Lib.hid hN
      clear hN
      (repeat' (first
        | with_reducible first | refine L_seq ?_ | refine L_blk ?_ | refine L_skip ?_ | refine L_endblk ?_ | refine L_ret ?_ | refine L_exit ?_ | refine X_code ?_ | refine X_back ?_ | refine X_blk ?_ | refine X_past (by decide) ?_ | refine L_back ?_
        | ((with_reducible refine Kof.use hK ?_); clear hK hE K E)
        | ((with_reducible refine Eof.use hE ?_); (try clear hK hE K E))
        | ((with_reducible refine W_cond (fun h => ?_) (fun h => ?_)) <;> (try (exfalso; first | assumption | omega)))
        | ((with_reducible first | refine G_region fun K E hK hE => ?_ | refine W_if ?_ | refine W_ifS ?_ | refine W_and ?_) <;> (try simp (disch := first | assumption | omega) only [go_sem, seval, hsl, hsx, List.length_append, *]))
        | ((with_reducible refine W_fresh (fun b hb => ?_)); (repeat (obtain ⟨_, hb⟩ := hb)); (try simp (disch := first | assumption | omega) only [go_sem, seval, hsl, hsx, List.length_append, *]))
        | ((with_reducible refine W_app (fun o2 ho => ?_)); (try simp (disch := assumption) only [disown_set, disown_own, ownok_o, ownok_m, List.length_map, List.length_cons, List.length_nil, Nat.zero_add, hsl, hsx, List.length_append] at ho); (repeat (obtain ⟨_, ho⟩ := ho)); (try simp (disch := first | assumption | omega) only [go_sem, seval, hsl, hsx, List.length_append, *]))
        | ((with_reducible refine W_gd (fun h => ?_) (fun h => ?_)) <;> (try (exfalso; first | assumption | omega)) <;> (try simp (disch := first | assumption | omega) only [go_sem, seval, hsl, hsx, List.length_append, *]))))
      all_goals exact ⟨m - 1, by omega, 0 + 1, _, by omega, by omega, HN.out, by simp; omega, rfl, by ((try simp (disch := first | assumption | omega) only [go_sem, seval, *]) <;> first | rfl | omega), by ((try simp (disch := first | assumption | omega) only [go_sem, seval, *]) <;> first | rfl | omega), by ((try simp (disch := first | assumption | omega) only [go_sem, seval, *]) <;> first | rfl | omega)⟩
    · have hN : t ++ [44, 32] ++ x = 40 :: Lib.join (l.take (i + 1)) [44, 32] := by
        rw [take_at HX.out, join_snoc, HT.out, if_neg (by intro e; have := congrArg List.length e; rw [List.length_take, Nat.min_eq_left (by omega)] at this; exact hi0 this)]
        simp
      have HN := Lib.hid hN
      clear hN
      (repeat' (first
        | with_reducible first | refine L_seq ?_ | refine L_blk ?_ | refine L_skip ?_ | refine L_endblk ?_ | refine L_ret ?_ | refine L_exit ?_ | refine X_code ?_ | refine X_back ?_ | refine X_blk ?_ | refine X_past (by decide) ?_ | refine L_back ?_
        | ((with_reducible refine Kof.use hK ?_); clear hK hE K E)
        | ((with_reducible refine Eof.use hE ?_); (try clear hK hE K E))
        | ((with_reducible refine W_cond (fun h => ?_) (fun h => ?_)) <;> (try (exfalso; first | assumption | omega)))
        | ((with_reducible first | refine G_region fun K E hK hE => ?_ | refine W_if ?_ | refine W_ifS ?_ | refine W_and ?_) <;> (try simp (disch := first | assumption | omega) only [go_sem, seval, hsl, hsx, List.length_append, *]))
        | ((with_reducible refine W_fresh (fun b hb => ?_)); (repeat (obtain ⟨_, hb⟩ := hb)); (try simp (disch := first | assumption | omega) only [go_sem, seval, hsl, hsx, List.length_append, *]))
        | ((with_reducible refine W_app (fun o2 ho => ?_)); (try simp (disch := assumption) only [disown_set, disown_own, ownok_o, ownok_m, List.length_map, List.length_cons, List.length_nil, Nat.zero_add, hsl, hsx, List.length_append] at ho); (repeat (obtain ⟨_, ho⟩ := ho)); (try simp (disch := first | assumption | omega) only [go_sem, seval, hsl, hsx, List.length_append, *]))
        | ((with_reducible refine W_gd (fun h => ?_) (fun h => ?_)) <;> (try (exfalso; first | assumption | omega)) <;> (try simp (disch := first | assumption | omega) only [go_sem, seval, hsl, hsx, List.length_append, *]))))
      all_goals exact ⟨m - 1, by omega, i + 1, _, by omega, by omega, HN.out, by simp; omega, rfl, by ((try simp (disch := first | assumption | omega) only [go_sem, seval, *]) <;> first | rfl | omega), by ((try simp (disch := first | assumption | omega) only [go_sem, seval, *]) <;> first | rfl | omega), by ((try simp (disch := first | assumption | omega) only [go_sem, seval, *]) <;> first | rfl | omega)⟩
  · have hres : t ++ [41] = 40 :: (Lib.join l [44, 32] ++ [41]) := by
      rw [HT.out, show i = l.length by omega, List.take_length]; rfl
    have HR := Lib.hid hres
    clear hres
    (repeat' (first
      | with_reducible first | refine L_seq ?_ | refine L_blk ?_ | refine L_skip ?_ | refine L_endblk ?_ | refine L_ret ?_ | refine L_exit ?_ | refine X_code ?_ | refine X_back ?_ | refine X_blk ?_ | refine X_past (by decide) ?_ | refine L_back ?_
      | ((with_reducible refine Kof.use hK ?_); clear hK hE K E)
      | ((with_reducible refine Eof.use hE ?_); (try clear hK hE K E))
      | ((with_reducible refine W_cond (fun h => ?_) (fun h => ?_)) <;> (try (exfalso; first | assumption | omega)))
      | ((with_reducible first | refine G_region fun K E hK hE => ?_ | refine W_if ?_ | refine W_ifS ?_ | refine W_and ?_) <;> (try simp (disch := first | assumption | omega) only [go_sem, seval, hsl, *]))
      | ((with_reducible refine W_fresh (fun b hb => ?_)); (repeat (obtain ⟨_, hb⟩ := hb)); (try simp (disch := first | assumption | omega) only [go_sem, seval, hsl, *]))
      | ((with_reducible refine W_app (fun o2 ho => ?_)); (try simp (disch := assumption) only [disown_set, disown_own, ownok_o, ownok_m, List.length_map, List.length_cons, List.length_nil, Nat.zero_add, hsl] at ho); (repeat (obtain ⟨_, ho⟩ := ho)); (try simp (disch := first | assumption | omega) only [go_sem, seval, hsl, *]))
      | ((with_reducible refine W_gd (fun h => ?_) (fun h => ?_)) <;> (try (exfalso; first | assumption | omega)) <;> (try simp (disch := first | assumption | omega) only [go_sem, seval, hsl, *]))))
    all_goals (first | refine G_ret hQ (by simp (disch := first | assumption | omega) only [res37, go_sem, seval, *] <;> rfl) ?_ | refine G_norm hQ (by simp (disch := first | assumption | omega) only [res37, go_sem, seval, *] <;> rfl) ?_ | refine G_pan hQ ?_)
    all_goals (refine ⟨_, _, Wk.of_eq ?_, ?_, rfl, rfl⟩)
    · rw [← HR.out]
    · ((try dsimp only); (repeat (first | exact Fg.refl _ | exact Fg.own (by assumption) | (refine Fg.set ?_ _ _) | (refine Fg.setA ?_ (by first | assumption | (simp (disch := assumption) only [own_rd, St.set, if_false, if_true, *]; done))) )); done)

/-- The text of a statement that holds no others. -/
def spellB : Stm → List UInt8
  | .mk k d s c m ar _ _ =>
    if k = 1 then dstB d ++ [110, 101, 119, 32] ++ m else if k = 2 then dstB d ++ s else if k = 3 then dstB d ++ s ++ [46] ++ m else if k = 4 then d ++ [46] ++ m ++ [32, 61, 32] ++ s
    else if k = 5 then dstB d ++ s ++ [46] ++ m ++ (40 :: (Lib.join ar [44, 32] ++ [41])) else if k = 6 then dstB d ++ c ++ [58, 58] ++ m ++ (40 :: (Lib.join ar [44, 32] ++ [41])) else [114, 101, 116, 117, 114, 110, 32] ++ s
set_option maxHeartbeats 4000000 in
theorem Rspell_S (k : Int) (d sr c m : List UInt8) (ar : List (List UInt8)) (o t : List Stm) (hd : d.length ≤ 32) (hs : sr.length ≤ 32) (hc : c.length ≤ 32) (hm : m.length ≤ 32) (h8 : ar.length ≤ 8) (h32 : ∀ x, x ∈ ar → x.length ≤ 32) (s : St) :
    SRet Try.prog 70 [.agg (stC (.mk k d sr c m ar o t))] s (.str (spellB (.mk k d sr c m ar o t))) s := by
  have hj := args_len h8 h32 [44, 32] rfl
  refine G_enter Try.func70 rfl Try.ntmps70 rfl fun Q hQ hQe => ?_
  simp only [stC, strsV, strs_C]
  have hk : k = 1 ∨ k = 2 ∨ k = 3 ∨ k = 4 ∨ k = 5 ∨ k = 6 ∨ (¬ k = 1 ∧ ¬ k = 2 ∧ ¬ k = 3 ∧ ¬ k = 4 ∧ ¬ k = 5 ∧ ¬ k = 6) := by omega
  have hdd : d = [] ∨ ¬ d = [] := Classical.em _
  rcases hdd with rfl | hdd
  all_goals rcases hk with rfl | rfl | rfl | rfl | rfl | rfl | ⟨_, _, _, _, _, _⟩
  all_goals (repeat' (first
   | with_reducible first | refine L_seq ?_ | refine L_blk ?_ | refine L_skip ?_ | refine L_endblk ?_ | refine L_ret ?_ | refine L_exit ?_ | refine X_code ?_ | refine X_back ?_ | refine X_blk ?_ | refine X_past (by decide) ?_ | refine L_back ?_
   | ((with_reducible refine Kof.use hK ?_); clear hK hE K E)
   | ((with_reducible refine Eof.use hE ?_); (try clear hK hE K E))
   | ((with_reducible refine Kof.use hKh ?_); clear hKh Kh)
   | ((with_reducible refine Kof.use hKb (P_next ?_)); clear hKb Kb)
   | with_reducible first | refine G_plan 14 [([0, 1, 2, 3, 4, 5, 6, 7, 8, 9], 10, [[0, 1, 2, 3, 4, 5, 6, 7]])] [11, 12] hQe fun K E hK hE => ?_ | refine G_plan 16 [([0, 1, 2, 3, 4, 5, 6, 7, 8, 9], 10, [[0, 1, 2, 3, 4, 5, 6, 7]])] [11, 12] hQe fun K E hK hE => ?_
   | ((with_reducible refine W_cond (fun h => ?_) (fun h => ?_)) <;> (try (exfalso; first | assumption | omega)))
   | ((with_reducible first | refine G_region fun K E hK hE => ?_ | refine call_ret can37 (Rjoin_S _ _ (by assumption) (by assumption) _) ?_ | refine W_if ?_ | refine W_ifS ?_ | refine P_heads fun Kh hKh => ?_ | refine P_fin fun Kh hKh => ?_ | refine P_each fun Kb hKb => ?_ | refine W_and ?_) <;> (try simp (disch := first | assumption | omega) only [go_sem, seval, List.length_append, *]))
   | ((with_reducible refine W_fresh (fun b hb => ?_)); (repeat (obtain ⟨_, hb⟩ := hb)); (try simp (disch := first | assumption | omega) only [go_sem, seval, List.length_append, *]))
   | ((with_reducible refine W_app (fun o2 ho => ?_)); (try simp (disch := assumption) only [disown_set, disown_own, ownok_o, ownok_m, List.length_map, List.length_cons, List.length_nil, Nat.zero_add, List.length_append] at ho); (repeat (obtain ⟨_, ho⟩ := ho)); (try simp (disch := first | assumption | omega) only [go_sem, seval, List.length_append, *]))
   | ((with_reducible refine W_gd (fun h => ?_) (fun h => ?_)) <;> (try (exfalso; first | assumption | omega)) <;> (try simp (disch := first | assumption | omega) only [go_sem, seval, List.length_append, *]))))
  all_goals (first | refine G_ret hQ (by simp (disch := first | assumption | omega) only [res70, go_sem, seval, *] <;> rfl) ?_ | refine G_norm hQ (by simp (disch := first | assumption | omega) only [res70, go_sem, seval, *] <;> rfl) ?_ | refine G_pan hQ ?_)
  all_goals (refine ⟨_, _, Wk.of_eq ?_, ?_, rfl, rfl⟩)
  all_goals first | ((try dsimp only); (repeat (first | exact Fg.refl _ | exact Fg.own (by assumption) | (refine Fg.set ?_ _ _) | (refine Fg.setA ?_ (by first | assumption | (simp (disch := assumption) only [own_rd, St.set, if_false, if_true, *]; done))) )); done) | skip
  all_goals
    refine congrArg VV.str ?_
    simp only [spellB, dstB, seval, if_true, if_false, *]
    first | (simp; done) | trace_state
end Go.Proofs.Ytilpdejbldllbaa
