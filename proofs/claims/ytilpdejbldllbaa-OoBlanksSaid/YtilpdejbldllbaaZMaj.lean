/- What is proved: What package osierref15 says of one statement. Conditions: texts and lists of at most 2^47 parts; What package osierref15 counts of statements. Conditions: texts and lists of at most 2^47 parts; What package osierref15's May hands back. Conditions: texts and lists of at most 2^47 parts. Conditions: those that stand in the statements. -/
import Derived.Test.YtilpdejbldllbaaZOzj
import Derived.Test.YtilpdejbldllbaaZGq
set_option linter.unusedSimpArgs false
set_option linter.unusedVariables false
set_option maxRecDepth 100000
namespace Go.Proofs.Ytilpdejbldllbaa
open Go.RowKit

theorem Nm_S (t : List UInt8) (s : St) : SRet Try.prog 18 [.str t] s (.bool (isNameB t)) s := by
  rw [← rname]; exact Rname_S t s
theorem Ropt_S (t : List UInt8) (s : St) : SRet Try.prog 66 [.str t] s (.bool (t.isEmpty || isNameB t)) s := by
  refine G_enter Try.func66 rfl Try.ntmps66 rfl fun Q hQ hQe => ?_
  (repeat' (first
    | with_reducible first | refine L_seq ?_ | refine L_blk ?_ | refine L_skip ?_ | refine L_endblk ?_ | refine L_ret ?_ | refine L_exit ?_ | refine X_code ?_ | refine X_back ?_ | refine X_blk ?_ | refine X_past (by decide) ?_ | refine L_back ?_
    | ((with_reducible refine Kof.use hK ?_); clear hK hE K E)
    | ((with_reducible refine Eof.use hE ?_); (try clear hK hE K E))
    | ((with_reducible refine W_cond (fun h => ?_) (fun h => ?_)) <;> (try (exfalso; first | assumption | omega)))
    | ((with_reducible first | refine G_region fun K E hK hE => ?_ | refine call_ret can18 (Nm_S _ _) ?_ | refine call_ret can18 (Rname_S _ _) ?_ | refine W_if ?_ | refine W_ifS ?_ | refine W_and ?_) <;> (try simp (disch := first | assumption | omega) only [go_sem, seval, *]))
    | ((with_reducible refine W_fresh (fun b hb => ?_)); (repeat (obtain ⟨_, hb⟩ := hb)); (try simp (disch := first | assumption | omega) only [go_sem, seval, *]))
    | ((with_reducible refine W_app (fun o2 ho => ?_)); (repeat (obtain ⟨_, ho⟩ := ho)); (try simp (disch := first | assumption | omega) only [go_sem, seval, *]))
    | ((with_reducible refine W_gd (fun h => ?_) (fun h => ?_)) <;> (try (exfalso; first | assumption | omega)) <;> (try simp (disch := first | assumption | omega) only [go_sem, seval, *]))))
  all_goals (first | refine G_ret hQ (by simp (disch := first | assumption | omega) only [res66, go_sem, seval, *] <;> rfl) ?_ | refine G_norm hQ (by simp (disch := first | assumption | omega) only [res66, go_sem, seval, *] <;> rfl) ?_ | refine G_pan hQ ?_)
  all_goals (refine ⟨_, _, Wk.of_eq ?_, ?_, rfl, rfl⟩)
  all_goals first | ((try dsimp only); (repeat (first | exact Fg.refl _ | exact Fg.own (by assumption) | (refine Fg.set ?_ _ _) | (refine Fg.setA ?_ (by first | assumption | (simp (disch := assumption) only [own_rd, St.set, if_false, if_true, *]; done))) )); done) | (simp_all; done)
theorem Rall_S (l : List (List UInt8)) (o0 : Own) (hl : l.length ≤ 140737488355328) (s : St) : SRet Try.prog 67 [.lst (strs l) o0] s (.bool (namesB l)) s := by
  have hsl : (strs l).length = l.length := by simp [strs]
  refine G_enter Try.func67 rfl Try.ntmps67 rfl fun Q hQ hQe => ?_
  (repeat' (first
    | with_reducible first | refine L_seq ?_ | refine L_blk ?_ | refine L_skip ?_ | refine L_endblk ?_ | refine L_ret ?_ | refine L_exit ?_ | refine X_code ?_ | refine X_back ?_ | refine X_blk ?_ | refine X_past (by decide) ?_ | refine L_back ?_
    | ((with_reducible refine Kof.use hK ?_); clear hK hE K E)
    | ((with_reducible refine Eof.use hE ?_); (try clear hK hE K E))
    | ((with_reducible refine W_cond (fun h => ?_) (fun h => ?_)) <;> (try (exfalso; first | assumption | omega)))
    | ((with_reducible first | refine G_region fun K E hK hE => ?_ | refine call_ret can18 (Rname_S _ _) ?_ | refine W_if ?_ | refine W_ifS ?_ | refine W_and ?_) <;> (try simp (disch := first | assumption | omega) only [go_sem, seval, hsl, *]))
    | ((with_reducible refine W_fresh (fun b hb => ?_)); (repeat (obtain ⟨_, hb⟩ := hb)); (try simp (disch := first | assumption | omega) only [go_sem, seval, hsl, *]))
    | ((with_reducible refine W_app (fun o2 ho => ?_)); (try simp (disch := assumption) only [disown_set, disown_own, ownok_o, ownok_m, List.length_map, List.length_cons, List.length_nil, Nat.zero_add, hsl] at ho); (repeat (obtain ⟨_, ho⟩ := ho)); (try simp (disch := first | assumption | omega) only [go_sem, seval, hsl, *]))
    | ((with_reducible refine W_gd (fun h => ?_) (fun h => ?_)) <;> (try (exfalso; first | assumption | omega)) <;> (try simp (disch := first | assumption | omega) only [go_sem, seval, hsl, *]))))
  refine L_loop (fun m env s' => ∃ i : Nat, i ≤ l.length ∧ m + i = l.length ∧ (l.take i).all isNameB = true ∧ s' = s ∧ env 0 = .lst (strs l) o0 ∧ env 3 = .int .i64 i) l.length ⟨0, by omega, by omega, rfl, rfl, by ((try simp (disch := first | assumption | omega) only [go_sem, seval, *]) <;> first | rfl | omega), by ((try simp (disch := first | assumption | omega) only [go_sem, seval, *]) <;> first | rfl | omega)⟩ ?_
  rintro m env s' ⟨i, hi, hm, ha, rfl, e0, e3⟩
  have HA := Lib.hid ha
  clear ha
  by_cases hlt : i < l.length
  · obtain ⟨x, hx⟩ := list_get hlt
    have hsx : (strs l)[i]? = some [.str x] := by simp [strs, hx]
    have HX := Lib.hid hx
    clear hx
    (repeat' (first
      | with_reducible first | refine L_seq ?_ | refine L_blk ?_ | refine L_skip ?_ | refine L_endblk ?_ | refine L_ret ?_ | refine L_exit ?_ | refine X_code ?_ | refine X_back ?_ | refine X_blk ?_ | refine X_past (by decide) ?_ | refine L_back ?_
      | ((with_reducible refine Kof.use hK ?_); clear hK hE K E)
      | ((with_reducible refine Eof.use hE ?_); (try clear hK hE K E))
      | ((with_reducible refine W_cond (fun h => ?_) (fun h => ?_)) <;> (try (exfalso; first | assumption | omega)))
      | ((with_reducible first | refine G_region fun K E hK hE => ?_ | refine call_ret can18 (Nm_S _ _) ?_ | refine call_ret can18 (Rname_S _ _) ?_ | refine W_if ?_ | refine W_ifS ?_ | refine W_and ?_) <;> (try simp (disch := first | assumption | omega) only [go_sem, seval, hsl, hsx, *]))
      | ((with_reducible refine W_fresh (fun b hb => ?_)); (repeat (obtain ⟨_, hb⟩ := hb)); (try simp (disch := first | assumption | omega) only [go_sem, seval, hsl, hsx, *]))
      | ((with_reducible refine W_app (fun o2 ho => ?_)); (try simp (disch := assumption) only [disown_set, disown_own, ownok_o, ownok_m, List.length_map, List.length_cons, List.length_nil, Nat.zero_add, hsl, hsx] at ho); (repeat (obtain ⟨_, ho⟩ := ho)); (try simp (disch := first | assumption | omega) only [go_sem, seval, hsl, hsx, *]))
      | ((with_reducible refine W_gd (fun h => ?_) (fun h => ?_)) <;> (try (exfalso; first | assumption | omega)) <;> (try simp (disch := first | assumption | omega) only [go_sem, seval, hsl, hsx, *]))))
    all_goals first
      | exact ⟨m - 1, by omega, i + 1, by omega, by omega, all_take HA.out HX.out (by assumption), rfl, by ((try simp (disch := first | assumption | omega) only [go_sem, seval, *]) <;> first | rfl | omega), by ((try simp (disch := first | assumption | omega) only [go_sem, seval, *]) <;> first | rfl | omega)⟩
      | (have hn : namesB l = false := by unfold namesB; rw [all_not HX.out (by assumption)]; simp
         (first | refine G_ret hQ (by simp (disch := first | assumption | omega) only [res67, go_sem, seval, *] <;> rfl) ?_ | refine G_norm hQ (by simp (disch := first | assumption | omega) only [res67, go_sem, seval, *] <;> rfl) ?_ | refine G_pan hQ ?_)
         (refine ⟨_, _, Wk.of_eq ?_, ?_, rfl, rfl⟩)
         · rw [hn]
         · ((try dsimp only); (repeat (first | exact Fg.refl _ | exact Fg.own (by assumption) | (refine Fg.set ?_ _ _) | (refine Fg.setA ?_ (by first | assumption | (simp (disch := assumption) only [own_rd, St.set, if_false, if_true, *]; done))) )); done))
  · have htk : l.all isNameB = true := by have := HA.out; rwa [show i = l.length by omega, List.take_length] at this
    have hn : namesB l = decide (l.length ≤ 8) := by unfold namesB; rw [htk]; simp
    clear htk
    (repeat' (first
      | with_reducible first | refine L_seq ?_ | refine L_blk ?_ | refine L_skip ?_ | refine L_endblk ?_ | refine L_ret ?_ | refine L_exit ?_ | refine X_code ?_ | refine X_back ?_ | refine X_blk ?_ | refine X_past (by decide) ?_ | refine L_back ?_
      | ((with_reducible refine Kof.use hK ?_); clear hK hE K E)
      | ((with_reducible refine Eof.use hE ?_); (try clear hK hE K E))
      | ((with_reducible refine W_cond (fun h => ?_) (fun h => ?_)) <;> (try (exfalso; first | assumption | omega)))
      | ((with_reducible first | refine G_region fun K E hK hE => ?_ | refine call_ret can18 (Rname_S _ _) ?_ | refine W_if ?_ | refine W_ifS ?_ | refine W_and ?_) <;> (try simp (disch := first | assumption | omega) only [go_sem, seval, hsl, *]))
      | ((with_reducible refine W_fresh (fun b hb => ?_)); (repeat (obtain ⟨_, hb⟩ := hb)); (try simp (disch := first | assumption | omega) only [go_sem, seval, hsl, *]))
      | ((with_reducible refine W_app (fun o2 ho => ?_)); (try simp (disch := assumption) only [disown_set, disown_own, ownok_o, ownok_m, List.length_map, List.length_cons, List.length_nil, Nat.zero_add, hsl] at ho); (repeat (obtain ⟨_, ho⟩ := ho)); (try simp (disch := first | assumption | omega) only [go_sem, seval, hsl, *]))
      | ((with_reducible refine W_gd (fun h => ?_) (fun h => ?_)) <;> (try (exfalso; first | assumption | omega)) <;> (try simp (disch := first | assumption | omega) only [go_sem, seval, hsl, *]))))
    all_goals (first | refine G_ret hQ (by simp (disch := first | assumption | omega) only [res67, go_sem, seval, *] <;> rfl) ?_ | refine G_norm hQ (by simp (disch := first | assumption | omega) only [res67, go_sem, seval, *] <;> rfl) ?_ | refine G_pan hQ ?_)
    all_goals (refine ⟨_, _, Wk.of_eq ?_, ?_, rfl, rfl⟩)
    all_goals first | ((try dsimp only); (repeat (first | exact Fg.refl _ | exact Fg.own (by assumption) | (refine Fg.set ?_ _ _) | (refine Fg.setA ?_ (by first | assumption | (simp (disch := assumption) only [own_rd, St.set, if_false, if_true, *]; done))) )); done) | (rw [hn]; first | rfl | (congr 1; simp; done) | (congr 1; simp; omega))

def isB (k : Int) (d s c m : List UInt8) (n o t : Nat) (k2 : Int) (d2 s2 c2 m2 : List UInt8) (n2 : Nat) : Bool :=
  decide (k = k2) && decide (d = d2) && decide (s = s2) && decide (c = c2) && decide (m = m2) && decide (n = n2) && decide (((o + t : Nat) : Int) = 0)
set_option maxHeartbeats 1000000 in
theorem Ris2_S (k : Int) (d sr c m : List UInt8) (ar o t : List (List VV)) (k2 : Int) (d2 s2 c2 m2 : List UInt8) (ar2 o2 t2 : List (List VV)) (w1 w2 w3 w4 w5 w6 : Own) (ho : o.length ≤ 140737488355328) (ht : t.length ≤ 140737488355328) (s : St) :
    SRet Try.prog 106 [.agg [.int .i64 k, .str d, .str sr, .str c, .str m, .lst ar w1, .lst o w2, .lst t w3], .agg [.int .i64 k2, .str d2, .str s2, .str c2, .str m2, .lst ar2 w4, .lst o2 w5, .lst t2 w6]] s
      (.bool (isB k d sr c m ar.length o.length t.length k2 d2 s2 c2 m2 ar2.length)) s := by
  refine G_enter Try.func106 rfl Try.ntmps106 rfl fun Q hQ hQe => ?_
  (repeat' (first
    | with_reducible first | refine L_seq ?_ | refine L_blk ?_ | refine L_skip ?_ | refine L_endblk ?_ | refine L_ret ?_ | refine L_exit ?_ | refine X_code ?_ | refine X_back ?_ | refine X_blk ?_ | refine X_past (by decide) ?_ | refine L_back ?_
    | ((with_reducible refine Kof.use hK ?_); clear hK hE K E)
    | ((with_reducible refine Eof.use hE ?_); (try clear hK hE K E))
    | ((with_reducible refine W_cond (fun h => ?_) (fun h => ?_)) <;> (try (exfalso; first | assumption | omega)))
    | ((with_reducible first | refine G_region fun K E hK hE => ?_ | refine W_if ?_ | refine W_ifS ?_ | refine W_and ?_) <;> (try simp (disch := first | assumption | omega) only [go_sem, seval, *]))
    | ((with_reducible refine W_fresh (fun b hb => ?_)); (repeat (obtain ⟨_, hb⟩ := hb)); (try simp (disch := first | assumption | omega) only [go_sem, seval, *]))
    | ((with_reducible refine W_app (fun o2 ho => ?_)); (repeat (obtain ⟨_, ho⟩ := ho)); (try simp (disch := first | assumption | omega) only [go_sem, seval, *]))
    | ((with_reducible refine W_gd (fun h => ?_) (fun h => ?_)) <;> (try (exfalso; first | assumption | omega)) <;> (try simp (disch := first | assumption | omega) only [go_sem, seval, *]))))
  all_goals (first | refine G_ret hQ (by simp (disch := first | assumption | omega) only [res106, go_sem, seval, *] <;> rfl) ?_ | refine G_norm hQ (by simp (disch := first | assumption | omega) only [res106, go_sem, seval, *] <;> rfl) ?_ | refine G_pan hQ ?_)
  all_goals (refine ⟨_, _, Wk.of_eq ?_, ?_, rfl, rfl⟩)
  all_goals first | ((try dsimp only); (repeat (first | exact Fg.refl _ | exact Fg.own (by assumption) | (refine Fg.set ?_ _ _) | (refine Fg.setA ?_ (by first | assumption | (simp (disch := assumption) only [own_rd, St.set, if_false, if_true, *]; done))) )); done) | (refine congrArg VV.bool ?_; simp only [isB]; simp_all; done)
theorem len_emp {α : Type} {l : List α} : decide (l.length = 0) = l.isEmpty := by cases l <;> simp
theorem len_emp2 {α β : Type} {l : List α} {r : List β} : decide (((l.length + r.length : Nat) : Int) = 0) = (l.isEmpty && r.isEmpty) := by cases l <;> cases r <;> simp <;> omega
theorem nil_emp {l : List UInt8} [Decidable (l = [])] : decide (l = []) = l.isEmpty := dec_nil
theorem strs_len {l : List (List UInt8)} : (strs l).length = l.length := by simp [strs]

set_option maxHeartbeats 4000000 in
theorem Rmay_S (x : Stm) (hx : StmOk x) (s : St) : SRet Try.prog 95 [.agg (stC x)] s (.bool (mayB x)) s := by
  obtain ⟨k, d, sr, c, m, ar, o, t⟩ := x
  simp only [StmOk, TxOk] at hx
  obtain ⟨_, ⟨har, _⟩, ⟨ho1, _⟩, ⟨ht1, _⟩⟩ := hx
  have ho : (stsC o).length ≤ 140737488355328 := by rw [stsC_len]; exact ho1
  have ht : (stsC t).length ≤ 140737488355328 := by rw [stsC_len]; exact ht1
  refine G_enter Try.func95 rfl Try.ntmps95 rfl fun Q hQ hQe => ?_
  simp only [stC, strsV, strs_C]
  have hk : k = 1 ∨ k = 2 ∨ k = 3 ∨ k = 4 ∨ k = 5 ∨ k = 6 ∨ k = 7 ∨ k = 8 ∨ k = 9 ∨ (¬ k = 1 ∧ ¬ k = 2 ∧ ¬ k = 3 ∧ ¬ k = 4 ∧ ¬ k = 5 ∧ ¬ k = 6 ∧ ¬ k = 7 ∧ ¬ k = 8 ∧ ¬ k = 9) := by omega
  rcases hk with rfl | rfl | rfl | rfl | rfl | rfl | rfl | rfl | rfl | ⟨_, _, _, _, _, _, _, _, _⟩
  all_goals (repeat' (first
   | with_reducible first | refine L_seq ?_ | refine L_blk ?_ | refine L_skip ?_ | refine L_endblk ?_ | refine L_ret ?_ | refine L_exit ?_ | refine X_code ?_ | refine X_back ?_ | refine X_blk ?_ | refine X_past (by decide) ?_ | refine L_back ?_
   | ((with_reducible refine Kof.use hK ?_); clear hK hE K E)
   | ((with_reducible refine Eof.use hE ?_); (try clear hK hE K E))
   | ((with_reducible refine W_cond (fun h => ?_) (fun h => ?_)) <;> (try (exfalso; first | assumption | omega)))
   | ((with_reducible first | refine G_region fun K E hK hE => ?_ | refine call_ret can18 (Nm_S _ _) ?_ | refine call_ret can106 (Ris2_S _ _ _ _ _ _ _ _ _ _ _ _ _ _ _ _ _ _ _ _ _ _ (by assumption) (by assumption) _) ?_ | refine call_ret can66 (Ropt_S _ _) ?_ | refine call_ret can67 (Rall_S _ _ (by first | assumption | omega) _) ?_ | refine W_if ?_ | refine W_ifS ?_ | refine W_and ?_) <;> (try simp (disch := first | assumption | omega) only [go_sem, seval, iz0, len0, strs_len, stsC_len, *]))
   | ((with_reducible refine W_fresh (fun b hb => ?_)); (repeat (obtain ⟨_, hb⟩ := hb)); (try simp (disch := first | assumption | omega) only [go_sem, seval, iz0, len0, strs_len, stsC_len, *]))
   | ((with_reducible refine W_app (fun o2 ho => ?_)); (try simp (disch := assumption) only [disown_set, disown_own, ownok_o, ownok_m, List.length_map, List.length_cons, List.length_nil, Nat.zero_add, iz0, len0, strs_len, stsC_len] at ho); (repeat (obtain ⟨_, ho⟩ := ho)); (try simp (disch := first | assumption | omega) only [go_sem, seval, iz0, len0, strs_len, stsC_len, *]))
   | ((with_reducible refine W_gd (fun h => ?_) (fun h => ?_)) <;> (try (exfalso; first | assumption | omega)) <;> (try simp (disch := first | assumption | omega) only [go_sem, seval, iz0, len0, strs_len, stsC_len, *]))))
  all_goals (first | refine G_ret hQ (by simp (disch := first | assumption | omega) only [res95, go_sem, seval, *] <;> rfl) ?_ | refine G_norm hQ (by simp (disch := first | assumption | omega) only [res95, go_sem, seval, *] <;> rfl) ?_ | refine G_pan hQ ?_)
  all_goals (refine ⟨_, _, Wk.of_eq ?_, ?_, rfl, rfl⟩)
  all_goals first | ((try dsimp only); (repeat (first | exact Fg.refl _ | exact Fg.own (by assumption) | (refine Fg.set ?_ _ _) | (refine Fg.setA ?_ (by first | assumption | (simp (disch := assumption) only [own_rd, St.set, if_false, if_true, *]; done))) )); done) | skip
  all_goals
    refine congrArg VV.bool ?_
    clear hQ hQe Q ho ht
    first
      | (simp_all [isB, mayB, needL, strs, dec_nil, len_emp, len_emp2, strs_len, stsC_len]; done)
      | (simp only [isB, len_emp, len_emp2, dec_nil, mayB, needL, seval, if_true, if_false, decide_true, Bool.true_and, *]
         rw [Bool.eq_iff_iff]
         simp_all [List.isEmpty_iff]
         grind)
      | trace_state
end Go.Proofs.Ytilpdejbldllbaa
set_option maxRecDepth 100000
namespace Go.Proofs.Ytilpdejbldllbaa
open Go.RowKit

/-- What so many statements are: just so many, where they may be and are few. -/
def MR (g : Bool) (tot b r : Nat) : Prop := (r ≤ 1024 → g = true ∧ r = tot) ∧ (g = true → tot ≤ 1024 → r = tot) ∧ r ≤ b
def MB : Nat → Nat
  | 0 => 1048576
  | f + 1 => 1048577 + 2 * MB f
theorem MB_le : MB 9 ≤ 4000000000 := by decide
theorem MB_mono : ∀ {f g : Nat}, f ≤ g → MB f ≤ MB g
  | f, 0, h => by have : f = 0 := by omega
                  subst this; exact Nat.le_refl _
  | 0, g + 1, _ => by have := MB_mono (f := 0) (g := g) (by omega); simp only [MB] at *; omega
  | f + 1, g + 1, h => by have := MB_mono (f := f) (g := g) (by omega); simp only [MB]; omega
theorem MR.next {l : List Stm} {dp i n n2 : Nat} {x : Stm} (h : (n ≤ 1024 → okA (l.take i) dp = true ∧ n = totL (l.take i)) ∧ (okA (l.take i) dp = true → totL (l.take i) ≤ 1024 → n = totL (l.take i))) (hx : l[i]? = some x) (hn : n < 1048576)
    (hr : (n2 ≤ 1024 → okS x dp = true ∧ n2 = n + totS x) ∧ (okS x dp = true → n + totS x ≤ 1024 → n2 = n + totS x)) (hle : n ≤ n2) :
    (n2 ≤ 1024 → okA (l.take (i + 1)) dp = true ∧ n2 = totL (l.take (i + 1))) ∧ (okA (l.take (i + 1)) dp = true → totL (l.take (i + 1)) ≤ 1024 → n2 = totL (l.take (i + 1))) := by
  obtain ⟨h1, h2⟩ := h
  obtain ⟨r1, r2⟩ := hr
  rw [okA_tk hx, totL_tk hx]
  refine ⟨fun e => ?_, fun e1 e2 => ?_⟩
  · obtain ⟨a1, a2⟩ := r1 e
    obtain ⟨b1, b2⟩ := h1 (by omega)
    exact ⟨by rw [a1, b1]; rfl, by omega⟩
  · simp only [Bool.and_eq_true] at e1
    have := h2 e1.1 (by omega)
    have := r2 e1.2 (by omega)
    omega

theorem MR.bad {l : List Stm} {dp i b : Nat} {x : Stm} (hx : l[i]? = some x) (hm : mayB x = false) (hb : 1048576 ≤ b) : MR (decide (dp ≤ 8) && okA l dp) (totL l) b 1048576 := by
  refine ⟨fun h => by omega, fun h => ?_, hb⟩
  rw [okA_at hx] at h
  simp only [Bool.and_eq_true] at h
  rw [okS_may h.2.1.2] at hm
  cases hm
theorem MR.big {l : List Stm} {dp i n b : Nat} {x : Stm} (hx : l[i]? = some x) (h : (n ≤ 1024 → okA (l.take i) dp = true ∧ n = totL (l.take i)) ∧ (okA (l.take i) dp = true → totL (l.take i) ≤ 1024 → n = totL (l.take i))) (hn : ¬ n < 1048576) (hb : n ≤ b) :
    MR (decide (dp ≤ 8) && okA l dp) (totL l) b n := by
  refine ⟨fun h => by omega, fun g ht => ?_, hb⟩
  rw [okA_at hx] at g
  rw [totL_at hx] at ht
  simp only [Bool.and_eq_true] at g
  have := h.2 g.2.1.1 (by omega)
  omega
theorem MR.one {k : Int} {d s c m : List UInt8} {ar : List (List UInt8)} {o t : List Stm} {dp n : Nat} (hm : mayB (.mk k d s c m ar o t) = true) (h8 : ¬ k = 8) (h9 : ¬ k = 9) :
    (n + 1 ≤ 1024 → okS (.mk k d s c m ar o t) dp = true ∧ n + 1 = n + totS (.mk k d s c m ar o t)) ∧ (okS (.mk k d s c m ar o t) dp = true → n + totS (.mk k d s c m ar o t) ≤ 1024 → n + 1 = n + totS (.mk k d s c m ar o t)) := by
  simp [okS, totS, hm, h8, h9]
theorem MR.nine {d s c m : List UInt8} {ar : List (List UInt8)} {o t : List Stm} {dp n b a : Nat} (hm : mayB (.mk 9 d s c m ar o t) = true) (h : MR (decide (dp + 1 ≤ 8) && okA o (dp + 1)) (totL o) b a) :
    (n + 1 + a ≤ 1024 → okS (.mk 9 d s c m ar o t) dp = true ∧ n + 1 + a = n + totS (.mk 9 d s c m ar o t)) ∧ (okS (.mk 9 d s c m ar o t) dp = true → n + totS (.mk 9 d s c m ar o t) ≤ 1024 → n + 1 + a = n + totS (.mk 9 d s c m ar o t)) := by
  obtain ⟨h1, h2, _⟩ := h
  have e1 : okS (.mk 9 d s c m ar o t) dp = (decide (dp + 1 ≤ 8) && okA o (dp + 1)) := by simp [okS, hm]
  have e2 : totS (.mk 9 d s c m ar o t) = 1 + totL o := by simp [totS]
  rw [e1, e2]
  refine ⟨fun e => ?_, fun e1 e2 => ?_⟩
  · obtain ⟨a1, a2⟩ := h1 (by omega)
    exact ⟨a1, by omega⟩
  · have := h2 e1 (by omega); omega
theorem MR.eight {d s c m : List UInt8} {ar : List (List UInt8)} {o t : List Stm} {dp n b a a2 : Nat} (hm : mayB (.mk 8 d s c m ar o t) = true) (h : MR (decide (dp + 1 ≤ 8) && okA o (dp + 1)) (totL o) b a) (k : MR (decide (dp + 1 ≤ 8) && okA t (dp + 1)) (totL t) b a2) :
    (n + 1 + a + a2 ≤ 1024 → okS (.mk 8 d s c m ar o t) dp = true ∧ n + 1 + a + a2 = n + totS (.mk 8 d s c m ar o t)) ∧ (okS (.mk 8 d s c m ar o t) dp = true → n + totS (.mk 8 d s c m ar o t) ≤ 1024 → n + 1 + a + a2 = n + totS (.mk 8 d s c m ar o t)) := by
  obtain ⟨h1, h2, _⟩ := h
  obtain ⟨k1, k2, _⟩ := k
  have e1 : okS (.mk 8 d s c m ar o t) dp = (decide (dp + 1 ≤ 8) && okA o (dp + 1) && okA t (dp + 1)) := by simp [okS, hm]
  have e2 : totS (.mk 8 d s c m ar o t) = 1 + (totL o + totL t) := by simp [totS]
  rw [e1, e2]
  refine ⟨fun e => ?_, fun e1 e2 => ?_⟩
  · obtain ⟨a1, a3⟩ := h1 (by omega)
    obtain ⟨b1, b3⟩ := k1 (by omega)
    simp only [Bool.and_eq_true] at a1 b1
    exact ⟨by rw [a1.1, a1.2, b1.2]; rfl, by omega⟩
  · simp only [Bool.and_eq_true] at e1
    have := h2 (by rw [e1.1.1, e1.1.2]; rfl) (by omega)
    have := k2 (by rw [e1.1.1, e1.2]; rfl) (by omega)
    omega
theorem MB_ge : ∀ f, 1048576 ≤ MB f
  | 0 => Nat.le_refl _
  | f + 1 => by have := MB_ge f; simp only [MB]; omega

set_option maxHeartbeats 4000000 in
theorem many_F (f : Nat) : ∀ (dp : Nat), dp + f = 9 → ∀ (l : List Stm) (o0 : Own), StmsOk l → l.length ≤ 140737488355328 → ∀ s : St,
    SCalls Try.prog 68 [.lst (stsC l) o0, .int .i64 dp] s fun w u => ∃ r : Nat, w = .ret (.int .i64 r) ∧ u = s ∧ MR (decide (dp ≤ 8) && okA l dp) (totL l) (MB f) r := by
  induction f with
  | zero =>
    intro dp hdp l o0 hl hll s
    have h9 : dp = 9 := by omega
    subst h9
    refine G_enter Try.func68 rfl Try.ntmps68 rfl fun Q hQ hQe => ?_
    (repeat' (first
      | with_reducible first | refine L_seq ?_ | refine L_blk ?_ | refine L_skip ?_ | refine L_endblk ?_ | refine L_ret ?_ | refine L_exit ?_ | refine X_code ?_ | refine X_back ?_ | refine X_blk ?_ | refine X_past (by decide) ?_ | refine L_back ?_
      | ((with_reducible refine Kof.use hK ?_); clear hK hE K E)
      | ((with_reducible refine Eof.use hE ?_); (try clear hK hE K E))
      | ((with_reducible refine W_cond (fun h => ?_) (fun h => ?_)) <;> (try (exfalso; first | assumption | omega)))
      | ((with_reducible first | refine G_region fun K E hK hE => ?_ | refine call_ret can95 (Rmay_S _ (by assumption) _) ?_ | refine W_if ?_ | refine W_ifS ?_ | refine W_and ?_) <;> (try simp (disch := first | assumption | omega) only [go_sem, seval, *]))
      | ((with_reducible refine W_fresh (fun b hb => ?_)); (repeat (obtain ⟨_, hb⟩ := hb)); (try simp (disch := first | assumption | omega) only [go_sem, seval, *]))
      | ((with_reducible refine W_app (fun o2 ho => ?_)); (repeat (obtain ⟨_, ho⟩ := ho)); (try simp (disch := first | assumption | omega) only [go_sem, seval, *]))
      | ((with_reducible refine W_gd (fun h => ?_) (fun h => ?_)) <;> (try (exfalso; first | assumption | omega)) <;> (try simp (disch := first | assumption | omega) only [go_sem, seval, *]))))
    all_goals (first | refine G_ret hQ (by simp (disch := first | assumption | omega) only [res68, go_sem, seval, *] <;> rfl) ?_ | refine G_norm hQ (by simp (disch := first | assumption | omega) only [res68, go_sem, seval, *] <;> rfl) ?_ | refine G_pan hQ ?_)
    exact ⟨_, _, Wk.refl _, Fg.refl _, 1048576, rfl, rfl, fun h => by omega, fun h => by simp at h, Nat.le_refl _⟩
  | succ f ih =>
    intro dp hdp l o0 hl hll s
    replace ih := ih (dp + 1) (by omega)
    have hmb : MB f ≤ 4000000000 := Nat.le_trans (MB_mono (by omega)) MB_le
    refine G_enter Try.func68 rfl Try.ntmps68 rfl fun Q hQ hQe => ?_
    (repeat' (first
      | with_reducible first | refine L_seq ?_ | refine L_blk ?_ | refine L_skip ?_ | refine L_endblk ?_ | refine L_ret ?_ | refine L_exit ?_ | refine X_code ?_ | refine X_back ?_ | refine X_blk ?_ | refine X_past (by decide) ?_ | refine L_back ?_
      | ((with_reducible refine Kof.use hK ?_); clear hK hE K E)
      | ((with_reducible refine Eof.use hE ?_); (try clear hK hE K E))
      | ((with_reducible refine W_cond (fun h => ?_) (fun h => ?_)) <;> (try (exfalso; first | assumption | omega)))
      | ((with_reducible first | refine G_region fun K E hK hE => ?_ | refine call_ret can95 (Rmay_S _ (by assumption) _) ?_ | refine W_if ?_ | refine W_ifS ?_ | refine W_and ?_) <;> (try simp (disch := first | assumption | omega) only [go_sem, seval, stsC_len, *]))
      | ((with_reducible refine W_fresh (fun b hb => ?_)); (repeat (obtain ⟨_, hb⟩ := hb)); (try simp (disch := first | assumption | omega) only [go_sem, seval, stsC_len, *]))
      | ((with_reducible refine W_app (fun o2 ho => ?_)); (try simp (disch := assumption) only [disown_set, disown_own, ownok_o, ownok_m, List.length_map, List.length_cons, List.length_nil, Nat.zero_add, stsC_len] at ho); (repeat (obtain ⟨_, ho⟩ := ho)); (try simp (disch := first | assumption | omega) only [go_sem, seval, stsC_len, *]))
      | ((with_reducible refine W_gd (fun h => ?_) (fun h => ?_)) <;> (try (exfalso; first | assumption | omega)) <;> (try simp (disch := first | assumption | omega) only [go_sem, seval, stsC_len, *]))))
    refine L_loop (fun m env s' => ∃ i n : Nat, i ≤ l.length ∧ m + i = l.length ∧ s' = s ∧ ((n ≤ 1024 → okA (l.take i) dp = true ∧ n = totL (l.take i)) ∧ (okA (l.take i) dp = true → totL (l.take i) ≤ 1024 → n = totL (l.take i))) ∧ n ≤ MB (f + 1) ∧
      env 0 = .lst (stsC l) o0 ∧ env 1 = .int .i64 dp ∧ env 5 = .int .i64 n ∧ env 6 = .int .i64 i) l.length ⟨0, 0, by omega, by omega, rfl, ⟨fun _ => ⟨rfl, rfl⟩, fun _ _ => rfl⟩, by omega, by ((try simp (disch := first | assumption | omega) only [go_sem, seval, *]) <;> first | rfl | omega), by ((try simp (disch := first | assumption | omega) only [go_sem, seval, *]) <;> first | rfl | omega), by ((try simp (disch := first | assumption | omega) only [go_sem, seval, *]) <;> first | rfl | omega), by ((try simp (disch := first | assumption | omega) only [go_sem, seval, *]) <;> first | rfl | omega)⟩ ?_
    rintro m env s' ⟨i, n, hi, hm, rfl, hI, hnb, e0, e1, e5, e6⟩
    have HI := Lib.hid hI
    have HNB := Lib.hid hnb
    have hnb2 : n ≤ 8000000000000 := by have := HNB.out; simp only [MB] at this; omega
    clear hI hnb
    by_cases hlt : i < l.length
    · obtain ⟨x, hx⟩ := list_get hlt
      have hxo := hl.get hx
      have hsx := stsC_at hx
      have hmx := fun s => Rmay_S x hxo s
      have HX := Lib.hid hx
      obtain ⟨k, d, sr, c, mm, ar, o, t⟩ := x
      simp only [StmOk] at hxo
      obtain ⟨_, _, ⟨ho1, ho2⟩, ⟨ht1, ht2⟩⟩ := hxo
      simp only [stC, strsV, strs_C] at hmx
      clear hx hl
      have hk : k = 8 ∨ k = 9 ∨ (¬ k = 8 ∧ ¬ k = 9) := by omega
      rcases hk with rfl | rfl | ⟨_, _⟩
      all_goals (repeat' (first
   | with_reducible first | refine L_seq ?_ | refine L_blk ?_ | refine L_skip ?_ | refine L_endblk ?_ | refine L_ret ?_ | refine L_exit ?_ | refine X_code ?_ | refine X_back ?_ | refine X_blk ?_ | refine X_past (by decide) ?_ | refine L_back ?_
   | ((with_reducible refine Kof.use hK ?_); clear hK hE K E)
   | ((with_reducible refine Eof.use hE ?_); (try clear hK hE K E))
   | ((with_reducible refine W_cond (fun h => ?_) (fun h => ?_)) <;> (try (exfalso; first | assumption | omega)))
   | ((with_reducible first | refine G_region fun K E hK hE => ?_ | refine call_ret can95 (hmx _) ?_ | refine call_ret can95 (Rmay_S _ (by assumption) _) ?_ | refine W_if ?_ | refine W_ifS ?_ | refine W_and ?_) <;> (try simp (disch := first | assumption | omega) only [go_sem, seval, stsC_len, hsx, stC, strsV, strs_C, *]))
   | ((with_reducible refine call_ex can68 (ih _ _ (by assumption) (by assumption) _) (fun a h => ?_)); (have hle := h.2.2); (try simp (disch := first | assumption | omega) only [go_sem, seval, stsC_len, hsx, stC, strsV, strs_C, *]))
   | ((with_reducible refine W_fresh (fun b hb => ?_)); (repeat (obtain ⟨_, hb⟩ := hb)); (try simp (disch := first | assumption | omega) only [go_sem, seval, stsC_len, hsx, stC, strsV, strs_C, *]))
   | ((with_reducible refine W_app (fun o2 ho => ?_)); (try simp (disch := assumption) only [disown_set, disown_own, ownok_o, ownok_m, List.length_map, List.length_cons, List.length_nil, Nat.zero_add, stsC_len, hsx, stC, strsV, strs_C] at ho); (repeat (obtain ⟨_, ho⟩ := ho)); (try simp (disch := first | assumption | omega) only [go_sem, seval, stsC_len, hsx, stC, strsV, strs_C, *]))
   | ((with_reducible refine W_gd (fun h => ?_) (fun h => ?_)) <;> (try (exfalso; first | assumption | omega)) <;> (try simp (disch := first | assumption | omega) only [go_sem, seval, stsC_len, hsx, stC, strsV, strs_C, *]))))
      · (first | refine G_ret hQ (by simp (disch := first | assumption | omega) only [res68, go_sem, seval, *] <;> rfl) ?_ | refine G_norm hQ (by simp (disch := first | assumption | omega) only [res68, go_sem, seval, *] <;> rfl) ?_ | refine G_pan hQ ?_)
        exact ⟨_, _, Wk.refl _, Fg.refl _, 1048576, rfl, rfl, MR.bad HX.out (by assumption) (MB_ge _)⟩
      · rename_i _ a1 h1 hle1 _
        have hN := MR.next HI.out HX.out (by omega) (MR.eight (by assumption) h1 h) (by omega)
        exact ⟨m - 1, by omega, i + 1, n + 1 + a1 + a, by omega, by omega, rfl, hN, by simp only [MB]; omega, by ((try simp (disch := first | assumption | omega) only [go_sem, seval, *]) <;> first | rfl | omega), by ((try simp (disch := first | assumption | omega) only [go_sem, seval, *]) <;> first | rfl | omega), by ((try simp (disch := first | assumption | omega) only [go_sem, seval, *]) <;> first | rfl | omega), by ((try simp (disch := first | assumption | omega) only [go_sem, seval, *]) <;> first | rfl | omega)⟩
      · (first | refine G_ret hQ (by simp (disch := first | assumption | omega) only [res68, go_sem, seval, *] <;> rfl) ?_ | refine G_norm hQ (by simp (disch := first | assumption | omega) only [res68, go_sem, seval, *] <;> rfl) ?_ | refine G_pan hQ ?_)
        exact ⟨_, _, Wk.refl _, Fg.refl _, n, rfl, rfl, MR.big HX.out HI.out (by omega) HNB.out⟩
      · (first | refine G_ret hQ (by simp (disch := first | assumption | omega) only [res68, go_sem, seval, *] <;> rfl) ?_ | refine G_norm hQ (by simp (disch := first | assumption | omega) only [res68, go_sem, seval, *] <;> rfl) ?_ | refine G_pan hQ ?_)
        exact ⟨_, _, Wk.refl _, Fg.refl _, 1048576, rfl, rfl, MR.bad HX.out (by assumption) (MB_ge _)⟩
      · rename_i _ hmm _ h1
        have hN := MR.next HI.out HX.out (by omega) (MR.nine hmm h1) (by omega)
        exact ⟨m - 1, by omega, i + 1, n + 1 + a, by omega, by omega, rfl, hN, by simp only [MB]; omega, by ((try simp (disch := first | assumption | omega) only [go_sem, seval, *]) <;> first | rfl | omega), by ((try simp (disch := first | assumption | omega) only [go_sem, seval, *]) <;> first | rfl | omega), by ((try simp (disch := first | assumption | omega) only [go_sem, seval, *]) <;> first | rfl | omega), by ((try simp (disch := first | assumption | omega) only [go_sem, seval, *]) <;> first | rfl | omega)⟩
      · (first | refine G_ret hQ (by simp (disch := first | assumption | omega) only [res68, go_sem, seval, *] <;> rfl) ?_ | refine G_norm hQ (by simp (disch := first | assumption | omega) only [res68, go_sem, seval, *] <;> rfl) ?_ | refine G_pan hQ ?_)
        exact ⟨_, _, Wk.refl _, Fg.refl _, n, rfl, rfl, MR.big HX.out HI.out (by omega) HNB.out⟩
      · (first | refine G_ret hQ (by simp (disch := first | assumption | omega) only [res68, go_sem, seval, *] <;> rfl) ?_ | refine G_norm hQ (by simp (disch := first | assumption | omega) only [res68, go_sem, seval, *] <;> rfl) ?_ | refine G_pan hQ ?_)
        exact ⟨_, _, Wk.refl _, Fg.refl _, 1048576, rfl, rfl, MR.bad HX.out (by assumption) (MB_ge _)⟩
      · have hN := MR.next HI.out HX.out (by omega) (MR.one (by assumption) (by assumption) (by assumption)) (by omega)
        exact ⟨m - 1, by omega, i + 1, n + 1, by omega, by omega, rfl, hN, by simp only [MB]; omega, by ((try simp (disch := first | assumption | omega) only [go_sem, seval, *]) <;> first | rfl | omega), by ((try simp (disch := first | assumption | omega) only [go_sem, seval, *]) <;> first | rfl | omega), by ((try simp (disch := first | assumption | omega) only [go_sem, seval, *]) <;> first | rfl | omega), by ((try simp (disch := first | assumption | omega) only [go_sem, seval, *]) <;> first | rfl | omega)⟩
      · (first | refine G_ret hQ (by simp (disch := first | assumption | omega) only [res68, go_sem, seval, *] <;> rfl) ?_ | refine G_norm hQ (by simp (disch := first | assumption | omega) only [res68, go_sem, seval, *] <;> rfl) ?_ | refine G_pan hQ ?_)
        exact ⟨_, _, Wk.refl _, Fg.refl _, n, rfl, rfl, MR.big HX.out HI.out (by omega) HNB.out⟩
    · have hiL : i = l.length := by omega
      have htk : l.take i = l := by rw [hiL]; exact List.take_length
      (repeat' (first
        | with_reducible first | refine L_seq ?_ | refine L_blk ?_ | refine L_skip ?_ | refine L_endblk ?_ | refine L_ret ?_ | refine L_exit ?_ | refine X_code ?_ | refine X_back ?_ | refine X_blk ?_ | refine X_past (by decide) ?_ | refine L_back ?_
        | ((with_reducible refine Kof.use hK ?_); clear hK hE K E)
        | ((with_reducible refine Eof.use hE ?_); (try clear hK hE K E))
        | ((with_reducible refine W_cond (fun h => ?_) (fun h => ?_)) <;> (try (exfalso; first | assumption | omega)))
        | ((with_reducible first | refine G_region fun K E hK hE => ?_ | refine call_ret can95 (Rmay_S _ (by assumption) _) ?_ | refine W_if ?_ | refine W_ifS ?_ | refine W_and ?_) <;> (try simp (disch := first | assumption | omega) only [go_sem, seval, stsC_len, *]))
        | ((with_reducible refine W_fresh (fun b hb => ?_)); (repeat (obtain ⟨_, hb⟩ := hb)); (try simp (disch := first | assumption | omega) only [go_sem, seval, stsC_len, *]))
        | ((with_reducible refine W_app (fun o2 ho => ?_)); (try simp (disch := assumption) only [disown_set, disown_own, ownok_o, ownok_m, List.length_map, List.length_cons, List.length_nil, Nat.zero_add, stsC_len] at ho); (repeat (obtain ⟨_, ho⟩ := ho)); (try simp (disch := first | assumption | omega) only [go_sem, seval, stsC_len, *]))
        | ((with_reducible refine W_gd (fun h => ?_) (fun h => ?_)) <;> (try (exfalso; first | assumption | omega)) <;> (try simp (disch := first | assumption | omega) only [go_sem, seval, stsC_len, *]))))
      all_goals (first | refine G_ret hQ (by simp (disch := first | assumption | omega) only [res68, go_sem, seval, *] <;> rfl) ?_ | refine G_norm hQ (by simp (disch := first | assumption | omega) only [res68, go_sem, seval, *] <;> rfl) ?_ | refine G_pan hQ ?_)
      all_goals
        have hh := HI.out
        rw [htk] at hh
        exact ⟨_, _, Wk.refl _, Fg.refl _, n, rfl, rfl, fun e => ⟨by rw [(hh.1 e).1]; simp; omega, (hh.1 e).2⟩, fun g ht => hh.2 (by simp only [Bool.and_eq_true] at g; exact g.2) ht, HNB.out⟩

theorem many_S (l : List Stm) (o0 : Own) (h : StmsOk l) (hl : l.length ≤ 140737488355328) (s : St) :
    SCalls Try.prog 68 [.lst (stsC l) o0, .int .i64 1] s fun w u => ∃ r : Nat, w = .ret (.int .i64 r) ∧ u = s ∧ MR (decide (1 ≤ 8) && okA l 1) (totL l) (MB 8) r :=
  many_F 8 1 (by omega) l o0 h hl s
end Go.Proofs.Ytilpdejbldllbaa
set_option maxRecDepth 100000
namespace Go.Proofs.Ytilpdejbldllbaa
open Go.RowKit

theorem min_20 {m : Nat} : vminmax false (.int .i64 1048576) (.int .i64 (m : Int)) = some (.int .i64 ((min 1048576 m : Nat) : Int)) := by
  have h : (if (m : Int) < 1048576 then (m : Int) else 1048576) = ((min 1048576 m : Nat) : Int) := by split <;> omega
  simp only [vminmax, if_true, Bool.false_eq_true, if_false, h]
theorem min_13 {m : Nat} : vminmax false (.int .i64 (m : Int)) (.int .i64 8192) = some (.int .i64 ((min m 8192 : Nat) : Int)) := by
  have h : (if (8192 : Int) < (m : Int) then (8192 : Int) else (m : Int)) = ((min m 8192 : Nat) : Int) := by split <;> omega
  simp only [vminmax, if_true, Bool.false_eq_true, if_false, h]
def MK (P : List Mth) (n : Nat) : Prop := (n ≤ 1024 → P.all (fun m => okA m.body 1) = true ∧ n = totM P) ∧ (P.all (fun m => okA m.body 1) = true → totM P ≤ 1024 → n = totM P) ∧ n ≤ 1048576
theorem MK.step {P : List Mth} {n r b : Nat} {m : Mth} (h : MK P n) (hr : MR (decide (1 ≤ 8) && okA m.body 1) (totL m.body) b r) : MK (P ++ [m]) (min 1048576 (n + r)) := by
  obtain ⟨h1, h2, h3⟩ := h
  obtain ⟨r1, r2, _⟩ := hr
  have ht : totM (P ++ [m]) = totM P + totL m.body := by rw [totM_app]; simp [totM]
  refine ⟨fun e => ?_, fun g t => ?_, by omega⟩
  · obtain ⟨a1, a2⟩ := h1 (by omega)
    obtain ⟨b1, b2⟩ := r1 (by omega)
    rw [ht, List.all_append, a1]
    simp only [Bool.and_eq_true] at b1
    exact ⟨by simpa using b1.2, by omega⟩
  · rw [ht] at t ⊢
    rw [List.all_append] at g
    simp only [Bool.and_eq_true, List.all_cons, List.all_nil, Bool.and_true] at g
    have := h2 g.1 (by omega)
    have := r2 (by rw [g.2]; rfl) (by omega)
    omega
theorem MK.fin {P : List Mth} {n : Nat} (h : MK P n) : decide ((n : Int) ≤ 1024) = (P.all (fun m => okA m.body 1) && decide (totM P ≤ 1024)) := by
  obtain ⟨h1, h2, _⟩ := h
  rw [Bool.eq_iff_iff]
  simp only [Bool.and_eq_true, decide_eq_true_eq]
  constructor
  · intro e
    obtain ⟨a, b⟩ := h1 (by omega)
    exact ⟨a, by omega⟩
  · rintro ⟨a, b⟩
    have := h2 a b
    omega

set_option maxHeartbeats 4000000 in
theorem RMay_S (x : List Cls) (hx : SrcOk x) (s : St) : SRet Try.prog 36 [srcV x] s (.bool (checkB x)) s := by
  obtain ⟨hxl, hxc⟩ := hx
  refine G_enter Try.func36 rfl Try.ntmps36 rfl fun Q hQ hQe => ?_
  (repeat' (first
    | with_reducible first | refine L_seq ?_ | refine L_blk ?_ | refine L_skip ?_ | refine L_endblk ?_ | refine L_ret ?_ | refine L_exit ?_ | refine X_code ?_ | refine X_back ?_ | refine X_blk ?_ | refine X_past (by decide) ?_ | refine L_back ?_
    | ((with_reducible refine Kof.use hK ?_); clear hK hE K E)
    | ((with_reducible refine Eof.use hE ?_); (try clear hK hE K E))
    | ((with_reducible refine W_cond (fun h => ?_) (fun h => ?_)) <;> (try (exfalso; first | assumption | omega)))
    | ((with_reducible first | refine G_region fun K E hK hE => ?_ | refine call_ret can66 (Ropt_S _ _) ?_ | refine call_ret can67 (Rall_S _ _ (by first | assumption | omega) _) ?_ | refine call_ret can18 (Rname_S _ _) ?_ | refine W_if ?_ | refine W_ifS ?_ | refine W_and ?_) <;> (try simp (disch := first | assumption | omega) only [go_sem, seval, List.length_map, srcV, *]))
    | ((with_reducible refine W_fresh (fun b hb => ?_)); (repeat (obtain ⟨_, hb⟩ := hb)); (try simp (disch := first | assumption | omega) only [go_sem, seval, List.length_map, srcV, *]))
    | ((with_reducible refine W_app (fun o2 ho => ?_)); (try simp (disch := assumption) only [disown_set, disown_own, ownok_o, ownok_m, List.length_map, List.length_cons, List.length_nil, Nat.zero_add, List.length_map, srcV] at ho); (repeat (obtain ⟨_, ho⟩ := ho)); (try simp (disch := first | assumption | omega) only [go_sem, seval, List.length_map, srcV, *]))
    | ((with_reducible refine W_gd (fun h => ?_) (fun h => ?_)) <;> (try (exfalso; first | assumption | omega)) <;> (try simp (disch := first | assumption | omega) only [go_sem, seval, List.length_map, srcV, *]))))
  obtain ⟨bx, hbx⟩ : ∃ z, z = b := ⟨_, rfl⟩
  subst hbx
  refine G_loop (fun m env s' => ∃ (i n : Nat), i ≤ x.length ∧ i ≤ 33 ∧ m + i = x.length ∧ s' = s.set bx (.obj 25 [.lst (x.map clsC) .no]) ∧ (x.take i).all headC = true ∧ MK (allM (x.take i)) n ∧
    env 1 = .ptr bx 0 ∧ env 3 = .int .i64 n ∧ env 4 = .int .i64 i) x.length ?_ ?_
  · exact ⟨_, Fg.refl _, 0, 0, by omega, by omega, by omega, rfl, rfl, ⟨fun _ => ⟨rfl, rfl⟩, fun _ _ => rfl, by omega⟩, by ((try simp (disch := first | assumption | omega) only [go_sem, seval, *]) <;> first | rfl | omega), by ((try simp (disch := first | assumption | omega) only [go_sem, seval, *]) <;> first | rfl | omega), by ((try simp (disch := first | assumption | omega) only [go_sem, seval, *]) <;> first | rfl | omega)⟩
  · rintro m env s' ⟨i, n, hi, hi2, hm, rfl, hh, hC, e1, e3, e4⟩
    have HC := Lib.hid hC
    have hn := hC.2.2
    have HH := Lib.hid hh
    clear hh hC
    by_cases hlt : i < x.length
    · obtain ⟨c, hc⟩ := list_get hlt
      obtain ⟨hc1, hc2, hc3, hc4⟩ := hxc c (List.mem_of_getElem? hc)
      have hsx := clsC_at hc
      have HX := Lib.hid hc
      clear hc
      obtain ⟨nm, pa, ms⟩ := c
      simp only at hc1 hc2 hc3 hc4
      (repeat' (first
        | with_reducible first | refine L_seq ?_ | refine L_blk ?_ | refine L_skip ?_ | refine L_endblk ?_ | refine L_ret ?_ | refine L_exit ?_ | refine X_code ?_ | refine X_back ?_ | refine X_blk ?_ | refine X_past (by decide) ?_ | refine L_back ?_
        | ((with_reducible refine Kof.use hK ?_); clear hK hE K E)
        | ((with_reducible refine Eof.use hE ?_); (try clear hK hE K E))
        | ((with_reducible refine W_cond (fun h => ?_) (fun h => ?_)) <;> (try (exfalso; first | assumption | omega)))
        | ((with_reducible first | refine G_region fun K E hK hE => ?_ | refine call_ret can18 (Nm_S _ _) ?_ | refine call_ret can66 (Ropt_S _ _) ?_ | refine W_if ?_ | refine W_ifS ?_ | refine W_and ?_) <;> (try simp (disch := first | assumption | omega) only [go_sem, seval, List.length_map, hsx, clsC, *]))
        | ((with_reducible refine W_fresh (fun b hb => ?_)); (repeat (obtain ⟨_, hb⟩ := hb)); (try simp (disch := first | assumption | omega) only [go_sem, seval, List.length_map, hsx, clsC, *]))
        | ((with_reducible refine W_app (fun o2 ho => ?_)); (try simp (disch := assumption) only [disown_set, disown_own, ownok_o, ownok_m, List.length_map, List.length_cons, List.length_nil, Nat.zero_add, List.length_map, hsx, clsC] at ho); (repeat (obtain ⟨_, ho⟩ := ho)); (try simp (disch := first | assumption | omega) only [go_sem, seval, List.length_map, hsx, clsC, *]))
        | ((with_reducible refine W_gd (fun h => ?_) (fun h => ?_)) <;> (try (exfalso; first | assumption | omega)) <;> (try simp (disch := first | assumption | omega) only [go_sem, seval, List.length_map, hsx, clsC, *]))))
      all_goals first
        | (have hbad : headC ⟨nm, pa, ms⟩ = false := by
             simp only [headC, Bool.and_assoc]
             first | (simp [*]; done) | (simp [*]; omega)
           have hres : checkB x = false := by
             unfold checkB; rw [all_not HX.out hbad]; simp
           (first | refine G_ret hQ (by simp (disch := first | assumption | omega) only [res36, go_sem, seval, *] <;> rfl) ?_ | refine G_norm hQ (by simp (disch := first | assumption | omega) only [res36, go_sem, seval, *] <;> rfl) ?_ | refine G_pan hQ ?_)
           (refine ⟨_, _, Wk.of_eq ?_, ?_, rfl, rfl⟩)
           · rw [hres]
           · ((try dsimp only); (repeat (first | exact Fg.refl _ | exact Fg.own (by assumption) | (refine Fg.set ?_ _ _) | (refine Fg.setA ?_ (by first | assumption | (simp (disch := assumption) only [own_rd, St.set, if_false, if_true, *]; done))) )); done))
        | (have hres : checkB x = false := by
             unfold checkB; rw [show decide (x.length ≤ 32) = false from decide_eq_false (by omega)]; rfl
           (first | refine G_ret hQ (by simp (disch := first | assumption | omega) only [res36, go_sem, seval, *] <;> rfl) ?_ | refine G_norm hQ (by simp (disch := first | assumption | omega) only [res36, go_sem, seval, *] <;> rfl) ?_ | refine G_pan hQ ?_)
           (refine ⟨_, _, Wk.of_eq ?_, ?_, rfl, rfl⟩)
           · rw [hres]
           · ((try dsimp only); (repeat (first | exact Fg.refl _ | exact Fg.own (by assumption) | (refine Fg.set ?_ _ _) | (refine Fg.setA ?_ (by first | assumption | (simp (disch := assumption) only [own_rd, St.set, if_false, if_true, *]; done))) )); done))
        | skip
      rename_i hi32 nb1 nb2 hg1 hg2
      obtain ⟨bc, hbc⟩ : ∃ z, z = b := ⟨_, rfl⟩
      subst hbc
      have hgood : isNameB nm = true ∧ (pa.isEmpty || isNameB pa) = true ∧ ms.length ≤ 32 := ⟨hg1, hg2, by omega⟩
      have HG := Lib.hid hgood
      clear hg1 hg2 hgood
      refine G_loop (fun m2 env s' => ∃ (j n2 : Nat), j ≤ ms.length ∧ m2 + j = ms.length ∧
        s' = (s.set bx (.obj 25 [.lst (x.map clsC) .no])).set bc (.obj 54 [.str nm, .str pa, .lst (ms.map mthC) .no]) ∧ (ms.take j).all headM = true ∧ MK (allM (x.take i) ++ ms.take j) n2 ∧
        env 1 = .ptr bx 0 ∧ env 3 = .int .i64 n2 ∧ env 4 = .int .i64 i ∧ env 5 = .ptr bc 0 ∧ env 6 = .int .i64 j) ms.length ?_ ?_
      · exact ⟨_, Fg.refl _, 0, n, by omega, by omega, rfl, rfl, by rw [List.take_zero, List.append_nil]; exact HC.out, by ((try simp (disch := first | assumption | omega) only [go_sem, seval, *]) <;> first | rfl | omega), by ((try simp (disch := first | assumption | omega) only [go_sem, seval, *]) <;> first | rfl | omega), by ((try simp (disch := first | assumption | omega) only [go_sem, seval, *]) <;> first | rfl | omega), by ((try simp (disch := first | assumption | omega) only [go_sem, seval, *]) <;> first | rfl | omega), by ((try simp (disch := first | assumption | omega) only [go_sem, seval, *]) <;> first | rfl | omega)⟩
      · clear e1 e3 e4 env
        rintro m2 env s' ⟨j, n2, hj, hm2, rfl, hh2, hC2, e1, e3, e4, e5, e6⟩
        have HC2 := Lib.hid hC2
        have hn2 := hC2.2.2
        have HH2 := Lib.hid hh2
        clear hC2 hh2
        by_cases hlt2 : j < ms.length
        · obtain ⟨c, hc⟩ := list_get hlt2
          have hmok := hc4 c (List.mem_of_getElem? hc)
          have hsm := mthC_at hc
          have HY := Lib.hid hc
          clear hc
          obtain ⟨st, mn, ps, bd⟩ := c
          simp only [MthOk, TxOk] at hmok
          obtain ⟨_, ⟨hps, _⟩, hbl, hbo⟩ := hmok
          have w1 := fun s => many_S bd .no hbo hbl s
          have hb8 : MB 8 ≤ 4000000000 := Nat.le_trans (MB_mono (by omega)) MB_le
          (repeat' (first
            | with_reducible first | refine L_seq ?_ | refine L_blk ?_ | refine L_skip ?_ | refine L_endblk ?_ | refine L_ret ?_ | refine L_exit ?_ | refine X_code ?_ | refine X_back ?_ | refine X_blk ?_ | refine X_past (by decide) ?_ | refine L_back ?_
            | ((with_reducible refine Kof.use hK ?_); clear hK hE K E)
            | ((with_reducible refine Eof.use hE ?_); (try clear hK hE K E))
            | ((with_reducible refine W_cond (fun h => ?_) (fun h => ?_)) <;> (try (exfalso; first | assumption | omega)))
            | ((with_reducible first | refine G_region fun K E hK hE => ?_ | refine call_ret can18 (Nm_S _ _) ?_ | refine call_ret can67 (Rall_S _ _ (by first | assumption | omega) _) ?_ | refine W_if ?_ | refine W_ifS ?_ | refine W_and ?_) <;> (try simp (disch := first | assumption | omega) only [go_sem, seval, List.length_map, hsm, mthC, strsV, strs_C, stsV, min_20, *]))
            | ((with_reducible refine call_ex can68 (w1 _) (fun a h => ?_)); (have hle := h.2.2); (try simp (disch := first | assumption | omega) only [go_sem, seval, List.length_map, hsm, mthC, strsV, strs_C, stsV, min_20, *]))
            | ((with_reducible refine W_fresh (fun b hb => ?_)); (repeat (obtain ⟨_, hb⟩ := hb)); (try simp (disch := first | assumption | omega) only [go_sem, seval, List.length_map, hsm, mthC, strsV, strs_C, stsV, min_20, *]))
            | ((with_reducible refine W_app (fun o2 ho => ?_)); (try simp (disch := assumption) only [disown_set, disown_own, ownok_o, ownok_m, List.length_map, List.length_cons, List.length_nil, Nat.zero_add, List.length_map, hsm, mthC, strsV, strs_C, stsV, min_20] at ho); (repeat (obtain ⟨_, ho⟩ := ho)); (try simp (disch := first | assumption | omega) only [go_sem, seval, List.length_map, hsm, mthC, strsV, strs_C, stsV, min_20, *]))
            | ((with_reducible refine W_gd (fun h => ?_) (fun h => ?_)) <;> (try (exfalso; first | assumption | omega)) <;> (try simp (disch := first | assumption | omega) only [go_sem, seval, List.length_map, hsm, mthC, strsV, strs_C, stsV, min_20, *]))))
          all_goals clear w1 hsm
          all_goals first
            | (have hN := HC2.out.step (m := ⟨st, mn, ps, bd⟩) h
               have hgm : headM ⟨st, mn, ps, bd⟩ = true := by simp [headM, *]
               rw [List.append_assoc, ← take_at HY.out] at hN
               exact ⟨_, by ((try dsimp only); (repeat (first | exact Fg.refl _ | exact Fg.own (by assumption) | (refine Fg.set ?_ _ _) | (refine Fg.setA ?_ (by first | assumption | (simp (disch := assumption) only [own_rd, St.set, if_false, if_true, *]; done))) )); done), m2 - 1, by omega, j + 1, _, by omega, by omega, rfl, all_take HH2.out HY.out hgm, hN, by ((try simp (disch := first | assumption | omega) only [go_sem, seval, *]) <;> first | rfl | omega), by ((try simp (disch := first | assumption | omega) only [go_sem, seval, *]) <;> first | rfl | omega), by ((try simp (disch := first | assumption | omega) only [go_sem, seval, *]) <;> first | rfl | omega), by ((try simp (disch := first | assumption | omega) only [go_sem, seval, *]) <;> first | rfl | omega), by ((try simp (disch := first | assumption | omega) only [go_sem, seval, *]) <;> first | rfl | omega)⟩)
            | (have hbad : headM ⟨st, mn, ps, bd⟩ = false := by simp [headM, *]
               have hbc : headC ⟨nm, pa, ms⟩ = false := by unfold headC; rw [all_not HY.out hbad]; simp
               have hres : checkB x = false := by
                 unfold checkB; rw [all_not HX.out hbc]; simp
               (first | refine G_ret hQ (by simp (disch := first | assumption | omega) only [res36, go_sem, seval, *] <;> rfl) ?_ | refine G_norm hQ (by simp (disch := first | assumption | omega) only [res36, go_sem, seval, *] <;> rfl) ?_ | refine G_pan hQ ?_)
               (refine ⟨_, _, Wk.of_eq ?_, ?_, rfl, rfl⟩)
               · rw [hres]
               · ((try dsimp only); (repeat (first | exact Fg.refl _ | exact Fg.own (by assumption) | (refine Fg.set ?_ _ _) | (refine Fg.setA ?_ (by first | assumption | (simp (disch := assumption) only [own_rd, St.set, if_false, if_true, *]; done))) )); done))
        · have hjL : j = ms.length := by omega
          have htk : ms.take j = ms := by rw [hjL]; exact List.take_length
          have hgc : headC ⟨nm, pa, ms⟩ = true := by
            have h2 := HH2.out
            rw [htk] at h2
            obtain ⟨g1, g2, g3⟩ := HG.out
            simp only [headC, g1, g2, h2, decide_eq_true g3, Bool.and_self]
          have hN := HC2.out
          rw [htk, ← allM_at HX.out] at hN
          have HN := Lib.hid hN
          clear hN htk
          (repeat' (first
            | with_reducible first | refine L_seq ?_ | refine L_blk ?_ | refine L_skip ?_ | refine L_endblk ?_ | refine L_ret ?_ | refine L_exit ?_ | refine X_code ?_ | refine X_back ?_ | refine X_blk ?_ | refine X_past (by decide) ?_ | refine L_back ?_
            | ((with_reducible refine Kof.use hK ?_); clear hK hE K E)
            | ((with_reducible refine Eof.use hE ?_); (try clear hK hE K E))
            | ((with_reducible refine W_cond (fun h => ?_) (fun h => ?_)) <;> (try (exfalso; first | assumption | omega)))
            | ((with_reducible first | refine G_region fun K E hK hE => ?_ | refine call_ret can66 (Ropt_S _ _) ?_ | refine call_ret can67 (Rall_S _ _ (by first | assumption | omega) _) ?_ | refine call_ret can18 (Rname_S _ _) ?_ | refine W_if ?_ | refine W_ifS ?_ | refine W_and ?_) <;> (try simp (disch := first | assumption | omega) only [go_sem, seval, List.length_map, *]))
            | ((with_reducible refine W_fresh (fun b hb => ?_)); (repeat (obtain ⟨_, hb⟩ := hb)); (try simp (disch := first | assumption | omega) only [go_sem, seval, List.length_map, *]))
            | ((with_reducible refine W_app (fun o2 ho => ?_)); (try simp (disch := assumption) only [disown_set, disown_own, ownok_o, ownok_m, List.length_map, List.length_cons, List.length_nil, Nat.zero_add, List.length_map] at ho); (repeat (obtain ⟨_, ho⟩ := ho)); (try simp (disch := first | assumption | omega) only [go_sem, seval, List.length_map, *]))
            | ((with_reducible refine W_gd (fun h => ?_) (fun h => ?_)) <;> (try (exfalso; first | assumption | omega)) <;> (try simp (disch := first | assumption | omega) only [go_sem, seval, List.length_map, *]))))
          all_goals exact ⟨_, by ((try dsimp only); (repeat (first | exact Fg.refl _ | exact Fg.own (by assumption) | (refine Fg.set ?_ _ _) | (refine Fg.setA ?_ (by first | assumption | (simp (disch := assumption) only [own_rd, St.set, if_false, if_true, *]; done))) )); done), m - 1, by omega, i + 1, n2, by omega, by omega, by omega, rfl, all_take HH.out HX.out hgc, HN.out, by ((try simp (disch := first | assumption | omega) only [go_sem, seval, *]) <;> first | rfl | omega), by ((try simp (disch := first | assumption | omega) only [go_sem, seval, *]) <;> first | rfl | omega), by ((try simp (disch := first | assumption | omega) only [go_sem, seval, *]) <;> first | rfl | omega)⟩
    · have hiL : i = x.length := by omega
      have htk : x.take i = x := by rw [hiL]; exact List.take_length
      by_cases h32 : x.length ≤ 32
      · have hres : checkB x = decide ((n : Int) ≤ 1024) := by
          have h1 := HC.out
          have h2 := HH.out
          rw [htk] at h1 h2
          unfold checkB
          rw [h2, decide_eq_true h32, h1.fin]; rfl
        clear htk
        (repeat' (first
          | with_reducible first | refine L_seq ?_ | refine L_blk ?_ | refine L_skip ?_ | refine L_endblk ?_ | refine L_ret ?_ | refine L_exit ?_ | refine X_code ?_ | refine X_back ?_ | refine X_blk ?_ | refine X_past (by decide) ?_ | refine L_back ?_
          | ((with_reducible refine Kof.use hK ?_); clear hK hE K E)
          | ((with_reducible refine Eof.use hE ?_); (try clear hK hE K E))
          | ((with_reducible refine W_cond (fun h => ?_) (fun h => ?_)) <;> (try (exfalso; first | assumption | omega)))
          | ((with_reducible first | refine G_region fun K E hK hE => ?_ | refine call_ret can66 (Ropt_S _ _) ?_ | refine call_ret can67 (Rall_S _ _ (by first | assumption | omega) _) ?_ | refine call_ret can18 (Rname_S _ _) ?_ | refine W_if ?_ | refine W_ifS ?_ | refine W_and ?_) <;> (try simp (disch := first | assumption | omega) only [go_sem, seval, List.length_map, *]))
          | ((with_reducible refine W_fresh (fun b hb => ?_)); (repeat (obtain ⟨_, hb⟩ := hb)); (try simp (disch := first | assumption | omega) only [go_sem, seval, List.length_map, *]))
          | ((with_reducible refine W_app (fun o2 ho => ?_)); (try simp (disch := assumption) only [disown_set, disown_own, ownok_o, ownok_m, List.length_map, List.length_cons, List.length_nil, Nat.zero_add, List.length_map] at ho); (repeat (obtain ⟨_, ho⟩ := ho)); (try simp (disch := first | assumption | omega) only [go_sem, seval, List.length_map, *]))
          | ((with_reducible refine W_gd (fun h => ?_) (fun h => ?_)) <;> (try (exfalso; first | assumption | omega)) <;> (try simp (disch := first | assumption | omega) only [go_sem, seval, List.length_map, *]))))
        all_goals (first | refine G_ret hQ (by simp (disch := first | assumption | omega) only [res36, go_sem, seval, *] <;> rfl) ?_ | refine G_norm hQ (by simp (disch := first | assumption | omega) only [res36, go_sem, seval, *] <;> rfl) ?_ | refine G_pan hQ ?_)
        all_goals (refine ⟨_, _, Wk.of_eq ?_, ?_, rfl, rfl⟩)
        · rw [hres]
        · ((try dsimp only); (repeat (first | exact Fg.refl _ | exact Fg.own (by assumption) | (refine Fg.set ?_ _ _) | (refine Fg.setA ?_ (by first | assumption | (simp (disch := assumption) only [own_rd, St.set, if_false, if_true, *]; done))) )); done)
      · have hres : checkB x = false := by unfold checkB; rw [show decide (x.length ≤ 32) = false from decide_eq_false (by omega)]; rfl
        clear htk
        (repeat' (first
          | with_reducible first | refine L_seq ?_ | refine L_blk ?_ | refine L_skip ?_ | refine L_endblk ?_ | refine L_ret ?_ | refine L_exit ?_ | refine X_code ?_ | refine X_back ?_ | refine X_blk ?_ | refine X_past (by decide) ?_ | refine L_back ?_
          | ((with_reducible refine Kof.use hK ?_); clear hK hE K E)
          | ((with_reducible refine Eof.use hE ?_); (try clear hK hE K E))
          | ((with_reducible refine W_cond (fun h => ?_) (fun h => ?_)) <;> (try (exfalso; first | assumption | omega)))
          | ((with_reducible first | refine G_region fun K E hK hE => ?_ | refine call_ret can66 (Ropt_S _ _) ?_ | refine call_ret can67 (Rall_S _ _ (by first | assumption | omega) _) ?_ | refine call_ret can18 (Rname_S _ _) ?_ | refine W_if ?_ | refine W_ifS ?_ | refine W_and ?_) <;> (try simp (disch := first | assumption | omega) only [go_sem, seval, List.length_map, *]))
          | ((with_reducible refine W_fresh (fun b hb => ?_)); (repeat (obtain ⟨_, hb⟩ := hb)); (try simp (disch := first | assumption | omega) only [go_sem, seval, List.length_map, *]))
          | ((with_reducible refine W_app (fun o2 ho => ?_)); (try simp (disch := assumption) only [disown_set, disown_own, ownok_o, ownok_m, List.length_map, List.length_cons, List.length_nil, Nat.zero_add, List.length_map] at ho); (repeat (obtain ⟨_, ho⟩ := ho)); (try simp (disch := first | assumption | omega) only [go_sem, seval, List.length_map, *]))
          | ((with_reducible refine W_gd (fun h => ?_) (fun h => ?_)) <;> (try (exfalso; first | assumption | omega)) <;> (try simp (disch := first | assumption | omega) only [go_sem, seval, List.length_map, *]))))
        all_goals (first | refine G_ret hQ (by simp (disch := first | assumption | omega) only [res36, go_sem, seval, *] <;> rfl) ?_ | refine G_norm hQ (by simp (disch := first | assumption | omega) only [res36, go_sem, seval, *] <;> rfl) ?_ | refine G_pan hQ ?_)
        all_goals (refine ⟨_, _, Wk.of_eq ?_, ?_, rfl, rfl⟩)
        · rw [hres]
        · ((try dsimp only); (repeat (first | exact Fg.refl _ | exact Fg.own (by assumption) | (refine Fg.set ?_ _ _) | (refine Fg.setA ?_ (by first | assumption | (simp (disch := assumption) only [own_rd, St.set, if_false, if_true, *]; done))) )); done)
end Go.Proofs.Ytilpdejbldllbaa
