/- What is proved: The signs that package osierref10 hands back. Conditions: those that stand in the statements. -/
import Derived.Test.YtilpdejbldllbaaZRlex
set_option linter.unusedSimpArgs false
set_option linter.unusedVariables false
set_option maxRecDepth 100000
namespace Go.Proofs.Ytilpdejbldllbaa
open Go.RowKit

theorem Rsigns_S (l : List UInt8) (hl : l.length ≤ 9223372036854775000) (s : St) : SRet Try.prog 23 [.str l] s (signsV (lexSigns l)) s := by
  refine G_enter Try.func23 rfl Try.ntmps23 rfl fun Q hQ hQe => ?_
  by_cases hbig : 16384 < l.length
  · (repeat' (first
   | with_reducible first | refine L_seq ?_ | refine L_blk ?_ | refine L_skip ?_ | refine L_endblk ?_ | refine L_ret ?_ | refine L_exit ?_ | refine X_code ?_ | refine X_back ?_ | refine X_blk ?_ | refine X_past (by decide) ?_ | refine L_back ?_
   | ((with_reducible refine Kof.use hK ?_); clear hK hE K E)
   | ((with_reducible refine Eof.use hE ?_); (try clear hK hE K E))
   | ((with_reducible refine W_cond (fun h => ?_) (fun h => ?_)) <;> (try (exfalso; first | assumption | omega)))
   | ((with_reducible first | refine G_region fun K E hK hE => ?_ | refine call_ret can53 (Rone_S _ _ _ _ _ (by first | assumption | omega) (by first | assumption | omega)) ?_ | refine W_if ?_ | refine W_ifS ?_ | refine W_and ?_) <;> (try simp (disch := first | assumption | omega) only [go_sem, seval, *]))
   | ((with_reducible refine W_fresh (fun b hb => ?_)); (repeat (obtain ⟨_, hb⟩ := hb)); (try simp (disch := first | assumption | omega) only [go_sem, seval, *]))
   | ((with_reducible refine W_app (fun o2 ho => ?_)); (repeat (obtain ⟨_, ho⟩ := ho)); (try simp (disch := first | assumption | omega) only [go_sem, seval, *]))
   | ((with_reducible refine W_gd (fun h => ?_) (fun h => ?_)) <;> (try (exfalso; first | assumption | omega)) <;> (try simp (disch := first | assumption | omega) only [go_sem, seval, *]))))
    all_goals (first | refine G_ret hQ (by simp (disch := first | assumption | omega) only [res23, go_sem, seval, *] <;> rfl) ?_ | refine G_norm hQ (by simp (disch := first | assumption | omega) only [res23, go_sem, seval, *] <;> rfl) ?_ | refine G_pan hQ ?_)
    all_goals (refine ⟨_, _, ?_, ?_, rfl, rfl⟩)
    · rw [show lexSigns l = .error (0, 1) by unfold lexSigns; rw [if_pos hbig]]
      exact Wk.tup3
    · exact Fg.refl _
  · (repeat' (first
   | with_reducible first | refine L_seq ?_ | refine L_blk ?_ | refine L_skip ?_ | refine L_endblk ?_ | refine L_ret ?_ | refine L_exit ?_ | refine X_code ?_ | refine X_back ?_ | refine X_blk ?_ | refine X_past (by decide) ?_ | refine L_back ?_
   | ((with_reducible refine Kof.use hK ?_); clear hK hE K E)
   | ((with_reducible refine Eof.use hE ?_); (try clear hK hE K E))
   | ((with_reducible refine W_cond (fun h => ?_) (fun h => ?_)) <;> (try (exfalso; first | assumption | omega)))
   | ((with_reducible first | refine G_region fun K E hK hE => ?_ | refine call_ret can53 (Rone_S _ _ _ _ _ (by first | assumption | omega) (by first | assumption | omega)) ?_ | refine W_if ?_ | refine W_ifS ?_ | refine W_and ?_) <;> (try simp (disch := first | assumption | omega) only [go_sem, seval, *]))
   | ((with_reducible refine W_fresh (fun b hb => ?_)); (repeat (obtain ⟨_, hb⟩ := hb)); (try simp (disch := first | assumption | omega) only [go_sem, seval, *]))
   | ((with_reducible refine W_app (fun o2 ho => ?_)); (repeat (obtain ⟨_, ho⟩ := ho)); (try simp (disch := first | assumption | omega) only [go_sem, seval, *]))
   | ((with_reducible refine W_gd (fun h => ?_) (fun h => ?_)) <;> (try (exfalso; first | assumption | omega)) <;> (try simp (disch := first | assumption | omega) only [go_sem, seval, *]))))
    have hr : lexSigns l = lexR l 0 [] := by unfold lexSigns lexR; rw [if_neg (by omega)]
    generalize lexSigns l = r at *
    refine G_loop (fun n env s' => ∃ (at_ : Nat) (out : List Sgn) (o : Own), at_ ≤ l.length ∧ n + at_ = l.length ∧ out.length ≤ 4096 ∧ r = lexR (l.drop at_) at_ out ∧ s' = s.own o 39 3 out.length ∧ OwnOk s o out.length ∧
      env 0 = .str l ∧ env 5 = .lst (out.map sgnC) o ∧ env 6 = .int .i64 at_) l.length ?_ ?_
    · exact ⟨_, Fg.refl _, 0, [], .full, Nat.zero_le _, by omega, Nat.zero_le _, by simpa using hr, rfl, rfl, by ((try simp (disch := first | assumption | omega) only [go_sem, seval, *]) <;> first | rfl | omega), by ((try simp (disch := first | assumption | omega) only [go_sem, seval, *]) <;> first | rfl | omega), by ((try simp (disch := first | assumption | omega) only [go_sem, seval, *]) <;> first | rfl | omega)⟩
    · rintro n env s' ⟨at_, out, o, hat, hn, hout, hgo, rfl, hown, e0, e5, e6⟩
      rcases hd : l.drop at_ with _ | ⟨c, rr⟩
      · have h1 : l.length ≤ at_ := List.drop_eq_nil_iff.1 hd
        rw [hd, lexR_nil] at hgo
        subst hgo
        (repeat' (first
          | with_reducible first | refine L_seq ?_ | refine L_blk ?_ | refine L_skip ?_ | refine L_endblk ?_ | refine L_ret ?_ | refine L_exit ?_ | refine X_code ?_ | refine X_back ?_ | refine X_blk ?_ | refine X_past (by decide) ?_ | refine L_back ?_
          | ((with_reducible refine Kof.use hK ?_); clear hK hE K E)
          | ((with_reducible refine Eof.use hE ?_); (try clear hK hE K E))
          | ((with_reducible refine W_cond (fun h => ?_) (fun h => ?_)) <;> (try (exfalso; first | assumption | omega)))
          | ((with_reducible first | refine G_region fun K E hK hE => ?_ | refine call_ret can53 (Rone_S _ _ _ _ _ (by first | assumption | omega) (by first | assumption | omega)) ?_ | refine W_if ?_ | refine W_ifS ?_ | refine W_and ?_) <;> (try simp (disch := first | assumption | omega) only [go_sem, seval, *]))
          | ((with_reducible refine W_fresh (fun b hb => ?_)); (repeat (obtain ⟨_, hb⟩ := hb)); (try simp (disch := first | assumption | omega) only [go_sem, seval, *]))
          | ((with_reducible refine W_app (fun o2 ho => ?_)); (repeat (obtain ⟨_, ho⟩ := ho)); (try simp (disch := first | assumption | omega) only [go_sem, seval, *]))
          | ((with_reducible refine W_gd (fun h => ?_) (fun h => ?_)) <;> (try (exfalso; first | assumption | omega)) <;> (try simp (disch := first | assumption | omega) only [go_sem, seval, *]))))
        all_goals (first | refine G_ret hQ (by simp (disch := first | assumption | omega) only [res23, go_sem, seval, *] <;> rfl) ?_ | refine G_norm hQ (by simp (disch := first | assumption | omega) only [res23, go_sem, seval, *] <;> rfl) ?_ | refine G_pan hQ ?_)
        all_goals (refine ⟨_, _, ?_, ?_, rfl, rfl⟩)
        · exact Wk.tup3
        · exact Fg.own hown
      · have hlen : at_ + 1 + rr.length = l.length := by have := congrArg List.length hd; simp at this; omega
        have hc : l[at_]? = some c := by have := List.getElem?_drop (xs := l) (i := at_) (j := 0); rw [hd] at this; simpa using this.symm
        have hd1 : l.drop (at_ + 1) = rr := by rw [← List.drop_drop, hd]; rfl
        by_cases hb : blankB c = true
        · rw [hd, lexR_blank hb] at hgo
          rw [blankB_mem] at hb
          have e9 : ((c.toNat : Int) = 9) = (c = 9) := u8_eq (c := c) (d := 9)
          have e10 : ((c.toNat : Int) = 10) = (c = 10) := u8_eq (c := c) (d := 10)
          have e13 : ((c.toNat : Int) = 13) = (c = 13) := u8_eq (c := c) (d := 13)
          have e32 : ((c.toNat : Int) = 32) = (c = 32) := u8_eq (c := c) (d := 32)
          have hbb := of_decide_eq_true hb
          clear hb
          (repeat' (first
            | with_reducible first | refine L_seq ?_ | refine L_blk ?_ | refine L_skip ?_ | refine L_endblk ?_ | refine L_ret ?_ | refine L_exit ?_ | refine X_code ?_ | refine X_back ?_ | refine X_blk ?_ | refine X_past (by decide) ?_ | refine L_back ?_
            | ((with_reducible refine Kof.use hK ?_); clear hK hE K E)
            | ((with_reducible refine Eof.use hE ?_); (try clear hK hE K E))
            | ((with_reducible refine W_cond (fun h => ?_) (fun h => ?_)) <;> (try (exfalso; first | assumption | omega)))
            | ((with_reducible first | refine G_region fun K E hK hE => ?_ | refine call_ret can53 (Rone_S _ _ _ _ _ (by first | assumption | omega) (by first | assumption | omega)) ?_ | refine W_if ?_ | refine W_ifS ?_ | refine W_and ?_) <;> (try simp (disch := first | assumption | omega) only [go_sem, seval, *]))
            | ((with_reducible refine W_fresh (fun b hb => ?_)); (repeat (obtain ⟨_, hb⟩ := hb)); (try simp (disch := first | assumption | omega) only [go_sem, seval, *]))
            | ((with_reducible refine W_app (fun o2 ho => ?_)); (repeat (obtain ⟨_, ho⟩ := ho)); (try simp (disch := first | assumption | omega) only [go_sem, seval, *]))
            | ((with_reducible refine W_gd (fun h => ?_) (fun h => ?_)) <;> (try (exfalso; first | assumption | omega)) <;> (try simp (disch := first | assumption | omega) only [go_sem, seval, *]))))
          all_goals first
            | (exfalso; grind; done)
            | exact ⟨_, Fg.refl _, n - 1, by omega, at_ + 1, out, o, by omega, by omega, hout, by rw [hd1]; exact hgo, rfl, hown, by ((try simp (disch := first | assumption | omega) only [go_sem, seval, *]) <;> first | rfl | omega), by ((try simp (disch := first | assumption | omega) only [go_sem, seval, *]) <;> first | rfl | omega), by ((try simp (disch := first | assumption | omega) only [go_sem, seval, *]) <;> first | rfl | omega)⟩
        · have hbn : ¬ (c = 32 ∨ c = 9 ∨ c = 10 ∨ c = 13) := by rw [blankB_mem] at hb; simpa using hb
          simp only [not_or] at hbn
          obtain ⟨n32, n9, n10, n13⟩ := hbn
          have e9 : ((c.toNat : Int) = 9) = (c = 9) := u8_eq (c := c) (d := 9)
          have e10 : ((c.toNat : Int) = 10) = (c = 10) := u8_eq (c := c) (d := 10)
          have e13 : ((c.toNat : Int) = 13) = (c = 13) := u8_eq (c := c) (d := 13)
          have e32 : ((c.toNat : Int) = 32) = (c = 32) := u8_eq (c := c) (d := 32)
          have e35 : ((c.toNat : Int) = 35) = (c = 35) := u8_eq (c := c) (d := 35)
          by_cases hh : c = 35
          · have hc35 : c.toNat = 35 := by rw [hh]; rfl
            rw [hd, lexR_hash hc35, ← hd] at hgo
            replace hh := eq_true hh
            clear hc35
            (repeat' (first
              | with_reducible first | refine L_seq ?_ | refine L_blk ?_ | refine L_skip ?_ | refine L_endblk ?_ | refine L_ret ?_ | refine L_exit ?_ | refine X_code ?_ | refine X_back ?_ | refine X_blk ?_ | refine X_past (by decide) ?_ | refine L_back ?_
              | ((with_reducible refine Kof.use hK ?_); clear hK hE K E)
              | ((with_reducible refine Eof.use hE ?_); (try clear hK hE K E))
              | ((with_reducible refine W_cond (fun h => ?_) (fun h => ?_)) <;> (try (exfalso; first | assumption | omega)))
              | ((with_reducible first | refine G_region fun K E hK hE => ?_ | refine call_ret can53 (Rone_S _ _ _ _ _ (by first | assumption | omega) (by first | assumption | omega)) ?_ | refine W_if ?_ | refine W_ifS ?_ | refine W_and ?_) <;> (try simp (disch := first | assumption | omega) only [go_sem, seval, *]))
              | ((with_reducible refine W_fresh (fun b hb => ?_)); (repeat (obtain ⟨_, hb⟩ := hb)); (try simp (disch := first | assumption | omega) only [go_sem, seval, *]))
              | ((with_reducible refine W_app (fun o2 ho => ?_)); (repeat (obtain ⟨_, ho⟩ := ho)); (try simp (disch := first | assumption | omega) only [go_sem, seval, *]))
              | ((with_reducible refine W_gd (fun h => ?_) (fun h => ?_)) <;> (try (exfalso; first | assumption | omega)) <;> (try simp (disch := first | assumption | omega) only [go_sem, seval, *]))))
            refine L_loop (fun m env s' => ∃ a2 : Nat, a2 ≤ l.length ∧ m + a2 = l.length ∧ (at_ < a2 ∨ a2 = at_) ∧ r = lexR ((l.drop a2).drop (runN noLine (l.drop a2))) (a2 + runN noLine (l.drop a2)) out ∧ s' = s.own o 39 3 out.length ∧ OwnOk s o out.length ∧
              env 0 = .str l ∧ env 5 = .lst (out.map sgnC) o ∧ env 6 = .int .i64 a2) n ⟨at_, by omega, by omega, .inr rfl, hgo, rfl, hown, by ((try simp (disch := first | assumption | omega) only [go_sem, seval, *]) <;> first | rfl | omega), by ((try simp (disch := first | assumption | omega) only [go_sem, seval, *]) <;> first | rfl | omega), by ((try simp (disch := first | assumption | omega) only [go_sem, seval, *]) <;> first | rfl | omega)⟩ ?_
            rintro m env2 s2 ⟨a2, ha2, hm, hat2, hgo2, rfl, _, f0, f5, f6⟩
            clear e0 e5 e6 hgo
            rcases hd2 : l.drop a2 with _ | ⟨c2, r2⟩
            · have h1 : l.length ≤ a2 := List.drop_eq_nil_iff.1 hd2
              have hgo3 : r = lexR (l.drop a2) a2 out := by rw [hgo2, hd2]; rfl
              (repeat' (first
                | with_reducible first | refine L_seq ?_ | refine L_blk ?_ | refine L_skip ?_ | refine L_endblk ?_ | refine L_ret ?_ | refine L_exit ?_ | refine X_code ?_ | refine X_back ?_ | refine X_blk ?_ | refine X_past (by decide) ?_ | refine L_back ?_
                | ((with_reducible refine Kof.use hK ?_); clear hK hE K E)
                | ((with_reducible refine Eof.use hE ?_); (try clear hK hE K E))
                | ((with_reducible refine W_cond (fun h => ?_) (fun h => ?_)) <;> (try (exfalso; first | assumption | omega)))
                | ((with_reducible first | refine G_region fun K E hK hE => ?_ | refine call_ret can53 (Rone_S _ _ _ _ _ (by first | assumption | omega) (by first | assumption | omega)) ?_ | refine W_if ?_ | refine W_ifS ?_ | refine W_and ?_) <;> (try simp (disch := first | assumption | omega) only [go_sem, seval, *]))
                | ((with_reducible refine W_fresh (fun b hb => ?_)); (repeat (obtain ⟨_, hb⟩ := hb)); (try simp (disch := first | assumption | omega) only [go_sem, seval, *]))
                | ((with_reducible refine W_app (fun o2 ho => ?_)); (repeat (obtain ⟨_, ho⟩ := ho)); (try simp (disch := first | assumption | omega) only [go_sem, seval, *]))
                | ((with_reducible refine W_gd (fun h => ?_) (fun h => ?_)) <;> (try (exfalso; first | assumption | omega)) <;> (try simp (disch := first | assumption | omega) only [go_sem, seval, *]))))
              all_goals exact ⟨_, Fg.refl _, l.length - a2, by omega, a2, out, o, by omega, by omega, hout, hgo3, rfl, hown, by ((try simp (disch := first | assumption | omega) only [go_sem, seval, *]) <;> first | rfl | omega), by ((try simp (disch := first | assumption | omega) only [go_sem, seval, *]) <;> first | rfl | omega), by ((try simp (disch := first | assumption | omega) only [go_sem, seval, *]) <;> first | rfl | omega)⟩
            · have hlen2 : a2 + 1 + r2.length = l.length := by have := congrArg List.length hd2; simp at this; omega
              have hc2 : l[a2]? = some c2 := by have := List.getElem?_drop (xs := l) (i := a2) (j := 0); rw [hd2] at this; simpa using this.symm
              have hd3 : l.drop (a2 + 1) = r2 := by rw [← List.drop_drop, hd2]; rfl
              have f10 : ((c2.toNat : Int) = 10) = (c2 = 10) := u8_eq (c := c2) (d := 10)
              by_cases hnl : c2 = 10
              · have hne : ¬ a2 = at_ := fun e => by subst e; rw [hc] at hc2; injection hc2 with e2; exact n10 (e2.trans hnl)
                have hgo3 : r = lexR (l.drop a2) a2 out := by
                  rw [hgo2, hd2, runN_cons, if_neg (by simp [noLine, hnl])]; rfl
                replace hnl := eq_true hnl
                (repeat' (first
                  | with_reducible first | refine L_seq ?_ | refine L_blk ?_ | refine L_skip ?_ | refine L_endblk ?_ | refine L_ret ?_ | refine L_exit ?_ | refine X_code ?_ | refine X_back ?_ | refine X_blk ?_ | refine X_past (by decide) ?_ | refine L_back ?_
                  | ((with_reducible refine Kof.use hK ?_); clear hK hE K E)
                  | ((with_reducible refine Eof.use hE ?_); (try clear hK hE K E))
                  | ((with_reducible refine W_cond (fun h => ?_) (fun h => ?_)) <;> (try (exfalso; first | assumption | omega)))
                  | ((with_reducible first | refine G_region fun K E hK hE => ?_ | refine call_ret can53 (Rone_S _ _ _ _ _ (by first | assumption | omega) (by first | assumption | omega)) ?_ | refine W_if ?_ | refine W_ifS ?_ | refine W_and ?_) <;> (try simp (disch := first | assumption | omega) only [go_sem, seval, *]))
                  | ((with_reducible refine W_fresh (fun b hb => ?_)); (repeat (obtain ⟨_, hb⟩ := hb)); (try simp (disch := first | assumption | omega) only [go_sem, seval, *]))
                  | ((with_reducible refine W_app (fun o2 ho => ?_)); (repeat (obtain ⟨_, ho⟩ := ho)); (try simp (disch := first | assumption | omega) only [go_sem, seval, *]))
                  | ((with_reducible refine W_gd (fun h => ?_) (fun h => ?_)) <;> (try (exfalso; first | assumption | omega)) <;> (try simp (disch := first | assumption | omega) only [go_sem, seval, *]))))
                all_goals exact ⟨_, Fg.refl _, l.length - a2, by omega, a2, out, o, by omega, by omega, hout, hgo3, rfl, hown, by ((try simp (disch := first | assumption | omega) only [go_sem, seval, *]) <;> first | rfl | omega), by ((try simp (disch := first | assumption | omega) only [go_sem, seval, *]) <;> first | rfl | omega), by ((try simp (disch := first | assumption | omega) only [go_sem, seval, *]) <;> first | rfl | omega)⟩
              · have hn2 : noLine c2 = true := by simp only [noLine]; rw [decide_eq_false (by rw [f10]; exact hnl)]; rfl
                have hgo3 := hgo2
                rw [hd2, lexR_noline hn2, ← hd3] at hgo3
                (repeat' (first
                  | with_reducible first | refine L_seq ?_ | refine L_blk ?_ | refine L_skip ?_ | refine L_endblk ?_ | refine L_ret ?_ | refine L_exit ?_ | refine X_code ?_ | refine X_back ?_ | refine X_blk ?_ | refine X_past (by decide) ?_ | refine L_back ?_
                  | ((with_reducible refine Kof.use hK ?_); clear hK hE K E)
                  | ((with_reducible refine Eof.use hE ?_); (try clear hK hE K E))
                  | ((with_reducible refine W_cond (fun h => ?_) (fun h => ?_)) <;> (try (exfalso; first | assumption | omega)))
                  | ((with_reducible first | refine G_region fun K E hK hE => ?_ | refine call_ret can53 (Rone_S _ _ _ _ _ (by first | assumption | omega) (by first | assumption | omega)) ?_ | refine W_if ?_ | refine W_ifS ?_ | refine W_and ?_) <;> (try simp (disch := first | assumption | omega) only [go_sem, seval, *]))
                  | ((with_reducible refine W_fresh (fun b hb => ?_)); (repeat (obtain ⟨_, hb⟩ := hb)); (try simp (disch := first | assumption | omega) only [go_sem, seval, *]))
                  | ((with_reducible refine W_app (fun o2 ho => ?_)); (repeat (obtain ⟨_, ho⟩ := ho)); (try simp (disch := first | assumption | omega) only [go_sem, seval, *]))
                  | ((with_reducible refine W_gd (fun h => ?_) (fun h => ?_)) <;> (try (exfalso; first | assumption | omega)) <;> (try simp (disch := first | assumption | omega) only [go_sem, seval, *]))))
                all_goals exact ⟨m - 1, by omega, a2 + 1, by omega, by omega, by omega, hgo3, rfl, hown, by ((try simp (disch := first | assumption | omega) only [go_sem, seval, *]) <;> first | rfl | omega), by ((try simp (disch := first | assumption | omega) only [go_sem, seval, *]) <;> first | rfl | omega), by ((try simp (disch := first | assumption | omega) only [go_sem, seval, *]) <;> first | rfl | omega)⟩
          · have hc35 : ¬ c.toNat = 35 := fun e => hh (UInt8.toNat_inj.1 e)
            rw [hd, lexR_sign (by simpa using hb) hc35, ← hd] at hgo
            have hone := fun s => Rone_S l at_ c rr s hd (by omega)
            have hle := oneK_le c rr
            rw [← hd] at hle
            simp only [← hd] at hone
            have hll : (l.drop at_).length = l.length - at_ := List.length_drop
            by_cases hz : (oneK (l.drop at_)).2 = 0
            · have hv2 : ∃ a1 a2 a3, RoneV at_ (l.drop at_) = .tup [.agg [.int .i64 a1, .str a2, .int .i64 a3], .bool false] := by
                unfold RoneV
                by_cases hz2 : (oneK (l.drop at_)).1 = 0
                · rw [if_pos ⟨hz, hz2⟩, hz]; exact ⟨_, _, _, rfl⟩
                · rw [if_neg (fun h => hz2 h.2), hz]; exact ⟨_, _, _, rfl⟩
              obtain ⟨a1, a2, a3, hA⟩ := hv2
              rw [if_pos hz] at hgo
              simp only [hA] at hone
              clear hA
              (repeat' (first
                | with_reducible first | refine L_seq ?_ | refine L_blk ?_ | refine L_skip ?_ | refine L_endblk ?_ | refine L_ret ?_ | refine L_exit ?_ | refine X_code ?_ | refine X_back ?_ | refine X_blk ?_ | refine X_past (by decide) ?_ | refine L_back ?_
                | ((with_reducible refine Kof.use hK ?_); clear hK hE K E)
                | ((with_reducible refine Eof.use hE ?_); (try clear hK hE K E))
                | ((with_reducible refine W_cond (fun h => ?_) (fun h => ?_)) <;> (try (exfalso; first | assumption | omega)))
                | ((with_reducible first | refine G_region fun K E hK hE => ?_ | refine call_ret can53 ((hone _)) ?_ | refine call_ret can53 (Rone_S _ _ _ _ _ (by first | assumption | omega) (by first | assumption | omega)) ?_ | refine W_if ?_ | refine W_ifS ?_ | refine W_and ?_) <;> (try simp (disch := first | assumption | omega) only [go_sem, seval, *]))
                | ((with_reducible refine W_fresh (fun b hb => ?_)); (repeat (obtain ⟨_, hb⟩ := hb)); (try simp (disch := first | assumption | omega) only [go_sem, seval, *]))
                | ((with_reducible refine W_app (fun o2 ho => ?_)); (repeat (obtain ⟨_, ho⟩ := ho)); (try simp (disch := first | assumption | omega) only [go_sem, seval, *]))
                | ((with_reducible refine W_gd (fun h => ?_) (fun h => ?_)) <;> (try (exfalso; first | assumption | omega)) <;> (try simp (disch := first | assumption | omega) only [go_sem, seval, *]))))
              all_goals (first | refine G_ret hQ (by simp (disch := first | assumption | omega) only [res23, go_sem, seval, *] <;> rfl) ?_ | refine G_norm hQ (by simp (disch := first | assumption | omega) only [res23, go_sem, seval, *] <;> rfl) ?_ | refine G_pan hQ ?_)
              all_goals (refine ⟨_, _, ?_, ?_, rfl, rfl⟩)
              · rw [hgo]; exact Wk.tup3
              · ((try dsimp only); (repeat (first | exact Fg.refl _ | exact Fg.own (by assumption) | (refine Fg.set ?_ _ _) | (refine Fg.setA ?_ (by first | assumption | (simp (disch := assumption) only [own_rd, St.set, if_false, if_true, *]; done))) )); done)
            · have hA : RoneV at_ (l.drop at_) = .tup [.agg [.int .i64 (oneK (l.drop at_)).1, .str ((l.drop at_).take (oneK (l.drop at_)).2), .int .i64 at_], .bool true] := by
                unfold RoneV
                rw [if_neg (fun h => hz h.1), decide_eq_true (by omega)]
              simp only [hA] at hone
              rw [if_neg hz] at hgo
              have hdd : (l.drop at_).drop (oneK (l.drop at_)).2 = l.drop (at_ + (oneK (l.drop at_)).2) := List.drop_drop
              have htl : ((l.drop at_).take (oneK (l.drop at_)).2).length = (oneK (l.drop at_)).2 := by rw [List.length_take]; omega
              rw [hdd] at hgo
              clear hA
              generalize (l.drop at_).take (oneK (l.drop at_)).2 = tx at *
              generalize (oneK (l.drop at_)).1 = kd at *
              generalize (oneK (l.drop at_)).2 = nn at *
              by_cases hfull : 4096 ≤ out.length
              · rw [if_pos hfull] at hgo
                (repeat' (first
                  | with_reducible first | refine L_seq ?_ | refine L_blk ?_ | refine L_skip ?_ | refine L_endblk ?_ | refine L_ret ?_ | refine L_exit ?_ | refine X_code ?_ | refine X_back ?_ | refine X_blk ?_ | refine X_past (by decide) ?_ | refine L_back ?_
                  | ((with_reducible refine Kof.use hK ?_); clear hK hE K E)
                  | ((with_reducible refine Eof.use hE ?_); (try clear hK hE K E))
                  | ((with_reducible refine W_cond (fun h => ?_) (fun h => ?_)) <;> (try (exfalso; first | assumption | omega)))
                  | ((with_reducible first | refine G_region fun K E hK hE => ?_ | refine call_ret can53 ((hone _)) ?_ | refine call_ret can53 (Rone_S _ _ _ _ _ (by first | assumption | omega) (by first | assumption | omega)) ?_ | refine W_if ?_ | refine W_ifS ?_ | refine W_and ?_) <;> (try simp (disch := first | assumption | omega) only [go_sem, seval, List.length_map, *]))
                  | ((with_reducible refine W_fresh (fun b hb => ?_)); (repeat (obtain ⟨_, hb⟩ := hb)); (try simp (disch := first | assumption | omega) only [go_sem, seval, List.length_map, *]))
                  | ((with_reducible refine W_app (fun o2 ho => ?_)); (try simp (disch := assumption) only [disown_set, disown_own, ownok_o, ownok_m, List.length_map, List.length_cons, List.length_nil, Nat.zero_add, List.length_map] at ho); (repeat (obtain ⟨_, ho⟩ := ho)); (try simp (disch := first | assumption | omega) only [go_sem, seval, List.length_map, *]))
                  | ((with_reducible refine W_gd (fun h => ?_) (fun h => ?_)) <;> (try (exfalso; first | assumption | omega)) <;> (try simp (disch := first | assumption | omega) only [go_sem, seval, List.length_map, *]))))
                all_goals (first | refine G_ret hQ (by simp (disch := first | assumption | omega) only [res23, go_sem, seval, *] <;> rfl) ?_ | refine G_norm hQ (by simp (disch := first | assumption | omega) only [res23, go_sem, seval, *] <;> rfl) ?_ | refine G_pan hQ ?_)
                all_goals (refine ⟨_, _, ?_, ?_, rfl, rfl⟩)
                · rw [hgo]; exact Wk.tup3
                · ((try dsimp only); (repeat (first | exact Fg.refl _ | exact Fg.own (by assumption) | (refine Fg.set ?_ _ _) | (refine Fg.setA ?_ (by first | assumption | (simp (disch := assumption) only [own_rd, St.set, if_false, if_true, *]; done))) )); done)
              · rw [if_neg hfull] at hgo
                (repeat' (first
                  | with_reducible first | refine L_seq ?_ | refine L_blk ?_ | refine L_skip ?_ | refine L_endblk ?_ | refine L_ret ?_ | refine L_exit ?_ | refine X_code ?_ | refine X_back ?_ | refine X_blk ?_ | refine X_past (by decide) ?_ | refine L_back ?_
                  | ((with_reducible refine Kof.use hK ?_); clear hK hE K E)
                  | ((with_reducible refine Eof.use hE ?_); (try clear hK hE K E))
                  | ((with_reducible refine W_cond (fun h => ?_) (fun h => ?_)) <;> (try (exfalso; first | assumption | omega)))
                  | ((with_reducible first | refine G_region fun K E hK hE => ?_ | refine call_ret can53 ((hone _)) ?_ | refine call_ret can53 (Rone_S _ _ _ _ _ (by first | assumption | omega) (by first | assumption | omega)) ?_ | refine W_if ?_ | refine W_ifS ?_ | refine W_and ?_) <;> (try simp (disch := first | assumption | omega) only [go_sem, seval, List.length_map, htl, vrow, *]))
                  | ((with_reducible refine W_fresh (fun b hb => ?_)); (repeat (obtain ⟨_, hb⟩ := hb)); (try simp (disch := first | assumption | omega) only [go_sem, seval, List.length_map, htl, vrow, *]))
                  | ((with_reducible refine W_app (fun o2 ho => ?_)); (try simp (disch := assumption) only [disown_set, disown_own, ownok_o, ownok_m, List.length_map, List.length_cons, List.length_nil, Nat.zero_add, List.length_map, htl, vrow] at ho); (repeat (obtain ⟨_, ho⟩ := ho)); (try simp (disch := first | assumption | omega) only [go_sem, seval, List.length_map, htl, vrow, *]))
                  | ((with_reducible refine W_gd (fun h => ?_) (fun h => ?_)) <;> (try (exfalso; first | assumption | omega)) <;> (try simp (disch := first | assumption | omega) only [go_sem, seval, List.length_map, htl, vrow, *]))))
                refine ⟨_, ?_, n - nn, by omega, at_ + nn, out ++ [{ kind := kd, text := tx, at_ := at_ }], _, by omega, by omega, by simp; omega, hgo, rfl, by simpa using ho, by ((try simp (disch := first | assumption | omega) only [go_sem, seval, *]) <;> first | rfl | omega), ?_, by ((try simp (disch := first | assumption | omega) only [go_sem, seval, *]) <;> first | rfl | omega)⟩
                · simp only [List.length_append, List.length_cons, List.length_nil]
                  ((try dsimp only); (repeat (first | exact Fg.refl _ | exact Fg.own (by assumption) | (refine Fg.set ?_ _ _) | (refine Fg.setA ?_ (by first | assumption | (simp (disch := assumption) only [own_rd, St.set, if_false, if_true, *]; done))) )); done)
                · (simp (disch := first | assumption | omega) only [go_sem, seval, *])
                  simp [sgnC]

def GoodL (L : List Sgn) : Prop := ∀ x, x ∈ L → decide (x.kind = 1) = RisB 1 x.text
theorem runN_take (p : UInt8 → Bool) : ∀ l : List UInt8, runN p (l.take (runN p l)) = runN p l
  | [] => rfl
  | c :: l => by
    rw [runN_cons]
    split
    · rename_i h
      rw [List.take_succ_cons, runN_cons, if_pos h, runN_take p l]
    · rfl
theorem sign_good (c : UInt8) (r : List UInt8) (h : (oneK (c :: r)).2 ≠ 0) : decide ((oneK (c :: r)).1 = 1) = RisB 1 ((c :: r).take (oneK (c :: r)).2) := by
  obtain ⟨n, hn⟩ : ∃ n, (oneK (c :: r)).2 = n + 1 := ⟨(oneK (c :: r)).2 - 1, by omega⟩
  have hle := oneK_le c r
  have hl : ((c :: r).take (n + 1)).length = n + 1 := by rw [List.length_take]; omega
  rw [hn]
  have ht : (c :: r).take (n + 1) = c :: r.take n := rfl
  by_cases hd : digB c = true
  · have h1 : (oneK (c :: r)).1 ≠ 1 := by simp only [oneK, hd, if_true]; split <;> simp
    have h2 : (oneK (c :: r.take n)).1 ≠ 1 := by simp only [oneK, hd, if_true]; split <;> simp
    rw [decide_eq_false h1]
    unfold RisB
    rw [ht, decide_eq_false]
    rintro ⟨_, _, e⟩
    rw [e] at h2
    exact h2 rfl
  · have hd : digB c = false := by simpa using hd
    by_cases hp : partB c = true
    · have h0 := h
      simp only [oneK, hd, hp, if_true, Bool.false_eq_true, if_false] at h0 hn ⊢
      by_cases hb : 32 < runN partB (c :: r)
      · rw [if_pos hb] at h0; exact absurd rfl h0
      · rw [if_neg hb] at hn
        simp only at hn
        rw [if_neg hb]
        have ho : oneK (c :: r.take n) = (1, n + 1) := by
          simp only [oneK, hd, hp, if_true, Bool.false_eq_true, if_false]
          have hr := runN_take partB (c :: r)
          rw [hn, ht] at hr
          rw [hr, if_neg (by omega)]
        unfold RisB
        rw [ht] at hl
        rw [ht, ho, hl]
        simp
        omega
    · have hp : partB c = false := by simpa using hp
      have h1 : (oneK (c :: r)).1 = 3 := by simp only [oneK, hd, hp, Bool.false_eq_true, if_false]
      have h2 : (oneK (c :: r.take n)).1 = 3 := by simp only [oneK, hd, hp, Bool.false_eq_true, if_false]
      rw [h1]
      unfold RisB
      rw [ht, decide_eq_false (by decide), decide_eq_false]
      rintro ⟨_, _, e⟩
      rw [e] at h2
      cases h2
theorem lexGo_good : ∀ (f : Nat) (l : List UInt8) (at_ : Nat) (out L : List Sgn), GoodL out → out.length ≤ 4096 → lexGo f l at_ out = .ok L → GoodL L ∧ L.length ≤ 4096
  | 0, l, at_, out, L, hg, hl, h => by simp only [lexGo] at h; injection h with h; subst h; exact ⟨hg, hl⟩
  | f + 1, l, at_, out, L, hg, hl, h => by
    simp only [lexGo] at h
    cases hd : l.drop (runN blankB l) with
    | nil => rw [hd] at h; injection h with h; subst h; exact ⟨hg, hl⟩
    | cons c r =>
      rw [hd] at h
      simp only at h
      split at h
      · exact lexGo_good f _ _ _ _ hg hl h
      · split at h
        · cases h
        · rename_i h0
          split at h
          · cases h
          · rename_i hf
            refine lexGo_good f _ _ _ _ ?_ (by simp; omega) h
            intro x hx
            rcases List.mem_append.1 hx with hx | hx
            · exact hg x hx
            · rw [List.mem_singleton] at hx
              subst hx
              exact sign_good c r h0
theorem lexSigns_good {s : List UInt8} {L : List Sgn} (h : lexSigns s = .ok L) : GoodL L ∧ L.length ≤ 4096 := by
  unfold lexSigns at h
  split at h
  · cases h
  · exact lexGo_good _ _ _ _ _ (fun x hx => by cases hx) (by simp) h
end Go.Proofs.Ytilpdejbldllbaa
