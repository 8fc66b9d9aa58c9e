/- What is proved: What package osierref12's Check, Strata and Vars hand back. Conditions: what fits a memory; What sound.Vars, sameTexts, SoundChecks and SoundStrata hand back. Conditions: what fits a memory. Conditions: those that stand in the statements. -/
import Derived.Test.YtdibndmkeipgbaaGreatDoorZXgj
import Derived.Test.YtdibndmkeipgbaaGreatDoorZGpj
set_option linter.unusedSimpArgs false
set_option linter.unusedVariables false
set_option maxRecDepth 100000
namespace Go.Proofs.YtdibndmkeipgbaaGreatDoor
open Go.RowKit

set_option maxHeartbeats 8000000 in
theorem RCheck12_S (x : Pgm) (hx : PgmOk x) (t : St) : SRet Tryz.prog 8 [.agg (pgC x)] t (.tup [.int .i64 (soundP x).1, .int .i64 (soundP x).2.1]) t := by
  have w1 := fun s => Rdecl_S x hx s
  have hlr : (x.rules.map rulC).length = x.rules.length := by simp
  by_cases hr : readE x = 0
  · have hBd := pgm_bd (read_pgm hr)
    obtain ⟨hdl, hrl, hbd⟩ := hBd
    have hs : soundP x = match badR x 0 x.rules with | some (k, e) => ((k : Int), e, []) | none => match stgP x with | none => (-1, 126, []) | some l => (-1, 0, l) := by
      unfold soundP; rw [if_neg (by simp [hr])]; rfl
    generalize hZ : soundP x = Z at hs
    have HS := Lib.hid hs
    have HBD := Lib.hid hbd
    clear hs hZ hbd
    rw [hr] at w1
    have w2 := fun s r (h : r ∈ x.rules) => RScope_S s x r hx.1 hx.2.1 (by have := (HBD.out r h).2.1; omega) (fun a ha => by rcases ha with rfl | ha; exact Nat.le_trans (HBD.out r h).1 (by omega); exact Nat.le_trans ((HBD.out r h).2.2 a ha) (by omega))
    have W2 := Lib.hid w2
    clear w2 hr
    simp only [pgC] at w1 W2 ⊢
    refine G_enter Tryz.func8 rfl Tryz.ntmps8 rfl fun Q hQ hQe => ?_
    (repeat' (first | refine Ctl ?_ | ((with_reducible refine Kof.use hK ?_); clear hK hE K E) | ((with_reducible refine Eof.use hE ?_); (try clear hK hE K E)) | ((with_reducible refine Kof.use hKh ?_); clear hKh Kh) | ((with_reducible refine Kof.use hKb (P_next ?_)); clear hKb Kb) | (with_reducible refine G_planT 7 (.two [0, 1, 2, 3, 4, 5] 6 [[]] (.one [7, 8, 9] 10 [[7, 8, 9], []] (.one [] 11 [[], [9], []] (.fin [12]))) 10 [[0, 1, 2, 3, 4, 5]] (.one [] 6 [[], []] (.one [7, 8, 9] 11 [[9], [], []] (.fin [12])))) hQe fun K E hK hE => ?_) | ((with_reducible refine W_cond (fun h => ?_) (fun h => ?_)) <;> (try (exfalso; first | assumption | omega))) | ((first | (with_reducible first | refine G_region fun K E hK hE => ?_ | refine call_ret can18 (w1 _) ?_ | refine call_ret can18 (Rdecl_S _ (by assumption) _) ?_ | refine call_ret can19 (RScope_S _ _ _ (by assumption) (by assumption) (by assumption) (by assumption)) ?_ | refine W_if ?_ | refine W_ifS ?_ | refine P_heads fun Kh hKh => ?_ | refine P_fin fun Kh hKh => ?_ | refine P_each fun Kb hKb => ?_ | refine T_heads fun Kh hKh => ?_ | refine T_fin fun Kh hKh => ?_ | refine T_two fun Kh hKh => ?_ | refine T_both (fun Kb hKb => ?_) (fun Kb hKb => ?_) | refine W_and ?_) | ((with_reducible refine W_fresh (fun b hb => ?_)); (repeat (obtain ⟨_, hb⟩ := hb)))) <;> (try simp (disch := first | assumption | omega) only [go_sem, seval, hlr, *]))))
    obtain ⟨bp, hbp⟩ : ∃ z, z = b := ⟨_, rfl⟩
    subst hbp
    have hSp : (t.set bp (.obj 26 [.lst (x.doms.map dmC) .no, .lst (x.decls.map dclC) .no, .lst (x.rules.map rulC) .no])) bp = (.obj 26 [.lst (x.doms.map dmC) .no, .lst (x.decls.map dclC) .no, .lst (x.rules.map rulC) .no]) := St.set_same _ _ _
    have hF : Fg (t.set bp (.obj 26 [.lst (x.doms.map dmC) .no, .lst (x.decls.map dclC) .no, .lst (x.rules.map rulC) .no])) t := Fg.of_set _ hb
    generalize t.set bp (.obj 26 [.lst (x.doms.map dmC) .no, .lst (x.decls.map dclC) .no, .lst (x.rules.map rulC) .no]) = S at *
    have HF := Lib.hid hF
    have hSpf : S bp ≠ .free := by rw [hSp]; simp
    clear hF hb
    refine G_loop (fun m env s' => ∃ i : Nat, i ≤ x.rules.length ∧ m + i = x.rules.length ∧ Hid (badR x 0 x.rules = badR x i (x.rules.drop i)) ∧ s' = S ∧ env 1 = .ptr bp 0 ∧ env 5 = .int .i64 i) x.rules.length ?_ ?_
    · exact ⟨_, Fg.refl _, 0, by omega, by omega, Lib.hid (by simp), rfl, z_sl, z_sl⟩
    rintro m env s' ⟨i, hi, hm, HI, rfl, e1, e5⟩
    by_cases hlt : i < x.rules.length
    · obtain ⟨r, hrj⟩ := uget hlt
      have hsx := rulC_at hrj
      have w2 := fun s => W2.out s r (List.mem_of_getElem? hrj)
      have hI := HI.out
      rw [List.drop_eq_getElem_cons hlt, show x.rules[i] = r by rw [List.getElem?_eq_getElem hlt] at hrj; injection hrj] at hI
      simp only [badR] at hI
      clear hrj
      cases hsc : scopeS x r with
      | error e =>
        rw [hsc] at hI w2
        simp only at hI
        have hen := scopeS_err hsc
        have hZ : Z = ((i : Int), e, []) := by rw [HS.out, hI]
        subst hZ
        have hef : (e = 0) = False := eq_false hen
        simp only [scopeV, rulC] at w2
        clear hI hsc HI HS
        (repeat' (first | refine Ctl ?_ | ((with_reducible refine Kof.use hK ?_); clear hK hE K E) | ((with_reducible refine Eof.use hE ?_); (try clear hK hE K E)) | ((with_reducible refine Kof.use hKh ?_); clear hKh Kh) | ((with_reducible refine Kof.use hKb (P_next ?_)); clear hKb Kb) | (with_reducible refine G_planT 7 (.two [0, 1, 2, 3, 4, 5] 6 [[]] (.one [7, 8, 9] 10 [[7, 8, 9], []] (.one [] 11 [[], [9], []] (.fin [12]))) 10 [[0, 1, 2, 3, 4, 5]] (.one [] 6 [[], []] (.one [7, 8, 9] 11 [[9], [], []] (.fin [12])))) hQe fun K E hK hE => ?_) | ((with_reducible refine W_cond (fun h => ?_) (fun h => ?_)) <;> (try (exfalso; first | assumption | omega))) | ((first | (with_reducible first | refine G_region fun K E hK hE => ?_ | refine call_ret can19 (w2 _) ?_ | refine call_ret can18 (Rdecl_S _ (by assumption) _) ?_ | refine call_ret can19 (RScope_S _ _ _ (by assumption) (by assumption) (by assumption) (by assumption)) ?_ | refine W_if ?_ | refine W_ifS ?_ | refine P_heads fun Kh hKh => ?_ | refine P_fin fun Kh hKh => ?_ | refine P_each fun Kb hKb => ?_ | refine T_heads fun Kh hKh => ?_ | refine T_fin fun Kh hKh => ?_ | refine T_two fun Kh hKh => ?_ | refine T_both (fun Kb hKb => ?_) (fun Kb hKb => ?_) | refine W_and ?_) | ((with_reducible refine W_fresh (fun b hb => ?_)); (repeat (obtain ⟨_, hb⟩ := hb)); (try (obtain ⟨_, _⟩ := nef hb hSpf)))) <;> (try simp (disch := first | assumption | omega) only [go_sem, seval, hlr, hsx, rulC, *]))))
        all_goals (first | refine W_ret res8 hQ ?_ | refine W_norm res8 hQ ?_ | refine G_pan hQ ?_)
        all_goals exact ⟨_, t, Wk.refl _, (Fg.of_set _ hb).trans HF.out, rfl, rfl⟩
      | ok Y =>
        rw [hsc] at hI w2
        simp only at hI
        have HI2 := Lib.hid hI
        simp only [scopeV, rulC] at w2
        clear hI hsc HI
        (repeat' (first | refine Ctl ?_ | ((with_reducible refine Kof.use hK ?_); clear hK hE K E) | ((with_reducible refine Eof.use hE ?_); (try clear hK hE K E)) | ((with_reducible refine Kof.use hKh ?_); clear hKh Kh) | ((with_reducible refine Kof.use hKb (P_next ?_)); clear hKb Kb) | (with_reducible refine G_planT 7 (.two [0, 1, 2, 3, 4, 5] 6 [[]] (.one [7, 8, 9] 10 [[7, 8, 9], []] (.one [] 11 [[], [9], []] (.fin [12]))) 10 [[0, 1, 2, 3, 4, 5]] (.one [] 6 [[], []] (.one [7, 8, 9] 11 [[9], [], []] (.fin [12])))) hQe fun K E hK hE => ?_) | ((with_reducible refine W_cond (fun h => ?_) (fun h => ?_)) <;> (try (exfalso; first | assumption | omega))) | ((first | (with_reducible first | refine G_region fun K E hK hE => ?_ | refine call_ret can19 (w2 _) ?_ | refine call_ret can18 (Rdecl_S _ (by assumption) _) ?_ | refine call_ret can19 (RScope_S _ _ _ (by assumption) (by assumption) (by assumption) (by assumption)) ?_ | refine W_if ?_ | refine W_ifS ?_ | refine P_heads fun Kh hKh => ?_ | refine P_fin fun Kh hKh => ?_ | refine P_each fun Kb hKb => ?_ | refine T_heads fun Kh hKh => ?_ | refine T_fin fun Kh hKh => ?_ | refine T_two fun Kh hKh => ?_ | refine T_both (fun Kb hKb => ?_) (fun Kb hKb => ?_) | refine W_and ?_) | ((with_reducible refine W_fresh (fun b hb => ?_)); (repeat (obtain ⟨_, hb⟩ := hb)); (try (obtain ⟨_, _⟩ := nef hb hSpf)))) <;> (try simp (disch := first | assumption | omega) only [go_sem, seval, hlr, hsx, rulC, *]))))
        all_goals exact ⟨_, Fg.of_set _ hb, m - 1, by omega, i + 1, by omega, by omega, HI2, rfl, z_sl, z_sl⟩
    · have hI := HI.out
      rw [show i = x.rules.length by omega, List.drop_length] at hI
      simp only [badR] at hI
      have hRO : RelOk x := fun r hr => sound_rel hI hr
      have w4 := fun s => Rstages_S s x hRO hdl hrl (fun r hr => by have := (HBD.out r hr).2.1; omega)
      have hZ := HS.out
      rw [hI] at hZ
      simp only at hZ
      simp only [pgC] at w4
      clear hI HS HI hRO
      cases hst : stgP x with
      | none =>
        rw [hst] at hZ w4
        simp only at hZ
        subst hZ
        simp only [stagesV] at w4
        (repeat' (first | refine Ctl ?_ | ((with_reducible refine Kof.use hK ?_); clear hK hE K E) | ((with_reducible refine Eof.use hE ?_); (try clear hK hE K E)) | ((with_reducible refine Kof.use hKh ?_); clear hKh Kh) | ((with_reducible refine Kof.use hKb (P_next ?_)); clear hKb Kb) | (with_reducible refine G_planT 7 (.two [0, 1, 2, 3, 4, 5] 6 [[]] (.one [7, 8, 9] 10 [[7, 8, 9], []] (.one [] 11 [[], [9], []] (.fin [12]))) 10 [[0, 1, 2, 3, 4, 5]] (.one [] 6 [[], []] (.one [7, 8, 9] 11 [[9], [], []] (.fin [12])))) hQe fun K E hK hE => ?_) | ((with_reducible refine W_cond (fun h => ?_) (fun h => ?_)) <;> (try (exfalso; first | assumption | omega))) | ((first | (with_reducible first | refine G_region fun K E hK hE => ?_ | refine call_ret can20 (w4 _) ?_ | refine call_ret can18 (Rdecl_S _ (by assumption) _) ?_ | refine call_ret can19 (RScope_S _ _ _ (by assumption) (by assumption) (by assumption) (by assumption)) ?_ | refine W_if ?_ | refine W_ifS ?_ | refine P_heads fun Kh hKh => ?_ | refine P_fin fun Kh hKh => ?_ | refine P_each fun Kb hKb => ?_ | refine T_heads fun Kh hKh => ?_ | refine T_fin fun Kh hKh => ?_ | refine T_two fun Kh hKh => ?_ | refine T_both (fun Kb hKb => ?_) (fun Kb hKb => ?_) | refine W_and ?_) | ((with_reducible refine W_fresh (fun b hb => ?_)); (repeat (obtain ⟨_, hb⟩ := hb)))) <;> (try simp (disch := first | assumption | omega) only [go_sem, seval, hlr, *]))))
        all_goals (first | refine W_ret res8 hQ ?_ | refine W_norm res8 hQ ?_ | refine G_pan hQ ?_)
        all_goals exact ⟨_, t, Wk.refl _, HF.out, rfl, rfl⟩
      | some l =>
        rw [hst] at hZ w4
        simp only at hZ
        subst hZ
        simp only [stagesV] at w4
        (repeat' (first | refine Ctl ?_ | ((with_reducible refine Kof.use hK ?_); clear hK hE K E) | ((with_reducible refine Eof.use hE ?_); (try clear hK hE K E)) | ((with_reducible refine Kof.use hKh ?_); clear hKh Kh) | ((with_reducible refine Kof.use hKb (P_next ?_)); clear hKb Kb) | (with_reducible refine G_planT 7 (.two [0, 1, 2, 3, 4, 5] 6 [[]] (.one [7, 8, 9] 10 [[7, 8, 9], []] (.one [] 11 [[], [9], []] (.fin [12]))) 10 [[0, 1, 2, 3, 4, 5]] (.one [] 6 [[], []] (.one [7, 8, 9] 11 [[9], [], []] (.fin [12])))) hQe fun K E hK hE => ?_) | ((with_reducible refine W_cond (fun h => ?_) (fun h => ?_)) <;> (try (exfalso; first | assumption | omega))) | ((first | (with_reducible first | refine G_region fun K E hK hE => ?_ | refine call_ret can20 (w4 _) ?_ | refine call_ret can18 (Rdecl_S _ (by assumption) _) ?_ | refine call_ret can19 (RScope_S _ _ _ (by assumption) (by assumption) (by assumption) (by assumption)) ?_ | refine W_if ?_ | refine W_ifS ?_ | refine P_heads fun Kh hKh => ?_ | refine P_fin fun Kh hKh => ?_ | refine P_each fun Kb hKb => ?_ | refine T_heads fun Kh hKh => ?_ | refine T_fin fun Kh hKh => ?_ | refine T_two fun Kh hKh => ?_ | refine T_both (fun Kb hKb => ?_) (fun Kb hKb => ?_) | refine W_and ?_) | ((with_reducible refine W_fresh (fun b hb => ?_)); (repeat (obtain ⟨_, hb⟩ := hb)))) <;> (try simp (disch := first | assumption | omega) only [go_sem, seval, hlr, *]))))
        all_goals (first | refine W_ret res8 hQ ?_ | refine W_norm res8 hQ ?_ | refine G_pan hQ ?_)
        all_goals exact ⟨_, t, Wk.refl _, HF.out, rfl, rfl⟩
  · have hs : soundP x = (-1, readE x, []) := by unfold soundP; rw [if_pos hr]
    rw [hs]
    clear hs
    generalize readE x = e at *
    have hef : (e = 0) = False := eq_false hr
    simp only [pgC] at w1 ⊢
    refine G_enter Tryz.func8 rfl Tryz.ntmps8 rfl fun Q hQ hQe => ?_
    (repeat' (first | refine Ctl ?_ | ((with_reducible refine Kof.use hK ?_); clear hK hE K E) | ((with_reducible refine Eof.use hE ?_); (try clear hK hE K E)) | ((with_reducible refine Kof.use hKh ?_); clear hKh Kh) | ((with_reducible refine Kof.use hKb (P_next ?_)); clear hKb Kb) | (with_reducible refine G_planT 7 (.two [0, 1, 2, 3, 4, 5] 6 [[]] (.one [7, 8, 9] 10 [[7, 8, 9], []] (.one [] 11 [[], [9], []] (.fin [12]))) 10 [[0, 1, 2, 3, 4, 5]] (.one [] 6 [[], []] (.one [7, 8, 9] 11 [[9], [], []] (.fin [12])))) hQe fun K E hK hE => ?_) | ((with_reducible refine W_cond (fun h => ?_) (fun h => ?_)) <;> (try (exfalso; first | assumption | omega))) | ((first | (with_reducible first | refine G_region fun K E hK hE => ?_ | refine call_ret can18 (w1 _) ?_ | refine call_ret can18 (Rdecl_S _ (by assumption) _) ?_ | refine call_ret can19 (RScope_S _ _ _ (by assumption) (by assumption) (by assumption) (by assumption)) ?_ | refine W_if ?_ | refine W_ifS ?_ | refine P_heads fun Kh hKh => ?_ | refine P_fin fun Kh hKh => ?_ | refine P_each fun Kb hKb => ?_ | refine T_heads fun Kh hKh => ?_ | refine T_fin fun Kh hKh => ?_ | refine T_two fun Kh hKh => ?_ | refine T_both (fun Kb hKb => ?_) (fun Kb hKb => ?_) | refine W_and ?_) | ((with_reducible refine W_fresh (fun b hb => ?_)); (repeat (obtain ⟨_, hb⟩ := hb)))) <;> (try simp (disch := first | assumption | omega) only [go_sem, seval, *]))))
    all_goals (first | refine W_ret res8 hQ ?_ | refine W_norm res8 hQ ?_ | refine G_pan hQ ?_)
    all_goals (refine ⟨_, _, Wk.of_eq ?_, ?_, rfl, rfl⟩)
    all_goals first | rfl | (exact z_fg)
end Go.Proofs.YtdibndmkeipgbaaGreatDoor
set_option maxRecDepth 100000
namespace Go.Proofs.YtdibndmkeipgbaaGreatDoor
open Go.RowKit

set_option maxHeartbeats 4000000 in
theorem SoundChecks_S (x : Pgm) (hx : PgmOk x) (t : St) : SRet Tryz.prog 3 [.agg (pgC x)] t (.bool true) t := by
  have w1 := fun s => UFew_S x hx s
  have w2 := fun s => Scheck_S x hx s
  have w3 := fun s => RCheck12_S x hx s
  generalize soundP x = Z at *
  simp only [pgC] at w1 w2 w3 ⊢
  refine G_enter Tryz.func3 rfl Tryz.ntmps3 rfl fun Q hQ hQe => ?_
  (repeat' (first | refine Ctl ?_ | ((with_reducible refine Kof.use hK ?_); clear hK hE K E) | ((with_reducible refine Eof.use hE ?_); (try clear hK hE K E)) | ((with_reducible refine W_cond (fun h => ?_) (fun h => ?_)) <;> (try (exfalso; first | assumption | omega))) | ((first | (with_reducible first | refine G_region fun K E hK hE => ?_ | refine call_ret can7 (w2 _) ?_ | refine call_ret can8 (w3 _) ?_ | refine call_ret can8 (RCheck12_S _ (by assumption) _) ?_ | refine call_ret can7 (Scheck_S _ (by assumption) _) ?_ | refine call_ret can6 (Sawake_S _) ?_ | refine W_if ?_ | refine W_ifS ?_ | refine W_and ?_) | ((with_reducible refine call_ex can5 (w1 _) (fun a h => ?_))) | ((with_reducible refine call_ex can5 (UFew_S _ (by assumption) _) (fun a h => ?_))) | ((with_reducible refine W_fresh (fun b hb => ?_)); (repeat (obtain ⟨_, hb⟩ := hb))) | ((with_reducible refine W_gd (fun h => ?_) (fun h => ?_)) <;> (try (exfalso; first | assumption | omega)))) <;> (try simp (disch := first | assumption | omega) only [go_sem, seval, *]))))
  all_goals (first | refine W_ret res3 hQ ?_ | refine W_norm res3 hQ ?_ | refine G_pan hQ ?_)
  all_goals (refine ⟨_, _, Wk.of_eq ?_, ?_, rfl, rfl⟩)
  all_goals first | rfl | (exact z_fg)
end Go.Proofs.YtdibndmkeipgbaaGreatDoor
