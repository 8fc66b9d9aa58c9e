/- What is proved: What package osierref12's Check, Strata and Vars hand back. Conditions: what fits a memory; What sound.Vars, sameTexts, SoundChecks and SoundStrata hand back. Conditions: what fits a memory. Conditions: those that stand in the statements. -/
import Derived.Test.YtdibndmkeipgbaaGreatDoorZXgj
import Derived.Test.YtdibndmkeipgbaaGreatDoorZGpj
set_option linter.unusedSimpArgs false
set_option linter.unusedVariables false
set_option maxRecDepth 100000
namespace Go.Proofs.YtdibndmkeipgbaaGreatDoor
open Go.RowKit

set_option maxHeartbeats 8000000 in
theorem RCheck12_S (x : Pgm) (hx : PgmOk x) (t : St) : SRet Tryz.prog 8 [.agg (pgC x)] t (.tup [.int .i64 (soundP x).1, .int .i64 (soundP x).2.1]) t := by
  have w1 := fun s => Rdecl_S x hx s
  have hlr : (x.rules.map rulC).length = x.rules.length := by simp
  by_cases hr : readE x = 0
  · have hBd := pgm_bd (read_pgm hr)
    obtain ⟨hdl, hrl, hbd⟩ := hBd
    have hs : soundP x = match badR x 0 x.rules with | some (k, e) => ((k : Int), e, []) | none => match stgP x with | none => (-1, 126, []) | some l => (-1, 0, l) := by
      unfold soundP; rw [if_neg (by simp [hr])]; rfl
    generalize hZ : soundP x = Z at hs
    have HS := Lib.hid hs
    have HBD := Lib.hid hbd
    clear hs hZ hbd
    rw [hr] at w1
    have w2 := fun s r (h : r ∈ x.rules) => RScope_S s x r hx.1 hx.2.1 (by have := (HBD.out r h).2.1; omega) (fun a ha => by rcases ha with rfl | ha; exact Nat.le_trans (HBD.out r h).1 (by omega); exact Nat.le_trans ((HBD.out r h).2.2 a ha) (by omega))
    have W2 := Lib.hid w2
    clear w2 hr
    simp only [pgC] at w1 W2 ⊢
    refine G_enter Tryz.func8 rfl Tryz.ntmps8 rfl fun Q hQ hQe => ?_
    (repeat' (first | refine Ctl ?_ | ((with_reducible refine Kof.use hK ?_); clear hK hE K E) | ((with_reducible refine Eof.use hE ?_); (try clear hK hE K E)) | ((with_reducible refine Kof.use hKh ?_); clear hKh Kh) | ((with_reducible refine Kof.use hKb (P_next ?_)); clear hKb Kb) | (with_reducible refine G_planT 7 (.two [0, 1, 2, 3, 4, 5] 6 [[]] (.one [7, 8, 9] 10 [[7, 8, 9], []] (.one [] 11 [[], [9], []] (.fin [12]))) 10 [[0, 1, 2, 3, 4, 5]] (.one [] 6 [[], []] (.one [7, 8, 9] 11 [[9], [], []] (.fin [12])))) hQe fun K E hK hE => ?_) | ((with_reducible refine W_cond (fun h => ?_) (fun h => ?_)) <;> (try (exfalso; first | assumption | omega))) | ((first | (with_reducible first | refine G_region fun K E hK hE => ?_ | refine call_ret can18 (w1 _) ?_ | refine call_ret can18 (Rdecl_S _ (by assumption) _) ?_ | refine call_ret can19 (RScope_S _ _ _ (by assumption) (by assumption) (by assumption) (by assumption)) ?_ | refine W_if ?_ | refine W_ifS ?_ | refine P_heads fun Kh hKh => ?_ | refine P_fin fun Kh hKh => ?_ | refine P_each fun Kb hKb => ?_ | refine T_heads fun Kh hKh => ?_ | refine T_fin fun Kh hKh => ?_ | refine T_two fun Kh hKh => ?_ | refine T_both (fun Kb hKb => ?_) (fun Kb hKb => ?_) | refine W_and ?_) | ((with_reducible refine W_fresh (fun b hb => ?_)); (repeat (obtain ⟨_, hb⟩ := hb)))) <;> (try simp (disch := first | assumption | omega) only [go_sem, seval, hlr, *]))))
    obtain ⟨bp, hbp⟩ : ∃ z, z = b := ⟨_, rfl⟩
    subst hbp
    have hSp : (t.set bp (.obj 26 [.lst (x.doms.map dmC) .no, .lst (x.decls.map dclC) .no, .lst (x.rules.map rulC) .no])) bp = (.obj 26 [.lst (x.doms.map dmC) .no, .lst (x.decls.map dclC) .no, .lst (x.rules.map rulC) .no]) := St.set_same _ _ _
    have hF : Fg (t.set bp (.obj 26 [.lst (x.doms.map dmC) .no, .lst (x.decls.map dclC) .no, .lst (x.rules.map rulC) .no])) t := Fg.of_set _ hb
    generalize t.set bp (.obj 26 [.lst (x.doms.map dmC) .no, .lst (x.decls.map dclC) .no, .lst (x.rules.map rulC) .no]) = S at *
    have HF := Lib.hid hF
    have hSpf : S bp ≠ .free := by rw [hSp]; simp
    clear hF hb
    refine G_loop (fun m env s' => ∃ i : Nat, i ≤ x.rules.length ∧ m + i = x.rules.length ∧ Hid (badR x 0 x.rules = badR x i (x.rules.drop i)) ∧ s' = S ∧ env 1 = .ptr bp 0 ∧ env 5 = .int .i64 i) x.rules.length ?_ ?_
    · exact ⟨_, Fg.refl _, 0, by omega, by omega, Lib.hid (by simp), rfl, z_sl, z_sl⟩
    rintro m env s' ⟨i, hi, hm, HI, rfl, e1, e5⟩
    by_cases hlt : i < x.rules.length
    · obtain ⟨r, hrj⟩ := uget hlt
      have hsx := rulC_at hrj
      have w2 := fun s => W2.out s r (List.mem_of_getElem? hrj)
      have hI := HI.out
      rw [List.drop_eq_getElem_cons hlt, show x.rules[i] = r by rw [List.getElem?_eq_getElem hlt] at hrj; injection hrj] at hI
      simp only [badR] at hI
      clear hrj
      cases hsc : scopeS x r with
      | error e =>
        rw [hsc] at hI w2
        simp only at hI
        have hen := scopeS_err hsc
        have hZ : Z = ((i : Int), e, []) := by rw [HS.out, hI]
        subst hZ
        have hef : (e = 0) = False := eq_false hen
        simp only [scopeV, rulC] at w2
        clear hI hsc HI HS
        (repeat' (first | refine Ctl ?_ | ((with_reducible refine Kof.use hK ?_); clear hK hE K E) | ((with_reducible refine Eof.use hE ?_); (try clear hK hE K E)) | ((with_reducible refine Kof.use hKh ?_); clear hKh Kh) | ((with_reducible refine Kof.use hKb (P_next ?_)); clear hKb Kb) | (with_reducible refine G_planT 7 (.two [0, 1, 2, 3, 4, 5] 6 [[]] (.one [7, 8, 9] 10 [[7, 8, 9], []] (.one [] 11 [[], [9], []] (.fin [12]))) 10 [[0, 1, 2, 3, 4, 5]] (.one [] 6 [[], []] (.one [7, 8, 9] 11 [[9], [], []] (.fin [12])))) hQe fun K E hK hE => ?_) | ((with_reducible refine W_cond (fun h => ?_) (fun h => ?_)) <;> (try (exfalso; first | assumption | omega))) | ((first | (with_reducible first | refine G_region fun K E hK hE => ?_ | refine call_ret can19 (w2 _) ?_ | refine call_ret can18 (Rdecl_S _ (by assumption) _) ?_ | refine call_ret can19 (RScope_S _ _ _ (by assumption) (by assumption) (by assumption) (by assumption)) ?_ | refine W_if ?_ | refine W_ifS ?_ | refine P_heads fun Kh hKh => ?_ | refine P_fin fun Kh hKh => ?_ | refine P_each fun Kb hKb => ?_ | refine T_heads fun Kh hKh => ?_ | refine T_fin fun Kh hKh => ?_ | refine T_two fun Kh hKh => ?_ | refine T_both (fun Kb hKb => ?_) (fun Kb hKb => ?_) | refine W_and ?_) | ((with_reducible refine W_fresh (fun b hb => ?_)); (repeat (obtain ⟨_, hb⟩ := hb)); (try (obtain ⟨_, _⟩ := nef hb hSpf)))) <;> (try simp (disch := first | assumption | omega) only [go_sem, seval, hlr, hsx, rulC, *]))))
        all_goals (first | refine W_ret res8 hQ ?_ | refine W_norm res8 hQ ?_ | refine G_pan hQ ?_)
        all_goals exact ⟨_, t, Wk.refl _, (Fg.of_set _ hb).trans HF.out, rfl, rfl⟩
      | ok Y =>
        rw [hsc] at hI w2
        simp only at hI
        have HI2 := Lib.hid hI
        simp only [scopeV, rulC] at w2
        clear hI hsc HI
        (repeat' (first | refine Ctl ?_ | ((with_reducible refine Kof.use hK ?_); clear hK hE K E) | ((with_reducible refine Eof.use hE ?_); (try clear hK hE K E)) | ((with_reducible refine Kof.use hKh ?_); clear hKh Kh) | ((with_reducible refine Kof.use hKb (P_next ?_)); clear hKb Kb) | (with_reducible refine G_planT 7 (.two [0, 1, 2, 3, 4, 5] 6 [[]] (.one [7, 8, 9] 10 [[7, 8, 9], []] (.one [] 11 [[], [9], []] (.fin [12]))) 10 [[0, 1, 2, 3, 4, 5]] (.one [] 6 [[], []] (.one [7, 8, 9] 11 [[9], [], []] (.fin [12])))) hQe fun K E hK hE => ?_) | ((with_reducible refine W_cond (fun h => ?_) (fun h => ?_)) <;> (try (exfalso; first | assumption | omega))) | ((first | (with_reducible first | refine G_region fun K E hK hE => ?_ | refine call_ret can19 (w2 _) ?_ | refine call_ret can18 (Rdecl_S _ (by assumption) _) ?_ | refine call_ret can19 (RScope_S _ _ _ (by assumption) (by assumption) (by assumption) (by assumption)) ?_ | refine W_if ?_ | refine W_ifS ?_ | refine P_heads fun Kh hKh => ?_ | refine P_fin fun Kh hKh => ?_ | refine P_each fun Kb hKb => ?_ | refine T_heads fun Kh hKh => ?_ | refine T_fin fun Kh hKh => ?_ | refine T_two fun Kh hKh => ?_ | refine T_both (fun Kb hKb => ?_) (fun Kb hKb => ?_) | refine W_and ?_) | ((with_reducible refine W_fresh (fun b hb => ?_)); (repeat (obtain ⟨_, hb⟩ := hb)); (try (obtain ⟨_, _⟩ := nef hb hSpf)))) <;> (try simp (disch := first | assumption | omega) only [go_sem, seval, hlr, hsx, rulC, *]))))
        all_goals exact ⟨_, Fg.of_set _ hb, m - 1, by omega, i + 1, by omega, by omega, HI2, rfl, z_sl, z_sl⟩
    · have hI := HI.out
      rw [show i = x.rules.length by omega, List.drop_length] at hI
      simp only [badR] at hI
      have hRO : RelOk x := fun r hr => sound_rel hI hr
      have w4 := fun s => Rstages_S s x hRO hdl hrl (fun r hr => by have := (HBD.out r hr).2.1; omega)
      have hZ := HS.out
      rw [hI] at hZ
      simp only at hZ
      simp only [pgC] at w4
      clear hI HS HI hRO
      cases hst : stgP x with
      | none =>
        rw [hst] at hZ w4
        simp only at hZ
        subst hZ
        simp only [stagesV] at w4
        (repeat' (first | refine Ctl ?_ | ((with_reducible refine Kof.use hK ?_); clear hK hE K E) | ((with_reducible refine Eof.use hE ?_); (try clear hK hE K E)) | ((with_reducible refine Kof.use hKh ?_); clear hKh Kh) | ((with_reducible refine Kof.use hKb (P_next ?_)); clear hKb Kb) | (with_reducible refine G_planT 7 (.two [0, 1, 2, 3, 4, 5] 6 [[]] (.one [7, 8, 9] 10 [[7, 8, 9], []] (.one [] 11 [[], [9], []] (.fin [12]))) 10 [[0, 1, 2, 3, 4, 5]] (.one [] 6 [[], []] (.one [7, 8, 9] 11 [[9], [], []] (.fin [12])))) hQe fun K E hK hE => ?_) | ((with_reducible refine W_cond (fun h => ?_) (fun h => ?_)) <;> (try (exfalso; first | assumption | omega))) | ((first | (with_reducible first | refine G_region fun K E hK hE => ?_ | refine call_ret can20 (w4 _) ?_ | refine call_ret can18 (Rdecl_S _ (by assumption) _) ?_ | refine call_ret can19 (RScope_S _ _ _ (by assumption) (by assumption) (by assumption) (by assumption)) ?_ | refine W_if ?_ | refine W_ifS ?_ | refine P_heads fun Kh hKh => ?_ | refine P_fin fun Kh hKh => ?_ | refine P_each fun Kb hKb => ?_ | refine T_heads fun Kh hKh => ?_ | refine T_fin fun Kh hKh => ?_ | refine T_two fun Kh hKh => ?_ | refine T_both (fun Kb hKb => ?_) (fun Kb hKb => ?_) | refine W_and ?_) | ((with_reducible refine W_fresh (fun b hb => ?_)); (repeat (obtain ⟨_, hb⟩ := hb)))) <;> (try simp (disch := first | assumption | omega) only [go_sem, seval, hlr, *]))))
        all_goals (first | refine W_ret res8 hQ ?_ | refine W_norm res8 hQ ?_ | refine G_pan hQ ?_)
        all_goals exact ⟨_, t, Wk.refl _, HF.out, rfl, rfl⟩
      | some l =>
        rw [hst] at hZ w4
        simp only at hZ
        subst hZ
        simp only [stagesV] at w4
        (repeat' (first | refine Ctl ?_ | ((with_reducible refine Kof.use hK ?_); clear hK hE K E) | ((with_reducible refine Eof.use hE ?_); (try clear hK hE K E)) | ((with_reducible refine Kof.use hKh ?_); clear hKh Kh) | ((with_reducible refine Kof.use hKb (P_next ?_)); clear hKb Kb) | (with_reducible refine G_planT 7 (.two [0, 1, 2, 3, 4, 5] 6 [[]] (.one [7, 8, 9] 10 [[7, 8, 9], []] (.one [] 11 [[], [9], []] (.fin [12]))) 10 [[0, 1, 2, 3, 4, 5]] (.one [] 6 [[], []] (.one [7, 8, 9] 11 [[9], [], []] (.fin [12])))) hQe fun K E hK hE => ?_) | ((with_reducible refine W_cond (fun h => ?_) (fun h => ?_)) <;> (try (exfalso; first | assumption | omega))) | ((first | (with_reducible first | refine G_region fun K E hK hE => ?_ | refine call_ret can20 (w4 _) ?_ | refine call_ret can18 (Rdecl_S _ (by assumption) _) ?_ | refine call_ret can19 (RScope_S _ _ _ (by assumption) (by assumption) (by assumption) (by assumption)) ?_ | refine W_if ?_ | refine W_ifS ?_ | refine P_heads fun Kh hKh => ?_ | refine P_fin fun Kh hKh => ?_ | refine P_each fun Kb hKb => ?_ | refine T_heads fun Kh hKh => ?_ | refine T_fin fun Kh hKh => ?_ | refine T_two fun Kh hKh => ?_ | refine T_both (fun Kb hKb => ?_) (fun Kb hKb => ?_) | refine W_and ?_) | ((with_reducible refine W_fresh (fun b hb => ?_)); (repeat (obtain ⟨_, hb⟩ := hb)))) <;> (try simp (disch := first | assumption | omega) only [go_sem, seval, hlr, *]))))
        all_goals (first | refine W_ret res8 hQ ?_ | refine W_norm res8 hQ ?_ | refine G_pan hQ ?_)
        all_goals exact ⟨_, t, Wk.refl _, HF.out, rfl, rfl⟩
  · have hs : soundP x = (-1, readE x, []) := by unfold soundP; rw [if_pos hr]
    rw [hs]
    clear hs
    generalize readE x = e at *
    have hef : (e = 0) = False := eq_false hr
    simp only [pgC] at w1 ⊢
    refine G_enter Tryz.func8 rfl Tryz.ntmps8 rfl fun Q hQ hQe => ?_
    (repeat' (first | refine Ctl ?_ | ((with_reducible refine Kof.use hK ?_); clear hK hE K E) | ((with_reducible refine Eof.use hE ?_); (try clear hK hE K E)) | ((with_reducible refine Kof.use hKh ?_); clear hKh Kh) | ((with_reducible refine Kof.use hKb (P_next ?_)); clear hKb Kb) | (with_reducible refine G_planT 7 (.two [0, 1, 2, 3, 4, 5] 6 [[]] (.one [7, 8, 9] 10 [[7, 8, 9], []] (.one [] 11 [[], [9], []] (.fin [12]))) 10 [[0, 1, 2, 3, 4, 5]] (.one [] 6 [[], []] (.one [7, 8, 9] 11 [[9], [], []] (.fin [12])))) hQe fun K E hK hE => ?_) | ((with_reducible refine W_cond (fun h => ?_) (fun h => ?_)) <;> (try (exfalso; first | assumption | omega))) | ((first | (with_reducible first | refine G_region fun K E hK hE => ?_ | refine call_ret can18 (w1 _) ?_ | refine call_ret can18 (Rdecl_S _ (by assumption) _) ?_ | refine call_ret can19 (RScope_S _ _ _ (by assumption) (by assumption) (by assumption) (by assumption)) ?_ | refine W_if ?_ | refine W_ifS ?_ | refine P_heads fun Kh hKh => ?_ | refine P_fin fun Kh hKh => ?_ | refine P_each fun Kb hKb => ?_ | refine T_heads fun Kh hKh => ?_ | refine T_fin fun Kh hKh => ?_ | refine T_two fun Kh hKh => ?_ | refine T_both (fun Kb hKb => ?_) (fun Kb hKb => ?_) | refine W_and ?_) | ((with_reducible refine W_fresh (fun b hb => ?_)); (repeat (obtain ⟨_, hb⟩ := hb)))) <;> (try simp (disch := first | assumption | omega) only [go_sem, seval, *]))))
    all_goals (first | refine W_ret res8 hQ ?_ | refine W_norm res8 hQ ?_ | refine G_pan hQ ?_)
    all_goals (refine ⟨_, _, Wk.of_eq ?_, ?_, rfl, rfl⟩)
    all_goals first | rfl | (exact z_fg)
set_option maxHeartbeats 4000000 in
theorem RStrata12_S (x : Pgm) (hx : PgmOk x) (t : St) : SRet Tryz.prog 10 [.agg (pgC x)] t (.tup [.lst (iL (soundP x).2.2) .no, .int .i64 (soundP x).2.1]) t := by
  have w1 := fun s => RCheck12_S x hx s
  by_cases he : (soundP x).2.1 = 0
  · obtain ⟨l, hs, hr, hb, hst⟩ := sound_ok he
    obtain ⟨hdl, hrl, hbd⟩ := pgm_bd (read_pgm hr)
    have w2 := fun s => Rstages_S s x (fun r hr => sound_rel hb hr) hdl hrl (fun r hr => by have := (hbd r hr).2.1; omega)
    rw [hst] at w2
    rw [hs] at w1 ⊢
    simp only [stagesV, pgC] at w1 w2 ⊢
    clear hst hs hr hb hbd he
    refine G_enter Tryz.func10 rfl Tryz.ntmps10 rfl fun Q hQ hQe => ?_
    (repeat' (first | refine Ctl ?_ | ((with_reducible refine Kof.use hK ?_); clear hK hE K E) | ((with_reducible refine Eof.use hE ?_); (try clear hK hE K E)) | ((with_reducible refine W_cond (fun h => ?_) (fun h => ?_)) <;> (try (exfalso; first | assumption | omega))) | ((first | (with_reducible first | refine G_region fun K E hK hE => ?_ | refine call_ret can8 (w1 _) ?_ | refine call_ret can20 (w2 _) ?_ | refine call_ret can8 (RCheck12_S _ (by assumption) _) ?_ | refine W_if ?_ | refine W_ifS ?_ | refine W_and ?_) | ((with_reducible refine W_fresh (fun b hb => ?_)); (repeat (obtain ⟨_, hb⟩ := hb)))) <;> (try simp (disch := first | assumption | omega) only [go_sem, seval, *]))))
    all_goals (first | refine W_ret res10 hQ ?_ | refine W_norm res10 hQ ?_ | refine G_pan hQ ?_)
    all_goals (refine ⟨_, _, Wk.of_eq ?_, ?_, rfl, rfl⟩)
    all_goals first | rfl | (exact z_fg)
  · have hs := sound_bad he
    rw [hs]
    generalize soundP x = Z at *
    obtain ⟨z1, z2, z3⟩ := Z
    simp only at he hs w1 ⊢
    have hef : (z2 = 0) = False := eq_false he
    simp only [pgC] at w1 ⊢
    refine G_enter Tryz.func10 rfl Tryz.ntmps10 rfl fun Q hQ hQe => ?_
    (repeat' (first | refine Ctl ?_ | ((with_reducible refine Kof.use hK ?_); clear hK hE K E) | ((with_reducible refine Eof.use hE ?_); (try clear hK hE K E)) | ((with_reducible refine W_cond (fun h => ?_) (fun h => ?_)) <;> (try (exfalso; first | assumption | omega))) | ((first | (with_reducible first | refine G_region fun K E hK hE => ?_ | refine call_ret can8 (w1 _) ?_ | refine call_ret can8 (RCheck12_S _ (by assumption) _) ?_ | refine W_if ?_ | refine W_ifS ?_ | refine W_and ?_) | ((with_reducible refine W_fresh (fun b hb => ?_)); (repeat (obtain ⟨_, hb⟩ := hb)))) <;> (try simp (disch := first | assumption | omega) only [go_sem, seval, *]))))
    all_goals (first | refine W_ret res10 hQ ?_ | refine W_norm res10 hQ ?_ | refine G_pan hQ ?_)
    all_goals exact ⟨_, t, Wk.tup2, z_fg, rfl, rfl⟩
theorem sound_len2 (x : Pgm) : (soundP x).2.2.length ≤ x.decls.length := by
  by_cases he : (soundP x).2.1 = 0
  · obtain ⟨l, hs, _, _, hst⟩ := sound_ok he
    rw [hs]
    exact Nat.le_of_eq (stg_least hst).1
  · rw [sound_bad he]; exact Nat.zero_le _
/-- What a rule's variables are. -/
noncomputable def varsP (x : Pgm) (k : Int) : Scp × Int :=
  if (soundP x).2.1 ≠ 0 then (⟨[], []⟩, (soundP x).2.1)
  else if k < 0 then (⟨[], []⟩, 1)
  else match x.rules[k.toNat]? with
    | none => (⟨[], []⟩, 1)
    | some r => match scopeS x r with | .ok Y => (Y, 0) | .error _ => (⟨[], []⟩, 0)
def varsV (q : Scp × Int) : VV := .tup [.lst (strs q.1.vs) .no, .lst (strs q.1.ds) .no, .int .i64 q.2]
theorem wk_vars {o1 o2 : Own} {q : Scp × Int} : Wk (.tup [.lst (strs q.1.vs) o1, .lst (strs q.1.ds) o2, .int .i64 q.2]) (varsV q) := Wk.tupL (.lst _ _ (.lst _ _ (.same _ .nil)))
theorem atomsS_wf {p : Pgm} : ∀ (l : List Atm) {X Y : Scp}, atomsS p X l = .ok Y → WfS X → WfS Y
  | [], X, Y, h, hW => by simp only [atomsS] at h; injection h with h; subst h; exact hW
  | a :: l, X, Y, h, hW => by
    simp only [atomsS] at h
    cases h1 : atomS p X a with
    | error e => rw [h1] at h; cases h
    | ok Z =>
      rw [h1, eb_ok] at h
      exact atomsS_wf l h (atomS_wf h1 hW).1
theorem vars_len {x : Pgm} {k : Int} : (varsP x k).1.vs.length ≤ 100 ∧ (varsP x k).1.ds.length ≤ 100 := by
  unfold varsP
  split
  · simp
  · rename_i he
    split
    · simp
    · split
      · simp
      · rename_i r hr
        obtain ⟨l, hs, hr0, hb, hst⟩ := sound_ok (show (soundP x).2.1 = 0 by simpa using he)
        obtain ⟨Y, hY⟩ := badR_all _ _ hb r (List.mem_of_getElem? hr)
        rw [hY]
        simp only
        unfold scopeS at hY
        cases h1 : atomS x ⟨[], []⟩ r.head with
        | error e => rw [h1] at hY; cases hY
        | ok X =>
          rw [h1, eb_ok] at hY
          cases h2 : atomsS x X r.body with
          | error e => rw [h2] at hY; cases hY
          | ok Z =>
            rw [h2, eb_ok] at hY
            have hW := atomsS_wf r.body h2 (atomS_wf h1 (show WfS ⟨[], []⟩ from rfl)).1
            split at hY
            · cases hY
            · split at hY
              · cases hY
              · injection hY with hY
                subst hY
                have : Z.ds.length = Z.vs.length := hW
                omega
set_option maxHeartbeats 4000000 in
theorem RVars12_S (x : Pgm) (k : Int) (hx : PgmOk x) (t : St) : SRet Tryz.prog 12 [.agg (pgC x), .int .i64 k] t (varsV (varsP x k)) t := by
  have w1 := fun s => RCheck12_S x hx s
  have hlr : (x.rules.map rulC).length = x.rules.length := by simp
  have hrl := hx.2.2.1
  by_cases he : (soundP x).2.1 = 0
  · obtain ⟨l, hs, hr, hb, hst⟩ := sound_ok he
    obtain ⟨hdl, hrl, hbd⟩ := pgm_bd (read_pgm hr)
    rw [hs] at w1
    simp only at w1
    by_cases hk0 : k < 0
    · have hv : varsP x k = (⟨[], []⟩, 1) := by unfold varsP; rw [if_neg (by simp [he]), if_pos hk0]
      rw [hv]
      simp only [pgC] at w1 ⊢
      clear hst hs hr hb hbd he hv
      refine G_enter Tryz.func12 rfl Tryz.ntmps12 rfl fun Q hQ hQe => ?_
      (repeat' (first | refine Ctl ?_ | ((with_reducible refine Kof.use hK ?_); clear hK hE K E) | ((with_reducible refine Eof.use hE ?_); (try clear hK hE K E)) | ((with_reducible refine Kof.use hKh ?_); clear hKh Kh) | ((with_reducible refine Kof.use hKb (P_next ?_)); clear hKb Kb) | (with_reducible first | refine G_planT 6 (.two [0, 1, 2, 3, 4, 5] 6 [[]] (.one [7, 8, 9] 10 [[7, 8, 9], []] (.one [] 11 [[], [9], []] (.fin [12]))) 10 [[0, 1, 2, 3, 4, 5]] (.one [] 6 [[], []] (.one [7, 8, 9] 11 [[9], [], []] (.fin [12])))) hQe fun K E hK hE => ?_ | refine G_plan 7 [] [0, 1, 2, 3, 4, 5, 6] hQe fun K E hK hE => ?_) | ((with_reducible refine W_cond (fun h => ?_) (fun h => ?_)) <;> (try (exfalso; first | assumption | omega))) | ((first | (with_reducible first | refine G_region fun K E hK hE => ?_ | refine call_ret can8 (w1 _) ?_ | refine call_ret can19 (RScope_S _ _ _ (by assumption) (by assumption) (by assumption) (by assumption)) ?_ | refine call_ret can8 (RCheck12_S _ (by assumption) _) ?_ | refine W_if ?_ | refine W_ifS ?_ | refine P_heads fun Kh hKh => ?_ | refine P_fin fun Kh hKh => ?_ | refine P_each fun Kb hKb => ?_ | refine T_heads fun Kh hKh => ?_ | refine T_fin fun Kh hKh => ?_ | refine T_two fun Kh hKh => ?_ | refine T_both (fun Kb hKb => ?_) (fun Kb hKb => ?_) | refine W_and ?_) | ((with_reducible refine W_fresh (fun b hb => ?_)); (repeat (obtain ⟨_, hb⟩ := hb))) | ((with_reducible refine W_gd (fun h => ?_) (fun h => ?_)) <;> (try (exfalso; first | assumption | omega)))) <;> (try simp (disch := first | assumption | omega) only [go_sem, seval, hlr, *]))))
      all_goals (first | refine W_ret res12 hQ ?_ | refine W_norm res12 hQ ?_ | refine G_pan hQ ?_)
      all_goals exact ⟨_, t, wk_vars (q := (⟨[], []⟩, 1)), z_fg, rfl, rfl⟩
    · obtain ⟨n, rfl⟩ : ∃ n : Nat, k = n := ⟨k.toNat, by omega⟩
      by_cases hkn : n < x.rules.length
      · obtain ⟨r, hrj⟩ := uget hkn
        have hsx := rulC_at hrj
        obtain ⟨Y, hY⟩ := badR_all _ _ hb r (List.mem_of_getElem? hrj)
        have hbr := hbd r (List.mem_of_getElem? hrj)
        have w2 := fun s => RScope_S s x r hx.1 hx.2.1 (by have := hbr.2.1; omega) (fun a ha => by rcases ha with rfl | ha; exact Nat.le_trans hbr.1 (by omega); exact Nat.le_trans (hbr.2.2 a ha) (by omega))
        rw [hY] at w2
        have hv : varsP x n = (Y, 0) := by unfold varsP; rw [if_neg (by simp [he]), if_neg hk0, Int.toNat_natCast, hrj]; simp only [hY]
        rw [hv]
        simp only [pgC, scopeV, rulC] at w1 w2 ⊢
        clear hst hs hr hb hbd he hv hrj hY hbr
        have hkI : ¬ ((x.rules.length : Int) ≤ (n : Int)) := by omega
        refine G_enter Tryz.func12 rfl Tryz.ntmps12 rfl fun Q hQ hQe => ?_
        (repeat' (first | refine Ctl ?_ | ((with_reducible refine Kof.use hK ?_); clear hK hE K E) | ((with_reducible refine Eof.use hE ?_); (try clear hK hE K E)) | ((with_reducible refine Kof.use hKh ?_); clear hKh Kh) | ((with_reducible refine Kof.use hKb (P_next ?_)); clear hKb Kb) | (with_reducible first | refine G_planT 6 (.two [0, 1, 2, 3, 4, 5] 6 [[]] (.one [7, 8, 9] 10 [[7, 8, 9], []] (.one [] 11 [[], [9], []] (.fin [12]))) 10 [[0, 1, 2, 3, 4, 5]] (.one [] 6 [[], []] (.one [7, 8, 9] 11 [[9], [], []] (.fin [12])))) hQe fun K E hK hE => ?_ | refine G_plan 7 [] [0, 1, 2, 3, 4, 5, 6] hQe fun K E hK hE => ?_) | ((with_reducible refine W_cond (fun h => ?_) (fun h => ?_)) <;> (try (exfalso; first | assumption | omega))) | ((first | (with_reducible first | refine G_region fun K E hK hE => ?_ | refine call_ret can8 (w1 _) ?_ | refine call_ret can19 (w2 _) ?_ | refine call_ret can19 (RScope_S _ _ _ (by assumption) (by assumption) (by assumption) (by assumption)) ?_ | refine call_ret can8 (RCheck12_S _ (by assumption) _) ?_ | refine W_if ?_ | refine W_ifS ?_ | refine P_heads fun Kh hKh => ?_ | refine P_fin fun Kh hKh => ?_ | refine P_each fun Kb hKb => ?_ | refine T_heads fun Kh hKh => ?_ | refine T_fin fun Kh hKh => ?_ | refine T_two fun Kh hKh => ?_ | refine T_both (fun Kb hKb => ?_) (fun Kb hKb => ?_) | refine W_and ?_) | ((with_reducible refine W_fresh (fun b hb => ?_)); (repeat (obtain ⟨_, hb⟩ := hb))) | ((with_reducible refine W_gd (fun h => ?_) (fun h => ?_)) <;> (try (exfalso; first | assumption | omega)))) <;> (try simp (disch := first | assumption | omega) only [go_sem, seval, hlr, hsx, rulC, *]))))
        all_goals (first | refine W_ret res12 hQ ?_ | refine W_norm res12 hQ ?_ | refine G_pan hQ ?_)
        all_goals exact ⟨_, t, wk_vars (q := (Y, 0)), z_fg, rfl, rfl⟩
      · have hv : varsP x n = (⟨[], []⟩, 1) := by unfold varsP; rw [if_neg (by simp [he]), if_neg hk0, Int.toNat_natCast, List.getElem?_eq_none (by omega)]
        rw [hv]
        simp only [pgC] at w1 ⊢
        clear hst hs hr hb hbd he hv
        have hkI : ((x.rules.length : Int) ≤ (n : Int)) := by omega
        refine G_enter Tryz.func12 rfl Tryz.ntmps12 rfl fun Q hQ hQe => ?_
        (repeat' (first | refine Ctl ?_ | ((with_reducible refine Kof.use hK ?_); clear hK hE K E) | ((with_reducible refine Eof.use hE ?_); (try clear hK hE K E)) | ((with_reducible refine Kof.use hKh ?_); clear hKh Kh) | ((with_reducible refine Kof.use hKb (P_next ?_)); clear hKb Kb) | (with_reducible first | refine G_planT 6 (.two [0, 1, 2, 3, 4, 5] 6 [[]] (.one [7, 8, 9] 10 [[7, 8, 9], []] (.one [] 11 [[], [9], []] (.fin [12]))) 10 [[0, 1, 2, 3, 4, 5]] (.one [] 6 [[], []] (.one [7, 8, 9] 11 [[9], [], []] (.fin [12])))) hQe fun K E hK hE => ?_ | refine G_plan 7 [] [0, 1, 2, 3, 4, 5, 6] hQe fun K E hK hE => ?_) | ((with_reducible refine W_cond (fun h => ?_) (fun h => ?_)) <;> (try (exfalso; first | assumption | omega))) | ((first | (with_reducible first | refine G_region fun K E hK hE => ?_ | refine call_ret can8 (w1 _) ?_ | refine call_ret can19 (RScope_S _ _ _ (by assumption) (by assumption) (by assumption) (by assumption)) ?_ | refine call_ret can8 (RCheck12_S _ (by assumption) _) ?_ | refine W_if ?_ | refine W_ifS ?_ | refine P_heads fun Kh hKh => ?_ | refine P_fin fun Kh hKh => ?_ | refine P_each fun Kb hKb => ?_ | refine T_heads fun Kh hKh => ?_ | refine T_fin fun Kh hKh => ?_ | refine T_two fun Kh hKh => ?_ | refine T_both (fun Kb hKb => ?_) (fun Kb hKb => ?_) | refine W_and ?_) | ((with_reducible refine W_fresh (fun b hb => ?_)); (repeat (obtain ⟨_, hb⟩ := hb))) | ((with_reducible refine W_gd (fun h => ?_) (fun h => ?_)) <;> (try (exfalso; first | assumption | omega)))) <;> (try simp (disch := first | assumption | omega) only [go_sem, seval, hlr, *]))))
        all_goals (first | refine W_ret res12 hQ ?_ | refine W_norm res12 hQ ?_ | refine G_pan hQ ?_)
        all_goals exact ⟨_, t, wk_vars (q := (⟨[], []⟩, 1)), z_fg, rfl, rfl⟩
  · have hv : varsP x k = (⟨[], []⟩, (soundP x).2.1) := by unfold varsP; rw [if_pos he]
    rw [hv]
    clear hv
    generalize soundP x = Z at *
    obtain ⟨z1, z2, z3⟩ := Z
    simp only at he w1 ⊢
    have hef : (z2 = 0) = False := eq_false he
    simp only [pgC] at w1 ⊢
    refine G_enter Tryz.func12 rfl Tryz.ntmps12 rfl fun Q hQ hQe => ?_
    (repeat' (first | refine Ctl ?_ | ((with_reducible refine Kof.use hK ?_); clear hK hE K E) | ((with_reducible refine Eof.use hE ?_); (try clear hK hE K E)) | ((with_reducible refine Kof.use hKh ?_); clear hKh Kh) | ((with_reducible refine Kof.use hKb (P_next ?_)); clear hKb Kb) | (with_reducible first | refine G_planT 6 (.two [0, 1, 2, 3, 4, 5] 6 [[]] (.one [7, 8, 9] 10 [[7, 8, 9], []] (.one [] 11 [[], [9], []] (.fin [12]))) 10 [[0, 1, 2, 3, 4, 5]] (.one [] 6 [[], []] (.one [7, 8, 9] 11 [[9], [], []] (.fin [12])))) hQe fun K E hK hE => ?_ | refine G_plan 7 [] [0, 1, 2, 3, 4, 5, 6] hQe fun K E hK hE => ?_) | ((with_reducible refine W_cond (fun h => ?_) (fun h => ?_)) <;> (try (exfalso; first | assumption | omega))) | ((first | (with_reducible first | refine G_region fun K E hK hE => ?_ | refine call_ret can8 (w1 _) ?_ | refine call_ret can19 (RScope_S _ _ _ (by assumption) (by assumption) (by assumption) (by assumption)) ?_ | refine call_ret can8 (RCheck12_S _ (by assumption) _) ?_ | refine W_if ?_ | refine W_ifS ?_ | refine P_heads fun Kh hKh => ?_ | refine P_fin fun Kh hKh => ?_ | refine P_each fun Kb hKb => ?_ | refine T_heads fun Kh hKh => ?_ | refine T_fin fun Kh hKh => ?_ | refine T_two fun Kh hKh => ?_ | refine T_both (fun Kb hKb => ?_) (fun Kb hKb => ?_) | refine W_and ?_) | ((with_reducible refine W_fresh (fun b hb => ?_)); (repeat (obtain ⟨_, hb⟩ := hb))) | ((with_reducible refine W_gd (fun h => ?_) (fun h => ?_)) <;> (try (exfalso; first | assumption | omega)))) <;> (try simp (disch := first | assumption | omega) only [go_sem, seval, hlr, *]))))
    all_goals (first | refine W_ret res12 hQ ?_ | refine W_norm res12 hQ ?_ | refine G_pan hQ ?_)
    all_goals exact ⟨_, t, wk_vars (q := (⟨[], []⟩, z2)), z_fg, rfl, rfl⟩
end Go.Proofs.YtdibndmkeipgbaaGreatDoor
set_option maxRecDepth 100000
namespace Go.Proofs.YtdibndmkeipgbaaGreatDoor
open Go.RowKit

theorem Sscope_v (t : St) (p b1 b2 : Nat) (x : Pgm) (r : Rul) (hp : PrAt t p b1 b2 x) (hb : r.head.ts.length ≤ 8 ∧ r.body.length ≤ 8 ∧ ∀ a, a ∈ r.body → a.ts.length ≤ 8) (Y : Scp) (h : scopeS x r = .ok Y) :
    SCalls Tryz.prog 21 [.ptr p 0, .agg (rulC r)] t fun w u => ∃ q : Nat × Nat × St, w = .ret (.tup [.ptr q.1 0, .int .i64 0]) ∧ u = q.2.2 ∧ Fg q.2.2 t ∧ q.2.2 q.1 = .pk 68 [.lst (strs Y.vs) .no, .lst (strs Y.ds) .no, .mp q.2.1] rsSc := by
  have := Sscope_S t p b1 b2 x r hp (by omega) (by omega) (fun a ha => Nat.le_trans (hb.2.2 a ha) (by omega))
  rw [h] at this
  exact this.mono fun w u ⟨xb, bm, h1, h2, h3⟩ => ⟨(xb, bm, u), h1, rfl, h2, h3⟩
set_option maxHeartbeats 4000000 in
theorem SVars_S (x : Pgm) (k : Int) (hx : PgmOk x) (t : St) : SRet Tryz.prog 11 [.agg (pgC x), .int .i64 k] t (varsV (varsP x k)) t := by
  have w1 := fun s => SallP_S x hx s
  have hlr : (x.rules.map rulC).length = x.rules.length := by simp
  have hrl := hx.2.2.1
  by_cases he : (soundP x).2.1 = 0
  · obtain ⟨l, hs, hr, hb, hst⟩ := sound_ok he
    obtain ⟨hdl, hrl, hbd⟩ := pgm_bd (read_pgm hr)
    rw [hs] at w1
    have w2 : ∀ s, SCalls Tryz.prog 17 [.agg (pgC x)] s fun w u => ∃ q : St × Nat × Nat × Nat, w = .ret (.tup [.ptr q.2.1 0, .lst (intsL (List.map (fun n : Nat => (n : Int)) l)) .no, .int .i64 (-1), .int .i64 0]) ∧ u = q.1 ∧ Fg q.1 s ∧ PrAt q.1 q.2.1 q.2.2.1 q.2.2.2 x := fun s =>
      (w1 s).mono fun w u ⟨P, h1, h2, h3⟩ => by
        obtain ⟨p, b1, b2, rfl, h4⟩ := h3 rfl
        exact ⟨(u, p, b1, b2), h1, rfl, h2, h4⟩
    clear w1
    by_cases hk0 : k < 0
    · have hv : varsP x k = (⟨[], []⟩, 1) := by unfold varsP; rw [if_neg (by simp [he]), if_pos hk0]
      rw [hv]
      simp only [pgC] at w2 ⊢
      clear hst hs hr hb hbd he hv
      refine G_enter Tryz.func11 rfl Tryz.ntmps11 rfl fun Q hQ hQe => ?_
      (repeat' (first | refine Ctl ?_ | ((with_reducible refine Kof.use hK ?_); clear hK hE K E) | ((with_reducible refine Eof.use hE ?_); (try clear hK hE K E)) | ((with_reducible refine Kof.use hKh ?_); clear hKh Kh) | ((with_reducible refine Kof.use hKb (P_next ?_)); clear hKb Kb) | (with_reducible refine G_plan 7 [] [0, 1, 2, 3, 4, 5, 6, 7, 8, 9, 10] hQe fun K E hK hE => ?_) | ((with_reducible refine W_cond (fun h => ?_) (fun h => ?_)) <;> (try (exfalso; first | assumption | omega))) | ((first | (with_reducible first | refine G_region fun K E hK hE => ?_ | refine W_if ?_ | refine W_ifS ?_ | refine P_heads fun Kh hKh => ?_ | refine P_fin fun Kh hKh => ?_ | refine P_each fun Kb hKb => ?_ | refine W_and ?_) | ((with_reducible refine call_ex can17 (w2 _) (fun a h => ?_)); (obtain ⟨hfa, hpa⟩ := h; try (have hab := hfa.keep (b := b) (by rw [St.set_same]; simp); rw [St.set_same] at hab))) | ((with_reducible refine W_fresh (fun b hb => ?_)); (repeat (obtain ⟨_, hb⟩ := hb))) | ((with_reducible refine W_gd (fun h => ?_) (fun h => ?_)) <;> (try (exfalso; first | assumption | omega)))) <;> (try simp (disch := first | assumption | omega) only [go_sem, seval, hlr, *]))))
      all_goals (first | refine W_ret res11 hQ ?_ | refine W_norm res11 hQ ?_ | refine G_pan hQ ?_)
      all_goals exact ⟨_, t, wk_vars (q := (⟨[], []⟩, 1)), hfa.trans (Fg.of_set _ hb), rfl, rfl⟩
    · obtain ⟨n, rfl⟩ : ∃ n : Nat, k = n := ⟨k.toNat, by omega⟩
      by_cases hkn : n < x.rules.length
      · obtain ⟨r, hrj⟩ := uget hkn
        have hsx := rulC_at hrj
        obtain ⟨Y, hY⟩ := badR_all _ _ hb r (List.mem_of_getElem? hrj)
        have hbr := hbd r (List.mem_of_getElem? hrj)
        have w3 := fun s p b1 b2 (hp : PrAt s p b1 b2 x) => Sscope_v s p b1 b2 x r hp hbr Y hY
        have hv : varsP x n = (Y, 0) := by unfold varsP; rw [if_neg (by simp [he]), if_neg hk0, Int.toNat_natCast, hrj]; simp only [hY]
        rw [hv]
        simp only [pgC, rulC] at w2 w3 ⊢
        clear hst hs hr hb hbd he hv hrj hY hbr
        have hkI : ¬ ((x.rules.length : Int) ≤ (n : Int)) := by omega
        refine G_enter Tryz.func11 rfl Tryz.ntmps11 rfl fun Q hQ hQe => ?_
        (repeat' (first | refine Ctl ?_ | ((with_reducible refine Kof.use hK ?_); clear hK hE K E) | ((with_reducible refine Eof.use hE ?_); (try clear hK hE K E)) | ((with_reducible refine Kof.use hKh ?_); clear hKh Kh) | ((with_reducible refine Kof.use hKb (P_next ?_)); clear hKb Kb) | (with_reducible refine G_plan 7 [] [0, 1, 2, 3, 4, 5, 6, 7, 8, 9, 10] hQe fun K E hK hE => ?_) | ((with_reducible refine W_cond (fun h => ?_) (fun h => ?_)) <;> (try (exfalso; first | assumption | omega))) | ((first | (with_reducible first | refine G_region fun K E hK hE => ?_ | refine W_if ?_ | refine W_ifS ?_ | refine P_heads fun Kh hKh => ?_ | refine P_fin fun Kh hKh => ?_ | refine P_each fun Kb hKb => ?_ | refine W_and ?_) | ((with_reducible refine call_ex can17 (w2 _) (fun a h => ?_)); (obtain ⟨hfa, hpa⟩ := h; try (have hab := hfa.keep (b := b) (by rw [St.set_same]; simp); rw [St.set_same] at hab))) | ((with_reducible refine call_ex can21 (w3 _ _ _ _ (by assumption)) (fun a h => ?_)); (obtain ⟨hfa, hpa⟩ := h; try (have hab := hfa.keep (b := b) (by rw [St.set_same]; simp); rw [St.set_same] at hab))) | ((with_reducible refine W_fresh (fun b hb => ?_)); (repeat (obtain ⟨_, hb⟩ := hb))) | ((with_reducible refine W_gd (fun h => ?_) (fun h => ?_)) <;> (try (exfalso; first | assumption | omega)))) <;> (try simp (disch := first | assumption | omega) only [go_sem, seval, hlr, hsx, rulC, *]))))
        all_goals (first | refine W_ret res11 hQ ?_ | refine W_norm res11 hQ ?_ | refine G_pan hQ ?_)
        all_goals exact ⟨_, t, wk_vars (q := (Y, 0)), Fg.trans hfa (Fg.trans (by assumption) (Fg.of_set _ hb)), rfl, rfl⟩
      · have hv : varsP x n = (⟨[], []⟩, 1) := by unfold varsP; rw [if_neg (by simp [he]), if_neg hk0, Int.toNat_natCast, List.getElem?_eq_none (by omega)]
        rw [hv]
        simp only [pgC] at w2 ⊢
        clear hst hs hr hb hbd he hv
        have hkI : ((x.rules.length : Int) ≤ (n : Int)) := by omega
        refine G_enter Tryz.func11 rfl Tryz.ntmps11 rfl fun Q hQ hQe => ?_
        (repeat' (first | refine Ctl ?_ | ((with_reducible refine Kof.use hK ?_); clear hK hE K E) | ((with_reducible refine Eof.use hE ?_); (try clear hK hE K E)) | ((with_reducible refine Kof.use hKh ?_); clear hKh Kh) | ((with_reducible refine Kof.use hKb (P_next ?_)); clear hKb Kb) | (with_reducible refine G_plan 7 [] [0, 1, 2, 3, 4, 5, 6, 7, 8, 9, 10] hQe fun K E hK hE => ?_) | ((with_reducible refine W_cond (fun h => ?_) (fun h => ?_)) <;> (try (exfalso; first | assumption | omega))) | ((first | (with_reducible first | refine G_region fun K E hK hE => ?_ | refine W_if ?_ | refine W_ifS ?_ | refine P_heads fun Kh hKh => ?_ | refine P_fin fun Kh hKh => ?_ | refine P_each fun Kb hKb => ?_ | refine W_and ?_) | ((with_reducible refine call_ex can17 (w2 _) (fun a h => ?_)); (obtain ⟨hfa, hpa⟩ := h; try (have hab := hfa.keep (b := b) (by rw [St.set_same]; simp); rw [St.set_same] at hab))) | ((with_reducible refine W_fresh (fun b hb => ?_)); (repeat (obtain ⟨_, hb⟩ := hb))) | ((with_reducible refine W_gd (fun h => ?_) (fun h => ?_)) <;> (try (exfalso; first | assumption | omega)))) <;> (try simp (disch := first | assumption | omega) only [go_sem, seval, hlr, *]))))
        all_goals (first | refine W_ret res11 hQ ?_ | refine W_norm res11 hQ ?_ | refine G_pan hQ ?_)
        all_goals exact ⟨_, t, wk_vars (q := (⟨[], []⟩, 1)), hfa.trans (Fg.of_set _ hb), rfl, rfl⟩
  · have hv : varsP x k = (⟨[], []⟩, (soundP x).2.1) := by unfold varsP; rw [if_pos he]
    rw [hv]
    have w2 := fun s => Sall_S x hx s
    clear hv w1
    generalize soundP x = Z at *
    obtain ⟨z1, z2, z3⟩ := Z
    simp only at he w2 ⊢
    have hef : (z2 = 0) = False := eq_false he
    simp only [pgC] at w2 ⊢
    refine G_enter Tryz.func11 rfl Tryz.ntmps11 rfl fun Q hQ hQe => ?_
    (repeat' (first | refine Ctl ?_ | ((with_reducible refine Kof.use hK ?_); clear hK hE K E) | ((with_reducible refine Eof.use hE ?_); (try clear hK hE K E)) | ((with_reducible refine Kof.use hKh ?_); clear hKh Kh) | ((with_reducible refine Kof.use hKb (P_next ?_)); clear hKb Kb) | (with_reducible refine G_plan 7 [] [0, 1, 2, 3, 4, 5, 6, 7, 8, 9, 10] hQe fun K E hK hE => ?_) | ((with_reducible refine W_cond (fun h => ?_) (fun h => ?_)) <;> (try (exfalso; first | assumption | omega))) | ((first | (with_reducible first | refine G_region fun K E hK hE => ?_ | refine W_if ?_ | refine W_ifS ?_ | refine P_heads fun Kh hKh => ?_ | refine P_fin fun Kh hKh => ?_ | refine P_each fun Kb hKb => ?_ | refine W_and ?_) | ((with_reducible refine call_ex can17 (w2 _) (fun a h => ?_))) | ((with_reducible refine W_fresh (fun b hb => ?_)); (repeat (obtain ⟨_, hb⟩ := hb))) | ((with_reducible refine W_gd (fun h => ?_) (fun h => ?_)) <;> (try (exfalso; first | assumption | omega)))) <;> (try simp (disch := first | assumption | omega) only [go_sem, seval, hlr, *]))))
    all_goals (first | refine W_ret res11 hQ ?_ | refine W_norm res11 hQ ?_ | refine G_pan hQ ?_)
    all_goals exact ⟨_, t, wk_vars (q := (⟨[], []⟩, z2)), z_fg, rfl, rfl⟩
theorem lsts_eq {a b : List (List UInt8)} (hl : a.length = b.length) (h : ∀ j, j < a.length → a[j]? = b[j]?) : a = b := by
  apply List.ext_getElem?
  intro i
  by_cases hi : i < a.length
  · exact h i hi
  · rw [List.getElem?_eq_none (by omega), List.getElem?_eq_none (by omega)]
set_option maxHeartbeats 4000000 in
theorem sameT_S (a b : List (List UInt8)) (o1 o2 : Own) (ha : a.length ≤ 140737488355328) (hb : b.length ≤ 140737488355328) (t : St) : SRet Tryz.prog 14 [.lst (strs a) o1, .lst (strs b) o2] t (.bool (decide (a = b))) t := by
  have la : (strs a).length = a.length := by simp [strs]
  have lb : (strs b).length = b.length := by simp [strs]
  by_cases hl : a.length = b.length
  · have hli : ((a.length : Int) = (b.length : Int)) = True := eq_true (by omega)
    refine G_enter Tryz.func14 rfl Tryz.ntmps14 rfl fun Q hQ hQe => ?_
    (repeat' (first | refine Ctl ?_ | ((with_reducible refine Kof.use hK ?_); clear hK hE K E) | ((with_reducible refine Eof.use hE ?_); (try clear hK hE K E)) | ((with_reducible refine Kof.use hKh ?_); clear hKh Kh) | ((with_reducible refine Kof.use hKb (P_next ?_)); clear hKb Kb) | (with_reducible refine G_plan 6 [] [0, 1, 2, 3, 4, 5, 6, 7, 8] hQe fun K E hK hE => ?_) | ((with_reducible refine W_cond (fun h => ?_) (fun h => ?_)) <;> (try (exfalso; first | assumption | omega))) | ((first | (with_reducible first | refine G_region fun K E hK hE => ?_ | refine W_if ?_ | refine W_ifS ?_ | refine P_heads fun Kh hKh => ?_ | refine P_fin fun Kh hKh => ?_ | refine P_each fun Kb hKb => ?_ | refine W_and ?_)) <;> (try simp (disch := first | assumption | omega) only [go_sem, seval, la, lb, hl, *]))))
    refine G_loop (fun m env s' => ∃ i : Nat, i ≤ a.length ∧ m + i = a.length ∧ s' = t ∧ Hid (∀ j : Nat, j < i → a[j]? = b[j]?) ∧ env 0 = .lst (strs a) o1 ∧ env 1 = .lst (strs b) o2 ∧ env 5 = .int .i64 i) a.length ?_ ?_
    · exact ⟨t, Fg.refl _, 0, by omega, by omega, rfl, Lib.hid (fun j hj => by omega), z_sl, z_sl, z_sl⟩
    · rintro m env s' ⟨i, hi, hm, rfl, HE, e0, e1, e5⟩
      by_cases hlt : i < a.length
      · obtain ⟨c, hc⟩ := uget hlt
        obtain ⟨d, hd⟩ := uget (l := b) (i := i) (by omega)
        have hsx := strs_at hc
        have hsy := strs_at hd
        have HC := Lib.hid hc
        have HD := Lib.hid hd
        clear hc hd
        by_cases hcd : c = d
        · have HCD := Lib.hid hcd
          have hcc : (c = d) = True := eq_true hcd
          (repeat' (first | refine Ctl ?_ | ((with_reducible refine Kof.use hK ?_); clear hK hE K E) | ((with_reducible refine Eof.use hE ?_); (try clear hK hE K E)) | ((with_reducible refine Kof.use hKh ?_); clear hKh Kh) | ((with_reducible refine Kof.use hKb (P_next ?_)); clear hKb Kb) | (with_reducible refine G_plan 6 [] [0, 1, 2, 3, 4, 5, 6, 7, 8] hQe fun K E hK hE => ?_) | ((with_reducible refine W_cond (fun h => ?_) (fun h => ?_)) <;> (try (exfalso; first | assumption | omega))) | ((first | (with_reducible first | refine G_region fun K E hK hE => ?_ | refine W_if ?_ | refine W_ifS ?_ | refine P_heads fun Kh hKh => ?_ | refine P_fin fun Kh hKh => ?_ | refine P_each fun Kb hKb => ?_ | refine W_and ?_)) <;> (try simp (disch := first | assumption | omega) only [go_sem, seval, la, lb, hl, hsx, hsy, *]))))
          refine ⟨s', Fg.refl _, m - 1, by omega, i + 1, by omega, by omega, rfl, Lib.hid (fun j hj => ?_), z_sl, z_sl, z_sl⟩
          by_cases hj2 : j = i
          · subst hj2; rw [HC.out, HD.out, HCD.out]
          · exact HE.out j (by omega)
        · have hcc : (c = d) = False := eq_false hcd
          (repeat' (first | refine Ctl ?_ | ((with_reducible refine Kof.use hK ?_); clear hK hE K E) | ((with_reducible refine Eof.use hE ?_); (try clear hK hE K E)) | ((with_reducible refine Kof.use hKh ?_); clear hKh Kh) | ((with_reducible refine Kof.use hKb (P_next ?_)); clear hKb Kb) | (with_reducible refine G_plan 6 [] [0, 1, 2, 3, 4, 5, 6, 7, 8] hQe fun K E hK hE => ?_) | ((with_reducible refine W_cond (fun h => ?_) (fun h => ?_)) <;> (try (exfalso; first | assumption | omega))) | ((first | (with_reducible first | refine G_region fun K E hK hE => ?_ | refine W_if ?_ | refine W_ifS ?_ | refine P_heads fun Kh hKh => ?_ | refine P_fin fun Kh hKh => ?_ | refine P_each fun Kb hKb => ?_ | refine W_and ?_)) <;> (try simp (disch := first | assumption | omega) only [go_sem, seval, la, lb, hl, hsx, hsy, *]))))
          all_goals (first | refine W_ret res14 hQ ?_ | refine W_norm res14 hQ ?_ | refine G_pan hQ ?_)
          all_goals (refine ⟨_, _, Wk.of_eq ?_, ?_, rfl, rfl⟩)
          · rw [decide_eq_false (fun h => hcd (by have := HC.out; rw [h, HD.out] at this; injection this with this; exact this.symm))]
          · (exact z_fg)
      · (repeat' (first | refine Ctl ?_ | ((with_reducible refine Kof.use hK ?_); clear hK hE K E) | ((with_reducible refine Eof.use hE ?_); (try clear hK hE K E)) | ((with_reducible refine Kof.use hKh ?_); clear hKh Kh) | ((with_reducible refine Kof.use hKb (P_next ?_)); clear hKb Kb) | (with_reducible refine G_plan 6 [] [0, 1, 2, 3, 4, 5, 6, 7, 8] hQe fun K E hK hE => ?_) | ((with_reducible refine W_cond (fun h => ?_) (fun h => ?_)) <;> (try (exfalso; first | assumption | omega))) | ((first | (with_reducible first | refine G_region fun K E hK hE => ?_ | refine W_if ?_ | refine W_ifS ?_ | refine P_heads fun Kh hKh => ?_ | refine P_fin fun Kh hKh => ?_ | refine P_each fun Kb hKb => ?_ | refine W_and ?_)) <;> (try simp (disch := first | assumption | omega) only [go_sem, seval, la, lb, hl, *]))))
        all_goals (first | refine W_ret res14 hQ ?_ | refine W_norm res14 hQ ?_ | refine G_pan hQ ?_)
        all_goals (refine ⟨_, _, Wk.of_eq ?_, ?_, rfl, rfl⟩)
        · rw [decide_eq_true (lsts_eq hl (fun j hj => HE.out j (by omega)))]
        · (exact z_fg)
  · have hli : ((a.length : Int) = (b.length : Int)) = False := eq_false (by omega)
    refine G_enter Tryz.func14 rfl Tryz.ntmps14 rfl fun Q hQ hQe => ?_
    (repeat' (first | refine Ctl ?_ | ((with_reducible refine Kof.use hK ?_); clear hK hE K E) | ((with_reducible refine Eof.use hE ?_); (try clear hK hE K E)) | ((with_reducible refine Kof.use hKh ?_); clear hKh Kh) | ((with_reducible refine Kof.use hKb (P_next ?_)); clear hKb Kb) | (with_reducible refine G_plan 6 [] [0, 1, 2, 3, 4, 5, 6, 7, 8] hQe fun K E hK hE => ?_) | ((with_reducible refine W_cond (fun h => ?_) (fun h => ?_)) <;> (try (exfalso; first | assumption | omega))) | ((first | (with_reducible first | refine G_region fun K E hK hE => ?_ | refine W_if ?_ | refine W_ifS ?_ | refine P_heads fun Kh hKh => ?_ | refine P_fin fun Kh hKh => ?_ | refine P_each fun Kb hKb => ?_ | refine W_and ?_)) <;> (try simp (disch := first | assumption | omega) only [go_sem, seval, la, lb, *]))))
    all_goals (first | refine W_ret res14 hQ ?_ | refine W_norm res14 hQ ?_ | refine G_pan hQ ?_)
    all_goals (refine ⟨_, _, Wk.of_eq ?_, ?_, rfl, rfl⟩)
    · rw [decide_eq_false (fun h => hl (by rw [h]))]
    · (exact z_fg)
set_option maxHeartbeats 4000000 in
theorem SoundStrata_S (x : Pgm) (k : Int) (hx : PgmOk x) (t : St) : SRet Tryz.prog 4 [.agg (pgC x), .int .i64 k] t (.bool true) t := by
  have w1 := fun s => UFew_S x hx s
  have w2 := fun s => Sstr_S x hx s
  have w3 := fun s => RStrata12_S x hx s
  have w4 := fun s => SVars_S x k hx s
  have w5 := fun s => RVars12_S x k hx s
  have hdl := hx.2.1
  have w6 := fun s => SameInts_S (List.map (fun n : Nat => (n : Int)) (soundP x).2.2) (List.map (fun n : Nat => (n : Int)) (soundP x).2.2) .no .no (by rw [List.length_map]; have := sound_len2 x; omega) (by rw [List.length_map]; have := sound_len2 x; omega) s
  have w7 := fun s => sameT_S (varsP x k).1.vs (varsP x k).1.vs .no .no (by have := vars_len (x := x) (k := k); omega) (by have := vars_len (x := x) (k := k); omega) s
  have w8 := fun s => sameT_S (varsP x k).1.ds (varsP x k).1.ds .no .no (by have := vars_len (x := x) (k := k); omega) (by have := vars_len (x := x) (k := k); omega) s
  rw [show iL (soundP x).2.2 = intsL (List.map (fun n : Nat => (n : Int)) (soundP x).2.2) from rfl] at w3
  simp only [decide_true, varsV] at w4 w5 w6 w7 w8
  generalize varsP x k = V at *
  generalize soundP x = Z at *
  simp only [pgC] at w1 w2 w3 w4 w5 ⊢
  refine G_enter Tryz.func4 rfl Tryz.ntmps4 rfl fun Q hQ hQe => ?_
  (repeat' (first | refine Ctl ?_ | ((with_reducible refine Kof.use hK ?_); clear hK hE K E) | ((with_reducible refine Eof.use hE ?_); (try clear hK hE K E)) | ((with_reducible refine W_cond (fun h => ?_) (fun h => ?_)) <;> (try (exfalso; first | assumption | omega))) | ((first | (with_reducible first | refine G_region fun K E hK hE => ?_ | refine call_ret can9 (w2 _) ?_ | refine call_ret can10 (w3 _) ?_ | refine call_ret can11 (w4 _) ?_ | refine call_ret can12 (w5 _) ?_ | refine call_ret can13 (w6 _) ?_ | refine call_ret can14 (w7 _) ?_ | refine call_ret can14 (w8 _) ?_ | refine call_ret can10 (RStrata12_S _ (by assumption) _) ?_ | refine call_ret can12 (RVars12_S _ _ (by assumption) _) ?_ | refine call_ret can11 (SVars_S _ _ (by assumption) _) ?_ | refine call_ret can14 (sameT_S _ _ _ _ (by assumption) (by assumption) _) ?_ | refine call_ret can9 (Sstr_S _ (by assumption) _) ?_ | refine call_ret can13 (SameInts_S _ _ _ _ (by assumption) (by assumption) _) ?_ | refine call_ret can6 (Sawake_S _) ?_ | refine W_if ?_ | refine W_ifS ?_ | refine W_and ?_) | ((with_reducible refine call_ex can5 (w1 _) (fun a h => ?_))) | ((with_reducible refine call_ex can5 (UFew_S _ (by assumption) _) (fun a h => ?_))) | ((with_reducible refine W_fresh (fun b hb => ?_)); (repeat (obtain ⟨_, hb⟩ := hb))) | ((with_reducible refine W_gd (fun h => ?_) (fun h => ?_)) <;> (try (exfalso; first | assumption | omega)))) <;> (try simp (disch := first | assumption | omega) only [go_sem, seval, *]))))
  all_goals (first | refine W_ret res4 hQ ?_ | refine W_norm res4 hQ ?_ | refine G_pan hQ ?_)
  all_goals (refine ⟨_, _, Wk.of_eq ?_, ?_, rfl, rfl⟩)
  all_goals first | rfl | (exact z_fg)
end Go.Proofs.YtdibndmkeipgbaaGreatDoor
