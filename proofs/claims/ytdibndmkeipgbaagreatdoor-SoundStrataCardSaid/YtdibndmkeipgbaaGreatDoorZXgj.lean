/- What is proved: What package osierref12's rises and stages hand back. Conditions: those that stand in the statements; What package osierref12's stages hands back. Conditions: those that stand in the statements. Conditions: those that stand in the statements. -/
import Derived.Test.YtdibndmkeipgbaaGreatDoorZXf
import Derived.Test.YtdibndmkeipgbaaGreatDoorZYbj
import Derived.Test.YtdibndmkeipgbaaGreatDoorZYr
set_option linter.unusedSimpArgs false
set_option linter.unusedVariables false
set_option maxRecDepth 100000
namespace Go.Proofs.YtdibndmkeipgbaaGreatDoor
open Go.RowKit

def RelOk (x : Pgm) : Prop := ∀ r, r ∈ x.rules → (ixR x r.head.rel < x.decls.length ∧ relZ x.decls r.head.rel = (ixR x r.head.rel : Int)) ∧ ∀ a, a ∈ r.body → ixR x a.rel < x.decls.length ∧ relZ x.decls a.rel = (ixR x a.rel : Int)
theorem risesL_app {E F : List Edg} {l : List Nat} : risesL (E ++ F) l = risesL F (risesL E l) := by unfold risesL; rw [List.foldl_append]
theorem rise1_le {m : Nat} {l : List Nat} {e : Edg} (hw : e.w ≤ 1) (h : ∀ i, gt l i ≤ m) (i : Nat) : gt (rise1 l e) i ≤ m + 1 := by
  unfold rise1
  by_cases hl : e.h < l.length
  · rw [gt_set hl]
    split
    · have := h e.h; have := h e.b; omega
    · have := h i; omega
  · rw [List.set_eq_of_length_le (by omega)]; have := h i; omega
theorem max_nat {v u : Nat} : vminmax true (.int .i64 (v : Int)) (.int .i64 (u : Int)) = some (.int .i64 ((max v u : Nat) : Int)) := by
  simp only [vminmax, if_true]
  congr 2
  by_cases h : v < u
  · rw [if_pos (by omega), Nat.max_eq_right (by omega)]
  · rw [if_neg (by omega), Nat.max_eq_left (by omega)]
set_option maxHeartbeats 8000000 in
theorem Rrises_S (T : St) (x : Pgm) (l : List Nat) (o : Own) (hR : RelOk x) (hc : x.decls.length ≤ 32) (hr : x.rules.length ≤ 64) (hb : ∀ r, r ∈ x.rules → r.body.length ≤ 10) (hl : l.length = x.decls.length) (hlt : ∀ i, gt l i ≤ 1000) :
    SRet Tryz.prog 30 [.agg (pgC x), .lst (iL l) o] T (.lst (iL (risesL (edgP x) l)) .no) T := by
  have w3 := fun n s => RRel_S x n (by omega) s
  have hil : (iL l).length = x.decls.length := by rw [iL_len]; exact hl
  have hlr : (x.rules.map rulC).length = x.rules.length := by simp
  have HB := Lib.hid hb
  have HR := Lib.hid hR
  have HLT := Lib.hid hlt
  clear hb hR hlt
  simp only [pgC] at w3 ⊢
  refine G_enter Tryz.func30 rfl Tryz.ntmps30 rfl fun Q hQ hQe => ?_
  (repeat' (first | refine Ctl ?_ | ((with_reducible refine Kof.use hK ?_); clear hK hE K E) | ((with_reducible refine Eof.use hE ?_); (try clear hK hE K E)) | ((with_reducible refine Kof.use hKh ?_); clear hKh Kh) | ((with_reducible refine Kof.use hKb (P_next ?_)); clear hKb Kb) | (with_reducible refine G_plan 9 [([0, 1, 2, 3, 4, 5, 6, 7], 8, [[]])] [9] hQe fun K E hK hE => ?_) | ((with_reducible refine W_cond (fun h => ?_) (fun h => ?_)) <;> (try (exfalso; first | assumption | omega))) | ((first | (with_reducible first | refine G_region fun K E hK hE => ?_ | refine call_ret can26 (RRel_S _ _ (by assumption) _) ?_ | refine W_if ?_ | refine W_ifS ?_ | refine P_heads fun Kh hKh => ?_ | refine P_fin fun Kh hKh => ?_ | refine P_each fun Kb hKb => ?_ | refine W_and ?_) | ((with_reducible refine W_fresh (fun b hb => ?_)); (repeat (obtain ⟨_, hb⟩ := hb)))) <;> (try simp (disch := first | assumption | omega) only [go_sem, seval, hil, *]))))
  rename_i bp hbp _ _
  obtain ⟨bo, hbo⟩ : ∃ z, z = b := ⟨_, rfl⟩
  subst hbo
  have hSp : (T.set bp (.obj 26 [.lst (x.doms.map dmC) .no, .lst (x.decls.map dclC) .no, .lst (x.rules.map rulC) .no])) bp = (.obj 26 [.lst (x.doms.map dmC) .no, .lst (x.decls.map dclC) .no, .lst (x.rules.map rulC) .no]) := St.set_same _ _ _
  have hSo : (T.set bp (.obj 26 [.lst (x.doms.map dmC) .no, .lst (x.decls.map dclC) .no, .lst (x.rules.map rulC) .no])) bo = .free := by rw [St.set_other _ _ (by assumption)]; exact hb
  have hF : Fg (T.set bp (.obj 26 [.lst (x.doms.map dmC) .no, .lst (x.decls.map dclC) .no, .lst (x.rules.map rulC) .no])) T := Fg.of_set _ hbp
  generalize T.set bp (.obj 26 [.lst (x.doms.map dmC) .no, .lst (x.decls.map dclC) .no, .lst (x.rules.map rulC) .no]) = S at *
  have HF := Lib.hid hF
  have hSpf : S bp ≠ .free := by rw [hSp]; simp
  clear hF hb hbp
  generalize hn : x.decls.length = n at *
  rw [nts_rep]
  refine G_loop (fun m env s' => ∃ (i : Nat) (L : List Nat), i ≤ n ∧ m + i = n ∧ L.length = n ∧ Hid (∀ j, j < i → gt L j = gt l j) ∧ s' = S.set bo (.obj 3 (nts L)) ∧ env 1 = .lst (iL l) o ∧ env 2 = .ptr bp 0 ∧ env 5 = .msl bo n ∧ env 6 = .int .i64 i) n ?_ ?_
  · exact ⟨_, Fg.refl _, 0, _, by omega, by omega, by simp, Lib.hid (fun j hj => by omega), rfl, z_sl, z_sl, z_sl, z_sl⟩
  rintro m env s' ⟨i, L, hi, hm, hLl, HL, rfl, e1, e2, e5, e6⟩
  by_cases hlt : i < n
  · have hli := iL_at (l := l) (i := i) (by omega)
    have hnl : (nts L).length = n := by rw [nts_len]; exact hLl
    (repeat' (first | refine Ctl ?_ | ((with_reducible refine Kof.use hK ?_); clear hK hE K E) | ((with_reducible refine Eof.use hE ?_); (try clear hK hE K E)) | ((with_reducible refine Kof.use hKh ?_); clear hKh Kh) | ((with_reducible refine Kof.use hKb (P_next ?_)); clear hKb Kb) | (with_reducible refine G_plan 9 [([0, 1, 2, 3, 4, 5, 6, 7], 8, [[]])] [9] hQe fun K E hK hE => ?_) | ((with_reducible refine W_cond (fun h => ?_) (fun h => ?_)) <;> (try (exfalso; first | assumption | omega))) | ((first | (with_reducible first | refine G_region fun K E hK hE => ?_ | refine call_ret can26 (RRel_S _ _ (by assumption) _) ?_ | refine W_if ?_ | refine W_ifS ?_ | refine P_heads fun Kh hKh => ?_ | refine P_fin fun Kh hKh => ?_ | refine P_each fun Kb hKb => ?_ | refine W_and ?_) | ((with_reducible refine W_fresh (fun b hb => ?_)); (repeat (obtain ⟨_, hb⟩ := hb)))) <;> (try simp (disch := first | assumption | omega) only [go_sem, seval, hil, hli, hnl, *]))))
    refine ⟨_, Fg.refl _, m - 1, by omega, i + 1, L.set i (gt l i), by omega, by omega, by rw [List.length_set]; exact hLl, Lib.hid (fun j hj => ?_), by rw [nts_put (by omega)], z_sl, z_sl, z_sl, z_sl⟩
    rw [gt_set (by omega)]
    split
    · rename_i e; rw [e]
    · exact HL.out j (by omega)
  · have hLe : L = l := lst_gt (by omega) (fun j hj => HL.out j (by omega))
    subst hLe
    clear HL
    (repeat' (first | refine Ctl ?_ | ((with_reducible refine Kof.use hK ?_); clear hK hE K E) | ((with_reducible refine Eof.use hE ?_); (try clear hK hE K E)) | ((with_reducible refine Kof.use hKh ?_); clear hKh Kh) | ((with_reducible refine Kof.use hKb (P_next ?_)); clear hKb Kb) | (with_reducible refine G_plan 9 [([0, 1, 2, 3, 4, 5, 6, 7], 8, [[]])] [9] hQe fun K E hK hE => ?_) | ((with_reducible refine W_cond (fun h => ?_) (fun h => ?_)) <;> (try (exfalso; first | assumption | omega))) | ((first | (with_reducible first | refine G_region fun K E hK hE => ?_ | refine call_ret can26 (RRel_S _ _ (by assumption) _) ?_ | refine W_if ?_ | refine W_ifS ?_ | refine P_heads fun Kh hKh => ?_ | refine P_fin fun Kh hKh => ?_ | refine P_each fun Kb hKb => ?_ | refine W_and ?_) | ((with_reducible refine W_fresh (fun b hb => ?_)); (repeat (obtain ⟨_, hb⟩ := hb)))) <;> (try simp (disch := first | assumption | omega) only [go_sem, seval, hil, *]))))
    clear e6
    refine G_loop (fun m env s' => ∃ (i : Nat) (M : List Nat), i ≤ x.rules.length ∧ m + i = x.rules.length ∧ M.length = n ∧ Hid (M = risesL ((x.rules.take i).map (edgR x)).flatten L) ∧ Hid (∀ j, gt M j ≤ 1000 + 10 * i) ∧ s' = S.set bo (.obj 3 (nts M)) ∧ env 2 = .ptr bp 0 ∧ env 5 = .msl bo n ∧ env 7 = .int .i64 i) x.rules.length ?_ ?_
    · exact ⟨_, Fg.refl _, 0, L, by omega, by omega, hLl, Lib.hid rfl, Lib.hid (fun j => by have := HLT.out j; omega), rfl, z_sl, z_sl, z_sl⟩
    clear e1 e2 e5 env hm hi hlt m i
    rintro m env s' ⟨i, M, hi, hm, hMl, HM, HB2, rfl, e2, e5, e7⟩
    by_cases hlt : i < x.rules.length
    · obtain ⟨r, hri⟩ := uget hlt
      have hmem := List.mem_of_getElem? hri
      have hsx := rulC_at hri
      obtain ⟨⟨hh, hz⟩, hab⟩ := HR.out r hmem
      have hbl := HB.out r hmem
      have HRI := Lib.hid hri
      have HAB := Lib.hid hab
      have hbb : (r.body.map atmC).length = r.body.length := by simp
      rw [hn] at hh
      clear hri hmem hab
      generalize hd0 : ixR x r.head.rel = hd at *
      (repeat' (first | refine Ctl ?_ | ((with_reducible refine Kof.use hK ?_); clear hK hE K E) | ((with_reducible refine Eof.use hE ?_); (try clear hK hE K E)) | ((with_reducible refine Kof.use hKh ?_); clear hKh Kh) | ((with_reducible refine Kof.use hKb (P_next ?_)); clear hKb Kb) | (with_reducible refine G_plan 9 [([0, 1, 2, 3, 4, 5, 6, 7], 8, [[]])] [9] hQe fun K E hK hE => ?_) | ((with_reducible refine W_cond (fun h => ?_) (fun h => ?_)) <;> (try (exfalso; first | assumption | omega))) | ((first | (with_reducible first | refine G_region fun K E hK hE => ?_ | refine call_ret can26 (w3 _ _) ?_ | refine call_ret can26 (RRel_S _ _ (by assumption) _) ?_ | refine W_if ?_ | refine W_ifS ?_ | refine P_heads fun Kh hKh => ?_ | refine P_fin fun Kh hKh => ?_ | refine P_each fun Kb hKb => ?_ | refine W_and ?_) | ((with_reducible refine W_fresh (fun b hb => ?_)); (repeat (obtain ⟨_, hb⟩ := hb)))) <;> (try simp (disch := first | assumption | omega) only [go_sem, seval, hlr, hsx, rulC, hz, *]))))
      refine G_loop (fun m' env s' => ∃ (k : Nat) (M : List Nat), k ≤ r.body.length ∧ m' + k = r.body.length ∧ M.length = n ∧ Hid (M = risesL (((x.rules.take i).map (edgR x)).flatten ++ ((r.body.take k).map fun a => (⟨hd, ixR x a.rel, if a.not = true then 1 else 0⟩ : Edg))) L) ∧ Hid (∀ j, gt M j ≤ 1000 + 10 * i + k) ∧ s' = S.set bo (.obj 3 (nts M)) ∧
        env 2 = .ptr bp 0 ∧ env 5 = .msl bo n ∧ env 7 = .int .i64 i ∧ env 8 = .int .i64 hd ∧ env 9 = .int .i64 k) r.body.length ?_ ?_
      · exact ⟨_, Fg.refl _, 0, M, by omega, by omega, hMl, Lib.hid (by simpa using HM.out), Lib.hid (fun j => by have := HB2.out j; omega), rfl, z_sl, z_sl, z_sl, z_sl, z_sl⟩
      clear e2 e5 e7 env HM HB2 hMl M
      rintro m' env s' ⟨k, M, hk, hm', hMl, HM, HB2, rfl, e2, e5, e7, e8, e9⟩
      have hnl : (nts M).length = n := by rw [nts_len]; exact hMl
      by_cases hlk : k < r.body.length
      · obtain ⟨c, hc⟩ := uget hlk
        have hsy := atmC_at hc
        obtain ⟨hci, hcz⟩ := HAB.out c (List.mem_of_getElem? hc)
        rw [hn] at hci
        have HC := Lib.hid hc
        clear hc
        have hmb := nts_at (l := M) (i := ixR x c.rel) (by omega)
        have hmh := nts_at (l := M) (i := hd) (by omega)
        have hb1 := HB2.out (ixR x c.rel)
        have hb2 := HB2.out hd
        obtain ⟨cn, cr, cts⟩ := c
        simp only at hci hcz hmb hb1
        have hstep : ∀ w : Nat, w = (if cn = true then 1 else 0) → ∀ v : Nat, v = max (gt M hd) (gt M (ixR x cr) + w) → M.set hd v = risesL (((x.rules.take i).map (edgR x)).flatten ++ ((r.body.take (k + 1)).map fun a => (⟨hd, ixR x a.rel, if a.not = true then 1 else 0⟩ : Edg))) L ∧ ∀ j, gt (M.set hd v) j ≤ 1000 + 10 * i + (k + 1) := by
          rintro w hw v rfl
          subst hw
          have h1 : M.set hd (max (gt M hd) (gt M (ixR x cr) + if cn = true then 1 else 0)) = rise1 M ⟨hd, ixR x cr, if cn = true then 1 else 0⟩ := rfl
          rw [h1]
          refine ⟨?_, rise1_le (by simp only; split <;> omega) HB2.out⟩
          rw [mtake HC.out, ← List.append_assoc, risesL_app, ← HM.out]
          rfl
        have HST := Lib.hid hstep
        clear hstep
        generalize gt M (ixR x cr) = u at *
        generalize gt M hd = v at *
        cases cn
        · (repeat' (first | refine Ctl ?_ | ((with_reducible refine Kof.use hK ?_); clear hK hE K E) | ((with_reducible refine Eof.use hE ?_); (try clear hK hE K E)) | ((with_reducible refine Kof.use hKh ?_); clear hKh Kh) | ((with_reducible refine Kof.use hKb (P_next ?_)); clear hKb Kb) | (with_reducible refine G_plan 9 [([0, 1, 2, 3, 4, 5, 6, 7], 8, [[]])] [9] hQe fun K E hK hE => ?_) | ((with_reducible refine W_cond (fun h => ?_) (fun h => ?_)) <;> (try (exfalso; first | assumption | omega))) | ((first | (with_reducible first | refine G_region fun K E hK hE => ?_ | refine call_ret can26 (w3 _ _) ?_ | refine call_ret can26 (RRel_S _ _ (by assumption) _) ?_ | refine W_if ?_ | refine W_ifS ?_ | refine P_heads fun Kh hKh => ?_ | refine P_fin fun Kh hKh => ?_ | refine P_each fun Kb hKb => ?_ | refine W_and ?_) | ((with_reducible refine W_fresh (fun b hb => ?_)); (repeat (obtain ⟨_, hb⟩ := hb)); (try (obtain ⟨_, _⟩ := nef hb hSpf)))) <;> (try simp (disch := first | assumption | omega) only [go_sem, seval, hlr, hsx, rulC, hbb, hsy, atmC, hcz, hmb, hmh, hnl, max_nat, *]))))
          refine ⟨S.set bo (.obj 3 (nts (M.set hd (max v u)))), by rw [nts_put (by omega)]; exact Fg.of_set _ (by rw [St.set_other _ _ (by assumption)]; exact hb), m' - 1, by omega, k + 1, M.set hd (max v u), by omega, by omega, by rw [List.length_set]; exact hMl, Lib.hid (HST.out 0 rfl _ rfl).1, Lib.hid (HST.out 0 rfl _ rfl).2, rfl, z_sl, z_sl, z_sl, z_sl, z_sl⟩
        · (repeat' (first | refine Ctl ?_ | ((with_reducible refine Kof.use hK ?_); clear hK hE K E) | ((with_reducible refine Eof.use hE ?_); (try clear hK hE K E)) | ((with_reducible refine Kof.use hKh ?_); clear hKh Kh) | ((with_reducible refine Kof.use hKb (P_next ?_)); clear hKb Kb) | (with_reducible refine G_plan 9 [([0, 1, 2, 3, 4, 5, 6, 7], 8, [[]])] [9] hQe fun K E hK hE => ?_) | ((with_reducible refine W_cond (fun h => ?_) (fun h => ?_)) <;> (try (exfalso; first | assumption | omega))) | ((first | (with_reducible first | refine G_region fun K E hK hE => ?_ | refine call_ret can26 (w3 _ _) ?_ | refine call_ret can26 (RRel_S _ _ (by assumption) _) ?_ | refine W_if ?_ | refine W_ifS ?_ | refine P_heads fun Kh hKh => ?_ | refine P_fin fun Kh hKh => ?_ | refine P_each fun Kb hKb => ?_ | refine W_and ?_) | ((with_reducible refine W_fresh (fun b hb => ?_)); (repeat (obtain ⟨_, hb⟩ := hb)); (try (obtain ⟨_, _⟩ := nef hb hSpf)))) <;> (try simp (disch := first | assumption | omega) only [go_sem, seval, hlr, hsx, rulC, hbb, hsy, atmC, hcz, hmb, hmh, hnl, max_nat, *]))))
          refine ⟨S.set bo (.obj 3 (nts (M.set hd (max v (u + 1))))), by rw [nts_put (by omega)]; exact Fg.of_set _ (by rw [St.set_other _ _ (by assumption)]; exact hb), m' - 1, by omega, k + 1, M.set hd (max v (u + 1)), by omega, by omega, by rw [List.length_set]; exact hMl, Lib.hid (HST.out 1 rfl _ rfl).1, Lib.hid (HST.out 1 rfl _ rfl).2, rfl, z_sl, z_sl, z_sl, z_sl, z_sl⟩
      · have hM := HM.out
        rw [show k = r.body.length by omega, List.take_length] at hM
        have HM3 := Lib.hid hM
        clear hM HM
        (repeat' (first | refine Ctl ?_ | ((with_reducible refine Kof.use hK ?_); clear hK hE K E) | ((with_reducible refine Eof.use hE ?_); (try clear hK hE K E)) | ((with_reducible refine Kof.use hKh ?_); clear hKh Kh) | ((with_reducible refine Kof.use hKb (P_next ?_)); clear hKb Kb) | (with_reducible refine G_plan 9 [([0, 1, 2, 3, 4, 5, 6, 7], 8, [[]])] [9] hQe fun K E hK hE => ?_) | ((with_reducible refine W_cond (fun h => ?_) (fun h => ?_)) <;> (try (exfalso; first | assumption | omega))) | ((first | (with_reducible first | refine G_region fun K E hK hE => ?_ | refine call_ret can26 (RRel_S _ _ (by assumption) _) ?_ | refine W_if ?_ | refine W_ifS ?_ | refine P_heads fun Kh hKh => ?_ | refine P_fin fun Kh hKh => ?_ | refine P_each fun Kb hKb => ?_ | refine W_and ?_) | ((with_reducible refine W_fresh (fun b hb => ?_)); (repeat (obtain ⟨_, hb⟩ := hb)))) <;> (try simp (disch := first | assumption | omega) only [go_sem, seval, hlr, hsx, rulC, hbb, *]))))
        refine ⟨_, Fg.refl _, m - 1, by omega, i + 1, M, by omega, by omega, hMl, Lib.hid ?_, Lib.hid (fun j => by have := HB2.out j; omega), rfl, z_sl, z_sl, z_sl⟩
        rw [edgP_at HRI.out, HM3.out]
        unfold edgR
        rw [hd0]
    · have hM := HM.out
      rw [List.take_of_length_le (by omega)] at hM
      have HM2 := Lib.hid hM
      clear hM HM
      refine Kp_frz 5 bo n (St.set_same _ _ _) e5 (by rw [nts_len]; exact hMl) ?_
      rw [St.set_set, St.set_self _ _ _ hSo]
      (repeat' (first | refine Ctl ?_ | ((with_reducible refine Kof.use hK ?_); clear hK hE K E) | ((with_reducible refine Eof.use hE ?_); (try clear hK hE K E)) | ((with_reducible refine Kof.use hKh ?_); clear hKh Kh) | ((with_reducible refine Kof.use hKb (P_next ?_)); clear hKb Kb) | (with_reducible refine G_plan 9 [([0, 1, 2, 3, 4, 5, 6, 7], 8, [[]])] [9] hQe fun K E hK hE => ?_) | ((with_reducible refine W_cond (fun h => ?_) (fun h => ?_)) <;> (try (exfalso; first | assumption | omega))) | ((first | (with_reducible first | refine G_region fun K E hK hE => ?_ | refine call_ret can26 (RRel_S _ _ (by assumption) _) ?_ | refine W_if ?_ | refine W_ifS ?_ | refine P_heads fun Kh hKh => ?_ | refine P_fin fun Kh hKh => ?_ | refine P_each fun Kb hKb => ?_ | refine W_and ?_) | ((with_reducible refine W_fresh (fun b hb => ?_)); (repeat (obtain ⟨_, hb⟩ := hb)))) <;> (try simp (disch := first | assumption | omega) only [go_sem, seval, hlr, *]))))
      all_goals (first | refine W_ret res30 hQ ?_ | refine W_norm res30 hQ ?_ | refine G_pan hQ ?_)
      refine ⟨_, T, Wk.refl _, HF.out, ?_, rfl⟩
      unfold nts
      rw [ints_frz, HM2.out]
      rfl
end Go.Proofs.YtdibndmkeipgbaaGreatDoor
set_option maxRecDepth 100000
namespace Go.Proofs.YtdibndmkeipgbaaGreatDoor
open Go.RowKit

def stagesV (r : Option (List Nat)) : VV := match r with | some l => .tup [.lst (iL l) .no, .bool true] | none => .tup [.lst [] .no, .bool false]
theorem RelOk.InE {x : Pgm} (h : RelOk x) : InE x.decls.length (edgP x) := by
  intro e he
  unfold edgP at he
  obtain ⟨l, hl, he⟩ := List.mem_flatten.1 he
  obtain ⟨r, hr, rfl⟩ := List.mem_map.1 hl
  unfold edgR at he
  obtain ⟨a, ha, rfl⟩ := List.mem_map.1 he
  exact ⟨(h r hr).1.1, ((h r hr).2 a ha).1⟩
theorem stgR_succ {n : Nat} {E : List Edg} {f : Nat} {l : List Nat} : stgR n E (f + 1) l = if overB n (risesL E l) = true then none else if risesL E l = l then some l else stgR n E f (risesL E l) := rfl
theorem over_of {n : Nat} {l : List Nat} {i : Nat} (hi : i < l.length) (h : n ≤ gt l i) : overB n l = true := by
  apply Classical.byContradiction
  intro hc
  have := over_no hc hi
  omega
theorem over_not {n : Nat} {l : List Nat} (h : ∀ i, i < l.length → gt l i < n) : ¬ overB n l = true := by
  intro hc
  obtain ⟨i, hi, hn⟩ := over_ex hc
  have := h i hi
  omega
theorem iL_rep {n : Nat} : (nts (List.replicate n 0)).map (fun y => [y]) = iL (List.replicate n 0) := by unfold nts; rw [ints_frz]; rfl
set_option maxHeartbeats 8000000 in
theorem Rstages_S (T : St) (x : Pgm) (hR : RelOk x) (hc : x.decls.length ≤ 32) (hr : x.rules.length ≤ 64) (hb : ∀ r, r ∈ x.rules → r.body.length ≤ 10) :
    SRet Tryz.prog 20 [.agg (pgC x)] T (stagesV (stgP x)) T := by
  have w1 := fun t l o (hl : l.length = x.decls.length) (hlt : ∀ i, gt l i ≤ 1000) => Rrises_S t x l o hR hc hr hb hl hlt
  have hst : stgP x = stgR x.decls.length (edgP x) 1640 (List.replicate x.decls.length 0) := (stgR_all hR.InE hc).symm
  rw [hst]
  have W1 := Lib.hid w1
  generalize hRR : stgR x.decls.length (edgP x) 1640 (List.replicate x.decls.length 0) = R
  have HR0 := Lib.hid hRR
  have hle : (x.decls.map dclC).length = x.decls.length := by simp
  clear w1 hst hRR hR hb
  simp only [pgC] at W1 ⊢
  refine G_enter Tryz.func20 rfl Tryz.ntmps20 rfl fun Q hQ hQe => ?_
  (repeat' (first | refine Ctl ?_ | ((with_reducible refine Kof.use hK ?_); clear hK hE K E) | ((with_reducible refine Eof.use hE ?_); (try clear hK hE K E)) | ((with_reducible refine Kof.use hKh ?_); clear hKh Kh) | ((with_reducible refine Kof.use hKb (P_next ?_)); clear hKb Kb) | (with_reducible first | refine G_plan 10 [([0, 1, 2, 3, 4, 5, 6, 7, 8, 9, 10, 11], 12, [[0, 1, 2, 3, 4, 5, 6, 7, 8, 9, 10, 11]])] [] hQe fun K E hK hE => ?_ | refine G_plan 11 [] [0, 1, 2, 3, 4, 5, 6, 7] hQe fun K E hK hE => ?_) | ((with_reducible refine W_cond (fun h => ?_) (fun h => ?_)) <;> (try (exfalso; first | assumption | omega))) | ((first | (with_reducible first | refine G_region fun K E hK hE => ?_ | refine W_if ?_ | refine W_ifS ?_ | refine P_heads fun Kh hKh => ?_ | refine P_fin fun Kh hKh => ?_ | refine P_each fun Kb hKb => ?_ | refine W_and ?_) | ((with_reducible refine W_fresh (fun b hb => ?_)); (repeat (obtain ⟨_, hb⟩ := hb))) | ((with_reducible refine W_gd (fun h => ?_) (fun h => ?_)) <;> (try (exfalso; first | assumption | omega)))) <;> (try simp (disch := first | assumption | omega) only [go_sem, seval, hle, *]))))
  rename_i bp hbp _ _
  obtain ⟨bo, hbo⟩ : ∃ z, z = b := ⟨_, rfl⟩
  subst hbo
  have hSp : (T.set bp (.obj 26 [.lst (x.doms.map dmC) .no, .lst (x.decls.map dclC) .no, .lst (x.rules.map rulC) .no])) bp = (.obj 26 [.lst (x.doms.map dmC) .no, .lst (x.decls.map dclC) .no, .lst (x.rules.map rulC) .no]) := St.set_same _ _ _
  have hSo : (T.set bp (.obj 26 [.lst (x.doms.map dmC) .no, .lst (x.decls.map dclC) .no, .lst (x.rules.map rulC) .no])) bo = .free := by rw [St.set_other _ _ (by assumption)]; exact hb
  have hF : Fg (T.set bp (.obj 26 [.lst (x.doms.map dmC) .no, .lst (x.decls.map dclC) .no, .lst (x.rules.map rulC) .no])) T := Fg.of_set _ hbp
  generalize T.set bp (.obj 26 [.lst (x.doms.map dmC) .no, .lst (x.decls.map dclC) .no, .lst (x.rules.map rulC) .no]) = S at *
  have HF := Lib.hid hF
  clear hF hb hbp
  generalize hn : x.decls.length = n at *
  refine Kp_frz 4 bo n (St.set_same _ _ _) (z_sl) (by simp) ?_
  rw [St.set_set, St.set_self _ _ _ hSo, nts_rep, iL_rep]
  clear hSo
  refine G_loop (fun m env s' => ∃ (i : Nat) (l : List Nat), i ≤ 1640 ∧ m + i = 1640 ∧ l.length = n ∧ Hid (∀ j, gt l j ≤ 1000) ∧ Hid (stgR n (edgP x) (1640 - i) l = R) ∧ s' = S ∧ env 1 = .ptr bp 0 ∧ env 4 = .lst (iL l) .no ∧ env 5 = .int .i64 i) 1640 ?_ ?_
  · refine ⟨_, Fg.refl _, 0, List.replicate n 0, by omega, by omega, by simp, Lib.hid (fun j => ?_), HR0, rfl, z_sl, z_sl, z_sl⟩
    unfold gt; rw [List.getElem?_replicate]; split <;> simp
  clear HR0
  rintro m env s' ⟨i, l, hi, hm, hl, HLT, HR, rfl, e1, e4, e5⟩
  have hil : (iL l).length = n := by rw [iL_len]; exact hl
  by_cases hlt : i < 1640
  · have w1 := fun t => W1.out t l .no hl HLT.out
    have hRR := HR.out
    rw [show 1640 - i = (1640 - (i + 1)) + 1 by omega, stgR_succ] at hRR
    have hml : (risesL (edgP x) l).length = n := by rw [risesL_len]; exact hl
    generalize risesL (edgP x) l = M at *
    have HRR := Lib.hid hRR
    have him : (iL M).length = n := by rw [iL_len]; exact hml
    clear hRR HR
    (repeat' (first | refine Ctl ?_ | ((with_reducible refine Kof.use hK ?_); clear hK hE K E) | ((with_reducible refine Eof.use hE ?_); (try clear hK hE K E)) | ((with_reducible refine Kof.use hKh ?_); clear hKh Kh) | ((with_reducible refine Kof.use hKb (P_next ?_)); clear hKb Kb) | (with_reducible first | refine G_plan 10 [([0, 1, 2, 3, 4, 5, 6, 7, 8, 9, 10, 11], 12, [[0, 1, 2, 3, 4, 5, 6, 7, 8, 9, 10, 11]])] [] hQe fun K E hK hE => ?_ | refine G_plan 11 [] [0, 1, 2, 3, 4, 5, 6, 7] hQe fun K E hK hE => ?_) | ((with_reducible refine W_cond (fun h => ?_) (fun h => ?_)) <;> (try (exfalso; first | assumption | omega))) | ((first | (with_reducible first | refine G_region fun K E hK hE => ?_ | refine call_ret can30 (w1 _) ?_ | refine W_if ?_ | refine W_ifS ?_ | refine P_heads fun Kh hKh => ?_ | refine P_fin fun Kh hKh => ?_ | refine P_each fun Kb hKb => ?_ | refine W_and ?_) | ((with_reducible refine W_fresh (fun b hb => ?_)); (repeat (obtain ⟨_, hb⟩ := hb))) | ((with_reducible refine W_gd (fun h => ?_) (fun h => ?_)) <;> (try (exfalso; first | assumption | omega)))) <;> (try simp (disch := first | assumption | omega) only [go_sem, seval, hle, *]))))
    refine G_loop (fun m' env s2 => ∃ (k : Nat) (w : Bool), k ≤ n ∧ m' + k = n ∧ s2 = s' ∧ env 1 = .ptr bp 0 ∧ env 4 = .lst (iL l) .no ∧ env 5 = .int .i64 i ∧ env 6 = .lst (iL M) .no ∧ env 7 = .bool w ∧ env 8 = .int .i64 k ∧ Hid (w = true ↔ ∀ j, j < k → gt M j = gt l j) ∧ Hid (∀ j, j < k → gt M j < n)) n ?_ ?_
    · exact ⟨_, Fg.refl _, 0, true, by omega, by omega, rfl, z_sl, z_sl, z_sl, z_sl, z_sl, z_sl, Lib.hid ⟨fun _ j hj => by omega, fun _ => rfl⟩, Lib.hid (fun j hj => by omega)⟩
    clear e1 e4 e5 env w1
    rintro m' env s2 ⟨k, w, hk, hm', rfl, e1, e4, e5, e6, e7, e8, HW, HO⟩
    by_cases hlk : k < n
    · have hmk := iL_at (l := M) (i := k) (by omega)
      have hlk2 := iL_at (l := l) (i := k) (by omega)
      have hov : n ≤ gt M k → R = none := fun h => by rw [← HRR.out, if_pos (over_of (by omega) h)]
      have HOV := Lib.hid hov
      have hnx : ∀ w' : Bool, (w' = true ↔ (w = true ∧ gt M k = gt l k)) → (w' = true ↔ ∀ j, j < k + 1 → gt M j = gt l j) := by
        intro w' h
        rw [h, HW.out]
        constructor
        · rintro ⟨h1, h2⟩ j hj
          by_cases e : j = k
          · rw [e]; exact h2
          · exact h1 j (by omega)
        · intro h; exact ⟨fun j hj => h j (by omega), h k (by omega)⟩
      have hno : gt M k < n → ∀ j, j < k + 1 → gt M j < n := fun h j hj => by
        by_cases e : j = k
        · rw [e]; exact h
        · exact HO.out j (by omega)
      have HNX := Lib.hid hnx
      have HNO := Lib.hid hno
      clear hov hnx hno HW HO
      generalize gt M k = u at *
      generalize gt l k = v at *
      by_cases huv : u = v
      · subst huv
        by_cases hun : n ≤ u
        · have hE := HOV.out hun
          subst hE
          cases w
          all_goals (repeat' (first | refine Ctl ?_ | ((with_reducible refine Kof.use hK ?_); clear hK hE K E) | ((with_reducible refine Eof.use hE ?_); (try clear hK hE K E)) | ((with_reducible refine Kof.use hKh ?_); clear hKh Kh) | ((with_reducible refine Kof.use hKb (P_next ?_)); clear hKb Kb) | (with_reducible first | refine G_plan 10 [([0, 1, 2, 3, 4, 5, 6, 7, 8, 9, 10, 11], 12, [[0, 1, 2, 3, 4, 5, 6, 7, 8, 9, 10, 11]])] [] hQe fun K E hK hE => ?_ | refine G_plan 11 [] [0, 1, 2, 3, 4, 5, 6, 7] hQe fun K E hK hE => ?_) | ((with_reducible refine W_cond (fun h => ?_) (fun h => ?_)) <;> (try (exfalso; first | assumption | omega))) | ((first | (with_reducible first | refine G_region fun K E hK hE => ?_ | refine W_if ?_ | refine W_ifS ?_ | refine P_heads fun Kh hKh => ?_ | refine P_fin fun Kh hKh => ?_ | refine P_each fun Kb hKb => ?_ | refine W_and ?_) | ((with_reducible refine W_fresh (fun b hb => ?_)); (repeat (obtain ⟨_, hb⟩ := hb))) | ((with_reducible refine W_gd (fun h => ?_) (fun h => ?_)) <;> (try (exfalso; first | assumption | omega)))) <;> (try simp (disch := first | assumption | omega) only [go_sem, seval, hle, hil, him, hmk, hlk2, *]))))
          all_goals (first | refine W_ret res20 hQ ?_ | refine W_norm res20 hQ ?_ | refine G_pan hQ ?_)
          all_goals exact ⟨_, T, Wk.tup2, HF.out, rfl, rfl⟩
        · have hunI : ¬ ((n : Int) ≤ (u : Int)) := by omega
          cases w
          all_goals (repeat' (first | refine Ctl ?_ | ((with_reducible refine Kof.use hK ?_); clear hK hE K E) | ((with_reducible refine Eof.use hE ?_); (try clear hK hE K E)) | ((with_reducible refine Kof.use hKh ?_); clear hKh Kh) | ((with_reducible refine Kof.use hKb (P_next ?_)); clear hKb Kb) | (with_reducible first | refine G_plan 10 [([0, 1, 2, 3, 4, 5, 6, 7, 8, 9, 10, 11], 12, [[0, 1, 2, 3, 4, 5, 6, 7, 8, 9, 10, 11]])] [] hQe fun K E hK hE => ?_ | refine G_plan 11 [] [0, 1, 2, 3, 4, 5, 6, 7] hQe fun K E hK hE => ?_) | ((with_reducible refine W_cond (fun h => ?_) (fun h => ?_)) <;> (try (exfalso; first | assumption | omega))) | ((first | (with_reducible first | refine G_region fun K E hK hE => ?_ | refine W_if ?_ | refine W_ifS ?_ | refine P_heads fun Kh hKh => ?_ | refine P_fin fun Kh hKh => ?_ | refine P_each fun Kb hKb => ?_ | refine W_and ?_) | ((with_reducible refine W_fresh (fun b hb => ?_)); (repeat (obtain ⟨_, hb⟩ := hb))) | ((with_reducible refine W_gd (fun h => ?_) (fun h => ?_)) <;> (try (exfalso; first | assumption | omega)))) <;> (try simp (disch := first | assumption | omega) only [go_sem, seval, hle, hil, him, hmk, hlk2, *]))))
          · exact ⟨_, Fg.refl _, m' - 1, by omega, k + 1, false, by omega, by omega, rfl, z_sl, z_sl, z_sl, z_sl, z_sl, z_sl, Lib.hid (HNX.out _ (by simp)), Lib.hid (HNO.out (by omega))⟩
          · exact ⟨_, Fg.refl _, m' - 1, by omega, k + 1, true, by omega, by omega, rfl, z_sl, z_sl, z_sl, z_sl, z_sl, z_sl, Lib.hid (HNX.out _ (by simp)), Lib.hid (HNO.out (by omega))⟩
      · have huvI : ((u : Int) = (v : Int)) = False := eq_false (by omega)
        have HUV := Lib.hid huv
        clear huv
        by_cases hun : n ≤ u
        · have hE := HOV.out hun
          subst hE
          cases w
          all_goals (repeat' (first | refine Ctl ?_ | ((with_reducible refine Kof.use hK ?_); clear hK hE K E) | ((with_reducible refine Eof.use hE ?_); (try clear hK hE K E)) | ((with_reducible refine Kof.use hKh ?_); clear hKh Kh) | ((with_reducible refine Kof.use hKb (P_next ?_)); clear hKb Kb) | (with_reducible first | refine G_plan 10 [([0, 1, 2, 3, 4, 5, 6, 7, 8, 9, 10, 11], 12, [[0, 1, 2, 3, 4, 5, 6, 7, 8, 9, 10, 11]])] [] hQe fun K E hK hE => ?_ | refine G_plan 11 [] [0, 1, 2, 3, 4, 5, 6, 7] hQe fun K E hK hE => ?_) | ((with_reducible refine W_cond (fun h => ?_) (fun h => ?_)) <;> (try (exfalso; first | assumption | omega))) | ((first | (with_reducible first | refine G_region fun K E hK hE => ?_ | refine W_if ?_ | refine W_ifS ?_ | refine P_heads fun Kh hKh => ?_ | refine P_fin fun Kh hKh => ?_ | refine P_each fun Kb hKb => ?_ | refine W_and ?_) | ((with_reducible refine W_fresh (fun b hb => ?_)); (repeat (obtain ⟨_, hb⟩ := hb))) | ((with_reducible refine W_gd (fun h => ?_) (fun h => ?_)) <;> (try (exfalso; first | assumption | omega)))) <;> (try simp (disch := first | assumption | omega) only [go_sem, seval, hle, hil, him, hmk, hlk2, *]))))
          all_goals (first | refine W_ret res20 hQ ?_ | refine W_norm res20 hQ ?_ | refine G_pan hQ ?_)
          all_goals exact ⟨_, T, Wk.tup2, HF.out, rfl, rfl⟩
        · have hunI : ¬ ((n : Int) ≤ (u : Int)) := by omega
          cases w
          all_goals (repeat' (first | refine Ctl ?_ | ((with_reducible refine Kof.use hK ?_); clear hK hE K E) | ((with_reducible refine Eof.use hE ?_); (try clear hK hE K E)) | ((with_reducible refine Kof.use hKh ?_); clear hKh Kh) | ((with_reducible refine Kof.use hKb (P_next ?_)); clear hKb Kb) | (with_reducible first | refine G_plan 10 [([0, 1, 2, 3, 4, 5, 6, 7, 8, 9, 10, 11], 12, [[0, 1, 2, 3, 4, 5, 6, 7, 8, 9, 10, 11]])] [] hQe fun K E hK hE => ?_ | refine G_plan 11 [] [0, 1, 2, 3, 4, 5, 6, 7] hQe fun K E hK hE => ?_) | ((with_reducible refine W_cond (fun h => ?_) (fun h => ?_)) <;> (try (exfalso; first | assumption | omega))) | ((first | (with_reducible first | refine G_region fun K E hK hE => ?_ | refine W_if ?_ | refine W_ifS ?_ | refine P_heads fun Kh hKh => ?_ | refine P_fin fun Kh hKh => ?_ | refine P_each fun Kb hKb => ?_ | refine W_and ?_) | ((with_reducible refine W_fresh (fun b hb => ?_)); (repeat (obtain ⟨_, hb⟩ := hb))) | ((with_reducible refine W_gd (fun h => ?_) (fun h => ?_)) <;> (try (exfalso; first | assumption | omega)))) <;> (try simp (disch := first | assumption | omega) only [go_sem, seval, hle, hil, him, hmk, hlk2, *]))))
          all_goals exact ⟨_, Fg.refl _, m' - 1, by omega, k + 1, false, by omega, by omega, rfl, z_sl, z_sl, z_sl, z_sl, z_sl, z_sl, Lib.hid (HNX.out _ (by simp [HUV.out])), Lib.hid (HNO.out (by omega))⟩
    · have hno : ¬ overB n M = true := over_not (fun j hj => HO.out j (by omega))
      have hRR := HRR.out
      rw [if_neg hno] at hRR
      cases w
      · have hne : ¬ M = l := fun e => by
          have := HW.out.2 (fun j _ => by rw [e])
          cases this
        rw [if_neg hne] at hRR
        have HRR2 := Lib.hid hRR
        have HO2 := Lib.hid (show ∀ j, gt M j ≤ 1000 from fun j => by
          by_cases hj : j < n
          · have := HO.out j (by omega); omega
          · rw [gt_out (by omega)]; omega)
        clear hno hRR hne HRR HO HW
        (repeat' (first | refine Ctl ?_ | ((with_reducible refine Kof.use hK ?_); clear hK hE K E) | ((with_reducible refine Eof.use hE ?_); (try clear hK hE K E)) | ((with_reducible refine Kof.use hKh ?_); clear hKh Kh) | ((with_reducible refine Kof.use hKb (P_next ?_)); clear hKb Kb) | (with_reducible first | refine G_plan 10 [([0, 1, 2, 3, 4, 5, 6, 7, 8, 9, 10, 11], 12, [[0, 1, 2, 3, 4, 5, 6, 7, 8, 9, 10, 11]])] [] hQe fun K E hK hE => ?_ | refine G_plan 11 [] [0, 1, 2, 3, 4, 5, 6, 7] hQe fun K E hK hE => ?_) | ((with_reducible refine W_cond (fun h => ?_) (fun h => ?_)) <;> (try (exfalso; first | assumption | omega))) | ((first | (with_reducible first | refine G_region fun K E hK hE => ?_ | refine W_if ?_ | refine W_ifS ?_ | refine P_heads fun Kh hKh => ?_ | refine P_fin fun Kh hKh => ?_ | refine P_each fun Kb hKb => ?_ | refine W_and ?_) | ((with_reducible refine W_fresh (fun b hb => ?_)); (repeat (obtain ⟨_, hb⟩ := hb))) | ((with_reducible refine W_gd (fun h => ?_) (fun h => ?_)) <;> (try (exfalso; first | assumption | omega)))) <;> (try simp (disch := first | assumption | omega) only [go_sem, seval, hle, hil, him, *]))))
        exact ⟨_, Fg.refl _, m - 1, by omega, i + 1, M, by omega, by omega, hml, HO2, HRR2, rfl, z_sl, z_sl, z_sl⟩
      · have he : M = l := lst_gt (by omega) (fun j hj => HW.out.1 rfl j (by omega))
        rw [if_pos he] at hRR
        subst hRR
        clear he hno HRR HO HW
        (repeat' (first | refine Ctl ?_ | ((with_reducible refine Kof.use hK ?_); clear hK hE K E) | ((with_reducible refine Eof.use hE ?_); (try clear hK hE K E)) | ((with_reducible refine Kof.use hKh ?_); clear hKh Kh) | ((with_reducible refine Kof.use hKb (P_next ?_)); clear hKb Kb) | (with_reducible first | refine G_plan 10 [([0, 1, 2, 3, 4, 5, 6, 7, 8, 9, 10, 11], 12, [[0, 1, 2, 3, 4, 5, 6, 7, 8, 9, 10, 11]])] [] hQe fun K E hK hE => ?_ | refine G_plan 11 [] [0, 1, 2, 3, 4, 5, 6, 7] hQe fun K E hK hE => ?_) | ((with_reducible refine W_cond (fun h => ?_) (fun h => ?_)) <;> (try (exfalso; first | assumption | omega))) | ((first | (with_reducible first | refine G_region fun K E hK hE => ?_ | refine W_if ?_ | refine W_ifS ?_ | refine P_heads fun Kh hKh => ?_ | refine P_fin fun Kh hKh => ?_ | refine P_each fun Kb hKb => ?_ | refine W_and ?_) | ((with_reducible refine W_fresh (fun b hb => ?_)); (repeat (obtain ⟨_, hb⟩ := hb))) | ((with_reducible refine W_gd (fun h => ?_) (fun h => ?_)) <;> (try (exfalso; first | assumption | omega)))) <;> (try simp (disch := first | assumption | omega) only [go_sem, seval, hle, hil, him, *]))))
        all_goals (first | refine W_ret res20 hQ ?_ | refine W_norm res20 hQ ?_ | refine G_pan hQ ?_)
        all_goals exact ⟨_, T, Wk.refl _, HF.out, rfl, rfl⟩
  · have hRR := HR.out
    rw [show 1640 - i = 0 by omega] at hRR
    have hE : R = none := by rw [← hRR]; rfl
    subst hE
    clear hRR HR
    (repeat' (first | refine Ctl ?_ | ((with_reducible refine Kof.use hK ?_); clear hK hE K E) | ((with_reducible refine Eof.use hE ?_); (try clear hK hE K E)) | ((with_reducible refine Kof.use hKh ?_); clear hKh Kh) | ((with_reducible refine Kof.use hKb (P_next ?_)); clear hKb Kb) | (with_reducible first | refine G_plan 10 [([0, 1, 2, 3, 4, 5, 6, 7, 8, 9, 10, 11], 12, [[0, 1, 2, 3, 4, 5, 6, 7, 8, 9, 10, 11]])] [] hQe fun K E hK hE => ?_ | refine G_plan 11 [] [0, 1, 2, 3, 4, 5, 6, 7] hQe fun K E hK hE => ?_) | ((with_reducible refine W_cond (fun h => ?_) (fun h => ?_)) <;> (try (exfalso; first | assumption | omega))) | ((first | (with_reducible first | refine G_region fun K E hK hE => ?_ | refine W_if ?_ | refine W_ifS ?_ | refine P_heads fun Kh hKh => ?_ | refine P_fin fun Kh hKh => ?_ | refine P_each fun Kb hKb => ?_ | refine W_and ?_) | ((with_reducible refine W_fresh (fun b hb => ?_)); (repeat (obtain ⟨_, hb⟩ := hb))) | ((with_reducible refine W_gd (fun h => ?_) (fun h => ?_)) <;> (try (exfalso; first | assumption | omega)))) <;> (try simp (disch := first | assumption | omega) only [go_sem, seval, hle, *]))))
    all_goals (first | refine W_ret res20 hQ ?_ | refine W_norm res20 hQ ?_ | refine G_pan hQ ?_)
    all_goals exact ⟨_, T, Wk.tup2, HF.out, rfl, rfl⟩
end Go.Proofs.YtdibndmkeipgbaaGreatDoor
