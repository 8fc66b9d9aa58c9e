/- What is proved: What package osierref11's name, number, atom and spell hand back. Conditions: what fits a memory; What package osierref11's spell hands back. Conditions: what fits a memory; What package osierref11's May hands back. Conditions: what fits a memory; What package osierref11's Print hands back: the document's text of a program. Conditions: what fits a memory. Conditions: those that stand in the statements. -/
import Derived.Test.YtdibndmkeipgbaaGreatDoorZRlj
import Derived.Test.YtdibndmkeipgbaaGreatDoorZNaj
import Derived.Test.YtdibndmkeipgbaaGreatDoorZUoj
import Derived.Test.YtdibndmkeipgbaaGreatDoorZUq
set_option linter.unusedSimpArgs false
set_option linter.unusedVariables false
set_option maxRecDepth 100000
namespace Go.Proofs.YtdibndmkeipgbaaGreatDoor
open Go.RowKit

theorem RisB_name (t : List UInt8) : RisB 1 t = nameB t := by
  rw [Bool.eq_iff_iff]
  simp only [RisB, nameB, signB, decide_eq_true_eq, Bool.and_eq_true]
  constructor
  · rintro ⟨h1, h2, h3⟩; exact ⟨h1, h3⟩
  · rintro ⟨h1, h3⟩
    exact ⟨h1, nameB_len (by simp only [nameB, signB, decide_eq_true_eq, Bool.and_eq_true]; exact ⟨h1, h3⟩), h3⟩
theorem Rnm11_S (t : List UInt8) (s : St) : SRet Tryz.prog 43 [.str t] s (.bool (nameB t)) s := by
  have h1 := fun s => Ris_S 1 t 0 s
  rw [RisB_name] at h1
  refine G_enter Tryz.func43 rfl Tryz.ntmps43 rfl fun Q hQ hQe => ?_
  (repeat' (first | refine Ctl ?_ | ((with_reducible refine Kof.use hK ?_); clear hK hE K E) | ((with_reducible refine Eof.use hE ?_); (try clear hK hE K E)) | ((with_reducible refine W_cond (fun h => ?_) (fun h => ?_)) <;> (try (exfalso; first | assumption | omega))) | ((first | (with_reducible first | refine G_region fun K E hK hE => ?_ | refine call_ret can56 (h1 _) ?_ | refine call_ret can56 (Ris_S _ _ _ _) ?_ | refine W_if ?_ | refine W_ifS ?_ | refine W_and ?_)) <;> (try simp (disch := first | assumption | omega) only [go_sem, seval, *]))))
  all_goals (first | refine W_ret res43 hQ ?_ | refine W_norm res43 hQ ?_ | refine G_pan hQ ?_)
  all_goals (refine ⟨_, _, Wk.of_eq ?_, ?_, rfl, rfl⟩)
  all_goals first | rfl | (exact z_fg)
theorem Rnr11_S (n : Int) (s : St) : SRet Tryz.prog 44 [.int .i64 n] s (.bool (decide (0 ≤ n) && decide (n ≤ 9999999999))) s := by
  refine G_enter Tryz.func44 rfl Tryz.ntmps44 rfl fun Q hQ hQe => ?_
  (repeat' (first | refine Ctl ?_ | ((with_reducible refine Kof.use hK ?_); clear hK hE K E) | ((with_reducible refine Eof.use hE ?_); (try clear hK hE K E)) | ((with_reducible refine W_cond (fun h => ?_) (fun h => ?_)) <;> (try (exfalso; first | assumption | omega))) | ((first | (with_reducible first | refine G_region fun K E hK hE => ?_ | refine W_if ?_ | refine W_ifS ?_ | refine W_and ?_) | ((with_reducible refine W_gd (fun h => ?_) (fun h => ?_)) <;> (try (exfalso; first | assumption | omega)))) <;> (try simp (disch := first | assumption | omega) only [go_sem, seval, *]))))
  all_goals (first | refine W_ret res44 hQ ?_ | refine W_norm res44 hQ ?_ | refine G_pan hQ ?_)
  all_goals (refine ⟨_, _, Wk.of_eq ?_, ?_, rfl, rfl⟩)
  all_goals first | (exact z_fg) | (simp only [VV.bool.injEq]; grind)
set_option maxHeartbeats 4000000 in
theorem Ratom11_S (a : Atm) (o0 : Own) (ha : AtmOk a) (s : St) : SRet Tryz.prog 45 [.agg [.bool a.not, .str a.rel, .lst (a.ts.map trmC) o0]] s (.bool (atmB a)) s := by
  obtain ⟨h1, h2, h3⟩ := ha
  refine G_enter Tryz.func45 rfl Tryz.ntmps45 rfl fun Q hQ hQe => ?_
  (repeat' (first | refine Ctl ?_ | ((with_reducible refine Kof.use hK ?_); clear hK hE K E) | ((with_reducible refine Eof.use hE ?_); (try clear hK hE K E)) | ((with_reducible refine W_cond (fun h => ?_) (fun h => ?_)) <;> (try (exfalso; first | assumption | omega))) | ((first | (with_reducible first | refine G_region fun K E hK hE => ?_ | refine call_ret can43 (Rnm11_S _ _) ?_ | refine call_ret can44 (Rnr11_S _ _) ?_ | refine W_if ?_ | refine W_ifS ?_ | refine W_and ?_) | ((with_reducible refine W_fresh (fun b hb => ?_)); (repeat (obtain ⟨_, hb⟩ := hb))) | ((with_reducible refine W_gd (fun h => ?_) (fun h => ?_)) <;> (try (exfalso; first | assumption | omega)))) <;> (try simp (disch := first | assumption | omega) only [go_sem, seval, List.length_map, *]))))
  obtain ⟨nt, rel, ts⟩ := a
  simp only at h1 h2 h3 ⊢
  have hb0 : s.set b (.obj 47 [.bool nt, .str rel, .lst (ts.map trmC) o0]) b = .obj 47 [.bool nt, .str rel, .lst (ts.map trmC) o0] := St.set_same _ _ _
  have hF0 : Fg (s.set b (.obj 47 [.bool nt, .str rel, .lst (ts.map trmC) o0])) s := Fg.of_set _ hb
  generalize s.set b (.obj 47 [.bool nt, .str rel, .lst (ts.map trmC) o0]) = B at *
  have hbf : B b ≠ .free := by rw [hb0]; simp
  have HF := Lib.hid hF0
  clear hF0 hb
  refine G_loop (fun m env s' => ∃ i : Nat, i ≤ ts.length ∧ m + i = ts.length ∧ s' = B ∧ (ts.take i).all trmB = true ∧ env 1 = .ptr b 0 ∧ env 3 = .int .i64 i) ts.length ?_ ?_
  · exact ⟨B, Fg.refl _, 0, by omega, by omega, rfl, rfl, z_sl, z_sl⟩
  · rintro m env s' ⟨i, hi, hm, rfl, hall, e1, e3⟩
    by_cases hlt : i < ts.length ∧ i ≤ 8
    · obtain ⟨hlt, hl8⟩ := hlt
      obtain ⟨c, hc⟩ := uget hlt
      obtain ⟨hc1, hc2, hc3⟩ := h3 c (List.mem_of_getElem? hc)
      have hsx := trmC_at hc
      have HX := Lib.hid hc
      have HH := Lib.hid hall
      clear hc hall
      obtain ⟨cv, cn, cz⟩ := c
      simp only at hc1 hc2 hc3
      have w1 := fun s => Rnm11_S cn s
      have w2 := fun s => Rnr11_S cz s
      cases cv
      · by_cases hn : cn = []
        · cases hz : (decide (0 ≤ cz) && decide (cz ≤ 9999999999))
          all_goals
            rw [hz] at w2
            clear w1
            (repeat' (first | refine Ctl ?_ | ((with_reducible refine Kof.use hK ?_); clear hK hE K E) | ((with_reducible refine Eof.use hE ?_); (try clear hK hE K E)) | ((with_reducible refine W_cond (fun h => ?_) (fun h => ?_)) <;> (try (exfalso; first | assumption | omega))) | ((first | (with_reducible first | refine G_region fun K E hK hE => ?_ | refine call_ret can44 (w2 _) ?_ | refine call_ret can43 (Rnm11_S _ _) ?_ | refine call_ret can44 (Rnr11_S _ _) ?_ | refine W_if ?_ | refine W_ifS ?_ | refine W_and ?_) | ((with_reducible refine W_fresh (fun b hb => ?_)); (repeat (obtain ⟨_, hb⟩ := hb))) | ((with_reducible refine W_gd (fun h => ?_) (fun h => ?_)) <;> (try (exfalso; first | assumption | omega)))) <;> (try simp (disch := first | assumption | omega) only [go_sem, seval, List.length_map, hsx, trmC, *]))))
          all_goals first
            | (have hres : atmB ⟨nt, rel, ts⟩ = false := by unfold atmB; rw [uall_not HX.out (by simp [trmB, hn] at hz ⊢; grind)]; simp
               (first | refine W_ret res45 hQ ?_ | refine W_norm res45 hQ ?_ | refine G_pan hQ ?_)
               (refine ⟨_, _, Wk.of_eq ?_, ?_, rfl, rfl⟩)
               · rw [hres]
               · exact (Fg.of_set _ hb).trans HF)
            | exact ⟨s', Fg.of_set _ hb, m - 1, by omega, i + 1, by omega, by omega, rfl, uall_take HH.out HX.out (by simp [trmB, hn] at hz ⊢; grind), z_sl, z_sl⟩
        · clear w1
          (repeat' (first | refine Ctl ?_ | ((with_reducible refine Kof.use hK ?_); clear hK hE K E) | ((with_reducible refine Eof.use hE ?_); (try clear hK hE K E)) | ((with_reducible refine W_cond (fun h => ?_) (fun h => ?_)) <;> (try (exfalso; first | assumption | omega))) | ((first | (with_reducible first | refine G_region fun K E hK hE => ?_ | refine call_ret can43 (Rnm11_S _ _) ?_ | refine call_ret can44 (Rnr11_S _ _) ?_ | refine W_if ?_ | refine W_ifS ?_ | refine W_and ?_) | ((with_reducible refine W_fresh (fun b hb => ?_)); (repeat (obtain ⟨_, hb⟩ := hb))) | ((with_reducible refine W_gd (fun h => ?_) (fun h => ?_)) <;> (try (exfalso; first | assumption | omega)))) <;> (try simp (disch := first | assumption | omega) only [go_sem, seval, List.length_map, hsx, trmC, *]))))
          have hres : atmB ⟨nt, rel, ts⟩ = false := by unfold atmB; rw [uall_not HX.out (by simp [trmB, hn])]; simp
          (first | refine W_ret res45 hQ ?_ | refine W_norm res45 hQ ?_ | refine G_pan hQ ?_)
          (refine ⟨_, _, Wk.of_eq ?_, ?_, rfl, rfl⟩)
          · rw [hres]
          · exact (Fg.of_set _ hb).trans HF
      · cases hz : nameB cn
        all_goals
          rw [hz] at w1
          clear w2
          (repeat' (first | refine Ctl ?_ | ((with_reducible refine Kof.use hK ?_); clear hK hE K E) | ((with_reducible refine Eof.use hE ?_); (try clear hK hE K E)) | ((with_reducible refine W_cond (fun h => ?_) (fun h => ?_)) <;> (try (exfalso; first | assumption | omega))) | ((first | (with_reducible first | refine G_region fun K E hK hE => ?_ | refine call_ret can43 (w1 _) ?_ | refine call_ret can43 (Rnm11_S _ _) ?_ | refine call_ret can44 (Rnr11_S _ _) ?_ | refine W_if ?_ | refine W_ifS ?_ | refine W_and ?_) | ((with_reducible refine W_fresh (fun b hb => ?_)); (repeat (obtain ⟨_, hb⟩ := hb))) | ((with_reducible refine W_gd (fun h => ?_) (fun h => ?_)) <;> (try (exfalso; first | assumption | omega)))) <;> (try simp (disch := first | assumption | omega) only [go_sem, seval, List.length_map, hsx, trmC, *]))))
        all_goals first
          | (have hres : atmB ⟨nt, rel, ts⟩ = false := by unfold atmB; rw [uall_not HX.out (by simp [trmB, hz]; try grind)]; simp
             (first | refine W_ret res45 hQ ?_ | refine W_norm res45 hQ ?_ | refine G_pan hQ ?_)
             (refine ⟨_, _, Wk.of_eq ?_, ?_, rfl, rfl⟩)
             · rw [hres]
             · exact (Fg.of_set _ hb).trans HF)
          | exact ⟨s', Fg.of_set _ hb, m - 1, by omega, i + 1, by omega, by omega, rfl, uall_take HH.out HX.out (by simp [trmB, hz]; grind), z_sl, z_sl⟩
    · have w1 := fun s => Rnm11_S rel s
      by_cases hiL : i = ts.length
      · subst hiL
        rw [List.take_length] at hall
        have HA := Lib.hid hall
        clear hall hlt
        cases hz : nameB rel
        all_goals
          rw [hz] at w1
          (repeat' (first | refine Ctl ?_ | ((with_reducible refine Kof.use hK ?_); clear hK hE K E) | ((with_reducible refine Eof.use hE ?_); (try clear hK hE K E)) | ((with_reducible refine W_cond (fun h => ?_) (fun h => ?_)) <;> (try (exfalso; first | assumption | omega))) | ((first | (with_reducible first | refine G_region fun K E hK hE => ?_ | refine call_ret can43 (w1 _) ?_ | refine call_ret can43 (Rnm11_S _ _) ?_ | refine call_ret can44 (Rnr11_S _ _) ?_ | refine W_if ?_ | refine W_ifS ?_ | refine W_and ?_) | ((with_reducible refine W_fresh (fun b hb => ?_)); (repeat (obtain ⟨_, hb⟩ := hb))) | ((with_reducible refine W_gd (fun h => ?_) (fun h => ?_)) <;> (try (exfalso; first | assumption | omega)))) <;> (try simp (disch := first | assumption | omega) only [go_sem, seval, List.length_map, *]))))
        all_goals (first | refine W_ret res45 hQ ?_ | refine W_norm res45 hQ ?_ | refine G_pan hQ ?_)
        all_goals (refine ⟨_, _, Wk.of_eq ?_, ?_, rfl, rfl⟩)
        all_goals first | exact HF | (have hall := HA.out; simp [atmB, hall, hz, *]; done) | (have hall := HA.out; simp [atmB, hall, hz, *]; grind)
      · have hi9 : 8 < i := by omega
        have hl9 : 8 < ts.length := by omega
        have hres : atmB ⟨nt, rel, ts⟩ = false := by unfold atmB; rw [decide_eq_false (p := ts.length ≤ 8) (by omega)]; simp
        have HRES := Lib.hid hres
        clear hall hlt hres
        cases hz : nameB rel
        all_goals
          rw [hz] at w1
          (repeat' (first | refine Ctl ?_ | ((with_reducible refine Kof.use hK ?_); clear hK hE K E) | ((with_reducible refine Eof.use hE ?_); (try clear hK hE K E)) | ((with_reducible refine W_cond (fun h => ?_) (fun h => ?_)) <;> (try (exfalso; first | assumption | omega))) | ((first | (with_reducible first | refine G_region fun K E hK hE => ?_ | refine call_ret can43 (w1 _) ?_ | refine call_ret can43 (Rnm11_S _ _) ?_ | refine call_ret can44 (Rnr11_S _ _) ?_ | refine W_if ?_ | refine W_ifS ?_ | refine W_and ?_) | ((with_reducible refine W_fresh (fun b hb => ?_)); (repeat (obtain ⟨_, hb⟩ := hb))) | ((with_reducible refine W_gd (fun h => ?_) (fun h => ?_)) <;> (try (exfalso; first | assumption | omega)))) <;> (try simp (disch := first | assumption | omega) only [go_sem, seval, List.length_map, *]))))
        all_goals (first | refine W_ret res45 hQ ?_ | refine W_norm res45 hQ ?_ | refine G_pan hQ ?_)
        all_goals (refine ⟨_, _, Wk.of_eq ?_, ?_, rfl, rfl⟩)
        all_goals first | exact HF | (rw [HRES.out]; done) | (rw [HRES.out]; simp; omega)
end Go.Proofs.YtdibndmkeipgbaaGreatDoor
set_option maxRecDepth 100000
namespace Go.Proofs.YtdibndmkeipgbaaGreatDoor
open Go.RowKit

end Go.Proofs.YtdibndmkeipgbaaGreatDoor
set_option maxRecDepth 100000
namespace Go.Proofs.YtdibndmkeipgbaaGreatDoor
open Go.RowKit

set_option maxHeartbeats 4000000 in
theorem RMay11_S (x : Pgm) (hx : PgmOk x) (s : St) : SRet Tryz.prog 25 [.agg (pgC x)] s (.bool (pgmB x)) s := by
  obtain ⟨h1, h2, h3, h4, h5, h6⟩ := hx
  obtain ⟨ds, cs, rs⟩ := x
  simp only at h1 h2 h3 h4 h5 h6
  refine G_enter Tryz.func25 rfl Tryz.ntmps25 rfl fun Q hQ hQe => ?_
  (repeat' (first | refine Ctl ?_ | ((with_reducible refine Kof.use hK ?_); clear hK hE K E) | ((with_reducible refine Eof.use hE ?_); (try clear hK hE K E)) | ((with_reducible refine W_cond (fun h => ?_) (fun h => ?_)) <;> (try (exfalso; first | assumption | omega))) | ((first | (with_reducible first | refine G_region fun K E hK hE => ?_ | refine call_ret can43 (Rnm11_S _ _) ?_ | refine call_ret can44 (Rnr11_S _ _) ?_ | refine call_ret can45 (Ratom11_S _ _ (by assumption) _) ?_ | refine W_if ?_ | refine W_ifS ?_ | refine W_and ?_) | ((with_reducible refine W_fresh (fun b hb => ?_)); (repeat (obtain ⟨_, hb⟩ := hb))) | ((with_reducible refine W_gd (fun h => ?_) (fun h => ?_)) <;> (try (exfalso; first | assumption | omega)))) <;> (try simp (disch := first | assumption | omega) only [go_sem, seval, List.length_map, pgC, *]))))
  all_goals first
    | ((first | refine W_ret res25 hQ ?_ | refine W_norm res25 hQ ?_ | refine G_pan hQ ?_)
       (refine ⟨_, _, Wk.of_eq ?_, ?_, rfl, rfl⟩)
       · simp [pgmB]; omega
       · (exact z_fg))
    | skip
  have hs32 : ds.length ≤ 32 ∧ cs.length ≤ 32 ∧ rs.length ≤ 64 := by omega
  have HS := Lib.hid hs32
  clear hs32
  have hb0 : s.set b (.obj 26 [.lst (ds.map dmC) .no, .lst (cs.map dclC) .no, .lst (rs.map rulC) .no]) b = .obj 26 [.lst (ds.map dmC) .no, .lst (cs.map dclC) .no, .lst (rs.map rulC) .no] := St.set_same _ _ _
  have hF0 : Fg (s.set b (.obj 26 [.lst (ds.map dmC) .no, .lst (cs.map dclC) .no, .lst (rs.map rulC) .no])) s := Fg.of_set _ hb
  obtain ⟨bp, hbp⟩ : ∃ bp, bp = b := ⟨_, rfl⟩
  subst hbp
  generalize s.set bp (.obj 26 [.lst (ds.map dmC) .no, .lst (cs.map dclC) .no, .lst (rs.map rulC) .no]) = B at *
  have hbf : B bp ≠ .free := by rw [hb0]; simp
  have HF := Lib.hid hF0
  rename_i q1 q2
  clear hF0 hb q1 q2 h
  refine G_loop (fun m env s' => ∃ i : Nat, i ≤ ds.length ∧ m + i = ds.length ∧ s' = B ∧ (ds.take i).all dmB = true ∧ env 1 = .ptr bp 0 ∧ env 3 = .int .i64 i) ds.length ?_ ?_
  · exact ⟨B, Fg.refl _, 0, by omega, by omega, rfl, rfl, z_sl, z_sl⟩
  · rintro m env s' ⟨i, hi, hm, rfl, hall, e1, e3⟩
    by_cases hlt : i < ds.length
    · obtain ⟨c, hc⟩ := uget hlt
      have hsx := dmC_at hc
      have HX := Lib.hid hc
      have HH := Lib.hid hall
      clear hc hall
      obtain ⟨cn, cz⟩ := c
      have w1 := fun s => Rnm11_S cn s
      have w2 := fun s => Rnr11_S cz s
      cases hn : nameB cn
      all_goals cases hz : (decide (0 ≤ cz) && decide (cz ≤ 9999999999))
      all_goals rw [hn] at w1
      all_goals rw [hz] at w2
      all_goals
        (repeat' (first | refine Ctl ?_ | ((with_reducible refine Kof.use hK ?_); clear hK hE K E) | ((with_reducible refine Eof.use hE ?_); (try clear hK hE K E)) | ((with_reducible refine W_cond (fun h => ?_) (fun h => ?_)) <;> (try (exfalso; first | assumption | omega))) | ((first | (with_reducible first | refine G_region fun K E hK hE => ?_ | refine call_ret can43 (w1 _) ?_ | refine call_ret can44 (w2 _) ?_ | refine call_ret can43 (Rnm11_S _ _) ?_ | refine call_ret can44 (Rnr11_S _ _) ?_ | refine call_ret can45 (Ratom11_S _ _ (by assumption) _) ?_ | refine W_if ?_ | refine W_ifS ?_ | refine W_and ?_) | ((with_reducible refine W_fresh (fun b hb => ?_)); (repeat (obtain ⟨_, hb⟩ := hb))) | ((with_reducible refine W_gd (fun h => ?_) (fun h => ?_)) <;> (try (exfalso; first | assumption | omega)))) <;> (try simp (disch := first | assumption | omega) only [go_sem, seval, List.length_map, hsx, dmC, *]))))
      all_goals first
        | (have hres : pgmB ⟨ds, cs, rs⟩ = false := by unfold pgmB; simp only; rw [uall_not (p := dmB) HX.out (by simp [dmB, hn] at hz ⊢; try grind)]; simp
           (first | refine W_ret res25 hQ ?_ | refine W_norm res25 hQ ?_ | refine G_pan hQ ?_)
           (refine ⟨_, _, Wk.of_eq ?_, ?_, rfl, rfl⟩)
           · rw [hres]
           · exact HF.out)
        | exact ⟨s', Fg.refl _, m - 1, by omega, i + 1, by omega, by omega, rfl, uall_take HH.out HX.out (by simp [dmB, hn] at hz ⊢; grind), z_sl, z_sl⟩
    · have hiL : i = ds.length := by omega
      rw [hiL, List.take_length] at hall
      have HA := Lib.hid hall
      clear hall
      (repeat' (first | refine Ctl ?_ | ((with_reducible refine Kof.use hK ?_); clear hK hE K E) | ((with_reducible refine Eof.use hE ?_); (try clear hK hE K E)) | ((with_reducible refine W_cond (fun h => ?_) (fun h => ?_)) <;> (try (exfalso; first | assumption | omega))) | ((first | (with_reducible first | refine G_region fun K E hK hE => ?_ | refine call_ret can43 (Rnm11_S _ _) ?_ | refine call_ret can44 (Rnr11_S _ _) ?_ | refine call_ret can45 (Ratom11_S _ _ (by assumption) _) ?_ | refine W_if ?_ | refine W_ifS ?_ | refine W_and ?_) | ((with_reducible refine W_fresh (fun b hb => ?_)); (repeat (obtain ⟨_, hb⟩ := hb))) | ((with_reducible refine W_gd (fun h => ?_) (fun h => ?_)) <;> (try (exfalso; first | assumption | omega)))) <;> (try simp (disch := first | assumption | omega) only [go_sem, seval, List.length_map, *]))))
      clear e3 h hlt hiL hi hm
      refine G_loop (fun m env t => ∃ i : Nat, i ≤ cs.length ∧ m + i = cs.length ∧ t = s' ∧ (cs.take i).all dclB = true ∧ env 1 = .ptr bp 0 ∧ env 4 = .int .i64 i) cs.length ?_ ?_
      · exact ⟨s', Fg.refl _, 0, by omega, by omega, rfl, rfl, z_sl, z_sl⟩
      · clear e1 env
        rintro m env t ⟨i, hi, hm, rfl, hall, e1, e4⟩
        by_cases hlt : i < cs.length
        · obtain ⟨c, hc⟩ := uget hlt
          obtain ⟨hc1, hc2, hc3⟩ := h5 c (List.mem_of_getElem? hc)
          have hsx := dclC_at hc
          have HX := Lib.hid hc
          have HH := Lib.hid hall
          clear hc hall
          obtain ⟨cn, cd⟩ := c
          simp only at hc1 hc2 hc3
          have hsl : (strs cd).length = cd.length := by simp [strs]
          (repeat' (first | refine Ctl ?_ | ((with_reducible refine Kof.use hK ?_); clear hK hE K E) | ((with_reducible refine Eof.use hE ?_); (try clear hK hE K E)) | ((with_reducible refine W_cond (fun h => ?_) (fun h => ?_)) <;> (try (exfalso; first | assumption | omega))) | ((first | (with_reducible first | refine G_region fun K E hK hE => ?_ | refine call_ret can43 (Rnm11_S _ _) ?_ | refine W_if ?_ | refine W_ifS ?_ | refine W_and ?_) | ((with_reducible refine W_fresh (fun b hb => ?_)); (repeat (obtain ⟨_, hb⟩ := hb))) | ((with_reducible refine W_gd (fun h => ?_) (fun h => ?_)) <;> (try (exfalso; first | assumption | omega)))) <;> (try simp (disch := first | assumption | omega) only [go_sem, seval, List.length_map, hsx, dclC, hsl, *]))))
          all_goals first
            | (have hres : pgmB ⟨ds, cs, rs⟩ = false := by unfold pgmB; simp only; rw [uall_not (p := dclB) HX.out (dclB_bad (by first | exact .inl (by assumption) | exact .inr (.inl (by omega)) | exact .inr (.inr (by omega))))]; simp
               (first | refine W_ret res25 hQ ?_ | refine W_norm res25 hQ ?_ | refine G_pan hQ ?_)
               (refine ⟨_, _, Wk.of_eq ?_, ?_, rfl, rfl⟩)
               · rw [hres]
               · exact (Fg.of_set _ hb).trans HF.out)
            | skip
          have HG : nameB cn = true ∧ cd.length ≠ 0 ∧ cd.length ≤ 8 := ⟨by assumption, by omega, by omega⟩
          obtain ⟨bd, hbd⟩ : ∃ x, x = b := ⟨_, rfl⟩
          subst hbd
          have hd0 : t.set bd (.obj 44 [.str cn, .lst (strs cd) .no]) bd = .obj 44 [.str cn, .lst (strs cd) .no] := St.set_same _ _ _
          have hp0 : t.set bd (.obj 44 [.str cn, .lst (strs cd) .no]) bp = .obj 26 [.lst (ds.map dmC) .no, .lst (cs.map dclC) .no, .lst (rs.map rulC) .no] := by rw [St.set_other _ _ (by intro e; rw [e] at hbf; exact hbf hb)]; exact hb0
          have hFd : Fg (t.set bd (.obj 44 [.str cn, .lst (strs cd) .no])) t := Fg.of_set _ hb
          generalize t.set bd (.obj 44 [.str cn, .lst (strs cd) .no]) = D at *
          have HFD := Lib.hid hFd
          clear hFd
          refine G_loop (fun m2 env t' => ∃ j : Nat, j ≤ cd.length ∧ m2 + j = cd.length ∧ t' = D ∧ (cd.take j).all nameB = true ∧ env 1 = .ptr bp 0 ∧ env 4 = .int .i64 i ∧ env 5 = .ptr bd 0 ∧ env 6 = .int .i64 j) cd.length ?_ ?_
          · exact ⟨D, Fg.refl _, 0, by omega, by omega, rfl, rfl, z_sl, z_sl, z_sl, z_sl⟩
          · clear e1 e4 env
            rintro m2 env t' ⟨j, hj, hm2, rfl, hall, e1, e4, e5, e6⟩
            by_cases hlt2 : j < cd.length
            · obtain ⟨c, hc⟩ := uget hlt2
              have hsy := strs_at hc
              have HY := Lib.hid hc
              have HH2 := Lib.hid hall
              clear hc hall
              (repeat' (first | refine Ctl ?_ | ((with_reducible refine Kof.use hK ?_); clear hK hE K E) | ((with_reducible refine Eof.use hE ?_); (try clear hK hE K E)) | ((with_reducible refine W_cond (fun h => ?_) (fun h => ?_)) <;> (try (exfalso; first | assumption | omega))) | ((first | (with_reducible first | refine G_region fun K E hK hE => ?_ | refine call_ret can43 (Rnm11_S _ _) ?_ | refine W_if ?_ | refine W_ifS ?_ | refine W_and ?_) | ((with_reducible refine W_fresh (fun b hb => ?_)); (repeat (obtain ⟨_, hb⟩ := hb))) | ((with_reducible refine W_gd (fun h => ?_) (fun h => ?_)) <;> (try (exfalso; first | assumption | omega)))) <;> (try simp (disch := first | assumption | omega) only [go_sem, seval, List.length_map, hsy, hsl, *]))))
              all_goals first
                | (have hres : pgmB ⟨ds, cs, rs⟩ = false := by unfold pgmB; simp only; rw [uall_not (p := dclB) HX.out (by unfold dclB; simp only; rw [uall_not (p := nameB) HY.out (by assumption)]; simp)]; simp
                   (first | refine W_ret res25 hQ ?_ | refine W_norm res25 hQ ?_ | refine G_pan hQ ?_)
                   (refine ⟨_, _, Wk.of_eq ?_, ?_, rfl, rfl⟩)
                   · rw [hres]
                   · exact HFD.out.trans HF.out)
                | exact ⟨t', Fg.refl _, m2 - 1, by omega, j + 1, by omega, by omega, rfl, uall_take HH2.out HY.out (by assumption), z_sl, z_sl, z_sl, z_sl⟩
            · have hjL : j = cd.length := by omega
              rw [hjL, List.take_length] at hall
              have HA2 := Lib.hid hall
              clear hall
              (repeat' (first | refine Ctl ?_ | ((with_reducible refine Kof.use hK ?_); clear hK hE K E) | ((with_reducible refine Eof.use hE ?_); (try clear hK hE K E)) | ((with_reducible refine W_cond (fun h => ?_) (fun h => ?_)) <;> (try (exfalso; first | assumption | omega))) | ((first | (with_reducible first | refine G_region fun K E hK hE => ?_ | refine call_ret can43 (Rnm11_S _ _) ?_ | refine call_ret can44 (Rnr11_S _ _) ?_ | refine call_ret can45 (Ratom11_S _ _ (by assumption) _) ?_ | refine W_if ?_ | refine W_ifS ?_ | refine W_and ?_) | ((with_reducible refine W_fresh (fun b hb => ?_)); (repeat (obtain ⟨_, hb⟩ := hb))) | ((with_reducible refine W_gd (fun h => ?_) (fun h => ?_)) <;> (try (exfalso; first | assumption | omega)))) <;> (try simp (disch := first | assumption | omega) only [go_sem, seval, List.length_map, hsl, *]))))
              exact ⟨t, HFD.out, m - 1, by omega, i + 1, by omega, by omega, rfl, uall_take HH.out HX.out (by have := HA2.out; simp [dclB, HG, this]), z_sl, z_sl⟩
        · have hiL : i = cs.length := by omega
          rw [hiL, List.take_length] at hall
          have HA2 := Lib.hid hall
          clear hall
          (repeat' (first | refine Ctl ?_ | ((with_reducible refine Kof.use hK ?_); clear hK hE K E) | ((with_reducible refine Eof.use hE ?_); (try clear hK hE K E)) | ((with_reducible refine W_cond (fun h => ?_) (fun h => ?_)) <;> (try (exfalso; first | assumption | omega))) | ((first | (with_reducible first | refine G_region fun K E hK hE => ?_ | refine call_ret can43 (Rnm11_S _ _) ?_ | refine call_ret can44 (Rnr11_S _ _) ?_ | refine call_ret can45 (Ratom11_S _ _ (by assumption) _) ?_ | refine W_if ?_ | refine W_ifS ?_ | refine W_and ?_) | ((with_reducible refine W_fresh (fun b hb => ?_)); (repeat (obtain ⟨_, hb⟩ := hb))) | ((with_reducible refine W_gd (fun h => ?_) (fun h => ?_)) <;> (try (exfalso; first | assumption | omega)))) <;> (try simp (disch := first | assumption | omega) only [go_sem, seval, List.length_map, *]))))
          clear e4 h hlt hiL hi hm
          refine G_loop (fun m env s' => ∃ i : Nat, i ≤ rs.length ∧ m + i = rs.length ∧ s' = t ∧ (rs.take i).all rulB = true ∧ env 1 = .ptr bp 0 ∧ env 7 = .int .i64 i) rs.length ?_ ?_
          · exact ⟨t, Fg.refl _, 0, by omega, by omega, rfl, rfl, z_sl, z_sl⟩
          · clear e1 env
            rintro m env s' ⟨i, hi, hm, rfl, hall, e1, e7⟩
            by_cases hlt : i < rs.length
            · obtain ⟨c, hc⟩ := uget hlt
              obtain ⟨hc1, hc2, hc3⟩ := h6 c (List.mem_of_getElem? hc)
              have hsx := rulC_at hc
              have HX := Lib.hid hc
              have HH := Lib.hid hall
              clear hc hall
              obtain ⟨⟨hn, hr, ht⟩, cb⟩ := c
              simp only at hc1 hc2 hc3
              have w1 := fun s => Ratom11_S ⟨hn, hr, ht⟩ .no hc1 s
              simp only at w1
              cases hn
              all_goals
                (repeat' (first | refine Ctl ?_ | ((with_reducible refine Kof.use hK ?_); clear hK hE K E) | ((with_reducible refine Eof.use hE ?_); (try clear hK hE K E)) | ((with_reducible refine W_cond (fun h => ?_) (fun h => ?_)) <;> (try (exfalso; first | assumption | omega))) | ((first | (with_reducible first | refine G_region fun K E hK hE => ?_ | refine call_ret can45 (w1 _) ?_ | refine call_ret can43 (Rnm11_S _ _) ?_ | refine call_ret can44 (Rnr11_S _ _) ?_ | refine call_ret can45 (Ratom11_S _ _ (by assumption) _) ?_ | refine W_if ?_ | refine W_ifS ?_ | refine W_and ?_) | ((with_reducible refine W_fresh (fun b hb => ?_)); (repeat (obtain ⟨_, hb⟩ := hb))) | ((with_reducible refine W_gd (fun h => ?_) (fun h => ?_)) <;> (try (exfalso; first | assumption | omega)))) <;> (try simp (disch := first | assumption | omega) only [go_sem, seval, List.length_map, hsx, rulC, *]))))
              all_goals first
                | (have hres : pgmB ⟨ds, cs, rs⟩ = false := by unfold pgmB; simp only; rw [uall_not (p := rulB) HX.out (rulB_bad (by first | exact .inl rfl | exact .inr (.inl (by assumption)) | exact .inr (.inr (.inl (of_eq_true (by assumption)))) | exact .inr (.inr (.inr (.inl (of_eq_true (by assumption))))) | exact .inr (.inr (.inr (.inr (by omega))))))]; simp
                   (first | refine W_ret res25 hQ ?_ | refine W_norm res25 hQ ?_ | refine G_pan hQ ?_)
                   (refine ⟨_, _, Wk.of_eq ?_, ?_, rfl, rfl⟩)
                   · rw [hres]
                   · exact (Fg.of_set _ hb).trans HF.out)
                | skip
              have HG : atmB ⟨false, hr, ht⟩ = true ∧ ¬ hr = [100, 111, 109] ∧ ¬ hr = [114, 101, 108] ∧ cb.length ≤ 8 := ⟨by assumption, by assumption, by assumption, by omega⟩
              clear w1
              obtain ⟨bd, hbd⟩ : ∃ x, x = b := ⟨_, rfl⟩
              subst hbd
              have hd0 : s'.set bd (.obj 50 [.bool false, .str hr, .lst (ht.map trmC) .no, .lst (cb.map atmC) .no]) bd = .obj 50 [.bool false, .str hr, .lst (ht.map trmC) .no, .lst (cb.map atmC) .no] := St.set_same _ _ _
              have hp0 : s'.set bd (.obj 50 [.bool false, .str hr, .lst (ht.map trmC) .no, .lst (cb.map atmC) .no]) bp = .obj 26 [.lst (ds.map dmC) .no, .lst (cs.map dclC) .no, .lst (rs.map rulC) .no] := by rw [St.set_other _ _ (by intro e; rw [e] at hbf; exact hbf hb)]; exact hb0
              have hFd : Fg (s'.set bd (.obj 50 [.bool false, .str hr, .lst (ht.map trmC) .no, .lst (cb.map atmC) .no])) s' := Fg.of_set _ hb
              generalize s'.set bd (.obj 50 [.bool false, .str hr, .lst (ht.map trmC) .no, .lst (cb.map atmC) .no]) = D at *
              have HFD := Lib.hid hFd
              clear hFd
              refine G_loop (fun m2 env t' => ∃ j : Nat, j ≤ cb.length ∧ m2 + j = cb.length ∧ t' = D ∧ (cb.take j).all atmB = true ∧ env 1 = .ptr bp 0 ∧ env 7 = .int .i64 i ∧ env 8 = .ptr bd 0 ∧ env 9 = .int .i64 j) cb.length ?_ ?_
              · exact ⟨D, Fg.refl _, 0, by omega, by omega, rfl, rfl, z_sl, z_sl, z_sl, z_sl⟩
              · clear e1 e7 env
                rintro m2 env t' ⟨j, hj, hm2, rfl, hall, e1, e7, e8, e9⟩
                by_cases hlt2 : j < cb.length
                · obtain ⟨c, hc⟩ := uget hlt2
                  have hcl := hc3 c (List.mem_of_getElem? hc)
                  have hsy := atmC_at hc
                  have HY := Lib.hid hc
                  have HH2 := Lib.hid hall
                  clear hc hall
                  obtain ⟨an, ar, at_⟩ := c
                  have w1 := fun s => Ratom11_S ⟨an, ar, at_⟩ .no hcl s
                  simp only at w1
                  (repeat' (first | refine Ctl ?_ | ((with_reducible refine Kof.use hK ?_); clear hK hE K E) | ((with_reducible refine Eof.use hE ?_); (try clear hK hE K E)) | ((with_reducible refine W_cond (fun h => ?_) (fun h => ?_)) <;> (try (exfalso; first | assumption | omega))) | ((first | (with_reducible first | refine G_region fun K E hK hE => ?_ | refine call_ret can45 (w1 _) ?_ | refine call_ret can43 (Rnm11_S _ _) ?_ | refine call_ret can44 (Rnr11_S _ _) ?_ | refine call_ret can45 (Ratom11_S _ _ (by assumption) _) ?_ | refine W_if ?_ | refine W_ifS ?_ | refine W_and ?_) | ((with_reducible refine W_fresh (fun b hb => ?_)); (repeat (obtain ⟨_, hb⟩ := hb))) | ((with_reducible refine W_gd (fun h => ?_) (fun h => ?_)) <;> (try (exfalso; first | assumption | omega)))) <;> (try simp (disch := first | assumption | omega) only [go_sem, seval, List.length_map, hsy, atmC, *]))))
                  all_goals first
                    | (have hres : pgmB ⟨ds, cs, rs⟩ = false := by unfold pgmB; simp only; rw [uall_not (p := rulB) HX.out (by unfold rulB; simp only; rw [uall_not (p := atmB) HY.out (by assumption)]; simp)]; simp
                       (first | refine W_ret res25 hQ ?_ | refine W_norm res25 hQ ?_ | refine G_pan hQ ?_)
                       (refine ⟨_, _, Wk.of_eq ?_, ?_, rfl, rfl⟩)
                       · rw [hres]
                       · exact HFD.out.trans HF.out)
                    | exact ⟨t', Fg.refl _, m2 - 1, by omega, j + 1, by omega, by omega, rfl, uall_take HH2.out HY.out (by assumption), z_sl, z_sl, z_sl, z_sl⟩
                · have hjL : j = cb.length := by omega
                  rw [hjL, List.take_length] at hall
                  have HA3 := Lib.hid hall
                  clear hall
                  (repeat' (first | refine Ctl ?_ | ((with_reducible refine Kof.use hK ?_); clear hK hE K E) | ((with_reducible refine Eof.use hE ?_); (try clear hK hE K E)) | ((with_reducible refine W_cond (fun h => ?_) (fun h => ?_)) <;> (try (exfalso; first | assumption | omega))) | ((first | (with_reducible first | refine G_region fun K E hK hE => ?_ | refine call_ret can43 (Rnm11_S _ _) ?_ | refine call_ret can44 (Rnr11_S _ _) ?_ | refine call_ret can45 (Ratom11_S _ _ (by assumption) _) ?_ | refine W_if ?_ | refine W_ifS ?_ | refine W_and ?_) | ((with_reducible refine W_fresh (fun b hb => ?_)); (repeat (obtain ⟨_, hb⟩ := hb))) | ((with_reducible refine W_gd (fun h => ?_) (fun h => ?_)) <;> (try (exfalso; first | assumption | omega)))) <;> (try simp (disch := first | assumption | omega) only [go_sem, seval, List.length_map, *]))))
                  exact ⟨s', HFD.out, m - 1, by omega, i + 1, by omega, by omega, rfl, uall_take HH.out HX.out (by have := HA3.out; simp [rulB, HG, this]), z_sl, z_sl⟩
            · have hiL : i = rs.length := by omega
              rw [hiL, List.take_length] at hall
              have HA3 := Lib.hid hall
              clear hall
              (repeat' (first | refine Ctl ?_ | ((with_reducible refine Kof.use hK ?_); clear hK hE K E) | ((with_reducible refine Eof.use hE ?_); (try clear hK hE K E)) | ((with_reducible refine W_cond (fun h => ?_) (fun h => ?_)) <;> (try (exfalso; first | assumption | omega))) | ((first | (with_reducible first | refine G_region fun K E hK hE => ?_ | refine call_ret can43 (Rnm11_S _ _) ?_ | refine call_ret can44 (Rnr11_S _ _) ?_ | refine call_ret can45 (Ratom11_S _ _ (by assumption) _) ?_ | refine W_if ?_ | refine W_ifS ?_ | refine W_and ?_) | ((with_reducible refine W_fresh (fun b hb => ?_)); (repeat (obtain ⟨_, hb⟩ := hb))) | ((with_reducible refine W_gd (fun h => ?_) (fun h => ?_)) <;> (try (exfalso; first | assumption | omega)))) <;> (try simp (disch := first | assumption | omega) only [go_sem, seval, List.length_map, *]))))
              all_goals (first | refine W_ret res25 hQ ?_ | refine W_norm res25 hQ ?_ | refine G_pan hQ ?_)
              all_goals (refine ⟨_, _, Wk.of_eq ?_, ?_, rfl, rfl⟩)
              · have k1 := HA.out; have k2 := HA2.out; have k3 := HA3.out; simp [pgmB, k1, k2, k3, HS.out]
              · exact HF.out
end Go.Proofs.YtdibndmkeipgbaaGreatDoor
set_option maxRecDepth 100000
namespace Go.Proofs.YtdibndmkeipgbaaGreatDoor
open Go.RowKit

theorem bytesU_len {l : List UInt8} : (bytesV l).length = l.length := by simp [bytesV]
theorem bytesU_app {a b : List UInt8} : bytesV a ++ bytesV b = bytesV (a ++ b) := by simp [bytesV]
section
attribute [local go_sem] bytesU_len bytesU_app List.length_append
end
end Go.Proofs.YtdibndmkeipgbaaGreatDoor
