/- What is proved: What package osierref11's sameAtom and sameRule hand back. Conditions: lists of at most 2^47 parts; What package osierref11's sameRule and Same hand back. Conditions: lists of at most 2^47 parts; What package osierref11's Same hands back. Conditions: lists of at most 2^47 parts; That package osierref11's Few answers. Conditions: lists of at most 2^47 parts. Conditions: those that stand in the statements. -/
import Derived.Test.YtdibndmkeipgbaaGreatDoorZGpj
import Derived.Test.YtdibndmkeipgbaaGreatDoorZUlj
set_option linter.unusedSimpArgs false
set_option linter.unusedVariables false
set_option maxRecDepth 100000
namespace Go.Proofs.YtdibndmkeipgbaaGreatDoor
open Go.RowKit

end Go.Proofs.YtdibndmkeipgbaaGreatDoor
set_option maxRecDepth 100000
namespace Go.Proofs.YtdibndmkeipgbaaGreatDoor
open Go.RowKit

end Go.Proofs.YtdibndmkeipgbaaGreatDoor
set_option maxRecDepth 100000
namespace Go.Proofs.YtdibndmkeipgbaaGreatDoor
open Go.RowKit

end Go.Proofs.YtdibndmkeipgbaaGreatDoor
set_option maxRecDepth 100000
namespace Go.Proofs.YtdibndmkeipgbaaGreatDoor
open Go.RowKit

theorem min_anyU {k : IntKind} {a b : Int} : vminmax false (.int k a) (.int k b) = some (.int k (if b < a then b else a)) := by
  simp only [vminmax, if_true, Bool.false_eq_true, if_false]
set_option maxHeartbeats 2000000 in
theorem Ufew_S (a : Atm) (o0 : Own) (ha : a.ts.length ≤ 140737488355328) (s : St) : SCalls Tryz.prog 15 [.agg [.bool a.not, .str a.rel, .lst (a.ts.map trmC) o0]] s fun w u => ∃ r : Int, w = .ret (.int .i64 r) ∧ u = s ∧ True := by
  obtain ⟨an, ar, ats⟩ := a
  simp only at ha ⊢
  refine G_enter Tryz.func15 rfl Tryz.ntmps15 rfl fun Q hQ hQe => ?_
  (repeat' (first | refine Ctl ?_ | ((with_reducible refine Kof.use hK ?_); clear hK hE K E) | ((with_reducible refine Eof.use hE ?_); (try clear hK hE K E)) | ((with_reducible refine W_cond (fun h => ?_) (fun h => ?_)) <;> (try (exfalso; first | assumption | omega))) | ((first | (with_reducible first | refine G_region fun K E hK hE => ?_ | refine W_if ?_ | refine W_ifS ?_ | refine W_and ?_) | ((with_reducible refine W_fresh (fun b hb => ?_)); (repeat (obtain ⟨_, hb⟩ := hb)))) <;> (try simp (disch := first | assumption | omega) only [go_sem, seval, List.length_map, min_anyU, *]))))
  · (first | refine W_ret res15 hQ ?_ | refine W_norm res15 hQ ?_ | refine G_pan hQ ?_)
    exact ⟨_, _, Wk.refl _, z_fg, _, rfl, rfl, trivial⟩
  all_goals
    obtain ⟨bx, hbx⟩ : ∃ z, z = b := ⟨_, rfl⟩
    subst hbx
    refine G_loop (fun m env s' => ∃ (i : Nat) (n : Int), i ≤ ats.length ∧ m + i = ats.length ∧ s' = s.set bx (.obj 47 [.bool an, .str ar, .lst (ats.map trmC) o0]) ∧
      env 1 = .ptr bx 0 ∧ env 3 = .int .i64 n ∧ env 4 = .int .i64 i) ats.length ⟨_, Fg.refl _, 0, _, by omega, by omega, rfl, z_sl, z_sr, z_sl⟩ ?_
    rintro m env s' ⟨i, n, hi, hm, rfl, e1, e3, e4⟩
    by_cases hlt : i < ats.length
    · obtain ⟨x, hx⟩ := uget hlt
      have hsx := trmC_at hx
      clear hx
      obtain ⟨xv, xn, xk⟩ := x
      (repeat' (first | refine Ctl ?_ | ((with_reducible refine Kof.use hK ?_); clear hK hE K E) | ((with_reducible refine Eof.use hE ?_); (try clear hK hE K E)) | ((with_reducible refine W_cond (fun h => ?_) (fun h => ?_)) <;> (try (exfalso; first | assumption | omega))) | ((first | (with_reducible first | refine G_region fun K E hK hE => ?_ | refine W_if ?_ | refine W_ifS ?_ | refine W_and ?_) | ((with_reducible refine W_fresh (fun b hb => ?_)); (repeat (obtain ⟨_, hb⟩ := hb)))) <;> (try simp (disch := first | assumption | omega) only [go_sem, seval, List.length_map, hsx, trmC, min_anyU, *]))))
      all_goals exact ⟨_, z_fg, m - 1, by omega, i + 1, _, by omega, by omega, rfl, z_sl, z_sr, z_sl⟩
    · (repeat' (first | refine Ctl ?_ | ((with_reducible refine Kof.use hK ?_); clear hK hE K E) | ((with_reducible refine Eof.use hE ?_); (try clear hK hE K E)) | ((with_reducible refine W_cond (fun h => ?_) (fun h => ?_)) <;> (try (exfalso; first | assumption | omega))) | ((first | (with_reducible first | refine G_region fun K E hK hE => ?_ | refine W_if ?_ | refine W_ifS ?_ | refine W_and ?_) | ((with_reducible refine W_fresh (fun b hb => ?_)); (repeat (obtain ⟨_, hb⟩ := hb)))) <;> (try simp (disch := first | assumption | omega) only [go_sem, seval, List.length_map, *]))))
      all_goals (first | refine W_ret res15 hQ ?_ | refine W_norm res15 hQ ?_ | refine G_pan hQ ?_)
      all_goals exact ⟨_, _, Wk.refl _, z_fg, _, rfl, rfl, trivial⟩
def FewB (a : Pgm) : Prop := a.doms.length ≤ 40 ∧ a.decls.length ≤ 40 ∧ a.rules.length ≤ 80 ∧ (∀ d, d ∈ a.decls → d.doms.length ≤ 10) ∧ ∀ r, r ∈ a.rules → r.body.length ≤ 10
set_option maxHeartbeats 4000000 in
theorem UFewB_S (a : Pgm) (ha : PgmOk a) (s : St) : SCalls Tryz.prog 5 [.agg (pgC a)] s fun w u => ∃ r : Bool, w = .ret (.bool r) ∧ u = s ∧ (r = true → FewB a) := by
  obtain ⟨ad, ac, ar⟩ := a
  obtain ⟨hd, hc, hr, _, hdc, hrr⟩ := ha
  simp only at hd hc hr hdc hrr
  refine G_enter Tryz.func5 rfl Tryz.ntmps5 rfl fun Q hQ hQe => ?_
  (repeat' (first | refine Ctl ?_ | ((with_reducible refine Kof.use hK ?_); clear hK hE K E) | ((with_reducible refine Eof.use hE ?_); (try clear hK hE K E)) | ((with_reducible refine W_cond (fun h => ?_) (fun h => ?_)) <;> (try (exfalso; first | assumption | omega))) | ((first | (with_reducible first | refine G_region fun K E hK hE => ?_ | refine W_if ?_ | refine W_ifS ?_ | refine W_and ?_) | ((with_reducible refine call_ex can15 (Ufew_S _ _ (by assumption) _) (fun a h => ?_))) | ((with_reducible refine W_fresh (fun b hb => ?_)); (repeat (obtain ⟨_, hb⟩ := hb))) | ((with_reducible refine W_gd (fun h => ?_) (fun h => ?_)) <;> (try (exfalso; first | assumption | omega)))) <;> (try simp (disch := first | assumption | omega) only [go_sem, seval, pgC, List.length_map, *]))))
  all_goals first
    | ((first | refine W_ret res5 hQ ?_ | refine W_norm res5 hQ ?_ | refine G_pan hQ ?_)
       exact ⟨_, _, Wk.refl _, z_fg, _, rfl, rfl, (fun h => by cases h)⟩)
    | skip
  obtain ⟨b2, hbx⟩ : ∃ z, z = b := ⟨_, rfl⟩
  subst hbx
  have HB := Lib.hid (show ad.length ≤ 40 ∧ ac.length ≤ 40 ∧ ar.length ≤ 80 by omega)
  have h2 : (s.set b2 (.obj 26 [.lst (ad.map dmC) .no, .lst (ac.map dclC) .no, .lst (ar.map rulC) .no])) b2 = .obj 26 [.lst (ad.map dmC) .no, .lst (ac.map dclC) .no, .lst (ar.map rulC) .no] := St.set_same _ _ _
  have hF : Fg (s.set b2 (.obj 26 [.lst (ad.map dmC) .no, .lst (ac.map dclC) .no, .lst (ar.map rulC) .no])) s := z_fg
  generalize (s.set b2 (.obj 26 [.lst (ad.map dmC) .no, .lst (ac.map dclC) .no, .lst (ar.map rulC) .no])) = S at *
  have HF := Lib.hid hF
  clear hF hb
  refine G_loop (fun m env s' => ∃ (i : Nat) (n : Int), i ≤ ad.length ∧ m + i = ad.length ∧ s' = S ∧ env 1 = .ptr b2 0 ∧ env 3 = .int .i64 n ∧ env 4 = .int .i64 i) ad.length ⟨_, Fg.refl _, 0, _, by omega, by omega, rfl, z_sl, z_sr, z_sl⟩ ?_
  rintro m env s' ⟨i, n, hi, hm, rfl, e1, e3, e4⟩
  by_cases hlt : i < ad.length
  · obtain ⟨x, hx⟩ := uget hlt
    have hsx := dmC_at hx
    clear hx
    obtain ⟨xn, xk⟩ := x
    (repeat' (first | refine Ctl ?_ | ((with_reducible refine Kof.use hK ?_); clear hK hE K E) | ((with_reducible refine Eof.use hE ?_); (try clear hK hE K E)) | ((with_reducible refine W_cond (fun h => ?_) (fun h => ?_)) <;> (try (exfalso; first | assumption | omega))) | ((first | (with_reducible first | refine G_region fun K E hK hE => ?_ | refine W_if ?_ | refine W_ifS ?_ | refine W_and ?_) | ((with_reducible refine call_ex can15 (Ufew_S _ _ (by assumption) _) (fun a h => ?_))) | ((with_reducible refine W_fresh (fun b hb => ?_)); (repeat (obtain ⟨_, hb⟩ := hb))) | ((with_reducible refine W_gd (fun h => ?_) (fun h => ?_)) <;> (try (exfalso; first | assumption | omega)))) <;> (try simp (disch := first | assumption | omega) only [go_sem, seval, List.length_map, hsx, dmC, min_anyU, *]))))
    all_goals exact ⟨_, z_fg, m - 1, by omega, i + 1, _, by omega, by omega, rfl, z_sl, z_sr, z_sl⟩
  · (repeat' (first | refine Ctl ?_ | ((with_reducible refine Kof.use hK ?_); clear hK hE K E) | ((with_reducible refine Eof.use hE ?_); (try clear hK hE K E)) | ((with_reducible refine W_cond (fun h => ?_) (fun h => ?_)) <;> (try (exfalso; first | assumption | omega))) | ((first | (with_reducible first | refine G_region fun K E hK hE => ?_ | refine W_if ?_ | refine W_ifS ?_ | refine W_and ?_) | ((with_reducible refine call_ex can15 (Ufew_S _ _ (by assumption) _) (fun a h => ?_))) | ((with_reducible refine W_fresh (fun b hb => ?_)); (repeat (obtain ⟨_, hb⟩ := hb))) | ((with_reducible refine W_gd (fun h => ?_) (fun h => ?_)) <;> (try (exfalso; first | assumption | omega)))) <;> (try simp (disch := first | assumption | omega) only [go_sem, seval, List.length_map, *]))))
    clear e4 hlt hi hm h
    refine G_loop (fun m env s'' => ∃ (i : Nat) (n : Int), i ≤ ac.length ∧ m + i = ac.length ∧ Hid (∀ d, d ∈ ac.take i → d.doms.length ≤ 10) ∧ s'' = s' ∧ env 1 = .ptr b2 0 ∧ env 3 = .int .i64 n ∧ env 5 = .int .i64 i) ac.length ⟨_, Fg.refl _, 0, _, by omega, by omega, Lib.hid (fun d hd => by simp at hd), rfl, z_sl, z_sr, z_sl⟩ ?_
    clear e1 e3 env i m n
    rintro m env S ⟨i, n, hi, hm, HD, rfl, e1, e3, e5⟩
    by_cases hlt : i < ac.length
    · obtain ⟨x, hx⟩ := uget hlt
      have hsx := dclC_at hx
      have hxo := (hdc x (List.mem_of_getElem? hx)).2.1
      have HX := Lib.hid hx
      clear hx
      obtain ⟨xn, xs⟩ := x
      simp only at hxo
      have hlx : (strs xs).length = xs.length := by simp [strs]
      (repeat' (first | refine Ctl ?_ | ((with_reducible refine Kof.use hK ?_); clear hK hE K E) | ((with_reducible refine Eof.use hE ?_); (try clear hK hE K E)) | ((with_reducible refine W_cond (fun h => ?_) (fun h => ?_)) <;> (try (exfalso; first | assumption | omega))) | ((first | (with_reducible first | refine G_region fun K E hK hE => ?_ | refine W_if ?_ | refine W_ifS ?_ | refine W_and ?_) | ((with_reducible refine call_ex can15 (Ufew_S _ _ (by assumption) _) (fun a h => ?_))) | ((with_reducible refine W_fresh (fun b hb => ?_)); (repeat (obtain ⟨_, hb⟩ := hb))) | ((with_reducible refine W_gd (fun h => ?_) (fun h => ?_)) <;> (try (exfalso; first | assumption | omega)))) <;> (try simp (disch := first | assumption | omega) only [go_sem, seval, List.length_map, hsx, dclC, hlx, min_anyU, *]))))
      all_goals first
        | ((first | refine W_ret res5 hQ ?_ | refine W_norm res5 hQ ?_ | refine G_pan hQ ?_)
           exact ⟨_, _, Wk.refl _, HF.out, _, rfl, rfl, (fun h => by cases h)⟩)
        | skip
      all_goals
        have HD2 : Hid (∀ d, d ∈ ac.take (i + 1) → d.doms.length ≤ 10) := Lib.hid (by
          intro d hd
          rw [utake HX.out] at hd
          rcases List.mem_append.1 hd with h1 | h1
          · exact HD.out d h1
          · rw [List.mem_singleton] at h1; subst h1; show xs.length ≤ 10; omega)
        refine G_loop (fun m env s'' => ∃ (j : Nat) (n : Int), j ≤ xs.length ∧ m + j = xs.length ∧ s'' = S ∧ env 1 = .ptr b2 0 ∧ env 3 = .int .i64 n ∧ env 5 = .int .i64 i ∧ env 6 = .int .i64 j) xs.length ⟨_, Fg.refl _, 0, _, by omega, by omega, rfl, z_sl, z_sr, z_sl, z_sl⟩ ?_
        clear e1 e3 e5 env n
        rintro m2 env S2 ⟨j, n, hj, hm2, rfl, e1, e3, e5, e6⟩
        by_cases hlt2 : j < xs.length
        · obtain ⟨t, ht⟩ := uget hlt2
          have htx := strs_at ht
          clear ht
          (repeat' (first | refine Ctl ?_ | ((with_reducible refine Kof.use hK ?_); clear hK hE K E) | ((with_reducible refine Eof.use hE ?_); (try clear hK hE K E)) | ((with_reducible refine W_cond (fun h => ?_) (fun h => ?_)) <;> (try (exfalso; first | assumption | omega))) | ((first | (with_reducible first | refine G_region fun K E hK hE => ?_ | refine W_if ?_ | refine W_ifS ?_ | refine W_and ?_) | ((with_reducible refine call_ex can15 (Ufew_S _ _ (by assumption) _) (fun a h => ?_))) | ((with_reducible refine W_fresh (fun b hb => ?_)); (repeat (obtain ⟨_, hb⟩ := hb))) | ((with_reducible refine W_gd (fun h => ?_) (fun h => ?_)) <;> (try (exfalso; first | assumption | omega)))) <;> (try simp (disch := first | assumption | omega) only [go_sem, seval, List.length_map, hsx, dclC, hlx, htx, min_anyU, *]))))
          all_goals exact ⟨_, Fg.refl _, m2 - 1, by omega, j + 1, _, by omega, by omega, rfl, z_sl, z_sr, z_sl, z_sl⟩
        · (repeat' (first | refine Ctl ?_ | ((with_reducible refine Kof.use hK ?_); clear hK hE K E) | ((with_reducible refine Eof.use hE ?_); (try clear hK hE K E)) | ((with_reducible refine W_cond (fun h => ?_) (fun h => ?_)) <;> (try (exfalso; first | assumption | omega))) | ((first | (with_reducible first | refine G_region fun K E hK hE => ?_ | refine W_if ?_ | refine W_ifS ?_ | refine W_and ?_) | ((with_reducible refine call_ex can15 (Ufew_S _ _ (by assumption) _) (fun a h => ?_))) | ((with_reducible refine W_fresh (fun b hb => ?_)); (repeat (obtain ⟨_, hb⟩ := hb))) | ((with_reducible refine W_gd (fun h => ?_) (fun h => ?_)) <;> (try (exfalso; first | assumption | omega)))) <;> (try simp (disch := first | assumption | omega) only [go_sem, seval, List.length_map, hsx, dclC, hlx, *]))))
          all_goals exact ⟨_, Fg.refl _, m - 1, by omega, i + 1, _, by omega, by omega, HD2, rfl, z_sl, z_sr, z_sl⟩
    · (repeat' (first | refine Ctl ?_ | ((with_reducible refine Kof.use hK ?_); clear hK hE K E) | ((with_reducible refine Eof.use hE ?_); (try clear hK hE K E)) | ((with_reducible refine W_cond (fun h => ?_) (fun h => ?_)) <;> (try (exfalso; first | assumption | omega))) | ((first | (with_reducible first | refine G_region fun K E hK hE => ?_ | refine W_if ?_ | refine W_ifS ?_ | refine W_and ?_) | ((with_reducible refine call_ex can15 (Ufew_S _ _ (by assumption) _) (fun a h => ?_))) | ((with_reducible refine W_fresh (fun b hb => ?_)); (repeat (obtain ⟨_, hb⟩ := hb))) | ((with_reducible refine W_gd (fun h => ?_) (fun h => ?_)) <;> (try (exfalso; first | assumption | omega)))) <;> (try simp (disch := first | assumption | omega) only [go_sem, seval, List.length_map, *]))))
      have HD3 : Hid (∀ d, d ∈ ac → d.doms.length ≤ 10) := Lib.hid (by
        have := HD.out
        rw [List.take_of_length_le (by omega)] at this
        exact this)
      clear e5 hlt hi hm h HD
      refine G_loop (fun m env s'' => ∃ (i : Nat) (n : Int), i ≤ ar.length ∧ m + i = ar.length ∧ Hid (∀ d, d ∈ ar.take i → d.body.length ≤ 10) ∧ s'' = S ∧ env 1 = .ptr b2 0 ∧ env 3 = .int .i64 n ∧ env 7 = .int .i64 i) ar.length ⟨_, Fg.refl _, 0, _, by omega, by omega, Lib.hid (fun d hd => by simp at hd), rfl, z_sl, z_sr, z_sl⟩ ?_
      clear e1 e3 env i m n
      rintro m env s' ⟨i, n, hi, hm, HD, rfl, e1, e3, e7⟩
      by_cases hlt : i < ar.length
      · obtain ⟨x, hx⟩ := uget hlt
        have hsx := rulC_at hx
        obtain ⟨⟨_, hxh, _⟩, hxl, hxb⟩ := hrr x (List.mem_of_getElem? hx)
        have HX := Lib.hid hx
        clear hx
        obtain ⟨⟨xv, xn, xk⟩, xb⟩ := x
        simp only at hxl hxb hxh
        have w1 := fun s => Ufew_S ⟨xv, xn, xk⟩ .no hxh s
        simp only at w1
        (repeat' (first | refine Ctl ?_ | ((with_reducible refine Kof.use hK ?_); clear hK hE K E) | ((with_reducible refine Eof.use hE ?_); (try clear hK hE K E)) | ((with_reducible refine W_cond (fun h => ?_) (fun h => ?_)) <;> (try (exfalso; first | assumption | omega))) | ((first | (with_reducible first | refine G_region fun K E hK hE => ?_ | refine W_if ?_ | refine W_ifS ?_ | refine W_and ?_) | ((with_reducible refine call_ex can15 (w1 _) (fun a h => ?_))) | ((with_reducible refine call_ex can15 (Ufew_S _ _ (by assumption) _) (fun a h => ?_))) | ((with_reducible refine W_fresh (fun b hb => ?_)); (repeat (obtain ⟨_, hb⟩ := hb))) | ((with_reducible refine W_gd (fun h => ?_) (fun h => ?_)) <;> (try (exfalso; first | assumption | omega)))) <;> (try simp (disch := first | assumption | omega) only [go_sem, seval, List.length_map, hsx, rulC, *]))))
        all_goals first
          | ((first | refine W_ret res5 hQ ?_ | refine W_norm res5 hQ ?_ | refine G_pan hQ ?_)
             exact ⟨_, _, Wk.refl _, HF.out, _, rfl, rfl, (fun h => by cases h)⟩)
          | skip
        all_goals
          have HD2 : Hid (∀ d, d ∈ ar.take (i + 1) → d.body.length ≤ 10) := Lib.hid (by
            intro d hd
            rw [utake HX.out] at hd
            rcases List.mem_append.1 hd with h1 | h1
            · exact HD.out d h1
            · rw [List.mem_singleton] at h1; subst h1; show xb.length ≤ 10; omega)
          refine G_loop (fun m env s'' => ∃ (j : Nat) (n : Int), j ≤ xb.length ∧ m + j = xb.length ∧ s'' = s' ∧ env 1 = .ptr b2 0 ∧ env 3 = .int .i64 n ∧ env 7 = .int .i64 i ∧ env 8 = .int .i64 j) xb.length ⟨_, Fg.refl _, 0, _, by omega, by omega, rfl, z_sl, z_sr, z_sl, z_sl⟩ ?_
          clear e1 e3 e7 env n w1
          rintro m2 env S2 ⟨j, n, hj, hm2, rfl, e1, e3, e7, e8⟩
          by_cases hlt2 : j < xb.length
          · obtain ⟨t, ht⟩ := uget hlt2
            have htx := atmC_at ht
            have hto := (hxb t (List.mem_of_getElem? ht)).2.1
            clear ht
            obtain ⟨tv, tn, tk⟩ := t
            have w1 := fun s => Ufew_S ⟨tv, tn, tk⟩ .no hto s
            simp only at w1
            (repeat' (first | refine Ctl ?_ | ((with_reducible refine Kof.use hK ?_); clear hK hE K E) | ((with_reducible refine Eof.use hE ?_); (try clear hK hE K E)) | ((with_reducible refine W_cond (fun h => ?_) (fun h => ?_)) <;> (try (exfalso; first | assumption | omega))) | ((first | (with_reducible first | refine G_region fun K E hK hE => ?_ | refine W_if ?_ | refine W_ifS ?_ | refine W_and ?_) | ((with_reducible refine call_ex can15 (w1 _) (fun a h => ?_))) | ((with_reducible refine call_ex can15 (Ufew_S _ _ (by assumption) _) (fun a h => ?_))) | ((with_reducible refine W_fresh (fun b hb => ?_)); (repeat (obtain ⟨_, hb⟩ := hb))) | ((with_reducible refine W_gd (fun h => ?_) (fun h => ?_)) <;> (try (exfalso; first | assumption | omega)))) <;> (try simp (disch := first | assumption | omega) only [go_sem, seval, List.length_map, hsx, rulC, atmC, htx, *]))))
            all_goals exact ⟨_, Fg.refl _, m2 - 1, by omega, j + 1, _, by omega, by omega, rfl, z_sl, z_sr, z_sl, z_sl⟩
          · (repeat' (first | refine Ctl ?_ | ((with_reducible refine Kof.use hK ?_); clear hK hE K E) | ((with_reducible refine Eof.use hE ?_); (try clear hK hE K E)) | ((with_reducible refine W_cond (fun h => ?_) (fun h => ?_)) <;> (try (exfalso; first | assumption | omega))) | ((first | (with_reducible first | refine G_region fun K E hK hE => ?_ | refine W_if ?_ | refine W_ifS ?_ | refine W_and ?_) | ((with_reducible refine call_ex can15 (Ufew_S _ _ (by assumption) _) (fun a h => ?_))) | ((with_reducible refine W_fresh (fun b hb => ?_)); (repeat (obtain ⟨_, hb⟩ := hb))) | ((with_reducible refine W_gd (fun h => ?_) (fun h => ?_)) <;> (try (exfalso; first | assumption | omega)))) <;> (try simp (disch := first | assumption | omega) only [go_sem, seval, List.length_map, hsx, rulC, *]))))
            all_goals exact ⟨_, Fg.refl _, m - 1, by omega, i + 1, _, by omega, by omega, HD2, rfl, z_sl, z_sr, z_sl⟩
      · (repeat' (first | refine Ctl ?_ | ((with_reducible refine Kof.use hK ?_); clear hK hE K E) | ((with_reducible refine Eof.use hE ?_); (try clear hK hE K E)) | ((with_reducible refine W_cond (fun h => ?_) (fun h => ?_)) <;> (try (exfalso; first | assumption | omega))) | ((first | (with_reducible first | refine G_region fun K E hK hE => ?_ | refine W_if ?_ | refine W_ifS ?_ | refine W_and ?_) | ((with_reducible refine call_ex can15 (Ufew_S _ _ (by assumption) _) (fun a h => ?_))) | ((with_reducible refine W_fresh (fun b hb => ?_)); (repeat (obtain ⟨_, hb⟩ := hb))) | ((with_reducible refine W_gd (fun h => ?_) (fun h => ?_)) <;> (try (exfalso; first | assumption | omega)))) <;> (try simp (disch := first | assumption | omega) only [go_sem, seval, List.length_map, *]))))
        all_goals (first | refine W_ret res5 hQ ?_ | refine W_norm res5 hQ ?_ | refine G_pan hQ ?_)
        all_goals exact ⟨_, _, Wk.refl _, HF.out, _, rfl, rfl, fun _ => ⟨HB.out.1, HB.out.2.1, HB.out.2.2, HD3.out, by
          have := HD.out
          rw [List.take_of_length_le (by omega)] at this
          exact this⟩⟩
theorem UFew_S (a : Pgm) (ha : PgmOk a) (s : St) : SCalls Tryz.prog 5 [.agg (pgC a)] s fun w u => ∃ r : Bool, w = .ret (.bool r) ∧ u = s ∧ True :=
  (UFewB_S a ha s).mono fun w u ⟨r, h1, h2, _⟩ => ⟨r, h1, h2, trivial⟩
end Go.Proofs.YtdibndmkeipgbaaGreatDoor
