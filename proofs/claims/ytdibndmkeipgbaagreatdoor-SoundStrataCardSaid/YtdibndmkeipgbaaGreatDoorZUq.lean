/- What is proved: What rule.Print hands back. Conditions: what fits a memory. Conditions: those that stand in the statements. -/
import Derived.Test.YtdibndmkeipgbaaGreatDoorZUoj
set_option linter.unusedSimpArgs false
set_option linter.unusedVariables false
set_option maxRecDepth 100000
namespace Go.Proofs.YtdibndmkeipgbaaGreatDoor
open Go.RowKit

attribute [local go_sem] owned_other disown_other
theorem ownok_in {s : St} {o2 o : Own} {T sz n m : Nat} (h : OwnOk (s.own o2 T sz n) o m) : OwnOk s o m := by
  cases o with
  | at_ x => simp only [OwnOk, own_fr] at h; exact h.2
  | _ => exact h
theorem fg_in {s : St} {o2 o : Own} {T sz n m T' sz' : Nat} (h2 : OwnOk s o2 n) : Fg ((s.own o2 T sz n).own o T' sz' m) (s.own o T' sz' m) := by
  cases o with
  | at_ x => exact Fg.set (Fg.own h2) _ _
  | _ => exact Fg.own h2
def printU (x : Pgm) : VV := if pgmB x = true then (match lexSigns (pgmT x) with | .ok _ => .tup [.str (pgmT x), .int .i64 0] | .error _ => .tup [.str [], .int .i64 2]) else .tup [.str [], .int .i64 1]
set_option maxHeartbeats 4000000 in
theorem UPrint_S (x : Pgm) (hx : PgmOk x) (s : St) : SRet Tryz.prog 55 [.agg (pgC x)] s (printU x) s := by
  have hck := fun s => ucheck_S x hx s
  refine G_enter Tryz.func55 rfl Tryz.ntmps55 rfl fun Q hQ hQe => ?_
  cases hB : pgmB x with
  | false =>
    rw [hB] at hck
    simp only [pgC] at hck
    (repeat' (first | refine Ctl ?_ | ((with_reducible refine Kof.use hK ?_); clear hK hE K E) | ((with_reducible refine Eof.use hE ?_); (try clear hK hE K E)) | ((with_reducible refine Kof.use hKh ?_); clear hKh Kh) | ((with_reducible refine Kof.use hKb (P_next ?_)); clear hKb Kb) | (with_reducible first | refine G_plan 7 [([0, 1, 2, 3, 4, 5], 6, [[0, 1, 2, 3]]), ([7, 8], 9, [[], []])] [] hQe fun K E hK hE => ?_ | refine G_plan 12 [([0, 1, 2, 3, 4, 5], 6, [[0, 1, 2, 3]]), ([7, 8], 9, [[], []])] [] hQe fun K E hK hE => ?_) | ((with_reducible refine W_cond (fun h => ?_) (fun h => ?_)) <;> (try (exfalso; first | assumption | omega))) | ((first | (with_reducible first | refine G_region fun K E hK hE => ?_ | refine call_ret can67 (hck _) ?_ | refine call_ret can73 (Bstr_S _ _ _ _ _ _ (by assumption) (by assumption) (by assumption)) ?_ | refine call_ret can73 (Cstr_S _ _ _ _ _ (by assumption) (by assumption) (by assumption)) ?_ | refine call_ret can69 (Itoa_S _ (by first | assumption | omega) (by first | assumption | omega) _) ?_ | refine call_ret can71 (uspell_S _ _ (by assumption) _) ?_ | refine call_ret can67 (ucheck_S _ (by assumption) _) ?_ | refine call_ret can73 (Cs_S _ _ _ _ _ (by assumption) (by assumption) (by assumption)) ?_ | refine W_if ?_ | refine W_ifS ?_ | refine P_heads fun Kh hKh => ?_ | refine P_fin fun Kh hKh => ?_ | refine P_each fun Kb hKb => ?_ | refine W_and ?_) | ((with_reducible refine call_ex can68 (Bwrite_S _ _ _ _ _ _ _ (by assumption) (by assumption) (by assumption) (by assumption)) (fun a h => ?_))) | ((with_reducible refine call_ex can68 (Cwrite_S _ _ _ _ _ _ (by assumption) (by assumption) (by assumption) (by assumption)) (fun a h => ?_))) | ((with_reducible refine call_ex can68 (Bw_S _ _ _ _ _ _ _ (by assumption) (by assumption) (by assumption) (by assumption)) (fun a h => ?_))) | ((with_reducible refine call_ex can68 (Cw_S _ _ _ _ _ _ (by assumption) (by assumption) (by assumption) (by first | assumption | (simp only [List.length_append, List.length_cons, List.length_nil]; omega))) (fun a h => ?_))) | ((with_reducible refine W_fresh (fun b hb => ?_)); (repeat (obtain ⟨_, hb⟩ := hb))) | ((with_reducible refine W_app (fun o2 ho => ?_)); (try simp (disch := assumption) only [disown_set, disown_own, ownok_o, ownok_m, List.length_map, List.length_cons, List.length_nil, Nat.zero_add, pgC] at ho); (repeat (obtain ⟨_, ho⟩ := ho)))) <;> (try simp (disch := first | assumption | omega) only [go_sem, seval, pgC, *]))))
    all_goals (first | refine W_ret res55 hQ ?_ | refine W_norm res55 hQ ?_ | refine G_pan hQ ?_)
    all_goals (refine ⟨_, _, Wk.of_eq ?_, ?_, rfl, rfl⟩)
    · simp [printU, hB]
    · (exact z_fg)
  | true =>
    rw [hB] at hck
    simp only [pgC] at hck
    (repeat' (first | refine Ctl ?_ | ((with_reducible refine Kof.use hK ?_); clear hK hE K E) | ((with_reducible refine Eof.use hE ?_); (try clear hK hE K E)) | ((with_reducible refine Kof.use hKh ?_); clear hKh Kh) | ((with_reducible refine Kof.use hKb (P_next ?_)); clear hKb Kb) | (with_reducible first | refine G_plan 7 [([0, 1, 2, 3, 4, 5], 6, [[0, 1, 2, 3]]), ([7, 8], 9, [[], []])] [] hQe fun K E hK hE => ?_ | refine G_plan 12 [([0, 1, 2, 3, 4, 5], 6, [[0, 1, 2, 3]]), ([7, 8], 9, [[], []])] [] hQe fun K E hK hE => ?_) | ((with_reducible refine W_cond (fun h => ?_) (fun h => ?_)) <;> (try (exfalso; first | assumption | omega))) | ((first | (with_reducible first | refine G_region fun K E hK hE => ?_ | refine call_ret can67 (hck _) ?_ | refine call_ret can73 (Bstr_S _ _ _ _ _ _ (by assumption) (by assumption) (by assumption)) ?_ | refine call_ret can73 (Cstr_S _ _ _ _ _ (by assumption) (by assumption) (by assumption)) ?_ | refine call_ret can69 (Itoa_S _ (by first | assumption | omega) (by first | assumption | omega) _) ?_ | refine call_ret can71 (uspell_S _ _ (by assumption) _) ?_ | refine call_ret can67 (ucheck_S _ (by assumption) _) ?_ | refine call_ret can73 (Cs_S _ _ _ _ _ (by assumption) (by assumption) (by assumption)) ?_ | refine W_if ?_ | refine W_ifS ?_ | refine P_heads fun Kh hKh => ?_ | refine P_fin fun Kh hKh => ?_ | refine P_each fun Kb hKb => ?_ | refine W_and ?_) | ((with_reducible refine call_ex can68 (Bwrite_S _ _ _ _ _ _ _ (by assumption) (by assumption) (by assumption) (by assumption)) (fun a h => ?_))) | ((with_reducible refine call_ex can68 (Cwrite_S _ _ _ _ _ _ (by assumption) (by assumption) (by assumption) (by assumption)) (fun a h => ?_))) | ((with_reducible refine call_ex can68 (Bw_S _ _ _ _ _ _ _ (by assumption) (by assumption) (by assumption) (by assumption)) (fun a h => ?_))) | ((with_reducible refine call_ex can68 (Cw_S _ _ _ _ _ _ (by assumption) (by assumption) (by assumption) (by first | assumption | (simp only [List.length_append, List.length_cons, List.length_nil]; omega))) (fun a h => ?_))) | ((with_reducible refine W_fresh (fun b hb => ?_)); (repeat (obtain ⟨_, hb⟩ := hb))) | ((with_reducible refine W_app (fun o2 ho => ?_)); (try simp (disch := assumption) only [disown_set, disown_own, ownok_o, ownok_m, List.length_map, List.length_cons, List.length_nil, Nat.zero_add, pgC] at ho); (repeat (obtain ⟨_, ho⟩ := ho)))) <;> (try simp (disch := first | assumption | omega) only [go_sem, seval, pgC, *]))))
    rename_i bp hbp n1 n2
    obtain ⟨ds, cs, rs⟩ := x
    simp only at hB hck ⊢
    have hS : (∀ d, d ∈ ds → dmB d = true) ∧ (∀ d, d ∈ cs → dclB d = true) ∧ (∀ y, y ∈ rs → rulB y = true) ∧ ds.length ≤ 32 ∧ cs.length ≤ 32 ∧ rs.length ≤ 64 := by
      simp only [pgmB, Bool.and_eq_true, decide_eq_true_eq, List.all_eq_true] at hB
      obtain ⟨⟨⟨⟨⟨k1, k2⟩, k3⟩, k4⟩, k5⟩, k6⟩ := hB
      exact ⟨k4, k5, k6, k1, k2, k3⟩
    obtain ⟨g1, g2, g3, g4, g5, g6⟩ := hS
    have hb0 : (s.set bp (.obj 26 [.lst (ds.map dmC) .no, .lst (cs.map dclC) .no, .lst (rs.map rulC) .no])) bp = .obj 26 [.lst (ds.map dmC) .no, .lst (cs.map dclC) .no, .lst (rs.map rulC) .no] := St.set_same _ _ _
    have hF0 : Fg (s.set bp (.obj 26 [.lst (ds.map dmC) .no, .lst (cs.map dclC) .no, .lst (rs.map rulC) .no])) s := Fg.of_set _ hbp
    have hbw : (s.set bp (.obj 26 [.lst (ds.map dmC) .no, .lst (cs.map dclC) .no, .lst (rs.map rulC) .no])) b = .free := by rw [St.set_other _ _ n1]; exact hb
    generalize s.set bp (.obj 26 [.lst (ds.map dmC) .no, .lst (cs.map dclC) .no, .lst (rs.map rulC) .no]) = B at *
    have hbf : B bp ≠ .free := by rw [hb0]; simp
    have HF := Lib.hid hF0
    have HBW := Lib.hid hbw
    clear hF0 hbp h hck hbw hb
    obtain ⟨bw, hbw⟩ : ∃ bw, bw = b := ⟨_, rfl⟩
    subst hbw
    refine G_loop (fun m env t => ∃ (i : Nat) (o : Own) (ad : VV) (bs : List UInt8), i ≤ ds.length ∧ m + i = ds.length ∧ bs = ((ds.take i).map dmT).flatten ∧ t = Wb (B.own o 5 1 bs.length) bw ad bs o ∧ OwnOk B o bs.length ∧ NotOwn o bw ∧ AdB bw ad ∧ (o = .full ∨ bs ≠ []) ∧
      env 1 = .ptr bp 0 ∧ env 4 = .ptr bw 0 ∧ env 21 = .lst (ds.map dmC) .no ∧ env 22 = .int .i64 ds.length ∧ env 23 = .int .i64 i) ds.length ?_ ?_
    · exact ⟨_, Fg.refl _, 0, .full, .raw (.pointer none), [], by omega, by omega, rfl, rfl, rfl, trivial, .inl rfl, .inl rfl, z_sl, z_sl, z_sl, z_sl, z_sl⟩
    · rintro m env t ⟨i, o, ad, bs, hi, hm, hbs, rfl, hO, hno, had, hne, e1, e4, e21, e22, e23⟩
      have hop := hO.not hbf
      by_cases hlt : i < ds.length
      · obtain ⟨c, hc⟩ := uget hlt
        obtain ⟨k1, k2, k3, k4⟩ := dm_small (g1 c (List.mem_of_getElem? hc))
        have hsx := dmC_at hc
        have hbl : bs.length ≤ 3200 := by
          have := flat_le (f := dmT) (m := 100) (l := ds.take i) fun y hy => (dm_small (g1 y (List.mem_of_mem_take hy))).1
          rw [← hbs, List.length_take] at this
          have h2 : min i ds.length * 100 ≤ 32 * 100 := Nat.mul_le_mul_right _ (by omega)
          omega
        have HX := Lib.hid hc
        have HBS := Lib.hid hbs
        have HNE := Lib.hid hne
        clear hc hbs hne
        obtain ⟨cn, cz⟩ := c
        simp only at k2 k3 k4
        have k5 := Lib.itoa_length_le cz (by omega) (by omega)
        (repeat' (first | refine Ctl ?_ | ((with_reducible refine Kof.use hK ?_); clear hK hE K E) | ((with_reducible refine Eof.use hE ?_); (try clear hK hE K E)) | ((with_reducible refine Kof.use hKh ?_); clear hKh Kh) | ((with_reducible refine Kof.use hKb (P_next ?_)); clear hKb Kb) | (with_reducible first | refine G_plan 7 [([0, 1, 2, 3, 4, 5], 6, [[0, 1, 2, 3]]), ([7, 8], 9, [[], []])] [] hQe fun K E hK hE => ?_ | refine G_plan 12 [([0, 1, 2, 3, 4, 5], 6, [[0, 1, 2, 3]]), ([7, 8], 9, [[], []])] [] hQe fun K E hK hE => ?_) | ((with_reducible refine W_cond (fun h => ?_) (fun h => ?_)) <;> (try (exfalso; first | assumption | omega))) | ((first | (with_reducible first | refine G_region fun K E hK hE => ?_ | refine call_ret can69 (Itoa_S _ (by first | assumption | omega) (by first | assumption | omega) _) ?_ | refine W_if ?_ | refine W_ifS ?_ | refine P_heads fun Kh hKh => ?_ | refine P_fin fun Kh hKh => ?_ | refine P_each fun Kb hKb => ?_ | refine W_and ?_) | ((with_reducible refine call_ex can68 (Cw_S _ _ _ _ _ _ (by assumption) (by simp (disch := first | assumption | omega) only [go_sem, seval, *]) (by assumption) (by simp only [List.length_append, List.length_cons, List.length_nil]; omega)) (fun a h => ?_)); (obtain ⟨hO2, hn2, had2⟩ := h; simp (disch := assumption) only [disown_set, disown_own, ownok_o] at hO2; obtain ⟨hn3, hO2⟩ := hO2)) | ((with_reducible refine W_fresh (fun b hb => ?_)); (repeat (obtain ⟨_, hb⟩ := hb)); (try (try (rw [own_fr] at hb; obtain ⟨hob, hb⟩ := hb)))) | ((with_reducible refine W_app (fun o2 ho => ?_)); (try simp (disch := assumption) only [disown_set, disown_own, ownok_o, ownok_m, List.length_map, List.length_cons, List.length_nil, Nat.zero_add, List.length_map, hsx, dmC, Wb_out, List.length_append] at ho); (repeat (obtain ⟨_, ho⟩ := ho)))) <;> (try simp (disch := first | assumption | omega) only [go_sem, seval, List.length_map, hsx, dmC, Wb_out, List.length_append, *]))))
        refine ⟨Wb (B.own a.1 5 1 (bs ++ 100 :: 111 :: 109 :: 32 :: (cn ++ [32] ++ Lib.itoa cz ++ [46, 10])).length) bw a.2 (bs ++ 100 :: 111 :: 109 :: 32 :: (cn ++ [32] ++ Lib.itoa cz ++ [46, 10])) a.1, ?_, m - 1, by omega, i + 1, a.1, a.2, _, by omega, by omega, ?_, rfl, hO2, hn2, had2, .inr (by simp), z_sl, z_sl, z_sl, z_sl, z_sl⟩
        · simp only [WbS, Wb]
          rw [disown_set hob, disown_own hO, own_push hn3]
          exact Fg.set (Fg.of_set _ (by rw [own_fr]; exact ⟨hn3, hb⟩)) _ _
        · rw [flat_at HX.out, ← HBS.out]
          simp [dmT]
      · have hiL : i = ds.length := by omega
        rw [hiL, List.take_length] at hbs
        have hbl : bs.length ≤ 3200 := by
          have := flat_le (f := dmT) (m := 100) (l := ds) fun y hy => (dm_small (g1 y hy)).1
          rw [← hbs] at this
          have h2 : ds.length * 100 ≤ 32 * 100 := Nat.mul_le_mul_right _ g4
          omega
        have HB1 := Lib.hid hbs
        have HNE := Lib.hid hne
        clear hbs hne
        (repeat' (first | refine Ctl ?_ | ((with_reducible refine Kof.use hK ?_); clear hK hE K E) | ((with_reducible refine Eof.use hE ?_); (try clear hK hE K E)) | ((with_reducible refine Kof.use hKh ?_); clear hKh Kh) | ((with_reducible refine Kof.use hKb (P_next ?_)); clear hKb Kb) | (with_reducible first | refine G_plan 7 [([0, 1, 2, 3, 4, 5], 6, [[0, 1, 2, 3]]), ([7, 8], 9, [[], []])] [] hQe fun K E hK hE => ?_ | refine G_plan 12 [([0, 1, 2, 3, 4, 5], 6, [[0, 1, 2, 3]]), ([7, 8], 9, [[], []])] [] hQe fun K E hK hE => ?_) | ((with_reducible refine W_cond (fun h => ?_) (fun h => ?_)) <;> (try (exfalso; first | assumption | omega))) | ((first | (with_reducible first | refine G_region fun K E hK hE => ?_ | refine call_ret can73 (Bstr_S _ _ _ _ _ _ (by assumption) (by assumption) (by assumption)) ?_ | refine call_ret can73 (Cstr_S _ _ _ _ _ (by assumption) (by assumption) (by assumption)) ?_ | refine call_ret can69 (Itoa_S _ (by first | assumption | omega) (by first | assumption | omega) _) ?_ | refine call_ret can71 (uspell_S _ _ (by assumption) _) ?_ | refine call_ret can67 (ucheck_S _ (by assumption) _) ?_ | refine call_ret can73 (Cs_S _ _ _ _ _ (by assumption) (by assumption) (by assumption)) ?_ | refine W_if ?_ | refine W_ifS ?_ | refine P_heads fun Kh hKh => ?_ | refine P_fin fun Kh hKh => ?_ | refine P_each fun Kb hKb => ?_ | refine W_and ?_) | ((with_reducible refine call_ex can68 (Bwrite_S _ _ _ _ _ _ _ (by assumption) (by assumption) (by assumption) (by assumption)) (fun a h => ?_))) | ((with_reducible refine call_ex can68 (Cwrite_S _ _ _ _ _ _ (by assumption) (by assumption) (by assumption) (by assumption)) (fun a h => ?_))) | ((with_reducible refine call_ex can68 (Bw_S _ _ _ _ _ _ _ (by assumption) (by assumption) (by assumption) (by assumption)) (fun a h => ?_))) | ((with_reducible refine call_ex can68 (Cw_S _ _ _ _ _ _ (by assumption) (by assumption) (by assumption) (by first | assumption | (simp only [List.length_append, List.length_cons, List.length_nil]; omega))) (fun a h => ?_))) | ((with_reducible refine W_fresh (fun b hb => ?_)); (repeat (obtain ⟨_, hb⟩ := hb))) | ((with_reducible refine W_app (fun o2 ho => ?_)); (try simp (disch := assumption) only [disown_set, disown_own, ownok_o, ownok_m, List.length_map, List.length_cons, List.length_nil, Nat.zero_add, List.length_map] at ho); (repeat (obtain ⟨_, ho⟩ := ho)))) <;> (try simp (disch := first | assumption | omega) only [go_sem, seval, List.length_map, *]))))
        clear e21 e22 e23 hlt hiL hi hm h
        refine G_loop (fun m env t => ∃ (i : Nat) (o : Own) (ad : VV) (bs2 : List UInt8), i ≤ cs.length ∧ m + i = cs.length ∧ bs2 = bs ++ ((cs.take i).map dclT).flatten ∧ t = Wb (B.own o 5 1 bs2.length) bw ad bs2 o ∧ OwnOk B o bs2.length ∧ NotOwn o bw ∧ AdB bw ad ∧ (o = .full ∨ bs2 ≠ []) ∧
          env 1 = .ptr bp 0 ∧ env 4 = .ptr bw 0 ∧ env 39 = .lst (cs.map dclC) .no ∧ env 40 = .int .i64 cs.length ∧ env 41 = .int .i64 i) cs.length ?_ ?_
        · exact ⟨_, Fg.refl _, 0, o, ad, bs, by omega, by omega, by simp, rfl, hO, hno, had, HNE, z_sl, z_sl, z_sl, z_sl, z_sl⟩
        · clear e1 e4 hO hno had HNE hop env o ad m
          rintro m env t ⟨i, o, ad, bs2, hi, hm, hbs, rfl, hO, hno, had, hne, e1, e4, e39, e40, e41⟩
          have hop := hO.not hbf
          by_cases hlt : i < cs.length
          · obtain ⟨c, hc⟩ := uget hlt
            obtain ⟨k1, k2, k3, k4⟩ := dcl_small (g2 c (List.mem_of_getElem? hc))
            have hsx := dclC_at hc
            have hbl2 : bs2.length ≤ 16000 := by
              have := flat_le (f := dclT) (m := 400) (l := cs.take i) fun y hy => (dcl_small (g2 y (List.mem_of_mem_take hy))).1
              have h2 : min i cs.length * 400 ≤ 32 * 400 := Nat.mul_le_mul_right _ (by omega)
              rw [List.length_take] at this
              rw [hbs, List.length_append]
              omega
            have HX := Lib.hid hc
            have HBS := Lib.hid hbs
            have HNE := Lib.hid hne
            clear hc hbs hne
            obtain ⟨cn, cd⟩ := c
            simp only at k2 k3 k4
            have k5 : (Lib.join cd [44, 32]).length ≤ 140737488355328 := by omega
            have k6 : cd.length ≤ 140737488355328 := by omega
            (repeat' (first | refine Ctl ?_ | ((with_reducible refine Kof.use hK ?_); clear hK hE K E) | ((with_reducible refine Eof.use hE ?_); (try clear hK hE K E)) | ((with_reducible refine Kof.use hKh ?_); clear hKh Kh) | ((with_reducible refine Kof.use hKb (P_next ?_)); clear hKb Kb) | (with_reducible first | refine G_plan 7 [([0, 1, 2, 3, 4, 5], 6, [[0, 1, 2, 3]]), ([7, 8], 9, [[], []])] [] hQe fun K E hK hE => ?_ | refine G_plan 12 [([0, 1, 2, 3, 4, 5], 6, [[0, 1, 2, 3]]), ([7, 8], 9, [[], []])] [] hQe fun K E hK hE => ?_) | ((with_reducible refine W_cond (fun h => ?_) (fun h => ?_)) <;> (try (exfalso; first | assumption | omega))) | ((first | (with_reducible first | refine G_region fun K E hK hE => ?_ | refine call_ret can70 (Join_S _ _ _ (by assumption) (by assumption) _) ?_ | refine call_ret can73 (Bstr_S _ _ _ _ _ _ (by assumption) (by assumption) (by assumption)) ?_ | refine call_ret can73 (Cstr_S _ _ _ _ _ (by assumption) (by assumption) (by assumption)) ?_ | refine call_ret can69 (Itoa_S _ (by first | assumption | omega) (by first | assumption | omega) _) ?_ | refine call_ret can71 (uspell_S _ _ (by assumption) _) ?_ | refine call_ret can67 (ucheck_S _ (by assumption) _) ?_ | refine call_ret can73 (Cs_S _ _ _ _ _ (by assumption) (by assumption) (by assumption)) ?_ | refine W_if ?_ | refine W_ifS ?_ | refine P_heads fun Kh hKh => ?_ | refine P_fin fun Kh hKh => ?_ | refine P_each fun Kb hKb => ?_ | refine W_and ?_) | ((with_reducible refine call_ex can68 (Cw_S _ _ _ _ _ _ (by assumption) (by simp (disch := first | assumption | omega) only [go_sem, seval, *]) (by assumption) (by simp only [List.length_append, List.length_cons, List.length_nil]; omega)) (fun a h => ?_)); (obtain ⟨hO2, hn2, had2⟩ := h; simp (disch := assumption) only [disown_set, disown_own, ownok_o] at hO2; obtain ⟨hn3, hO2⟩ := hO2)) | ((with_reducible refine call_ex can68 (Bwrite_S _ _ _ _ _ _ _ (by assumption) (by assumption) (by assumption) (by assumption)) (fun a h => ?_)); (obtain ⟨hO2, hn2, had2⟩ := h; simp (disch := assumption) only [disown_set, disown_own, ownok_o] at hO2; obtain ⟨hn3, hO2⟩ := hO2)) | ((with_reducible refine call_ex can68 (Cwrite_S _ _ _ _ _ _ (by assumption) (by assumption) (by assumption) (by assumption)) (fun a h => ?_)); (obtain ⟨hO2, hn2, had2⟩ := h; simp (disch := assumption) only [disown_set, disown_own, ownok_o] at hO2; obtain ⟨hn3, hO2⟩ := hO2)) | ((with_reducible refine call_ex can68 (Bw_S _ _ _ _ _ _ _ (by assumption) (by assumption) (by assumption) (by assumption)) (fun a h => ?_)); (obtain ⟨hO2, hn2, had2⟩ := h; simp (disch := assumption) only [disown_set, disown_own, ownok_o] at hO2; obtain ⟨hn3, hO2⟩ := hO2)) | ((with_reducible refine call_ex can68 (Cw_S _ _ _ _ _ _ (by assumption) (by assumption) (by assumption) (by first | assumption | (simp only [List.length_append, List.length_cons, List.length_nil]; omega))) (fun a h => ?_)); (obtain ⟨hO2, hn2, had2⟩ := h; simp (disch := assumption) only [disown_set, disown_own, ownok_o] at hO2; obtain ⟨hn3, hO2⟩ := hO2)) | ((with_reducible refine W_fresh (fun b hb => ?_)); (repeat (obtain ⟨_, hb⟩ := hb)); (try (try (rw [own_fr] at hb; obtain ⟨hob, hb⟩ := hb)))) | ((with_reducible refine W_app (fun o2 ho => ?_)); (try simp (disch := assumption) only [disown_set, disown_own, ownok_o, ownok_m, List.length_map, List.length_cons, List.length_nil, Nat.zero_add, List.length_map, hsx, dclC, Wb_out, List.length_append] at ho); (repeat (obtain ⟨_, ho⟩ := ho)))) <;> (try simp (disch := first | assumption | omega) only [go_sem, seval, List.length_map, hsx, dclC, Wb_out, List.length_append, *]))))
            refine ⟨Wb (B.own a.1 5 1 (bs2 ++ 114 :: 101 :: 108 :: 32 :: (cn ++ [40] ++ Lib.join cd [44, 32] ++ [41, 46, 10])).length) bw a.2 (bs2 ++ 114 :: 101 :: 108 :: 32 :: (cn ++ [40] ++ Lib.join cd [44, 32] ++ [41, 46, 10])) a.1, ?_, m - 1, by omega, i + 1, a.1, a.2, _, by omega, by omega, ?_, rfl, hO2, hn2, had2, .inr (by simp), z_sl, z_sl, z_sl, z_sl, z_sl⟩
            · simp only [WbS, Wb]
              rw [disown_set hob, disown_own hO, own_push hn3]
              exact Fg.set (Fg.of_set _ (by rw [own_fr]; exact ⟨hn3, hb⟩)) _ _
            · rw [flat_at HX.out, ← List.append_assoc, ← HBS.out]
              simp [dclT]
          · have hiL : i = cs.length := by omega
            rw [hiL, List.take_length] at hbs
            have hbl2 : bs2.length ≤ 16000 := by
              have := flat_le (f := dclT) (m := 400) (l := cs) fun y hy => (dcl_small (g2 y hy)).1
              have h2 : cs.length * 400 ≤ 32 * 400 := Nat.mul_le_mul_right _ g5
              rw [hbs, List.length_append]
              omega
            have HB2 := Lib.hid hbs
            have HNE := Lib.hid hne
            clear hbs hne
            (repeat' (first | refine Ctl ?_ | ((with_reducible refine Kof.use hK ?_); clear hK hE K E) | ((with_reducible refine Eof.use hE ?_); (try clear hK hE K E)) | ((with_reducible refine Kof.use hKh ?_); clear hKh Kh) | ((with_reducible refine Kof.use hKb (P_next ?_)); clear hKb Kb) | (with_reducible first | refine G_plan 7 [([0, 1, 2, 3, 4, 5], 6, [[0, 1, 2, 3]]), ([7, 8], 9, [[], []])] [] hQe fun K E hK hE => ?_ | refine G_plan 12 [([0, 1, 2, 3, 4, 5], 6, [[0, 1, 2, 3]]), ([7, 8], 9, [[], []])] [] hQe fun K E hK hE => ?_) | ((with_reducible refine W_cond (fun h => ?_) (fun h => ?_)) <;> (try (exfalso; first | assumption | omega))) | ((first | (with_reducible first | refine G_region fun K E hK hE => ?_ | refine call_ret can73 (Bstr_S _ _ _ _ _ _ (by assumption) (by assumption) (by assumption)) ?_ | refine call_ret can73 (Cstr_S _ _ _ _ _ (by assumption) (by assumption) (by assumption)) ?_ | refine call_ret can69 (Itoa_S _ (by first | assumption | omega) (by first | assumption | omega) _) ?_ | refine call_ret can71 (uspell_S _ _ (by assumption) _) ?_ | refine call_ret can67 (ucheck_S _ (by assumption) _) ?_ | refine call_ret can73 (Cs_S _ _ _ _ _ (by assumption) (by assumption) (by assumption)) ?_ | refine W_if ?_ | refine W_ifS ?_ | refine P_heads fun Kh hKh => ?_ | refine P_fin fun Kh hKh => ?_ | refine P_each fun Kb hKb => ?_ | refine W_and ?_) | ((with_reducible refine call_ex can68 (Bwrite_S _ _ _ _ _ _ _ (by assumption) (by assumption) (by assumption) (by assumption)) (fun a h => ?_))) | ((with_reducible refine call_ex can68 (Cwrite_S _ _ _ _ _ _ (by assumption) (by assumption) (by assumption) (by assumption)) (fun a h => ?_))) | ((with_reducible refine call_ex can68 (Bw_S _ _ _ _ _ _ _ (by assumption) (by assumption) (by assumption) (by assumption)) (fun a h => ?_))) | ((with_reducible refine call_ex can68 (Cw_S _ _ _ _ _ _ (by assumption) (by assumption) (by assumption) (by first | assumption | (simp only [List.length_append, List.length_cons, List.length_nil]; omega))) (fun a h => ?_))) | ((with_reducible refine W_fresh (fun b hb => ?_)); (repeat (obtain ⟨_, hb⟩ := hb))) | ((with_reducible refine W_app (fun o2 ho => ?_)); (try simp (disch := assumption) only [disown_set, disown_own, ownok_o, ownok_m, List.length_map, List.length_cons, List.length_nil, Nat.zero_add, List.length_map] at ho); (repeat (obtain ⟨_, ho⟩ := ho)))) <;> (try simp (disch := first | assumption | omega) only [go_sem, seval, List.length_map, *]))))
            clear e39 e40 e41 hlt hiL hi hm h
            refine G_loop (fun m env t => ∃ (i : Nat) (o : Own) (ad : VV) (bs3 : List UInt8), i ≤ rs.length ∧ m + i = rs.length ∧ bs3 = bs2 ++ ((rs.take i).map rulT).flatten ∧ t = Wb (B.own o 5 1 bs3.length) bw ad bs3 o ∧ OwnOk B o bs3.length ∧ NotOwn o bw ∧ AdB bw ad ∧ (o = .full ∨ bs3 ≠ []) ∧
              env 1 = .ptr bp 0 ∧ env 4 = .ptr bw 0 ∧ env 57 = .lst (rs.map rulC) .no ∧ env 58 = .int .i64 rs.length ∧ env 59 = .int .i64 i) rs.length ?_ ?_
            · exact ⟨_, Fg.refl _, 0, o, ad, bs2, by omega, by omega, by simp, rfl, hO, hno, had, HNE, z_sl, z_sl, z_sl, z_sl, z_sl⟩
            · clear e1 e4 hO hno had HNE hop env o ad m
              rintro m env t ⟨i, o, ad, bs3, hi, hm, hbs, rfl, hO, hno, had, hne, e1, e4, e57, e58, e59⟩
              have hop := hO.not hbf
              by_cases hlt : i < rs.length
              · obtain ⟨c, hc⟩ := uget hlt
                obtain ⟨k1, k2, k3, k4, k5, k6⟩ := rul_small (g3 c (List.mem_of_getElem? hc))
                have hsx := rulC_at hc
                have hbl3 : bs3.length ≤ 300000 := by
                  have := flat_le (f := rulT) (m := 4000) (l := rs.take i) fun y hy => (rul_small (g3 y (List.mem_of_mem_take hy))).1
                  have h2 : min i rs.length * 4000 ≤ 64 * 4000 := Nat.mul_le_mul_right _ (by omega)
                  rw [List.length_take] at this
                  rw [hbs, List.length_append]
                  omega
                have HX := Lib.hid hc
                have HBS := Lib.hid hbs
                have HNE := Lib.hid hne
                clear hc hbs hne
                obtain ⟨⟨hn, hr, ht⟩, cb⟩ := c
                simp only at k2 k3 k4 k5 k6
                have hsp := fun o0 s => uspell_S ⟨hn, hr, ht⟩ o0 k2 s
                simp only at hsp
                generalize hT : atmT ⟨hn, hr, ht⟩ = T at *
                (repeat' (first | refine Ctl ?_ | ((with_reducible refine Kof.use hK ?_); clear hK hE K E) | ((with_reducible refine Eof.use hE ?_); (try clear hK hE K E)) | ((with_reducible refine Kof.use hKh ?_); clear hKh Kh) | ((with_reducible refine Kof.use hKb (P_next ?_)); clear hKb Kb) | (with_reducible first | refine G_plan 7 [([0, 1, 2, 3, 4, 5], 6, [[0, 1, 2, 3]]), ([7, 8], 9, [[], []])] [] hQe fun K E hK hE => ?_ | refine G_plan 12 [([0, 1, 2, 3, 4, 5], 6, [[0, 1, 2, 3]]), ([7, 8], 9, [[], []])] [] hQe fun K E hK hE => ?_) | ((with_reducible refine W_cond (fun h => ?_) (fun h => ?_)) <;> (try (exfalso; first | assumption | omega))) | ((first | (with_reducible first | refine G_region fun K E hK hE => ?_ | refine call_ret can71 (hsp _ _) ?_ | refine call_ret can73 (Bstr_S _ _ _ _ _ _ (by assumption) (by assumption) (by assumption)) ?_ | refine call_ret can73 (Cstr_S _ _ _ _ _ (by assumption) (by assumption) (by assumption)) ?_ | refine call_ret can69 (Itoa_S _ (by first | assumption | omega) (by first | assumption | omega) _) ?_ | refine call_ret can71 (uspell_S _ _ (by assumption) _) ?_ | refine call_ret can67 (ucheck_S _ (by assumption) _) ?_ | refine call_ret can73 (Cs_S _ _ _ _ _ (by assumption) (by assumption) (by assumption)) ?_ | refine W_if ?_ | refine W_ifS ?_ | refine P_heads fun Kh hKh => ?_ | refine P_fin fun Kh hKh => ?_ | refine P_each fun Kb hKb => ?_ | refine W_and ?_) | ((with_reducible refine call_ex can68 (Cw_S _ _ _ _ _ _ (by assumption) (by simp (disch := first | assumption | omega) only [go_sem, seval, *]) (by assumption) (by first | omega | (simp only [List.length_append, List.length_cons, List.length_nil]; omega))) (fun a h => ?_)); (obtain ⟨hO2, hn2, had2⟩ := h; simp (disch := assumption) only [disown_set, disown_own, ownok_o] at hO2; obtain ⟨hn3, hO2⟩ := hO2)) | ((with_reducible refine call_ex can68 (Bwrite_S _ _ _ _ _ _ _ (by assumption) (by assumption) (by assumption) (by assumption)) (fun a h => ?_)); (obtain ⟨hO2, hn2, had2⟩ := h; simp (disch := assumption) only [disown_set, disown_own, ownok_o] at hO2; obtain ⟨hn3, hO2⟩ := hO2)) | ((with_reducible refine call_ex can68 (Cwrite_S _ _ _ _ _ _ (by assumption) (by assumption) (by assumption) (by assumption)) (fun a h => ?_)); (obtain ⟨hO2, hn2, had2⟩ := h; simp (disch := assumption) only [disown_set, disown_own, ownok_o] at hO2; obtain ⟨hn3, hO2⟩ := hO2)) | ((with_reducible refine call_ex can68 (Bw_S _ _ _ _ _ _ _ (by assumption) (by assumption) (by assumption) (by assumption)) (fun a h => ?_)); (obtain ⟨hO2, hn2, had2⟩ := h; simp (disch := assumption) only [disown_set, disown_own, ownok_o] at hO2; obtain ⟨hn3, hO2⟩ := hO2)) | ((with_reducible refine call_ex can68 (Cw_S _ _ _ _ _ _ (by assumption) (by assumption) (by assumption) (by first | assumption | (simp only [List.length_append, List.length_cons, List.length_nil]; omega))) (fun a h => ?_)); (obtain ⟨hO2, hn2, had2⟩ := h; simp (disch := assumption) only [disown_set, disown_own, ownok_o] at hO2; obtain ⟨hn3, hO2⟩ := hO2)) | ((with_reducible refine W_fresh (fun b hb => ?_)); (repeat (obtain ⟨_, hb⟩ := hb)); (try (try (rw [own_fr] at hb; obtain ⟨hob, hb⟩ := hb)))) | ((with_reducible refine W_app (fun o2 ho => ?_)); (try simp (disch := assumption) only [disown_set, disown_own, ownok_o, ownok_m, List.length_map, List.length_cons, List.length_nil, Nat.zero_add, List.length_map, hsx, rulC, atmC, Wb_out, WbS, List.length_append] at ho); (repeat (obtain ⟨_, ho⟩ := ho)))) <;> (try simp (disch := first | assumption | omega) only [go_sem, seval, List.length_map, hsx, rulC, atmC, Wb_out, WbS, List.length_append, *]))))
                clear hsp
                obtain ⟨bs4, hbs4⟩ : ∃ l, bs3 ++ T = l := ⟨_, rfl⟩
                have hbl4 : bs4.length = bs3.length + T.length := by rw [← hbs4, List.length_append]
                rw [← hbl4]
                rw [hbs4] at hO2 ⊢
                have HB4 := Lib.hid hbs4
                have HBL4 := Lib.hid hbl4
                have hbl5 : bs4.length ≤ 300400 := by omega
                clear hbs4 hbl4
                obtain ⟨o4, ad4⟩ := a
                simp only at hO2 hn2 hn3 had2 ⊢
                have hMb : (B.own o4 5 1 bs4.length) b = .free := by rw [own_fr]; exact ⟨hn3, hb⟩
                have hMw : (B.own o4 5 1 bs4.length) bw = .free := by rw [own_fr]; exact ⟨hn2, HBW.out⟩
                have HMW := Lib.hid hMw
                refine G_loop (fun m2 env t => ∃ (j : Nat) (ol : Own), j ≤ cb.length ∧ m2 + j = cb.length ∧ t = Wb ((B.own o4 5 1 bs4.length).own ol 9 1 j) bw ad4 bs4 o4 ∧ OwnOk (B.own o4 5 1 bs4.length) ol j ∧ NotOwn ol bw ∧
                  env 1 = .ptr bp 0 ∧ env 4 = .ptr bw 0 ∧ env 57 = .lst (rs.map rulC) .no ∧ env 58 = .int .i64 rs.length ∧ env 59 = .int .i64 i ∧ env 11 = .lst (strs ((cb.take j).map atmT)) ol ∧ env 68 = .lst (cb.map atmC) .no ∧ env 69 = .int .i64 cb.length ∧ env 70 = .int .i64 j) cb.length ?_ ?_
                · exact ⟨_, Fg.set (Fg.of_set _ hMb) _ _, 0, .full, by omega, by omega, rfl, rfl, trivial, z_sl, z_sl, z_sl, z_sl, z_sl, z_sl, z_sl, z_sl, z_sl⟩
                · clear e1 e4 e57 e58 e59 env h hb hMb hob hn3 hno had hO hop
                  rintro m2 env t ⟨j, ol, hj, hm2, rfl, hOl, hlw, e1, e4, e57, e58, e59, e11, e68, e69, e70⟩
                  by_cases hlt2 : j < cb.length
                  · obtain ⟨c, hc⟩ := uget hlt2
                    have hq := k5 c (List.mem_of_getElem? hc)
                    have hsy := atmC_at hc
                    have htk : strs ((cb.take (j + 1)).map atmT) = strs ((cb.take j).map atmT) ++ [[.str (atmT c)]] := by rw [utake hc]; simp [strs]
                    have hst : (strs ((cb.take j).map atmT)).length = j := by simp [strs]; omega
                    have HT := Lib.hid htk
                    clear hc htk
                    obtain ⟨an, ar, at_⟩ := c
                    (repeat' (first | refine Ctl ?_ | ((with_reducible refine Kof.use hK ?_); clear hK hE K E) | ((with_reducible refine Eof.use hE ?_); (try clear hK hE K E)) | ((with_reducible refine Kof.use hKh ?_); clear hKh Kh) | ((with_reducible refine Kof.use hKb (P_next ?_)); clear hKb Kb) | (with_reducible first | refine G_plan 7 [([0, 1, 2, 3, 4, 5], 6, [[0, 1, 2, 3]]), ([7, 8], 9, [[], []])] [] hQe fun K E hK hE => ?_ | refine G_plan 12 [([0, 1, 2, 3, 4, 5], 6, [[0, 1, 2, 3]]), ([7, 8], 9, [[], []])] [] hQe fun K E hK hE => ?_) | ((with_reducible refine W_cond (fun h => ?_) (fun h => ?_)) <;> (try (exfalso; first | assumption | omega))) | ((first | (with_reducible first | refine G_region fun K E hK hE => ?_ | refine call_ret can73 (Bstr_S _ _ _ _ _ _ (by assumption) (by assumption) (by assumption)) ?_ | refine call_ret can73 (Cstr_S _ _ _ _ _ (by assumption) (by assumption) (by assumption)) ?_ | refine call_ret can69 (Itoa_S _ (by first | assumption | omega) (by first | assumption | omega) _) ?_ | refine call_ret can71 (uspell_S _ _ (by assumption) _) ?_ | refine call_ret can67 (ucheck_S _ (by assumption) _) ?_ | refine call_ret can73 (Cs_S _ _ _ _ _ (by assumption) (by assumption) (by assumption)) ?_ | refine W_if ?_ | refine W_ifS ?_ | refine P_heads fun Kh hKh => ?_ | refine P_fin fun Kh hKh => ?_ | refine P_each fun Kb hKb => ?_ | refine W_and ?_) | ((with_reducible refine call_ex can68 (Bwrite_S _ _ _ _ _ _ _ (by assumption) (by assumption) (by assumption) (by assumption)) (fun a h => ?_))) | ((with_reducible refine call_ex can68 (Cwrite_S _ _ _ _ _ _ (by assumption) (by assumption) (by assumption) (by assumption)) (fun a h => ?_))) | ((with_reducible refine call_ex can68 (Bw_S _ _ _ _ _ _ _ (by assumption) (by assumption) (by assumption) (by assumption)) (fun a h => ?_))) | ((with_reducible refine call_ex can68 (Cw_S _ _ _ _ _ _ (by assumption) (by assumption) (by assumption) (by first | assumption | (simp only [List.length_append, List.length_cons, List.length_nil]; omega))) (fun a h => ?_))) | ((with_reducible refine W_fresh (fun b hb => ?_)); (repeat (obtain ⟨_, hb⟩ := hb)); (try (try (rw [own_fr] at hb; obtain ⟨hob, hb⟩ := hb)))) | ((with_reducible refine W_app (fun o2 ho => ?_)); (try simp (disch := assumption) only [disown_set, disown_own, ownok_o, ownok_m, List.length_map, List.length_cons, List.length_nil, Nat.zero_add, List.length_map, hsy, atmC, Wb_out, hst] at ho); (repeat (obtain ⟨_, ho⟩ := ho)))) <;> (try simp (disch := first | assumption | omega) only [go_sem, seval, List.length_map, hsy, atmC, Wb_out, hst, *]))))
                    exact ⟨Wb ((B.own o4 5 1 bs4.length).own o2 9 1 (j + 1)) bw ad4 bs4 o4, Fg.set (Fg.of_set _ (by rw [own_fr]; exact ⟨by assumption, hb⟩)) _ _, m2 - 1, by omega, j + 1, o2, by omega, by omega, rfl, ho, by assumption, z_sl, z_sl, z_sl, z_sl, z_sl, by (rw [show strs (List.map atmT (List.take (j + 1) cb)) = _ from HT]; ((try simp (disch := first | assumption | omega) only [go_sem, seval, *]) <;> first | rfl | omega)), z_sl, z_sl, z_sl⟩
                  · have hjL : j = cb.length := by omega
                    subst hjL
                    rw [List.take_length] at e11
                    have hst : (strs (cb.map atmT)).length = cb.length := by simp [strs]
                    have k7 : (Lib.join (cb.map atmT) [44, 32]).length ≤ 140737488355328 := by omega
                    have k8 : (cb.map atmT).length ≤ 140737488355328 := by rw [List.length_map]; omega
                    clear hlt2 hj hm2
                    (repeat' (first | refine Ctl ?_ | ((with_reducible refine Kof.use hK ?_); clear hK hE K E) | ((with_reducible refine Eof.use hE ?_); (try clear hK hE K E)) | ((with_reducible refine Kof.use hKh ?_); clear hKh Kh) | ((with_reducible refine Kof.use hKb (P_next ?_)); clear hKb Kb) | (with_reducible first | refine G_plan 7 [([0, 1, 2, 3, 4, 5], 6, [[0, 1, 2, 3]]), ([7, 8], 9, [[], []])] [] hQe fun K E hK hE => ?_ | refine G_plan 12 [([0, 1, 2, 3, 4, 5], 6, [[0, 1, 2, 3]]), ([7, 8], 9, [[], []])] [] hQe fun K E hK hE => ?_) | ((with_reducible refine W_cond (fun h => ?_) (fun h => ?_)) <;> (try (exfalso; first | assumption | omega))) | ((first | (with_reducible first | refine G_region fun K E hK hE => ?_ | refine call_ret can70 (Join_S _ _ _ (by assumption) (by assumption) _) ?_ | refine call_ret can73 (Bstr_S _ _ _ _ _ _ (by assumption) (by assumption) (by assumption)) ?_ | refine call_ret can73 (Cstr_S _ _ _ _ _ (by assumption) (by assumption) (by assumption)) ?_ | refine call_ret can69 (Itoa_S _ (by first | assumption | omega) (by first | assumption | omega) _) ?_ | refine call_ret can71 (uspell_S _ _ (by assumption) _) ?_ | refine call_ret can67 (ucheck_S _ (by assumption) _) ?_ | refine call_ret can73 (Cs_S _ _ _ _ _ (by assumption) (by assumption) (by assumption)) ?_ | refine W_if ?_ | refine W_ifS ?_ | refine P_heads fun Kh hKh => ?_ | refine P_fin fun Kh hKh => ?_ | refine P_each fun Kb hKb => ?_ | refine W_and ?_) | ((with_reducible refine call_ex can68 (Cw_S _ _ _ _ _ _ (by assumption) (by simp (disch := first | assumption | omega) only [go_sem, seval, owned_other, disown_other, *]) (by assumption) (by first | omega | (simp only [List.length_append, List.length_cons, List.length_nil]; omega))) (fun a h => ?_)); (obtain ⟨hO2, hn2, had2⟩ := h; simp (disch := assumption) only [disown_other, disown_own] at hO2)) | ((with_reducible refine call_ex can68 (Bwrite_S _ _ _ _ _ _ _ (by assumption) (by assumption) (by assumption) (by assumption)) (fun a h => ?_)); (obtain ⟨hO2, hn2, had2⟩ := h; simp (disch := assumption) only [disown_other, disown_own] at hO2)) | ((with_reducible refine call_ex can68 (Cwrite_S _ _ _ _ _ _ (by assumption) (by assumption) (by assumption) (by assumption)) (fun a h => ?_)); (obtain ⟨hO2, hn2, had2⟩ := h; simp (disch := assumption) only [disown_other, disown_own] at hO2)) | ((with_reducible refine call_ex can68 (Bw_S _ _ _ _ _ _ _ (by assumption) (by assumption) (by assumption) (by assumption)) (fun a h => ?_)); (obtain ⟨hO2, hn2, had2⟩ := h; simp (disch := assumption) only [disown_other, disown_own] at hO2)) | ((with_reducible refine call_ex can68 (Cw_S _ _ _ _ _ _ (by assumption) (by assumption) (by assumption) (by first | assumption | (simp only [List.length_append, List.length_cons, List.length_nil]; omega))) (fun a h => ?_)); (obtain ⟨hO2, hn2, had2⟩ := h; simp (disch := assumption) only [disown_other, disown_own] at hO2)) | ((with_reducible refine W_fresh (fun b hb => ?_)); (repeat (obtain ⟨_, hb⟩ := hb))) | ((with_reducible refine W_app (fun o2 ho => ?_)); (try simp (disch := assumption) only [disown_set, disown_own, ownok_o, ownok_m, List.length_map, List.length_cons, List.length_nil, Nat.zero_add, hst, WbS] at ho); (repeat (obtain ⟨_, ho⟩ := ho)))) <;> (try simp (disch := first | assumption | omega) only [go_sem, seval, hst, WbS, *]))))
                    · have hcb : ¬ cb = [] := by intro e; rw [e] at h; simp at h
                      refine ⟨Wb (B.own a.1 5 1 (bs4 ++ 32 :: 58 :: 45 :: 32 :: Lib.join (List.map atmT cb) [44, 32] ++ [46, 10]).length) bw a.2 (bs4 ++ 32 :: 58 :: 45 :: 32 :: Lib.join (List.map atmT cb) [44, 32] ++ [46, 10]) a.1, Fg.set (fg_in (ownok_in hOl)) _ _, m - 1, by omega, i + 1, a.1, a.2, _, by omega, by omega, ?_, rfl, ownok_in hO2, hn2, had2, .inr (by simp), z_sl, z_sl, z_sl, z_sl, z_sl⟩
                      rw [flat_at HX.out, ← List.append_assoc, ← HBS.out, ← show _ = bs4 from HB4]
                      simp [rulT, hT, hcb]
                    · have hcb : cb = [] := by
                        cases cb with
                        | nil => rfl
                        | cons a l => exact absurd (by simp only [List.length_cons]; omega) h
                      refine ⟨Wb (B.own a.1 5 1 (bs4 ++ [46, 10]).length) bw a.2 (bs4 ++ [46, 10]) a.1, Fg.set (fg_in (ownok_in hOl)) _ _, m - 1, by omega, i + 1, a.1, a.2, _, by omega, by omega, ?_, rfl, ownok_in hO2, hn2, had2, .inr (by simp), z_sl, z_sl, z_sl, z_sl, z_sl⟩
                      rw [flat_at HX.out, ← List.append_assoc, ← HBS.out, ← show _ = bs4 from HB4]
                      simp [rulT, hT, hcb]
              · have hiL : i = rs.length := by omega
                rw [hiL, List.take_length] at hbs
                have hpt : bs3 = pgmT ⟨ds, cs, rs⟩ := by rw [hbs, HB2.out, HB1.out]; simp [pgmT]
                have hbl3 : bs3.length ≤ 9223372036854775000 := by
                  have := flat_le (f := rulT) (m := 4000) (l := rs) fun y hy => (rul_small (g3 y hy)).1
                  have h2 : rs.length * 4000 ≤ 64 * 4000 := Nat.mul_le_mul_right _ g6
                  rw [hbs, List.length_append]
                  omega
                have hsg := fun s => signs_S bs3 hbl3 s
                have how : Owned (B.own o 5 1 bs3.length) o 5 1 bs3.length := by rw [owned_own hO]; trivial
                have HPT := Lib.hid hpt
                clear hbs hpt
                cases hL : lexSigns bs3 with
                | error q =>
                  obtain ⟨a, e⟩ := q
                  have he := lexSigns_errU hL
                  have he' : ¬ (e : Int) = 0 := by omega
                  rw [hL] at hsg
                  simp only [signsV] at hsg
                  (repeat' (first | refine Ctl ?_ | ((with_reducible refine Kof.use hK ?_); clear hK hE K E) | ((with_reducible refine Eof.use hE ?_); (try clear hK hE K E)) | ((with_reducible refine Kof.use hKh ?_); clear hKh Kh) | ((with_reducible refine Kof.use hKb (P_next ?_)); clear hKb Kb) | (with_reducible first | refine G_plan 7 [([0, 1, 2, 3, 4, 5], 6, [[0, 1, 2, 3]]), ([7, 8], 9, [[], []])] [] hQe fun K E hK hE => ?_ | refine G_plan 12 [([0, 1, 2, 3, 4, 5], 6, [[0, 1, 2, 3]]), ([7, 8], 9, [[], []])] [] hQe fun K E hK hE => ?_) | ((with_reducible refine W_cond (fun h => ?_) (fun h => ?_)) <;> (try (exfalso; first | assumption | omega))) | ((first | (with_reducible first | refine G_region fun K E hK hE => ?_ | refine call_ret can72 (hsg _) ?_ | refine call_ret can73 (Cs_S _ _ _ _ _ how (by assumption) (by assumption)) ?_ | refine call_ret can73 (Bstr_S _ _ _ _ _ _ (by assumption) (by assumption) (by assumption)) ?_ | refine call_ret can73 (Cstr_S _ _ _ _ _ (by assumption) (by assumption) (by assumption)) ?_ | refine call_ret can69 (Itoa_S _ (by first | assumption | omega) (by first | assumption | omega) _) ?_ | refine call_ret can71 (uspell_S _ _ (by assumption) _) ?_ | refine call_ret can67 (ucheck_S _ (by assumption) _) ?_ | refine call_ret can73 (Cs_S _ _ _ _ _ (by assumption) (by assumption) (by assumption)) ?_ | refine W_if ?_ | refine W_ifS ?_ | refine P_heads fun Kh hKh => ?_ | refine P_fin fun Kh hKh => ?_ | refine P_each fun Kb hKb => ?_ | refine W_and ?_) | ((with_reducible refine call_ex can68 (Bwrite_S _ _ _ _ _ _ _ (by assumption) (by assumption) (by assumption) (by assumption)) (fun a h => ?_))) | ((with_reducible refine call_ex can68 (Cwrite_S _ _ _ _ _ _ (by assumption) (by assumption) (by assumption) (by assumption)) (fun a h => ?_))) | ((with_reducible refine call_ex can68 (Bw_S _ _ _ _ _ _ _ (by assumption) (by assumption) (by assumption) (by assumption)) (fun a h => ?_))) | ((with_reducible refine call_ex can68 (Cw_S _ _ _ _ _ _ (by assumption) (by assumption) (by assumption) (by first | assumption | (simp only [List.length_append, List.length_cons, List.length_nil]; omega))) (fun a h => ?_))) | ((with_reducible refine W_fresh (fun b hb => ?_)); (repeat (obtain ⟨_, hb⟩ := hb))) | ((with_reducible refine W_app (fun o2 ho => ?_)); (try simp (disch := assumption) only [disown_set, disown_own, ownok_o, ownok_m, List.length_map, List.length_cons, List.length_nil, Nat.zero_add, List.length_map] at ho); (repeat (obtain ⟨_, ho⟩ := ho)))) <;> (try simp (disch := first | assumption | omega) only [go_sem, seval, List.length_map, *]))))
                  all_goals (first | refine W_ret res55 hQ ?_ | refine W_norm res55 hQ ?_ | refine G_pan hQ ?_)
                  all_goals (refine ⟨_, _, Wk.of_eq ?_, ?_, rfl, rfl⟩)
                  · simp only [printU, hB, if_true]
                    rw [← show bs3 = _ from HPT, hL]
                  · exact ((Fg.of_set _ (by rw [own_fr]; exact ⟨hno, HBW.out⟩)).trans (Fg.own hO)).trans HF
                | ok L =>
                  rw [hL] at hsg
                  simp only [signsV] at hsg
                  (repeat' (first | refine Ctl ?_ | ((with_reducible refine Kof.use hK ?_); clear hK hE K E) | ((with_reducible refine Eof.use hE ?_); (try clear hK hE K E)) | ((with_reducible refine Kof.use hKh ?_); clear hKh Kh) | ((with_reducible refine Kof.use hKb (P_next ?_)); clear hKb Kb) | (with_reducible first | refine G_plan 7 [([0, 1, 2, 3, 4, 5], 6, [[0, 1, 2, 3]]), ([7, 8], 9, [[], []])] [] hQe fun K E hK hE => ?_ | refine G_plan 12 [([0, 1, 2, 3, 4, 5], 6, [[0, 1, 2, 3]]), ([7, 8], 9, [[], []])] [] hQe fun K E hK hE => ?_) | ((with_reducible refine W_cond (fun h => ?_) (fun h => ?_)) <;> (try (exfalso; first | assumption | omega))) | ((first | (with_reducible first | refine G_region fun K E hK hE => ?_ | refine call_ret can72 (hsg _) ?_ | refine call_ret can73 (Cs_S _ _ _ _ _ how (by assumption) (by assumption)) ?_ | refine call_ret can73 (Bstr_S _ _ _ _ _ _ (by assumption) (by assumption) (by assumption)) ?_ | refine call_ret can73 (Cstr_S _ _ _ _ _ (by assumption) (by assumption) (by assumption)) ?_ | refine call_ret can69 (Itoa_S _ (by first | assumption | omega) (by first | assumption | omega) _) ?_ | refine call_ret can71 (uspell_S _ _ (by assumption) _) ?_ | refine call_ret can67 (ucheck_S _ (by assumption) _) ?_ | refine call_ret can73 (Cs_S _ _ _ _ _ (by assumption) (by assumption) (by assumption)) ?_ | refine W_if ?_ | refine W_ifS ?_ | refine P_heads fun Kh hKh => ?_ | refine P_fin fun Kh hKh => ?_ | refine P_each fun Kb hKb => ?_ | refine W_and ?_) | ((with_reducible refine call_ex can68 (Bwrite_S _ _ _ _ _ _ _ (by assumption) (by assumption) (by assumption) (by assumption)) (fun a h => ?_))) | ((with_reducible refine call_ex can68 (Cwrite_S _ _ _ _ _ _ (by assumption) (by assumption) (by assumption) (by assumption)) (fun a h => ?_))) | ((with_reducible refine call_ex can68 (Bw_S _ _ _ _ _ _ _ (by assumption) (by assumption) (by assumption) (by assumption)) (fun a h => ?_))) | ((with_reducible refine call_ex can68 (Cw_S _ _ _ _ _ _ (by assumption) (by assumption) (by assumption) (by first | assumption | (simp only [List.length_append, List.length_cons, List.length_nil]; omega))) (fun a h => ?_))) | ((with_reducible refine W_fresh (fun b hb => ?_)); (repeat (obtain ⟨_, hb⟩ := hb))) | ((with_reducible refine W_app (fun o2 ho => ?_)); (try simp (disch := assumption) only [disown_set, disown_own, ownok_o, ownok_m, List.length_map, List.length_cons, List.length_nil, Nat.zero_add, List.length_map] at ho); (repeat (obtain ⟨_, ho⟩ := ho)))) <;> (try simp (disch := first | assumption | omega) only [go_sem, seval, List.length_map, *]))))
                  all_goals (first | refine W_ret res55 hQ ?_ | refine W_norm res55 hQ ?_ | refine G_pan hQ ?_)
                  all_goals (refine ⟨_, _, Wk.of_eq ?_, ?_, rfl, rfl⟩)
                  · simp only [printU, hB, if_true]
                    rw [← show bs3 = _ from HPT, hL]
                  · exact ((Fg.of_set _ (by rw [own_fr]; exact ⟨hno, HBW.out⟩)).trans (Fg.own hO)).trans HF
end Go.Proofs.YtdibndmkeipgbaaGreatDoor
