/- What is proved: What SoundLess hands back. Conditions: what fits a memory. Conditions: those that stand in the statements. -/
import Derived.Test.YtdibndmkeipgbaaDoorZYrj
import Derived.Test.YtdibndmkeipgbaaDoorZBit
set_option linter.unusedSimpArgs false
set_option linter.unusedVariables false
set_option maxRecDepth 100000
namespace Go.Proofs.YtdibndmkeipgbaaDoor
open Go.RowKit

attribute [local go_sem] disown_fl owned_fl own_fl

/-- A program whose lists are owned, or not. -/
theorem pg_wk {f : FuncId} {y : VV} {t u : St} {X1 X2 X3 : List (List VV)} (h : SRet Tryd.prog f [.agg [.lst X1 .no, .lst X2 .no, .lst X3 .no]] t y u) (o1 o2 o3 : Own) : SRet Tryd.prog f [.agg [.lst X1 o1, .lst X2 o2, .lst X3 o3]] t y u :=
  SCalls.wk h rfl fun j x y hx hy => by
    match j with
    | 0 => simp at hx hy; subst hx; subst hy; exact Wk.agg (.lst _ _ (.lst _ _ (.lst _ _ .nil)))
    | j + 1 => simp at hx
theorem at_mod (at_ : Int) {n : Nat} (hn : 0 < n) : ∃ k : Nat, (bAnd .i64 at_ 255).tmod (n : Int) = (k : Int) ∧ k < n := by
  have h1 := bAnd_low at_ 8 (by omega)
  have h2 : bAnd .i64 at_ 255 = at_ % 256 := h1
  have h3 : 0 ≤ at_ % 256 := Int.emod_nonneg _ (by omega)
  rw [h2, Int.tmod_eq_emod_of_nonneg h3]
  have h4 : 0 ≤ at_ % 256 % (n : Int) := Int.emod_nonneg _ (by omega)
  have h5 : at_ % 256 % (n : Int) < n := Int.emod_lt_of_pos _ (by omega)
  exact ⟨(at_ % 256 % (n : Int)).toNat, by omega, by omega⟩
set_option maxHeartbeats 8000000 in
theorem SoundLess_S (x : Pgm) (a : Int) (hx : PgmOk x) (t : St) : SRet Tryd.prog 4 [.agg (pgC x), .int .i64 a] t (.bool true) t := by
  have w1 := fun s => UFew_S x hx s
  have w2 := fun s => Sstr_S x hx s
  have hle : (x.decls.map dclC).length = x.decls.length := by simp
  have hlr : (x.rules.map rulC).length = x.rules.length := by simp
  have hrl := hx.2.2.1
  by_cases h0 : x.rules.length = 0
  · have h0i : ((x.rules.length : Int) = 0) = True := eq_true (by omega)
    generalize soundP x = Z at *
    simp only [pgC] at w1 w2 ⊢
    refine G_enter Tryd.func4 rfl Tryd.ntmps4 rfl fun Q hQ hQe => ?_
    (repeat' (first | (with_reducible first | refine L_seq ?_ | refine L_blk ?_ | refine L_skip ?_ | refine L_endblk ?_ | refine L_ret ?_ | refine L_exit ?_ | refine X_code ?_ | refine X_back ?_ | refine X_blk ?_ | refine X_past (by decide) ?_ | refine L_back ?_) | ((with_reducible refine Kof.use hK ?_); clear hK hE K E) | ((with_reducible refine Eof.use hE ?_); (try clear hK hE K E)) | ((with_reducible refine Kof.use hKh ?_); clear hKh Kh) | ((with_reducible refine Kof.use hKb (P_next ?_)); clear hKb Kb) | (with_reducible first | refine G_plan 8 [([0, 1, 2, 3, 4, 5], 6, [[]]), ([7], 8, [[], []])] [] hQe fun K E hK hE => ?_ | refine G_plan 9 [([0, 1, 2, 3, 4, 5, 6], 7, [[]]), ([8], 9, [[], []])] [] hQe fun K E hK hE => ?_ | refine G_plan 17 [] [0, 1, 2, 3, 4, 5, 6, 7, 8] hQe fun K E hK hE => ?_) | ((with_reducible refine W_cond (fun h => ?_) (fun h => ?_)) <;> (try (exfalso; first | assumption | omega))) | ((first | (with_reducible first | refine G_region fun K E hK hE => ?_ | refine call_ret can10 (Scheck_S _ (by assumption) _) ?_ | refine call_ret can9 (Sstr_S _ (by assumption) _) ?_ | refine call_ret can8 (Sawake_S _) ?_ | refine W_if ?_ | refine W_ifS ?_ | refine P_heads fun Kh hKh => ?_ | refine P_fin fun Kh hKh => ?_ | refine P_each fun Kb hKb => ?_ | refine W_and ?_) | ((with_reducible refine call_ex can7 (w1 _) (fun a h => ?_))) | ((with_reducible refine call_ex can7 (UFew_S _ (by assumption) _) (fun a h => ?_))) | ((with_reducible refine W_fresh (fun b hb => ?_)); (repeat (obtain ⟨_, hb⟩ := hb))) | ((with_reducible refine W_app (fun o2 ho => ?_)); (try simp (disch := assumption) only [disown_set, disown_own, ownok_o, ownok_m, List.length_map, List.length_cons, List.length_nil, Nat.zero_add, hlr, h0i] at ho); (repeat (obtain ⟨_, ho⟩ := ho))) | ((with_reducible refine W_gd (fun h => ?_) (fun h => ?_)) <;> (try (exfalso; first | assumption | omega)))) <;> (try simp (disch := first | assumption | omega) only [go_sem, seval, hlr, h0i, *]))))
    all_goals (first | refine G_ret hQ (by simp (disch := first | assumption | omega) only [res4, go_sem, seval, *] <;> rfl) ?_ | refine G_norm hQ (by simp (disch := first | assumption | omega) only [res4, go_sem, seval, *] <;> rfl) ?_ | refine G_pan hQ ?_)
    all_goals (refine ⟨_, _, Wk.of_eq ?_, ?_, rfl, rfl⟩)
    all_goals first | rfl | ((try dsimp only); (repeat (first | exact Fg.refl _ | exact Fg.own (by assumption) | (refine Fg.set ?_ _ _) | (refine Fg.setA ?_ (by first | assumption | (simp (disch := assumption) only [own_rd, St.set, if_false, if_true, *]; done))) )); done)
  · by_cases he : (soundP x).2.1 = 0
    · obtain ⟨k, hk, hkl⟩ := at_mod a (n := x.rules.length) (by omega)
      have hsub : ∀ r, r ∈ x.rules.take k ++ x.rules.drop (k + 1) → r ∈ x.rules := by
        intro r hr
        rcases List.mem_append.1 hr with h | h
        · exact List.mem_of_mem_take h
        · exact List.mem_of_mem_drop h
      have hlen : (x.rules.take k ++ x.rules.drop (k + 1)).length ≤ x.rules.length := by simp only [List.length_append, List.length_take, List.length_drop]; omega
      obtain ⟨l, m, hs, hs', hll, hml, hle2, hlt, h32⟩ := sound_sub he hsub hlen
      have hok := hx.sub hsub hlen
      have w3 := fun s => Sstr_S _ hok s
      have w4 := fun s => Scheck_S _ hok s
      rw [hs] at w2
      rw [hs'] at w3 w4
      have hil : (iL l).length = x.decls.length := by rw [iL_len]; exact hll
      have him : (iL m).length = x.decls.length := by rw [iL_len]; exact hml
      have HLE := Lib.hid hle2
      have HLT := Lib.hid hlt
      have htk : List.take k (x.rules.map rulC) = (x.rules.take k).map rulC := by rw [List.map_take]
      have hdk : List.drop (k + 1) (x.rules.map rulC) = (x.rules.drop (k + 1)).map rulC := by rw [List.map_drop]
      have he0 := he
      clear hle2 hlt hs hs' he hsub hok
      have h64 : x.rules.length ≤ 64 := by
        obtain ⟨_, _, hr, _⟩ := sound_ok he0
        exact (pgm_bd (read_pgm hr)).2.1
      have hltk : (x.rules.take k).length = k := by rw [List.length_take]; omega
      have hldk : (x.rules.drop (k + 1)).length = x.rules.length - (k + 1) := by rw [List.length_drop]
      have hr5 : ∀ y, y ∈ (x.rules.take k).map rulC → y.length = 4 := by
        intro y hy
        obtain ⟨r, _, rfl⟩ := List.mem_map.1 hy
        rfl
      have hr6 : ∀ y, y ∈ (x.rules.drop (k + 1)).map rulC → y.length = 4 := by
        intro y hy
        obtain ⟨r, _, rfl⟩ := List.mem_map.1 hy
        rfl
      clear he0
      have hrr : x.rules.length ≤ x.rules.length := Nat.le_refl _
      have hdk2 : List.drop (k + 1) (List.take x.rules.length (x.rules.map rulC)) = (x.rules.drop (k + 1)).map rulC := by
        rw [List.take_of_length_le (by simp), List.map_drop]
      have h0k : 0 ≤ k := Nat.zero_le _
      have hk2 : k ≤ x.rules.length := Nat.le_of_lt hkl
      have hk3 : k + 1 ≤ x.rules.length := hkl
      have hr4 : ∀ y, y ∈ x.rules.map rulC → y.length = 4 := by
        intro y hy
        obtain ⟨r, _, rfl⟩ := List.mem_map.1 hy
        rfl
      simp only [pgC, List.map_append] at w1 w2 w3 w4 ⊢
      have v3 := fun o1 o2 o3 s => pg_wk (w3 s) o1 o2 o3
      have v4 := fun o1 o2 o3 s => pg_wk (w4 s) o1 o2 o3
      clear w3 w4
      rw [show intsL (List.map (fun n : Nat => (n : Int)) l) = iL l from rfl] at w2
      rw [show intsL (List.map (fun n : Nat => (n : Int)) m) = iL m from rfl] at v3
      refine G_enter Tryd.func4 rfl Tryd.ntmps4 rfl fun Q hQ hQe => ?_
      (repeat' (first | (with_reducible first | refine L_seq ?_ | refine L_blk ?_ | refine L_skip ?_ | refine L_endblk ?_ | refine L_ret ?_ | refine L_exit ?_ | refine X_code ?_ | refine X_back ?_ | refine X_blk ?_ | refine X_past (by decide) ?_ | refine L_back ?_) | ((with_reducible refine Kof.use hK ?_); clear hK hE K E) | ((with_reducible refine Eof.use hE ?_); (try clear hK hE K E)) | ((with_reducible refine Kof.use hKh ?_); clear hKh Kh) | ((with_reducible refine Kof.use hKb (P_next ?_)); clear hKb Kb) | (with_reducible first | refine G_plan 8 [([0, 1, 2, 3, 4, 5], 6, [[]]), ([7], 8, [[], []])] [] hQe fun K E hK hE => ?_ | refine G_plan 9 [([0, 1, 2, 3, 4, 5, 6], 7, [[]]), ([8], 9, [[], []])] [] hQe fun K E hK hE => ?_ | refine G_plan 17 [] [0, 1, 2, 3, 4, 5, 6, 7, 8] hQe fun K E hK hE => ?_) | ((with_reducible refine W_cond (fun h => ?_) (fun h => ?_)) <;> (try (exfalso; first | assumption | omega))) | ((first | (with_reducible first | refine G_region fun K E hK hE => ?_ | refine call_ret can9 (w2 _) ?_ | refine call_ret can9 (v3 _ _ _ _) ?_ | refine call_ret can10 (v4 _ _ _ _) ?_ | refine call_ret can10 (Scheck_S _ (by assumption) _) ?_ | refine call_ret can9 (Sstr_S _ (by assumption) _) ?_ | refine call_ret can8 (Sawake_S _) ?_ | refine W_if ?_ | refine W_ifS ?_ | refine P_heads fun Kh hKh => ?_ | refine P_fin fun Kh hKh => ?_ | refine P_each fun Kb hKb => ?_ | refine W_and ?_) | ((with_reducible refine call_ex can7 (w1 _) (fun a h => ?_))) | ((with_reducible refine call_ex can7 (UFew_S _ (by assumption) _) (fun a h => ?_))) | ((with_reducible refine W_fresh (fun b hb => ?_)); (repeat (obtain ⟨_, hb⟩ := hb))) | ((with_reducible refine W_app (fun o2 ho => ?_)); (try simp (disch := assumption) only [disown_set, disown_own, ownok_o, ownok_m, List.length_map, List.length_cons, List.length_nil, Nat.zero_add, hlr, hle, hil, him, hk, htk, hdk, disown_fl, hltk, hdk2, hldk] at ho); (repeat (obtain ⟨_, ho⟩ := ho))) | ((with_reducible refine W_gd (fun h => ?_) (fun h => ?_)) <;> (try (exfalso; first | assumption | omega)))) <;> (try simp (disch := first | assumption | omega) only [go_sem, seval, hlr, hle, hil, him, hk, htk, hdk, disown_fl, hltk, hdk2, hldk, *]))))
      · all_goals (first | refine G_ret hQ (by simp (disch := first | assumption | omega) only [res4, go_sem, seval, *] <;> rfl) ?_ | refine G_norm hQ (by simp (disch := first | assumption | omega) only [res4, go_sem, seval, *] <;> rfl) ?_ | refine G_pan hQ ?_)
        all_goals (refine ⟨_, _, Wk.of_eq ?_, ?_, rfl, rfl⟩)
        all_goals first | rfl | ((try dsimp only); (repeat (first | exact Fg.refl _ | exact Fg.own (by assumption) | (refine Fg.set ?_ _ _) | (refine Fg.setA ?_ (by first | assumption | (simp (disch := assumption) only [own_rd, St.set, if_false, if_true, *]; done))) )); done)
      · all_goals (first | refine G_ret hQ (by simp (disch := first | assumption | omega) only [res4, go_sem, seval, *] <;> rfl) ?_ | refine G_norm hQ (by simp (disch := first | assumption | omega) only [res4, go_sem, seval, *] <;> rfl) ?_ | refine G_pan hQ ?_)
        all_goals (refine ⟨_, _, Wk.of_eq ?_, ?_, rfl, rfl⟩)
        all_goals first | rfl | ((try dsimp only); (repeat (first | exact Fg.refl _ | exact Fg.own (by assumption) | (refine Fg.set ?_ _ _) | (refine Fg.setA ?_ (by first | assumption | (simp (disch := assumption) only [own_rd, St.set, if_false, if_true, *]; done))) )); done)
      · rename_i q2 hq2 _ _ _ _ _ _ _ _ _ _ _ _
        obtain ⟨q1, hq1⟩ : ∃ z, z = b := ⟨_, rfl⟩
        subst hq1
        have hF : Fg (((t.own o2 42 4 (k + (x.rules.length - (k + 1)))).set q2 (.obj 26 [.lst (x.doms.map dmC) .no, .lst (x.decls.map dclC) .no, .lst (x.rules.map rulC) .no])).set q1 (.obj 26 [.lst (x.doms.map dmC) .no, .lst (x.decls.map dclC) .no, .lst ((x.rules.take k).map rulC ++ (x.rules.drop (k + 1)).map rulC) o2])) t := by ((try dsimp only); (repeat (first | exact Fg.refl _ | exact Fg.own (by assumption) | (refine Fg.set ?_ _ _) | (refine Fg.setA ?_ (by first | assumption | (simp (disch := assumption) only [own_rd, St.set, if_false, if_true, *]; done))) )); done)
        generalize ((t.own o2 42 4 (k + (x.rules.length - (k + 1)))).set q2 (.obj 26 [.lst (x.doms.map dmC) .no, .lst (x.decls.map dclC) .no, .lst (x.rules.map rulC) .no])).set q1 (.obj 26 [.lst (x.doms.map dmC) .no, .lst (x.decls.map dclC) .no, .lst ((x.rules.take k).map rulC ++ (x.rules.drop (k + 1)).map rulC) o2]) = S at *
        have HF := Lib.hid hF
        clear hF
        generalize x.decls.length = n at *
        refine G_loop (fun m' env s' => ∃ j : Nat, j ≤ n ∧ m' + j = n ∧ s' = S ∧ env 5 = .lst (iL l) .no ∧ env 9 = .lst (iL m) .no ∧ env 13 = .int .i64 j) n ?_ ?_
        · exact ⟨_, Fg.refl _, 0, by omega, by omega, rfl, by ((try simp (disch := first | assumption | omega) only [go_sem, seval, *]) <;> first | rfl | omega), by ((try simp (disch := first | assumption | omega) only [go_sem, seval, *]) <;> first | rfl | omega), by ((try simp (disch := first | assumption | omega) only [go_sem, seval, *]) <;> first | rfl | omega)⟩
        · rintro m' env s' ⟨j, hj, hm', rfl, e5, e9, e13⟩
          by_cases hlt2 : j < n
          · have hlj := iL_at (l := l) (i := j) (by omega)
            have hmj := iL_at (l := m) (i := j) (by omega)
            have hv := HLE.out j
            have hv2 : ¬ ((gt l j : Int) < (gt m j : Int)) := by omega
            generalize gt l j = v at *
            generalize gt m j = u at *
            (repeat' (first | (with_reducible first | refine L_seq ?_ | refine L_blk ?_ | refine L_skip ?_ | refine L_endblk ?_ | refine L_ret ?_ | refine L_exit ?_ | refine X_code ?_ | refine X_back ?_ | refine X_blk ?_ | refine X_past (by decide) ?_ | refine L_back ?_) | ((with_reducible refine Kof.use hK ?_); clear hK hE K E) | ((with_reducible refine Eof.use hE ?_); (try clear hK hE K E)) | ((with_reducible refine Kof.use hKh ?_); clear hKh Kh) | ((with_reducible refine Kof.use hKb (P_next ?_)); clear hKb Kb) | (with_reducible first | refine G_plan 8 [([0, 1, 2, 3, 4, 5], 6, [[]]), ([7], 8, [[], []])] [] hQe fun K E hK hE => ?_ | refine G_plan 9 [([0, 1, 2, 3, 4, 5, 6], 7, [[]]), ([8], 9, [[], []])] [] hQe fun K E hK hE => ?_ | refine G_plan 17 [] [0, 1, 2, 3, 4, 5, 6, 7, 8] hQe fun K E hK hE => ?_) | ((with_reducible refine W_cond (fun h => ?_) (fun h => ?_)) <;> (try (exfalso; first | assumption | omega))) | ((first | (with_reducible first | refine G_region fun K E hK hE => ?_ | refine call_ret can10 (Scheck_S _ (by assumption) _) ?_ | refine call_ret can9 (Sstr_S _ (by assumption) _) ?_ | refine call_ret can8 (Sawake_S _) ?_ | refine W_if ?_ | refine W_ifS ?_ | refine P_heads fun Kh hKh => ?_ | refine P_fin fun Kh hKh => ?_ | refine P_each fun Kb hKb => ?_ | refine W_and ?_) | ((with_reducible refine call_ex can7 (UFew_S _ (by assumption) _) (fun a h => ?_))) | ((with_reducible refine W_fresh (fun b hb => ?_)); (repeat (obtain ⟨_, hb⟩ := hb))) | ((with_reducible refine W_app (fun o2 ho => ?_)); (try simp (disch := assumption) only [disown_set, disown_own, ownok_o, ownok_m, List.length_map, List.length_cons, List.length_nil, Nat.zero_add, hil, him, hlj, hmj] at ho); (repeat (obtain ⟨_, ho⟩ := ho))) | ((with_reducible refine W_gd (fun h => ?_) (fun h => ?_)) <;> (try (exfalso; first | assumption | omega)))) <;> (try simp (disch := first | assumption | omega) only [go_sem, seval, hil, him, hlj, hmj, *]))))
            exact ⟨_, Fg.refl _, m' - 1, by omega, j + 1, by omega, by omega, rfl, by ((try simp (disch := first | assumption | omega) only [go_sem, seval, *]) <;> first | rfl | omega), by ((try simp (disch := first | assumption | omega) only [go_sem, seval, *]) <;> first | rfl | omega), by ((try simp (disch := first | assumption | omega) only [go_sem, seval, *]) <;> first | rfl | omega)⟩
          · (repeat' (first | (with_reducible first | refine L_seq ?_ | refine L_blk ?_ | refine L_skip ?_ | refine L_endblk ?_ | refine L_ret ?_ | refine L_exit ?_ | refine X_code ?_ | refine X_back ?_ | refine X_blk ?_ | refine X_past (by decide) ?_ | refine L_back ?_) | ((with_reducible refine Kof.use hK ?_); clear hK hE K E) | ((with_reducible refine Eof.use hE ?_); (try clear hK hE K E)) | ((with_reducible refine Kof.use hKh ?_); clear hKh Kh) | ((with_reducible refine Kof.use hKb (P_next ?_)); clear hKb Kb) | (with_reducible first | refine G_plan 8 [([0, 1, 2, 3, 4, 5], 6, [[]]), ([7], 8, [[], []])] [] hQe fun K E hK hE => ?_ | refine G_plan 9 [([0, 1, 2, 3, 4, 5, 6], 7, [[]]), ([8], 9, [[], []])] [] hQe fun K E hK hE => ?_ | refine G_plan 17 [] [0, 1, 2, 3, 4, 5, 6, 7, 8] hQe fun K E hK hE => ?_) | ((with_reducible refine W_cond (fun h => ?_) (fun h => ?_)) <;> (try (exfalso; first | assumption | omega))) | ((first | (with_reducible first | refine G_region fun K E hK hE => ?_ | refine call_ret can10 (Scheck_S _ (by assumption) _) ?_ | refine call_ret can9 (Sstr_S _ (by assumption) _) ?_ | refine call_ret can8 (Sawake_S _) ?_ | refine W_if ?_ | refine W_ifS ?_ | refine P_heads fun Kh hKh => ?_ | refine P_fin fun Kh hKh => ?_ | refine P_each fun Kb hKb => ?_ | refine W_and ?_) | ((with_reducible refine call_ex can7 (UFew_S _ (by assumption) _) (fun a h => ?_))) | ((with_reducible refine W_fresh (fun b hb => ?_)); (repeat (obtain ⟨_, hb⟩ := hb))) | ((with_reducible refine W_app (fun o2 ho => ?_)); (try simp (disch := assumption) only [disown_set, disown_own, ownok_o, ownok_m, List.length_map, List.length_cons, List.length_nil, Nat.zero_add, hil, him] at ho); (repeat (obtain ⟨_, ho⟩ := ho))) | ((with_reducible refine W_gd (fun h => ?_) (fun h => ?_)) <;> (try (exfalso; first | assumption | omega)))) <;> (try simp (disch := first | assumption | omega) only [go_sem, seval, hil, him, *]))))
            all_goals (first | refine G_ret hQ (by simp (disch := first | assumption | omega) only [res4, go_sem, seval, *] <;> rfl) ?_ | refine G_norm hQ (by simp (disch := first | assumption | omega) only [res4, go_sem, seval, *] <;> rfl) ?_ | refine G_pan hQ ?_)
            all_goals (refine ⟨_, _, Wk.of_eq ?_, ?_, rfl, rfl⟩)
            all_goals first | rfl | exact HF.out
    · have hs := sound_bad he
      generalize soundP x = Z at *
      simp only [pgC] at w1 w2 ⊢
      refine G_enter Tryd.func4 rfl Tryd.ntmps4 rfl fun Q hQ hQe => ?_
      (repeat' (first | (with_reducible first | refine L_seq ?_ | refine L_blk ?_ | refine L_skip ?_ | refine L_endblk ?_ | refine L_ret ?_ | refine L_exit ?_ | refine X_code ?_ | refine X_back ?_ | refine X_blk ?_ | refine X_past (by decide) ?_ | refine L_back ?_) | ((with_reducible refine Kof.use hK ?_); clear hK hE K E) | ((with_reducible refine Eof.use hE ?_); (try clear hK hE K E)) | ((with_reducible refine Kof.use hKh ?_); clear hKh Kh) | ((with_reducible refine Kof.use hKb (P_next ?_)); clear hKb Kb) | (with_reducible first | refine G_plan 8 [([0, 1, 2, 3, 4, 5], 6, [[]]), ([7], 8, [[], []])] [] hQe fun K E hK hE => ?_ | refine G_plan 9 [([0, 1, 2, 3, 4, 5, 6], 7, [[]]), ([8], 9, [[], []])] [] hQe fun K E hK hE => ?_ | refine G_plan 17 [] [0, 1, 2, 3, 4, 5, 6, 7, 8] hQe fun K E hK hE => ?_) | ((with_reducible refine W_cond (fun h => ?_) (fun h => ?_)) <;> (try (exfalso; first | assumption | omega))) | ((first | (with_reducible first | refine G_region fun K E hK hE => ?_ | refine call_ret can9 (w2 _) ?_ | refine call_ret can10 (Scheck_S _ (by assumption) _) ?_ | refine call_ret can9 (Sstr_S _ (by assumption) _) ?_ | refine call_ret can8 (Sawake_S _) ?_ | refine W_if ?_ | refine W_ifS ?_ | refine P_heads fun Kh hKh => ?_ | refine P_fin fun Kh hKh => ?_ | refine P_each fun Kb hKb => ?_ | refine W_and ?_) | ((with_reducible refine call_ex can7 (w1 _) (fun a h => ?_))) | ((with_reducible refine call_ex can7 (UFew_S _ (by assumption) _) (fun a h => ?_))) | ((with_reducible refine W_fresh (fun b hb => ?_)); (repeat (obtain ⟨_, hb⟩ := hb))) | ((with_reducible refine W_app (fun o2 ho => ?_)); (try simp (disch := assumption) only [disown_set, disown_own, ownok_o, ownok_m, List.length_map, List.length_cons, List.length_nil, Nat.zero_add, hlr] at ho); (repeat (obtain ⟨_, ho⟩ := ho))) | ((with_reducible refine W_gd (fun h => ?_) (fun h => ?_)) <;> (try (exfalso; first | assumption | omega)))) <;> (try simp (disch := first | assumption | omega) only [go_sem, seval, hlr, *]))))
      all_goals (first | refine G_ret hQ (by simp (disch := first | assumption | omega) only [res4, go_sem, seval, *] <;> rfl) ?_ | refine G_norm hQ (by simp (disch := first | assumption | omega) only [res4, go_sem, seval, *] <;> rfl) ?_ | refine G_pan hQ ?_)
      all_goals (refine ⟨_, _, Wk.of_eq ?_, ?_, rfl, rfl⟩)
      all_goals first | rfl | ((try dsimp only); (repeat (first | exact Fg.refl _ | exact Fg.own (by assumption) | (refine Fg.set ?_ _ _) | (refine Fg.setA ?_ (by first | assumption | (simp (disch := assumption) only [own_rd, St.set, if_false, if_true, *]; done))) )); done)
end Go.Proofs.YtdibndmkeipgbaaDoor
