/- What is proved: The law ClassTurns, walked. Conditions: lists and texts of at most 2^47 parts. Conditions: those that stand in the statements. -/
import Derived.Test.YtejlknplmfmceaaZCz
import Derived.Test.YtejlknplmfmceaaZMf
import Derived.Test.YtejlknplmfmceaaZBit
set_option linter.unusedSimpArgs false
set_option linter.unusedVariables false
set_option maxRecDepth 100000
namespace Go.Proofs.Ytejlknplmfmceaa
open Go.RowKit

attribute [local go_sem] disown_fl owned_fl own_fl
theorem SCalls.wk16 {P : Program} {f : FuncId} {xs ys : List VV} {s : St} {Q : SEnd → St → Prop} (h : SCalls P f ys s Q) (hl : xs.length = ys.length) (hw : ∀ (j : Nat) (x y : VV), xs[j]? = some x → ys[j]? = some y → Wk x y) : SCalls P f xs s Q :=
  fun w0 G w vs hS hr => h w0 G w vs hS ⟨hr.1.trans hl, fun j v y hv hy => by
    have hj : j < xs.length := by rw [hl]; exact (List.getElem?_eq_some_iff.1 hy).1
    exact hw j xs[j] y (List.getElem?_eq_getElem hj) hy G v (hr.2 j v xs[j] hv (List.getElem?_eq_getElem hj))⟩
/-- A source whose list is owned, or not. -/
theorem src_wk {f : FuncId} {y : VV} {t u : St} {X : List (List VV)} (h : SRet Try.prog f [.agg [.lst X .no]] t y u) (o : Own) : SRet Try.prog f [.agg [.lst X o]] t y u :=
  SCalls.wk16 h rfl fun j x y hx hy => by
    match j with
    | 0 => simp at hx hy; subst hx; subst hy; exact Wk.agg (.lst _ _ .nil)
    | j + 1 => simp at hx
/-- What stands in another order. -/
def turnL (x : List Cls) (e : Nat) : Nat → List Cls
  | 0 => []
  | i + 1 => turnL x e i ++ (match x[(i + e) % x.length]? with | some c => [c] | none => [])
theorem turn_at {x : List Cls} (h : 0 < x.length) (e : Nat) : ∀ (i k : Nat), k < i → (turnL x e i)[k]? = x[(k + e) % x.length]? ∧ (turnL x e i).length = i
  | 0, k, hk => by omega
  | i + 1, k, hk => by
    have hlt : (i + e) % x.length < x.length := Nat.mod_lt _ h
    obtain ⟨c, hc⟩ := uget hlt
    have hl : (turnL x e i).length = i := by
      by_cases hi : i = 0
      · subst hi; rfl
      · exact (turn_at h e i 0 (by omega)).2
    simp only [turnL, hc, List.length_append, List.length_cons, List.length_nil]
    refine ⟨?_, by omega⟩
    by_cases hki : k < i
    · rw [List.getElem?_append_left (by omega)]; exact (turn_at h e i k hki).1
    · have : k = i := by omega
      subst this
      rw [List.getElem?_append_right (by omega), hl, hc]; simp
theorem turn_perm {x : List Cls} (h : 0 < x.length) (e : Nat) : (turnL x e x.length).Perm x := by
  have hr : e % x.length < x.length := Nat.mod_lt _ h
  have he : turnL x e x.length = x.drop (e % x.length) ++ x.take (e % x.length) := by
    refine lst_eqC ?_ ?_
    · rw [(turn_at h e x.length 0 h).2]; simp only [List.length_append, List.length_drop, List.length_take]; omega
    · intro k hk
      rw [(turn_at h e x.length 0 h).2] at hk
      rw [(turn_at h e x.length k hk).1]
      have hm : (k + e) % x.length = (k + e % x.length) % x.length := by rw [Nat.add_mod_mod]
      by_cases hk2 : k < x.length - e % x.length
      · rw [List.getElem?_append_left (by simp only [List.length_drop]; exact hk2), List.getElem?_drop, hm, Nat.mod_eq_of_lt (by omega), Nat.add_comm]
      · rw [List.getElem?_append_right (by simp only [List.length_drop]; omega), List.length_drop, List.getElem?_take]
        have h3 : (k + e % x.length) % x.length = k + e % x.length - x.length := by
          rw [Nat.mod_eq_sub_mod (by omega), Nat.mod_eq_of_lt (by omega)]
        rw [hm, h3, if_pos (by omega), show k - (x.length - e % x.length) = k + e % x.length - x.length by omega]
  rw [he]
  exact List.perm_append_comm.trans (by rw [List.take_append_drop])
theorem src_perm {x y : List Cls} (h : y.Perm x) (hx : SrcOk x) : SrcOk y := ⟨by rw [h.length_eq]; exact hx.1, fun c hc => hx.2 c (h.mem_iff.1 hc)⟩
set_option maxHeartbeats 8000000 in
theorem ClassTurns_S (x : List Cls) (turn : Int) (hx : SrcOk x) (t : St) : SRet Try.prog 4 [srcV x, .int .i64 turn] t (.bool true) t := by
  have w1 := fun s => Few_S x hx s
  have w2 := awake16_S
  have hlen : (x.map clsC).length = x.length := by simp
  by_cases h0 : x.length = 0
  · have h0i : ((x.length : Int) = 0) = True := eq_true (by omega)
    simp only [srcV] at w1 ⊢
    refine G_enter Try.func4 rfl Try.ntmps4 rfl fun Q hQ hQe => ?_
    (repeat' (first | refine Ctl ?_ | ((with_reducible refine Kof.use hK ?_); clear hK hE K E) | ((with_reducible refine Eof.use hE ?_); (try clear hK hE K E)) | ((with_reducible refine Kof.use hKh ?_); clear hKh Kh) | ((with_reducible refine Kof.use hKb (P_next ?_)); clear hKb Kb) | (with_reducible first | refine G_plan 8 [([0, 1, 2, 3, 4, 5, 6, 7, 8, 9, 10, 11, 12], 13, [[]]), ([14], 15, [[], []])] [] hQe fun K E hK hE => ?_ | refine G_plan 9 [([0, 2], 1, [[2]]), ([], 3, [[], []])] [4] hQe fun K E hK hE => ?_) | ((with_reducible refine W_cond (fun h => ?_) (fun h => ?_)) <;> (try (exfalso; first | assumption | omega))) | ((first | (with_reducible first | refine G_region fun K E hK hE => ?_ | refine call_ret can9 (w2 _) ?_ | refine W_if ?_ | refine W_ifS ?_ | refine P_heads fun Kh hKh => ?_ | refine P_fin fun Kh hKh => ?_ | refine P_each fun Kb hKb => ?_ | refine W_and ?_) | ((with_reducible refine call_ex can7 (w1 _) (fun a h => ?_))) | ((with_reducible refine call_ex can7 (Few_S _ (by assumption) _) (fun a h => ?_))) | ((with_reducible refine W_fresh (fun b hb => ?_)); (repeat (obtain ⟨_, hb⟩ := hb)); (try ((try (rw [own_fr] at hb; obtain ⟨_, hb⟩ := hb))))) | ((with_reducible refine W_app (fun o2 ho => ?_)); (try simp (disch := assumption) only [disown_set, disown_own, ownok_o, ownok_m, List.length_map, List.length_cons, List.length_nil, Nat.zero_add, hlen, h0i] at ho); (repeat (obtain ⟨_, ho⟩ := ho))) | ((with_reducible refine W_gd (fun h => ?_) (fun h => ?_)) <;> (try (exfalso; first | assumption | omega)))) <;> (try simp (disch := first | assumption | omega) only [go_sem, seval, hlen, h0i, *]))))
    all_goals (first | refine W_ret res4 hQ ?_ | refine W_norm res4 hQ ?_ | refine G_pan hQ ?_)
    all_goals (refine ⟨_, _, Wk.of_eq ?_, ?_, rfl, rfl⟩)
    all_goals first | rfl | (exact z_fg)
  · obtain ⟨e, hE, he⟩ : ∃ e : Nat, bAnd .i64 turn 255 = (e : Int) ∧ e ≤ 255 := by
      have h1 := bAnd_low turn 8 (by omega)
      have h2 : bAnd .i64 turn 255 = turn % 256 := h1
      exact ⟨(turn % 256).toNat, by rw [h2]; omega, by omega⟩
    have hpos : 0 < x.length := by omega
    have h0i : ((x.length : Int) = 0) = False := eq_false (by omega)
    have w3 := fun s => CCheck_S x hx s
    have w4 := fun s => CNames_S x hx s
    have hp := turn_perm hpos e
    have w5 := fun o s => src_wk (CCheck_S _ (src_perm hp hx) s) o
    have w6 := fun o s => src_wk (CNames_S _ (src_perm hp hx) s) o
    have hre := rightE_perm hp
    have hnm := names_perm hp
    rw [hre] at w5 w6
    have hlens : (namesR (turnL x e x.length)).mths.length = (namesR x).mths.length ∧ (namesR (turnL x e x.length)).vars.length = (namesR x).vars.length ∧ (namesR (turnL x e x.length)).sites.length = (namesR x).sites.length ∧
        (namesR (turnL x e x.length)).calls.length = (namesR x).calls.length ∧ (namesR (turnL x e x.length)).fields.length = (namesR x).fields.length ∧ (namesR (turnL x e x.length)).names.length = (namesR x).names.length := by
      unfold namesR
      rw [hre]
      split
      · exact hnm
      · exact ⟨rfl, rfl, rfl, rfl, rfl, rfl⟩
    generalize namesR (turnL x e x.length) = N2 at w6 hlens
    generalize namesR x = N1 at w4 hlens
    obtain ⟨l1, l2, l3, l4, l5, l6⟩ := hlens
    have a1 := strsl_len N1.mths; have a2 := strsl_len N1.vars; have a3 := strsl_len N1.sites; have a4 := strsl_len N1.calls; have a5 := strsl_len N1.fields; have a6 := strsl_len N1.names
    have c1 := strsl_len N2.mths; have c2 := strsl_len N2.vars; have c3 := strsl_len N2.sites; have c4 := strsl_len N2.calls; have c5 := strsl_len N2.fields; have c6 := strsl_len N2.names
    rw [l1] at c1; rw [l2] at c2; rw [l3] at c3; rw [l4] at c4; rw [l5] at c5; rw [l6] at c6
    rw [← a1] at c1; rw [← a2] at c2; rw [← a3] at c3; rw [← a4] at c4; rw [← a5] at c5; rw [← a6] at c6
    clear a1 a2 a3 a4 a5 a6 l1 l2 l3 l4 l5 l6 hnm hre hp h0 hx
    generalize rightE x = r at w3 w4 w5 w6
    simp only [fctN] at w4 w6
    generalize strs N1.mths = A1 at *; generalize strs N1.vars = A2 at *; generalize strs N1.sites = A3 at *; generalize strs N1.calls = A4 at *; generalize strs N1.fields = A5 at *; generalize strs N1.names = A6 at *
    generalize strs N2.mths = C1 at *; generalize strs N2.vars = C2 at *; generalize strs N2.sites = C3 at *; generalize strs N2.calls = C4 at *; generalize strs N2.fields = C5 at *; generalize strs N2.names = C6 at *
    simp only [srcV] at w1 w3 w4 ⊢
    refine G_enter Try.func4 rfl Try.ntmps4 rfl fun Q hQ hQe => ?_
    (repeat' (first | refine Ctl ?_ | ((with_reducible refine Kof.use hK ?_); clear hK hE K E) | ((with_reducible refine Eof.use hE ?_); (try clear hK hE K E)) | ((with_reducible refine Kof.use hKh ?_); clear hKh Kh) | ((with_reducible refine Kof.use hKb (P_next ?_)); clear hKb Kb) | (with_reducible first | refine G_plan 8 [([0, 1, 2, 3, 4, 5, 6, 7, 8, 9, 10, 11, 12], 13, [[]]), ([14], 15, [[], []])] [] hQe fun K E hK hE => ?_ | refine G_plan 9 [([0, 2], 1, [[2]]), ([], 3, [[], []])] [4] hQe fun K E hK hE => ?_) | ((with_reducible refine W_cond (fun h => ?_) (fun h => ?_)) <;> (try (exfalso; first | assumption | omega))) | ((first | (with_reducible first | refine G_region fun K E hK hE => ?_ | refine call_ret can9 (w2 _) ?_ | refine W_if ?_ | refine W_ifS ?_ | refine P_heads fun Kh hKh => ?_ | refine P_fin fun Kh hKh => ?_ | refine P_each fun Kb hKb => ?_ | refine W_and ?_) | ((with_reducible refine call_ex can7 (w1 _) (fun a h => ?_))) | ((with_reducible refine call_ex can7 (Few_S _ (by assumption) _) (fun a h => ?_))) | ((with_reducible refine W_fresh (fun b hb => ?_)); (repeat (obtain ⟨_, hb⟩ := hb)); (try ((try (rw [own_fr] at hb; obtain ⟨_, hb⟩ := hb))))) | ((with_reducible refine W_app (fun o2 ho => ?_)); (try simp (disch := assumption) only [disown_set, disown_own, ownok_o, ownok_m, List.length_map, List.length_cons, List.length_nil, Nat.zero_add, hlen, h0i] at ho); (repeat (obtain ⟨_, ho⟩ := ho))) | ((with_reducible refine W_gd (fun h => ?_) (fun h => ?_)) <;> (try (exfalso; first | assumption | omega)))) <;> (try simp (disch := first | assumption | omega) only [go_sem, seval, hlen, h0i, *]))))
    · all_goals (first | refine W_ret res4 hQ ?_ | refine W_norm res4 hQ ?_ | refine G_pan hQ ?_)
      all_goals (refine ⟨_, _, Wk.of_eq ?_, ?_, rfl, rfl⟩)
      all_goals first | rfl | (exact z_fg)
    · rename_i b2 hb2 _ h40 n1 n2
      obtain ⟨b6, hb6⟩ : ∃ z, z = b := ⟨_, rfl⟩
      subst hb6
      have h40 : x.length ≤ 40 := by simp_all
      have hT2 : (t.set b2 (.obj 24 [.lst (x.map clsC) .no])) b2 = .obj 24 [.lst (x.map clsC) .no] := St.set_same _ _ _
      have hT6 : (t.set b2 (.obj 24 [.lst (x.map clsC) .no])) b6 = .free := by rw [St.set_other _ _ (by assumption)]; exact hb
      have hTg : Fg (t.set b2 (.obj 24 [.lst (x.map clsC) .no])) t := Fg.of_set _ hb2
      generalize t.set b2 (.obj 24 [.lst (x.map clsC) .no]) = T at *
      have HT := Lib.hid hTg
      have fT2 : T b2 ≠ .free := by rw [hT2]; simp
      clear hb hb2 hTg
      refine G_loop (fun m env s' => ∃ (i : Nat) (o : Own), i ≤ x.length ∧ m + i = x.length ∧ OwnOk T o i ∧ NotOwn o b6 ∧ s' = (T.own o 38 3 i).set b6 (.obj 24 [.lst ((turnL x e i).map clsC) o]) ∧
        env 1 = .int .i64 turn ∧ env 2 = .ptr b2 0 ∧ env 5 = .int .i64 x.length ∧ env 6 = .ptr b6 0 ∧ env 7 = .int .i64 i) x.length ?_ ?_
      · exact ⟨_, Fg.refl _, 0, .full, by omega, by omega, rfl, trivial, rfl, z_sl, z_sl, z_sl, z_sl, z_sl⟩
      rintro m env s' ⟨i, o, hi, hm, hO, hno, rfl, e1, e2, e5, e6, e7⟩
      have p2 := hO.not fT2
      have hln : (turnL x e i).length = i := by
        by_cases h : i = 0
        · subst h; rfl
        · exact (turn_at hpos e i 0 (by omega)).2
      have hlm : ((turnL x e i).map clsC).length = i := by rw [List.length_map]; exact hln
      by_cases hlt : i < x.length
      · have hmd : (i + e) % x.length < x.length := Nat.mod_lt _ hpos
        obtain ⟨c, hc⟩ := uget hmd
        have hsx := clsC_at hc
        have hm2 : (((i + e : Nat)) : Int).tmod (x.length : Int) = (((i + e) % x.length : Nat) : Int) := Int.ofNat_tmod _ _
        have hst : (turnL x e (i + 1)).map clsC = (turnL x e i).map clsC ++ [clsC c] := by simp [turnL, hc]
        have HST := Lib.hid hst
        have hy3 : ∀ y, y ∈ (turnL x e i).map clsC → y.length = 3 := by
          intro y hy
          obtain ⟨c, _, rfl⟩ := List.mem_map.1 hy
          rfl
        generalize (i + e) % x.length = q at *
        generalize (turnL x e i).map clsC = L at *
        obtain ⟨cn, cp, cm⟩ := c
        simp only [clsC] at hsx HST
        clear hst hc
        (repeat' (first | refine Ctl ?_ | ((with_reducible refine Kof.use hK ?_); clear hK hE K E) | ((with_reducible refine Eof.use hE ?_); (try clear hK hE K E)) | ((with_reducible refine Kof.use hKh ?_); clear hKh Kh) | ((with_reducible refine Kof.use hKb (P_next ?_)); clear hKb Kb) | (with_reducible first | refine G_plan 8 [([0, 1, 2, 3, 4, 5, 6, 7, 8, 9, 10, 11, 12], 13, [[]]), ([14], 15, [[], []])] [] hQe fun K E hK hE => ?_ | refine G_plan 9 [([0, 2], 1, [[2]]), ([], 3, [[], []])] [4] hQe fun K E hK hE => ?_) | ((with_reducible refine W_cond (fun h => ?_) (fun h => ?_)) <;> (try (exfalso; first | assumption | omega))) | ((first | (with_reducible first | refine G_region fun K E hK hE => ?_ | refine W_if ?_ | refine W_ifS ?_ | refine P_heads fun Kh hKh => ?_ | refine P_fin fun Kh hKh => ?_ | refine P_each fun Kb hKb => ?_ | refine W_and ?_) | ((with_reducible refine call_ex can7 (Few_S _ (by assumption) _) (fun a h => ?_))) | ((with_reducible refine W_fresh (fun b hb => ?_)); (repeat (obtain ⟨_, hb⟩ := hb))) | ((with_reducible refine W_app (fun o2 ho => ?_)); (try simp (disch := assumption) only [disown_set, disown_own, ownok_o, ownok_m, List.length_map, List.length_cons, List.length_nil, Nat.zero_add, hlen, hE, hm2, hsx, hlm] at ho); (repeat (obtain ⟨_, ho⟩ := ho))) | ((with_reducible refine W_gd (fun h => ?_) (fun h => ?_)) <;> (try (exfalso; first | assumption | omega)))) <;> (try simp (disch := first | assumption | omega) only [go_sem, seval, hlen, hE, hm2, hsx, hlm, *]))))
        exact ⟨_, Fg.refl _, m - 1, by omega, i + 1, o2, by omega, by omega, ho, by assumption, by rw [HST.out], z_sl, z_sl, z_sl, z_sl, z_sl⟩
      · obtain rfl : i = x.length := by omega
        have hFg : Fg ((T.own o 38 3 x.length).set b6 (.obj 24 [.lst ((turnL x e x.length).map clsC) o])) t := (Fg.setA (Fg.own hO) hT6).trans HT.out
        generalize (turnL x e x.length).map clsC = L at *
        have HFg := Lib.hid hFg
        clear hFg
        (repeat' (first | refine Ctl ?_ | ((with_reducible refine Kof.use hK ?_); clear hK hE K E) | ((with_reducible refine Eof.use hE ?_); (try clear hK hE K E)) | ((with_reducible refine Kof.use hKh ?_); clear hKh Kh) | ((with_reducible refine Kof.use hKb (P_next ?_)); clear hKb Kb) | (with_reducible first | refine G_plan 8 [([0, 1, 2, 3, 4, 5, 6, 7, 8, 9, 10, 11, 12], 13, [[]]), ([14], 15, [[], []])] [] hQe fun K E hK hE => ?_ | refine G_plan 9 [([0, 2], 1, [[2]]), ([], 3, [[], []])] [4] hQe fun K E hK hE => ?_) | ((with_reducible refine W_cond (fun h => ?_) (fun h => ?_)) <;> (try (exfalso; first | assumption | omega))) | ((first | (with_reducible first | refine G_region fun K E hK hE => ?_ | refine call_ret can8 (w3 _) ?_ | refine call_ret can8 (w5 _ _) ?_ | refine call_ret can10 (w4 _) ?_ | refine call_ret can10 (w6 _ _) ?_ | refine call_ret can9 (w2 _) ?_ | refine W_if ?_ | refine W_ifS ?_ | refine P_heads fun Kh hKh => ?_ | refine P_fin fun Kh hKh => ?_ | refine P_each fun Kb hKb => ?_ | refine W_and ?_) | ((with_reducible refine call_ex can7 (Few_S _ (by assumption) _) (fun a h => ?_))) | ((with_reducible refine W_fresh (fun b hb => ?_)); (repeat (obtain ⟨_, hb⟩ := hb)); (try ((try (rw [own_fr] at hb; obtain ⟨_, hb⟩ := hb))))) | ((with_reducible refine W_app (fun o2 ho => ?_)); (try simp (disch := assumption) only [disown_set, disown_own, ownok_o, ownok_m, List.length_map, List.length_cons, List.length_nil, Nat.zero_add, hlen, c1, c2, c3, c4, c5, c6] at ho); (repeat (obtain ⟨_, ho⟩ := ho))) | ((with_reducible refine W_gd (fun h => ?_) (fun h => ?_)) <;> (try (exfalso; first | assumption | omega)))) <;> (try simp (disch := first | assumption | omega) only [go_sem, seval, hlen, c1, c2, c3, c4, c5, c6, *]))))
        all_goals (first | refine W_ret res4 hQ ?_ | refine W_norm res4 hQ ?_ | refine G_pan hQ ?_)
        all_goals (refine ⟨_, _, Wk.of_eq ?_, ?_, rfl, rfl⟩)
        all_goals first | rfl | exact Fg.trans (b := T) (z_fg) HT.out
end Go.Proofs.Ytejlknplmfmceaa
