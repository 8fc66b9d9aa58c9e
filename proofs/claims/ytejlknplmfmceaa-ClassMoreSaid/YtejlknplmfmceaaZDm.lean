/- What is proved: The law ClassMore, walked. Conditions: lists and texts of at most 2^47 parts. Conditions: those that stand in the statements. -/
import Derived.Test.YtejlknplmfmceaaZDtj
set_option linter.unusedSimpArgs false
set_option linter.unusedVariables false
set_option maxRecDepth 100000
namespace Go.Proofs.Ytejlknplmfmceaa
open Go.RowKit

attribute [local go_sem] disown_fl owned_fl own_fl
theorem zz_ok {x : List Cls} (hx : SrcOk x) (hl : x.length ≤ 40) : SrcOk (x ++ [zzC]) := by
  refine ⟨by simp; omega, fun c hc => ?_⟩
  rcases List.mem_append.1 hc with h | h
  · exact hx.2 c h
  · simp only [List.mem_singleton] at h
    subst h
    simp [ClsOk, zzC, zzM, MthOk, TxOk, StmsOk]
/-- Cells that are weaker, one by one. -/
def WkE (xs ys : List VV) : Prop := xs.length = ys.length ∧ ∀ (j : Nat) (y : VV), ys[j]? = some y → ∃ x, xs[j]? = some x ∧ Wk x y ∧ (x.one = true → y.one = true)
theorem WkE.refl (xs : List VV) : WkE xs xs := ⟨rfl, fun j y h => ⟨y, h, Wk.refl y, id⟩⟩
theorem WkE.nil : WkE [] [] := WkE.refl []
theorem WkE.cons {x y : VV} {xs ys : List VV} (h : Wk x y) (h1 : x.one = true → y.one = true) (hs : WkE xs ys) : WkE (x :: xs) (y :: ys) := by
  refine ⟨by simp [hs.1], fun j z hz => ?_⟩
  cases j with
  | zero => simp at hz; subst hz; exact ⟨x, rfl, h, h1⟩
  | succ j => simpa using hs.2 j z (by simpa using hz)
/-- A list's parts may be made weaker. -/
theorem Wk.rowE {l l' : List (List VV)} {o : Own} (hl : l'.length = l.length) (hw : ∀ (i : Nat) (x' : List VV), l'[i]? = some x' → ∃ x, l[i]? = some x ∧ WkE x x') : Wk (.lst l o) (.lst l' .no) := by
  intro G v h
  generalize hq : VV.lst l o = q at h
  cases h with
  | emp a cap o2 ho =>
    injection hq with hq1 hq2; subst hq1; subst hq2
    obtain rfl : l' = [] := List.eq_nil_of_length_eq_zero hl
    exact .emp _ _ _ (.inl rfl)
  | lst b' off len cap sz' xs' o f hl2 hc' hz h1' hK hR' ho' =>
    injection hq with hq1 hq2; subst hq1; subst hq2
    refine .lst b' off len cap sz' l' _ f (hl.trans hl2) hc' (fun x hx => ?_) (fun x hx y hy => ?_) hK (fun i j x y hx hy => ?_) (.inl rfl)
    · obtain ⟨i, hi⟩ := List.getElem?_of_mem hx
      obtain ⟨x0, h0, h2⟩ := hw i x hi
      rw [← hz x0 (List.mem_of_getElem? h0), h2.1]
    · obtain ⟨i, hi⟩ := List.getElem?_of_mem hx
      obtain ⟨j, hj⟩ := List.getElem?_of_mem hy
      obtain ⟨x0, h0, h2⟩ := hw i x hi
      obtain ⟨y0, h3, _, h4⟩ := h2.2 j y hj
      exact h4 (h1' x0 (List.mem_of_getElem? h0) y0 (List.mem_of_getElem? h3))
    · obtain ⟨x0, h0, h2⟩ := hw i x hx
      obtain ⟨y0, h3, h4, _⟩ := h2.2 j y hy
      exact h4 _ _ (hR' i j x0 y0 h0 h3)
  | _ => cases hq
theorem Wk.aggE {xs ys : List VV} (h : WkE xs ys) : Wk (.agg xs) (.agg ys) := by
  intro G v r
  generalize hq : VV.agg xs = q at r
  cases r with
  | agg vs xs' hs h1 hR =>
    injection hq with hq; subst hq
    refine .agg vs ys (hs.trans h.1) (fun y hy => ?_) (fun j v y hv hy => ?_)
    · obtain ⟨j, hj⟩ := List.getElem?_of_mem hy
      obtain ⟨x, hx, _, h3⟩ := h.2 j y hj
      exact h3 (h1 x (List.mem_of_getElem? hx))
    · obtain ⟨x, hx, h2, _⟩ := h.2 j y hy
      exact h2 _ _ (hR j v x hv hx)
  | _ => cases hq
theorem row_last {L : List (List VV)} {x x' : List VV} (h : WkE x x') : ∀ (i : Nat) (y' : List VV), (L ++ [x'])[i]? = some y' → ∃ y, (L ++ [x])[i]? = some y ∧ WkE y y' := by
  intro i y' hy
  by_cases hi : i < L.length
  · rw [List.getElem?_append_left hi] at hy ⊢
    exact ⟨y', hy, WkE.refl y'⟩
  · rw [List.getElem?_append_right (by omega)] at hy ⊢
    cases hk : i - L.length with
    | zero => rw [hk] at hy; simp at hy; subst hy; exact ⟨x, rfl, h⟩
    | succ k => rw [hk] at hy; simp at hy
theorem zz_wk {f : FuncId} {y : VV} {t u : St} {x : List Cls} (h : SRet Try.prog f [.agg [.lst ((x ++ [zzC]).map clsC) .no]] t y u) (o o1 : Own) :
    SRet Try.prog f [.agg [.lst (x.map clsC ++ [[.str [90, 122, 57], .str [], .lst [[.bool true, .str [122, 122, 57], .lst [] .full, .lst [] .full]] o1]]) o]] t y u := by
  have he : (x ++ [zzC]).map clsC = x.map clsC ++ [[.str [90, 122, 57], .str [], .lst [[.bool true, .str [122, 122, 57], .lst [] .no, .lst [] .no]] .no]] := by
    rw [List.map_append]; rfl
  rw [he] at h
  have hm : WkE [VV.bool true, .str [122, 122, 57], .lst [] .full, .lst [] .full] [VV.bool true, .str [122, 122, 57], .lst [] .no, .lst [] .no] :=
    WkE.cons (Wk.refl _) id (WkE.cons (Wk.refl _) id (WkE.cons (Wk.rowE rfl (fun i x' hx => by simp at hx)) (fun _ => rfl) (WkE.cons (Wk.rowE rfl (fun i x' hx => by simp at hx)) (fun _ => rfl) WkE.nil)))
  have hc : WkE [VV.str [90, 122, 57], .str [], .lst [[.bool true, .str [122, 122, 57], .lst [] .full, .lst [] .full]] o1] [VV.str [90, 122, 57], .str [], .lst [[.bool true, .str [122, 122, 57], .lst [] .no, .lst [] .no]] .no] :=
    WkE.cons (Wk.refl _) id (WkE.cons (Wk.refl _) id (WkE.cons (Wk.rowE rfl (row_last (L := []) hm)) (fun _ => rfl) WkE.nil))
  refine SCalls.wk16 h rfl fun j x y hx hy => ?_
  match j with
  | 0 =>
    simp at hx hy; subst hx; subst hy
    exact Wk.aggE (WkE.cons (Wk.rowE (by simp) (row_last hc)) (fun _ => rfl) WkE.nil)
  | j + 1 => simp at hx
theorem strs_take {l m : List (List UInt8)} {n : Nat} (h : l.length = n) : List.take n (strs (l ++ m)) = strs l := by
  unfold strs
  rw [List.map_append, List.take_append_of_le_length (by simp [h]), List.take_of_length_le (by simp [h])]
set_option maxHeartbeats 8000000 in
theorem ClassMore_S (x : List Cls) (hx : SrcOk x) (t : St) : SRet Try.prog 6 [srcV x] t (.bool true) t := by
  have w1 := fun s => Few_S x hx s
  have w2 := awake16_S
  have w3 := fun s => CCheck_S x hx s
  have hlen : (x.map clsC).length = x.length := by simp
  have HX := Lib.hid hx
  simp only [srcV] at w1 w3 ⊢
  generalize hr : rightE x = r at w3
  have HR := Lib.hid hr
  clear hr hx
  refine G_enter Try.func6 rfl Try.ntmps6 rfl fun Q hQ hQe => ?_
  (repeat' (first | refine Ctl ?_ | ((with_reducible refine Kof.use hK ?_); clear hK hE K E) | ((with_reducible refine Eof.use hE ?_); (try clear hK hE K E)) | ((with_reducible refine Kof.use hKh ?_); clear hKh Kh) | ((with_reducible refine Kof.use hKb (P_next ?_)); clear hKb Kb) | (with_reducible first | refine G_plan 15 [] [0, 1, 2, 3, 4, 5, 6, 7] hQe fun K E hK hE => ?_ | refine G_plan 18 [([0, 1, 2, 3, 4, 5], 6, [[]]), ([7, 8, 9, 10, 11, 12, 13], 14, [[], []]), ([15, 16, 17, 18, 19, 20], 21, [[], [], []]), ([22, 23, 24, 25, 26, 27], 28, [[], [], [], []]), ([29, 30, 31, 32, 33, 34], 35, [[], [], [], [], []]), ([36, 37, 38, 39, 40, 41, 42, 43, 44], 45, [[], [], [], [], [], []])] [46, 47] hQe fun K E hK hE => ?_) | ((with_reducible refine W_cond (fun h => ?_) (fun h => ?_)) <;> (try (exfalso; first | assumption | omega))) | ((first | (with_reducible first | refine G_region fun K E hK hE => ?_ | refine call_ret can9 (w2 _) ?_ | refine W_if ?_ | refine W_ifS ?_ | refine P_heads fun Kh hKh => ?_ | refine P_fin fun Kh hKh => ?_ | refine P_each fun Kb hKb => ?_ | refine W_and ?_) | ((with_reducible refine call_ex can7 (w1 _) (fun a h => ?_))) | ((with_reducible refine call_ex can7 (Few_S _ (by assumption) _) (fun a h => ?_))) | ((with_reducible refine W_fresh (fun b hb => ?_)); (repeat (obtain ⟨_, hb⟩ := hb))) | ((with_reducible refine W_app (fun o2 ho => ?_)); (try simp (disch := assumption) only [disown_set, disown_own, ownok_o, ownok_m, List.length_map, List.length_cons, List.length_nil, Nat.zero_add, hlen] at ho); (repeat (obtain ⟨_, ho⟩ := ho))) | ((with_reducible refine W_gd (fun h => ?_) (fun h => ?_)) <;> (try (exfalso; first | assumption | omega)))) <;> (try simp (disch := first | assumption | omega) only [go_sem, seval, hlen, *]))))
  · all_goals (first | refine W_ret res6 hQ ?_ | refine W_norm res6 hQ ?_ | refine G_pan hQ ?_)
    all_goals (refine ⟨_, _, Wk.of_eq ?_, ?_, rfl, rfl⟩)
    all_goals first | rfl | (exact z_fg)
  · all_goals (first | refine W_ret res6 hQ ?_ | refine W_norm res6 hQ ?_ | refine G_pan hQ ?_)
    all_goals (refine ⟨_, _, Wk.of_eq ?_, ?_, rfl, rfl⟩)
    all_goals first | rfl | (exact z_fg)
  obtain ⟨b1, hb1⟩ : ∃ z, z = b := ⟨_, rfl⟩
  subst hb1
  have hl31 : x.length ≤ 31 := by omega
  have hT1 : (t.set b1 (.obj 24 [.lst (x.map clsC) .no])) b1 = .obj 24 [.lst (x.map clsC) .no] := St.set_same _ _ _
  have hTg : Fg (t.set b1 (.obj 24 [.lst (x.map clsC) .no])) t := Fg.of_set _ hb
  generalize t.set b1 (.obj 24 [.lst (x.map clsC) .no]) = T at *
  have HT := Lib.hid hTg
  have fT1 : T b1 ≠ .free := by rw [hT1]; simp
  clear hb hTg
  refine G_loop (fun m env s' => ∃ (i : Nat), i ≤ x.length ∧ m + i = x.length ∧ s' = T ∧ Hid (∀ (a : Nat) (c : Cls), a < i → x[a]? = some c → c.nm ≠ zzC.nm ∧ c.par ≠ zzC.nm) ∧ env 1 = .ptr b1 0 ∧ env 3 = .int .i64 i) x.length ?_ ?_
  · exact ⟨_, Fg.refl _, 0, by omega, by omega, rfl, Lib.hid (fun a c h => absurd h (Nat.not_lt_zero _)), z_sl, z_sl⟩
  rintro m env s' ⟨i, hi, hm, hs, HZ, e1, e3⟩
  rw [hs]
  clear hs
  by_cases hlt : i < x.length
  · obtain ⟨c, hc⟩ := uget hlt
    have hsx := clsC_at hc
    by_cases hz1 : c.nm = zzC.nm
    · obtain ⟨cn, cp, cm⟩ := c
      simp only [clsC] at hsx hz1
      have hzi : (cn = [90, 122, 57]) = True := eq_true hz1
      clear hz1 hc
      (repeat' (first | refine Ctl ?_ | ((with_reducible refine Kof.use hK ?_); clear hK hE K E) | ((with_reducible refine Eof.use hE ?_); (try clear hK hE K E)) | ((with_reducible refine Kof.use hKh ?_); clear hKh Kh) | ((with_reducible refine Kof.use hKb (P_next ?_)); clear hKb Kb) | (with_reducible first | refine G_plan 15 [] [0, 1, 2, 3, 4, 5, 6, 7] hQe fun K E hK hE => ?_ | refine G_plan 18 [([0, 1, 2, 3, 4, 5], 6, [[]]), ([7, 8, 9, 10, 11, 12, 13], 14, [[], []]), ([15, 16, 17, 18, 19, 20], 21, [[], [], []]), ([22, 23, 24, 25, 26, 27], 28, [[], [], [], []]), ([29, 30, 31, 32, 33, 34], 35, [[], [], [], [], []]), ([36, 37, 38, 39, 40, 41, 42, 43, 44], 45, [[], [], [], [], [], []])] [46, 47] hQe fun K E hK hE => ?_) | ((with_reducible refine W_cond (fun h => ?_) (fun h => ?_)) <;> (try (exfalso; first | assumption | omega))) | ((first | (with_reducible first | refine G_region fun K E hK hE => ?_ | refine call_ret can9 (w2 _) ?_ | refine W_if ?_ | refine W_ifS ?_ | refine P_heads fun Kh hKh => ?_ | refine P_fin fun Kh hKh => ?_ | refine P_each fun Kb hKb => ?_ | refine W_and ?_) | ((with_reducible refine call_ex can7 (Few_S _ (by assumption) _) (fun a h => ?_))) | ((with_reducible refine W_fresh (fun b hb => ?_)); (repeat (obtain ⟨_, hb⟩ := hb))) | ((with_reducible refine W_app (fun o2 ho => ?_)); (try simp (disch := assumption) only [disown_set, disown_own, ownok_o, ownok_m, List.length_map, List.length_cons, List.length_nil, Nat.zero_add, hlen, hsx] at ho); (repeat (obtain ⟨_, ho⟩ := ho))) | ((with_reducible refine W_gd (fun h => ?_) (fun h => ?_)) <;> (try (exfalso; first | assumption | omega)))) <;> (try simp (disch := first | assumption | omega) only [go_sem, seval, hlen, hsx, *]))))
      all_goals (first | refine W_ret res6 hQ ?_ | refine W_norm res6 hQ ?_ | refine G_pan hQ ?_)
      all_goals (refine ⟨_, _, Wk.of_eq ?_, ?_, rfl, rfl⟩)
      all_goals first | rfl | exact HT.out
    · by_cases hz2 : c.par = zzC.nm
      · obtain ⟨cn, cp, cm⟩ := c
        simp only [clsC] at hsx hz1 hz2
        have hzi : (cn = [90, 122, 57]) = False := eq_false hz1
        have hzj : (cp = [90, 122, 57]) = True := eq_true hz2
        clear hz1 hz2 hc
        (repeat' (first | refine Ctl ?_ | ((with_reducible refine Kof.use hK ?_); clear hK hE K E) | ((with_reducible refine Eof.use hE ?_); (try clear hK hE K E)) | ((with_reducible refine Kof.use hKh ?_); clear hKh Kh) | ((with_reducible refine Kof.use hKb (P_next ?_)); clear hKb Kb) | (with_reducible first | refine G_plan 15 [] [0, 1, 2, 3, 4, 5, 6, 7] hQe fun K E hK hE => ?_ | refine G_plan 18 [([0, 1, 2, 3, 4, 5], 6, [[]]), ([7, 8, 9, 10, 11, 12, 13], 14, [[], []]), ([15, 16, 17, 18, 19, 20], 21, [[], [], []]), ([22, 23, 24, 25, 26, 27], 28, [[], [], [], []]), ([29, 30, 31, 32, 33, 34], 35, [[], [], [], [], []]), ([36, 37, 38, 39, 40, 41, 42, 43, 44], 45, [[], [], [], [], [], []])] [46, 47] hQe fun K E hK hE => ?_) | ((with_reducible refine W_cond (fun h => ?_) (fun h => ?_)) <;> (try (exfalso; first | assumption | omega))) | ((first | (with_reducible first | refine G_region fun K E hK hE => ?_ | refine call_ret can9 (w2 _) ?_ | refine W_if ?_ | refine W_ifS ?_ | refine P_heads fun Kh hKh => ?_ | refine P_fin fun Kh hKh => ?_ | refine P_each fun Kb hKb => ?_ | refine W_and ?_) | ((with_reducible refine call_ex can7 (Few_S _ (by assumption) _) (fun a h => ?_))) | ((with_reducible refine W_fresh (fun b hb => ?_)); (repeat (obtain ⟨_, hb⟩ := hb))) | ((with_reducible refine W_app (fun o2 ho => ?_)); (try simp (disch := assumption) only [disown_set, disown_own, ownok_o, ownok_m, List.length_map, List.length_cons, List.length_nil, Nat.zero_add, hlen, hsx] at ho); (repeat (obtain ⟨_, ho⟩ := ho))) | ((with_reducible refine W_gd (fun h => ?_) (fun h => ?_)) <;> (try (exfalso; first | assumption | omega)))) <;> (try simp (disch := first | assumption | omega) only [go_sem, seval, hlen, hsx, *]))))
        all_goals (first | refine W_ret res6 hQ ?_ | refine W_norm res6 hQ ?_ | refine G_pan hQ ?_)
        all_goals (refine ⟨_, _, Wk.of_eq ?_, ?_, rfl, rfl⟩)
        all_goals first | rfl | exact HT.out
      · have HZ2 : Hid (∀ (a : Nat) (c : Cls), a < i + 1 → x[a]? = some c → c.nm ≠ zzC.nm ∧ c.par ≠ zzC.nm) := Lib.hid fun a c' ha hg => by
          by_cases e : a = i
          · subst e; rw [hc] at hg; injection hg with hg; subst hg; exact ⟨hz1, hz2⟩
          · exact HZ.out a c' (by omega) hg
        clear HZ
        obtain ⟨cn, cp, cm⟩ := c
        simp only [clsC] at hsx hz1 hz2
        have hzi : (cn = [90, 122, 57]) = False := eq_false hz1
        have hzj : (cp = [90, 122, 57]) = False := eq_false hz2
        clear hz1 hz2 hc
        (repeat' (first | refine Ctl ?_ | ((with_reducible refine Kof.use hK ?_); clear hK hE K E) | ((with_reducible refine Eof.use hE ?_); (try clear hK hE K E)) | ((with_reducible refine Kof.use hKh ?_); clear hKh Kh) | ((with_reducible refine Kof.use hKb (P_next ?_)); clear hKb Kb) | (with_reducible first | refine G_plan 15 [] [0, 1, 2, 3, 4, 5, 6, 7] hQe fun K E hK hE => ?_ | refine G_plan 18 [([0, 1, 2, 3, 4, 5], 6, [[]]), ([7, 8, 9, 10, 11, 12, 13], 14, [[], []]), ([15, 16, 17, 18, 19, 20], 21, [[], [], []]), ([22, 23, 24, 25, 26, 27], 28, [[], [], [], []]), ([29, 30, 31, 32, 33, 34], 35, [[], [], [], [], []]), ([36, 37, 38, 39, 40, 41, 42, 43, 44], 45, [[], [], [], [], [], []])] [46, 47] hQe fun K E hK hE => ?_) | ((with_reducible refine W_cond (fun h => ?_) (fun h => ?_)) <;> (try (exfalso; first | assumption | omega))) | ((first | (with_reducible first | refine G_region fun K E hK hE => ?_ | refine W_if ?_ | refine W_ifS ?_ | refine P_heads fun Kh hKh => ?_ | refine P_fin fun Kh hKh => ?_ | refine P_each fun Kb hKb => ?_ | refine W_and ?_) | ((with_reducible refine call_ex can7 (Few_S _ (by assumption) _) (fun a h => ?_))) | ((with_reducible refine W_fresh (fun b hb => ?_)); (repeat (obtain ⟨_, hb⟩ := hb))) | ((with_reducible refine W_app (fun o2 ho => ?_)); (try simp (disch := assumption) only [disown_set, disown_own, ownok_o, ownok_m, List.length_map, List.length_cons, List.length_nil, Nat.zero_add, hlen, hsx] at ho); (repeat (obtain ⟨_, ho⟩ := ho))) | ((with_reducible refine W_gd (fun h => ?_) (fun h => ?_)) <;> (try (exfalso; first | assumption | omega)))) <;> (try simp (disch := first | assumption | omega) only [go_sem, seval, hlen, hsx, *]))))
        exact ⟨_, Fg.refl _, m - 1, by omega, i + 1, by omega, by omega, rfl, HZ2, z_sl, z_sl⟩
  · have hz : ∀ c, c ∈ x → c.nm ≠ zzC.nm ∧ c.par ≠ zzC.nm := fun c hc => by
      obtain ⟨a, ha, hg⟩ := List.getElem_of_mem hc
      exact HZ.out a c (by omega) (by rw [List.getElem?_eq_getElem ha, hg])
    clear HZ
    by_cases h0 : r = 0
    · subst h0
      have hR := right_of HR.out
      have hR2 := right_more hR hl31 hz
      have hS := names_sz hR.chk
      have w4 := fun s => CNames_S x HX.out s
      have w5 := fun s => CNames_S _ (zz_ok HX.out (by omega)) s
      have en1 : namesR x = namesN x := by unfold namesR; rw [if_pos HR.out]
      have en2 : namesR (x ++ [zzC]) = namesN (x ++ [zzC]) := by unfold namesR; rw [if_pos (of_right hR2)]
      rw [en1, HR.out] at w4
      rw [en2, of_right hR2, names_more] at w5
      generalize namesN x = N at w4 w5 hS
      obtain ⟨qm, qv, qs, qc, qo, qh, qmain, qf, qx⟩ := N
      simp only [szA] at hS
      have key : ∀ (l : List (List UInt8)), l.length ≤ 140737488355328 → ∀ (o1 o2 : Own) (s : St), SRet Try.prog 12 [.lst (strs l) o1, .lst (strs l) o2] s (.bool true) s := fun l hl o1 o2 s => by
        have h := same16_S l l o1 o2 hl hl s
        rwa [decide_eq_true rfl] at h
      have v1 := key qm (by omega)
      have v2 := key qv (by omega)
      have v3 := key qs (by omega)
      have v4 := key qc (by omega)
      have v5 := key qf (by omega)
      have a1 := strsl_len qm
      have a2 := strsl_len qv
      have b1' := strsl_len (qm ++ [[90, 122, 57, 58, 58, 122, 122, 57]])
      have b2' := strsl_len (qv ++ [[90, 122, 57, 58, 58, 122, 122, 57, 46, 114, 101, 116, 117, 114, 110]])
      rw [List.length_append] at b1' b2'
      simp only [List.length_cons, List.length_nil] at b1' b2'
      have hat : (strs (qv ++ [[90, 122, 57, 58, 58, 122, 122, 57, 46, 114, 101, 116, 117, 114, 110]]))[qv.length]? = some [.str [90, 122, 57, 58, 58, 122, 122, 57, 46, 114, 101, 116, 117, 114, 110]] := by simp [strs]
      have htk1 : List.take qm.length (strs (qm ++ [[90, 122, 57, 58, 58, 122, 122, 57]])) = strs qm := strs_take rfl
      have htk2 : List.take qv.length (strs (qv ++ [[90, 122, 57, 58, 58, 122, 122, 57, 46, 114, 101, 116, 117, 114, 110]])) = strs qv := strs_take rfl
      have hy1 : ∀ y, y ∈ strs (qm ++ [[90, 122, 57, 58, 58, 122, 122, 57]]) → y.length = 1 := by intro y hy; unfold strs at hy; obtain ⟨c, _, rfl⟩ := List.mem_map.1 hy; rfl
      have hy2 : ∀ y, y ∈ strs (qv ++ [[90, 122, 57, 58, 58, 122, 122, 57, 46, 114, 101, 116, 117, 114, 110]]) → y.length = 1 := by intro y hy; unfold strs at hy; obtain ⟨c, _, rfl⟩ := List.mem_map.1 hy; rfl
      have z1 : 0 ≤ qm.length := Nat.zero_le _
      have z2 : 0 ≤ qv.length := Nat.zero_le _
      have z3 : qm.length ≤ qm.length + 1 := Nat.le_succ _
      have z4 : qv.length ≤ qv.length + 1 := Nat.le_succ _
      clear key hR hR2 en1 en2 hz
      have hy3 : ∀ y, y ∈ x.map clsC → y.length = 3 := by
        intro y hy
        obtain ⟨c, _, rfl⟩ := List.mem_map.1 hy
        rfl
      simp only [fctN] at w4 w5
      simp only [srcV] at w4 w5
      have w6 := fun o o1 s => zz_wk (w5 s) o o1
      clear w5
      (repeat' (first | refine Ctl ?_ | ((with_reducible refine Kof.use hK ?_); clear hK hE K E) | ((with_reducible refine Eof.use hE ?_); (try clear hK hE K E)) | ((with_reducible refine Kof.use hKh ?_); clear hKh Kh) | ((with_reducible refine Kof.use hKb (P_next ?_)); clear hKb Kb) | (with_reducible first | refine G_plan 15 [] [0, 1, 2, 3, 4, 5, 6, 7] hQe fun K E hK hE => ?_ | refine G_plan 18 [([0, 1, 2, 3, 4, 5], 6, [[]]), ([7, 8, 9, 10, 11, 12, 13], 14, [[], []]), ([15, 16, 17, 18, 19, 20], 21, [[], [], []]), ([22, 23, 24, 25, 26, 27], 28, [[], [], [], []]), ([29, 30, 31, 32, 33, 34], 35, [[], [], [], [], []]), ([36, 37, 38, 39, 40, 41, 42, 43, 44], 45, [[], [], [], [], [], []])] [46, 47] hQe fun K E hK hE => ?_) | ((with_reducible refine W_cond (fun h => ?_) (fun h => ?_)) <;> (try (exfalso; first | assumption | omega))) | ((first | (with_reducible first | refine G_region fun K E hK hE => ?_ | refine call_ret can9 (w2 _) ?_ | refine call_ret can8 (w3 _) ?_ | refine call_ret can10 (w4 _) ?_ | refine call_ret can10 (w6 _ _ _) ?_ | refine call_ret can12 (v1 _ _ _) ?_ | refine call_ret can12 (v2 _ _ _) ?_ | refine call_ret can12 (v3 _ _ _) ?_ | refine call_ret can12 (v4 _ _ _) ?_ | refine call_ret can12 (v5 _ _ _) ?_ | refine W_if ?_ | refine W_ifS ?_ | refine P_heads fun Kh hKh => ?_ | refine P_fin fun Kh hKh => ?_ | refine P_each fun Kb hKb => ?_ | refine W_and ?_) | ((with_reducible refine call_ex can7 (Few_S _ (by assumption) _) (fun a h => ?_))) | ((with_reducible refine W_fresh (fun b hb => ?_)); (repeat (obtain ⟨_, hb⟩ := hb)); (try ((try (rw [own_fr] at hb; obtain ⟨_, hb⟩ := hb)); obtain ⟨_, _⟩ := nef hb fT1))) | ((with_reducible refine W_app (fun o2 ho => ?_)); (try simp (disch := assumption) only [disown_set, disown_own, ownok_o, ownok_m, List.length_map, List.length_cons, List.length_nil, Nat.zero_add, hlen, disown_fl, a1, a2, b1', b2', hat, htk1, htk2] at ho); (repeat (obtain ⟨_, ho⟩ := ho)); (try (have _ := ho.not fT1))) | ((with_reducible refine W_gd (fun h => ?_) (fun h => ?_)) <;> (try (exfalso; first | assumption | omega)))) <;> (try simp (disch := first | assumption | omega) only [go_sem, seval, hlen, disown_fl, a1, a2, b1', b2', hat, htk1, htk2, *]))))
      all_goals (first | refine W_ret res6 hQ ?_ | refine W_norm res6 hQ ?_ | refine G_pan hQ ?_)
      all_goals (refine ⟨_, _, Wk.of_eq ?_, ?_, rfl, rfl⟩)
      all_goals first | rfl | exact Fg.trans (b := T) (z_fg) HT.out
    · have h0i : (r = 0) = False := eq_false h0
      clear h0
      (repeat' (first | refine Ctl ?_ | ((with_reducible refine Kof.use hK ?_); clear hK hE K E) | ((with_reducible refine Eof.use hE ?_); (try clear hK hE K E)) | ((with_reducible refine Kof.use hKh ?_); clear hKh Kh) | ((with_reducible refine Kof.use hKb (P_next ?_)); clear hKb Kb) | (with_reducible first | refine G_plan 15 [] [0, 1, 2, 3, 4, 5, 6, 7] hQe fun K E hK hE => ?_ | refine G_plan 18 [([0, 1, 2, 3, 4, 5], 6, [[]]), ([7, 8, 9, 10, 11, 12, 13], 14, [[], []]), ([15, 16, 17, 18, 19, 20], 21, [[], [], []]), ([22, 23, 24, 25, 26, 27], 28, [[], [], [], []]), ([29, 30, 31, 32, 33, 34], 35, [[], [], [], [], []]), ([36, 37, 38, 39, 40, 41, 42, 43, 44], 45, [[], [], [], [], [], []])] [46, 47] hQe fun K E hK hE => ?_) | ((with_reducible refine W_cond (fun h => ?_) (fun h => ?_)) <;> (try (exfalso; first | assumption | omega))) | ((first | (with_reducible first | refine G_region fun K E hK hE => ?_ | refine call_ret can9 (w2 _) ?_ | refine call_ret can8 (w3 _) ?_ | refine W_if ?_ | refine W_ifS ?_ | refine P_heads fun Kh hKh => ?_ | refine P_fin fun Kh hKh => ?_ | refine P_each fun Kb hKb => ?_ | refine W_and ?_) | ((with_reducible refine call_ex can7 (Few_S _ (by assumption) _) (fun a h => ?_))) | ((with_reducible refine W_fresh (fun b hb => ?_)); (repeat (obtain ⟨_, hb⟩ := hb))) | ((with_reducible refine W_app (fun o2 ho => ?_)); (try simp (disch := assumption) only [disown_set, disown_own, ownok_o, ownok_m, List.length_map, List.length_cons, List.length_nil, Nat.zero_add, hlen] at ho); (repeat (obtain ⟨_, ho⟩ := ho))) | ((with_reducible refine W_gd (fun h => ?_) (fun h => ?_)) <;> (try (exfalso; first | assumption | omega)))) <;> (try simp (disch := first | assumption | omega) only [go_sem, seval, hlen, *]))))
      all_goals (first | refine W_ret res6 hQ ?_ | refine W_norm res6 hQ ?_ | refine G_pan hQ ?_)
      all_goals (refine ⟨_, _, Wk.of_eq ?_, ?_, rfl, rfl⟩)
      all_goals first | rfl | exact HT.out
end Go.Proofs.Ytejlknplmfmceaa
