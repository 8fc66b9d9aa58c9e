/- What is proved: The law ClassInherits, walked. Conditions: lists and texts of at most 2^47 parts. Conditions: those that stand in the statements. -/
import Derived.Test.YtejlknplmfmceaaZDtj
set_option linter.unusedSimpArgs false
set_option linter.unusedVariables false
set_option maxRecDepth 100000
namespace Go.Proofs.Ytejlknplmfmceaa
open Go.RowKit

theorem pairs_at {x : List Cls} {i j : Nat} {c : Cls} {m : Mth} (hi : x[i]? = some c) (hj : c.mths[j]? = some m) : (pairsM x)[startN x i + j]? = some (c, m) := by
  induction x generalizing i with
  | nil => simp at hi
  | cons d x ih =>
    have hp : pairsM (d :: x) = (d.mths.map fun m => (d, m)) ++ pairsM x := by simp [pairsM]
    rw [hp]
    cases i with
    | zero =>
      simp at hi
      subst hi
      have hl := (List.getElem?_eq_some_iff.1 hj).1
      have h0 : startN (d :: x) 0 = 0 := by simp [startN]
      rw [h0, Nat.zero_add, List.getElem?_append_left (by simpa using hl), List.getElem?_map, hj]; rfl
    | succ i =>
      have hi' : x[i]? = some c := by simpa using hi
      have h0 : startN (d :: x) (i + 1) = d.mths.length + startN x i := by simp [startN]
      rw [h0, List.getElem?_append_right (by simp; omega), List.length_map, show d.mths.length + startN x i + j - d.mths.length = startN x i + j by omega]
      exact ih hi'
theorem start_all (x : List Cls) : startN x x.length = (pairsM x).length := by rw [pairs_len]; simp [startN, mcount]
theorem mths_at {x : List Cls} {i j : Nat} {c : Cls} {m : Mth} (hi : x[i]? = some c) (hj : c.mths[j]? = some m) : (namesN x).mths[startN x i + j]? = some (mthT c m) := by
  rw [names_pairs, pairs_mths]
  simp only [nms0, List.nil_append, List.getElem?_map, pairs_at hi hj]
  rfl
theorem mths_lenI (x : List Cls) : (namesN x).mths.length = startN x x.length := by
  rw [names_pairs, pairs_mths, start_all]; simp [nms0]
/-- What a class of a parent finds of its parent's methods. -/
theorem inh_par {x : List Cls} (h0 : rightE x = 0) {i j k : Nat} {c d : Cls} {m : Mth} (hi : x[i]? = some c) (hj : c.mths[j]? = some m) (hk : x[k]? = some d) (hp : d.par = c.nm) :
    ∃ r : Nat, findA x d.nm m.nm m.stat = ((r : Int), 0) ∧ ((d.mths.any fun q => decide (q.nm = m.nm)) = false → r = startN x i + j) ∧ ((d.mths.any fun q => decide (q.nm = m.nm)) = true → r ≠ startN x i + j) := by
  obtain ⟨r, h1, h2, h3⟩ := look_par (right_of h0) hi hj hk hp
  exact ⟨r.1, by unfold findA; rw [if_pos h0, h1], h2, h3⟩
theorem inh_own {x : List Cls} (h0 : rightE x = 0) {i j : Nat} {c : Cls} {m : Mth} (hi : x[i]? = some c) (hj : c.mths[j]? = some m) : findA x c.nm m.nm m.stat = (((startN x i + j : Nat) : Int), 0) := by
  unfold findA; rw [if_pos h0, look_own (right_of h0) hi hj]
set_option maxHeartbeats 8000000 in
theorem ClassInherits_S (x : List Cls) (hx : SrcOk x) (t : St) : SRet Try.prog 3 [srcV x] t (.bool true) t := by
  have w1 := fun s => Few_S x hx s
  have w2 := awake16_S
  have w3 := fun s => CCheck_S x hx s
  have hlen : (x.map clsC).length = x.length := by simp
  by_cases h0 : rightE x = 0
  · have hR := right_of h0
    have hB := Bnd.of hR.chk
    have w4 := fun s => CNames_S x hx s
    have w5 := fun cl n st s => CFind_S x hx cl n st s
    have hnr : namesR x = namesN x := by unfold namesR; rw [if_pos h0]
    rw [hnr, h0] at w4
    rw [h0] at w3
    have hml := mths_lenI x
    have hma := fun i j c m => @mths_at x i j c m
    have hso := fun i c => @start_le x i c
    have hmc := mcount_le x hB.mths
    have hxl := hB.cls
    have hse : startN x x.length ≤ 1024 := by rw [start_all, pairs_len]; omega
    have hsm : ∀ i, startN x i ≤ startN x x.length := fun i => by
      by_cases h : i ≤ x.length
      · exact start_mono h
      · have : startN x i = startN x x.length := by simp [startN, List.take_of_length_le (show x.length ≤ i by omega)]
        omega
    generalize namesN x = N at w4 hml hma
    obtain ⟨qm, qv, qs, qc, qo, qh, qmain, qf, qx⟩ := N
    simp only at hml hma
    have HMA := Lib.hid hma
    have HSO := Lib.hid hso
    have HSM := Lib.hid hsm
    have HX := Lib.hid hx
    have H0 := Lib.hid h0
    have HB := Lib.hid hB
    have a1 := strsl_len qm
    rw [hml] at a1
    simp only [fctN] at w4
    simp only [srcV] at w1 w3 w4 w5 ⊢
    clear hma hso hsm hx h0 hR hB hnr hmc hml
    refine G_enter Try.func3 rfl Try.ntmps3 rfl fun Q hQ hQe => ?_
    (repeat' (first | refine Ctl ?_ | ((with_reducible refine Kof.use hK ?_); clear hK hE K E) | ((with_reducible refine Eof.use hE ?_); (try clear hK hE K E)) | ((with_reducible refine Kof.use hKh ?_); clear hKh Kh) | ((with_reducible refine Kof.use hKb (P_next ?_)); clear hKb Kb) | (with_reducible first | refine G_plan 16 [] [0, 1, 2, 3, 4, 5, 6, 7, 8, 9, 10, 11, 12, 13, 14, 15, 16, 17, 18, 19, 20, 21, 22, 23, 24, 25, 26, 27] hQe fun K E hK hE => ?_ | refine G_plan 22 [] [0, 1, 2, 3, 4, 5, 6, 7, 8] hQe fun K E hK hE => ?_ | refine G_plan 27 [([0, 1, 2, 3, 4, 5, 6, 7, 8, 9, 10, 11, 12, 13, 14, 15], 16, [[0, 1, 2, 3, 4, 5, 6, 7, 8, 9, 10, 11, 12, 13, 14, 15]])] [] hQe fun K E hK hE => ?_ | refine G_plan 28 [([0, 1, 2, 3, 4, 5, 6, 7, 8, 9, 10], 11, [[]])] [12, 13, 14, 15, 16] hQe fun K E hK hE => ?_) | ((with_reducible refine W_cond (fun h => ?_) (fun h => ?_)) <;> (try (exfalso; first | assumption | omega))) | ((first | (with_reducible first | refine G_region fun K E hK hE => ?_ | refine call_ret can9 (w2 _) ?_ | refine call_ret can8 (w3 _) ?_ | refine call_ret can10 (w4 _) ?_ | refine W_if ?_ | refine W_ifS ?_ | refine P_heads fun Kh hKh => ?_ | refine P_fin fun Kh hKh => ?_ | refine P_each fun Kb hKb => ?_ | refine W_and ?_) | ((with_reducible refine call_ex can7 (w1 _) (fun a h => ?_))) | ((with_reducible refine call_ex can7 (Few_S _ (by assumption) _) (fun a h => ?_))) | ((with_reducible refine W_fresh (fun b hb => ?_)); (repeat (obtain ⟨_, hb⟩ := hb))) | ((with_reducible refine W_gd (fun h => ?_) (fun h => ?_)) <;> (try (exfalso; first | assumption | omega)))) <;> (try simp (disch := first | assumption | omega) only [go_sem, seval, hlen, a1, *]))))
    · all_goals (first | refine W_ret res3 hQ ?_ | refine W_norm res3 hQ ?_ | refine G_pan hQ ?_)
      all_goals (refine ⟨_, _, Wk.of_eq ?_, ?_, rfl, rfl⟩)
      all_goals first | rfl | (exact z_fg)
    · rename_i b1 hb1 _ _ _ n1 n2
      obtain ⟨b3, hb3⟩ : ∃ z, z = b := ⟨_, rfl⟩
      subst hb3
      have hFg : Fg ((t.set b1 (.obj 24 [.lst (x.map clsC) .no])).set b3 (.obj 33 (fctN ⟨qm, qv, qs, qc, qo, qh, qmain, qf, qx⟩))) t := z_fg
      have hT1 : ((t.set b1 (.obj 24 [.lst (x.map clsC) .no])).set b3 (.obj 33 (fctN ⟨qm, qv, qs, qc, qo, qh, qmain, qf, qx⟩))) b1 = .obj 24 [.lst (x.map clsC) .no] := by rw [St.set_other _ _ (by assumption), St.set_same]
      have hT3 : ((t.set b1 (.obj 24 [.lst (x.map clsC) .no])).set b3 (.obj 33 (fctN ⟨qm, qv, qs, qc, qo, qh, qmain, qf, qx⟩))) b3 = .obj 33 (fctN ⟨qm, qv, qs, qc, qo, qh, qmain, qf, qx⟩) := St.set_same _ _ _
      simp only [fctN] at hFg hT1 hT3
      generalize ((t.set b1 (.obj 24 [.lst (x.map clsC) .no])).set b3 (.obj 33 _)) = T at *
      have HT := Lib.hid hFg
      have f1 : T b1 ≠ .free := by rw [hT1]; simp
      have f3 : T b3 ≠ .free := by rw [hT3]; simp
      clear hFg hb hb1 w3 w4
      refine G_loop (fun m env s' => ∃ (i : Nat), i ≤ x.length ∧ m + i = x.length ∧ s' = T ∧ env 1 = .ptr b1 0 ∧ env 3 = .ptr b3 0 ∧ env 5 = .int .i64 (startN x i) ∧ env 6 = .int .i64 i) x.length ?_ ?_
      · exact ⟨_, Fg.refl _, 0, by omega, by omega, rfl, z_sl, z_sl, by (rw [show startN x 0 = 0 by simp [startN]]; exact z_sl), z_sl⟩
      rintro m env s' ⟨i, hi, hm, hs, e1, e3, e5, e6⟩
      rw [hs]
      clear hs
      by_cases hlt : i < x.length
      · obtain ⟨c, hc⟩ := uget hlt
        have hsx := clsC_at hc
        have hcl : (c.mths.map mthC).length = c.mths.length := by simp
        have hst := HSO.out i c hc
        have hs1 := HSM.out (i + 1)
        have HC := Lib.hid hc
        have hcX := (HX.out.2 c (List.mem_of_getElem? hc))
        have hcn := hcX.1
        have HMX := Lib.hid hcX.2.2.2
        obtain ⟨cn, cp, cm⟩ := c
        simp only at hcl hst hcn HMX
        generalize hSt : startN x i = S0 at *
        have HSt := Lib.hid hSt
        rw [hst] at hs1
        clear hc hcX hst hSt
        (repeat' (first | refine Ctl ?_ | ((with_reducible refine Kof.use hK ?_); clear hK hE K E) | ((with_reducible refine Eof.use hE ?_); (try clear hK hE K E)) | ((with_reducible refine Kof.use hKh ?_); clear hKh Kh) | ((with_reducible refine Kof.use hKb (P_next ?_)); clear hKb Kb) | (with_reducible first | refine G_plan 16 [] [0, 1, 2, 3, 4, 5, 6, 7, 8, 9, 10, 11, 12, 13, 14, 15, 16, 17, 18, 19, 20, 21, 22, 23, 24, 25, 26, 27] hQe fun K E hK hE => ?_ | refine G_plan 22 [] [0, 1, 2, 3, 4, 5, 6, 7, 8] hQe fun K E hK hE => ?_ | refine G_plan 27 [([0, 1, 2, 3, 4, 5, 6, 7, 8, 9, 10, 11, 12, 13, 14, 15], 16, [[0, 1, 2, 3, 4, 5, 6, 7, 8, 9, 10, 11, 12, 13, 14, 15]])] [] hQe fun K E hK hE => ?_ | refine G_plan 28 [([0, 1, 2, 3, 4, 5, 6, 7, 8, 9, 10], 11, [[]])] [12, 13, 14, 15, 16] hQe fun K E hK hE => ?_) | ((with_reducible refine W_cond (fun h => ?_) (fun h => ?_)) <;> (try (exfalso; first | assumption | omega))) | ((first | (with_reducible first | refine G_region fun K E hK hE => ?_ | refine W_if ?_ | refine W_ifS ?_ | refine P_heads fun Kh hKh => ?_ | refine P_fin fun Kh hKh => ?_ | refine P_each fun Kb hKb => ?_ | refine W_and ?_) | ((with_reducible refine call_ex can7 (Few_S _ (by assumption) _) (fun a h => ?_))) | ((with_reducible refine W_fresh (fun b hb => ?_)); (repeat (obtain ⟨_, hb⟩ := hb)); (try (obtain ⟨_, _⟩ := nef hb f1; obtain ⟨_, _⟩ := nef hb f3))) | ((with_reducible refine W_gd (fun h => ?_) (fun h => ?_)) <;> (try (exfalso; first | assumption | omega)))) <;> (try simp (disch := first | assumption | omega) only [go_sem, seval, hlen, hsx, clsC, hcl, *]))))
        obtain ⟨b7, hb7⟩ : ∃ z, z = b := ⟨_, rfl⟩
        subst hb7
        have hU1 : (T.set b7 (.obj 38 [.str cn, .str cp, .lst (cm.map mthC) .no])) b1 = .obj 24 [.lst (x.map clsC) .no] := by rw [St.set_other _ _ (by assumption)]; exact hT1
        have hU3 := (St.set_other T (.obj 38 [.str cn, .str cp, .lst (cm.map mthC) .no]) (by assumption : ¬ b3 = b7)).trans hT3
        have hU7 : (T.set b7 (.obj 38 [.str cn, .str cp, .lst (cm.map mthC) .no])) b7 = .obj 38 [.str cn, .str cp, .lst (cm.map mthC) .no] := St.set_same _ _ _
        have HU := Lib.hid (Fg.of_set (.obj 38 [.str cn, .str cp, .lst (cm.map mthC) .no]) hb)
        generalize T.set b7 (.obj 38 [.str cn, .str cp, .lst (cm.map mthC) .no]) = U at *
        have g1 : U b1 ≠ .free := by rw [hU1]; simp
        have g3 : U b3 ≠ .free := by rw [hU3]; simp
        have g7 : U b7 ≠ .free := by rw [hU7]; simp
        clear hb hT1 hT3 f1 f3
        refine G_loop (fun m2 env s' => ∃ (j : Nat), j ≤ cm.length ∧ m2 + j = cm.length ∧ s' = U ∧ env 1 = .ptr b1 0 ∧ env 3 = .ptr b3 0 ∧ env 5 = .int .i64 ((S0 + j : Nat) : Int) ∧ env 6 = .int .i64 i ∧ env 7 = .ptr b7 0 ∧ env 8 = .int .i64 j) cm.length ?_ ?_
        · exact ⟨_, Fg.refl _, 0, by omega, by omega, rfl, z_sl, z_sl, z_sl, z_sl, z_sl, z_sl⟩
        clear e1 e3 e5 e6
        rintro m2 env s' ⟨j, hj, hm2, hs, e1, e3, e5, e6, e7, e8⟩
        rw [hs]
        clear hs
        by_cases hjt : j < cm.length
        · obtain ⟨mt, hmt⟩ := uget hjt
          have hsm := mthC_at16 hmt
          have hat := strs_at (HMA.out i j _ mt HC.out hmt)
          have w6 := fun s => w5 cn mt.nm mt.stat s
          rw [inh_own H0.out HC.out hmt] at w6
          have hmn := (HMX.out mt (List.mem_of_getElem? hmt)).1
          have HIP := Lib.hid (fun (d : Nat) (dc : Cls) (h1 : x[d]? = some dc) (h2 : dc.par = cn) => inh_par H0.out HC.out hmt h1 h2)
          rw [HSt.out] at w6 hat
          have HIP2 : Hid (∀ (d : Nat) (dc : Cls), x[d]? = some dc → dc.par = cn → ∃ r : Nat, findA x dc.nm mt.nm mt.stat = ((r : Int), 0) ∧ ((dc.mths.any fun q => decide (q.nm = mt.nm)) = false → r = S0 + j) ∧ ((dc.mths.any fun q => decide (q.nm = mt.nm)) = true → r ≠ S0 + j)) := Lib.hid (by have := HIP.out; rw [HSt.out] at this; exact this)
          clear hmt HIP
          obtain ⟨ms, mn, mp, mb⟩ := mt
          simp only [mthC, strsV, stsV, mthT] at hsm hat w6 hmn HIP2
          have hkl : S0 + j < startN x x.length := by omega
          have ht1 : (cn ++ [58, 58]).length ≤ 140737488355400 := by simp only [List.length_append, List.length_cons, List.length_nil]; omega
          (repeat' (first | refine Ctl ?_ | ((with_reducible refine Kof.use hK ?_); clear hK hE K E) | ((with_reducible refine Eof.use hE ?_); (try clear hK hE K E)) | ((with_reducible refine Kof.use hKh ?_); clear hKh Kh) | ((with_reducible refine Kof.use hKb (P_next ?_)); clear hKb Kb) | (with_reducible first | refine G_plan 16 [] [0, 1, 2, 3, 4, 5, 6, 7, 8, 9, 10, 11, 12, 13, 14, 15, 16, 17, 18, 19, 20, 21, 22, 23, 24, 25, 26, 27] hQe fun K E hK hE => ?_ | refine G_plan 22 [] [0, 1, 2, 3, 4, 5, 6, 7, 8] hQe fun K E hK hE => ?_ | refine G_plan 27 [([0, 1, 2, 3, 4, 5, 6, 7, 8, 9, 10, 11, 12, 13, 14, 15], 16, [[0, 1, 2, 3, 4, 5, 6, 7, 8, 9, 10, 11, 12, 13, 14, 15]])] [] hQe fun K E hK hE => ?_ | refine G_plan 28 [([0, 1, 2, 3, 4, 5, 6, 7, 8, 9, 10], 11, [[]])] [12, 13, 14, 15, 16] hQe fun K E hK hE => ?_) | ((with_reducible refine W_cond (fun h => ?_) (fun h => ?_)) <;> (try (exfalso; first | assumption | omega))) | ((first | (with_reducible first | refine G_region fun K E hK hE => ?_ | refine call_ret can11 (w6 _) ?_ | refine W_if ?_ | refine W_ifS ?_ | refine P_heads fun Kh hKh => ?_ | refine P_fin fun Kh hKh => ?_ | refine P_each fun Kb hKb => ?_ | refine W_and ?_) | ((with_reducible refine call_ex can7 (Few_S _ (by assumption) _) (fun a h => ?_))) | ((with_reducible refine W_fresh (fun b hb => ?_)); (repeat (obtain ⟨_, hb⟩ := hb)); (try (obtain ⟨_, _⟩ := nef hb g1; obtain ⟨_, _⟩ := nef hb g3; obtain ⟨_, _⟩ := nef hb g7))) | ((with_reducible refine W_gd (fun h => ?_) (fun h => ?_)) <;> (try (exfalso; first | assumption | omega)))) <;> (try simp (disch := first | assumption | omega) only [go_sem, seval, hlen, hsx, clsC, hcl, hsm, hat, a1, *]))))
          obtain ⟨b9, hb9⟩ : ∃ z, z = b := ⟨_, rfl⟩
          subst hb9
          have hV1 := (St.set_other U (.obj 41 [.bool ms, .str mn, .lst (mp.map strC) .no, .lst (stsC mb) .no]) (by assumption : ¬ b1 = b9)).trans hU1
          have hV7 := (St.set_other U (.obj 41 [.bool ms, .str mn, .lst (mp.map strC) .no, .lst (stsC mb) .no]) (by assumption : ¬ b7 = b9)).trans hU7
          have hV9 : (U.set b9 (.obj 41 [.bool ms, .str mn, .lst (mp.map strC) .no, .lst (stsC mb) .no])) b9 = .obj 41 [.bool ms, .str mn, .lst (mp.map strC) .no, .lst (stsC mb) .no] := St.set_same _ _ _
          have HV := Lib.hid (Fg.of_set (.obj 41 [.bool ms, .str mn, .lst (mp.map strC) .no, .lst (stsC mb) .no]) hb)
          generalize U.set b9 (.obj 41 [.bool ms, .str mn, .lst (mp.map strC) .no, .lst (stsC mb) .no]) = V at *
          clear hb w6 hat hsm
          refine G_loop (fun m3 env s' => ∃ (d : Nat), d ≤ x.length ∧ m3 + d = x.length ∧ s' = V ∧ env 1 = .ptr b1 0 ∧ env 3 = .ptr b3 0 ∧ env 5 = .int .i64 ((S0 + j + 1 : Nat) : Int) ∧ env 6 = .int .i64 i ∧ env 7 = .ptr b7 0 ∧ env 8 = .int .i64 j ∧ env 9 = .ptr b9 0 ∧ env 10 = .int .i64 ((S0 + j : Nat) : Int) ∧ env 12 = .int .i64 d) x.length ?_ ?_
          · exact ⟨_, Fg.refl _, 0, by omega, by omega, rfl, z_sl, z_sl, z_sl, z_sl, z_sl, z_sl, z_sl, z_sl, z_sl⟩
          clear e1 e3 e5 e6 e7 e8
          rintro m3 env s' ⟨d, hd, hm3, hs, e1, e3, e5, e6, e7, e8, e9, e10, e12⟩
          rw [hs]
          clear hs
          by_cases hdt : d < x.length
          · obtain ⟨dc, hdc⟩ := uget hdt
            have hsd := clsC_at hdc
            have hdl : (dc.mths.map mthC).length = dc.mths.length := by simp
            have hd32 : dc.mths.length ≤ 32 := HB.out.mths dc (List.mem_of_getElem? hdc)
            by_cases hpc : dc.par = cn
            · obtain ⟨r, hr1, hr2, hr3⟩ := HIP2.out d dc hdc hpc
              have w6 := fun s => w5 dc.nm mn ms s
              rw [hr1] at w6
              obtain ⟨dn, dp, dm⟩ := dc
              simp only at hdl hpc w6 hr2 hr3 hd32
              subst hpc
              have HR2 := Lib.hid hr2
              have HR3 := Lib.hid hr3
              clear hr1 hr2 hr3 hdc
              have hcc : (dp = dp) = True := eq_true rfl
              (repeat' (first | refine Ctl ?_ | ((with_reducible refine Kof.use hK ?_); clear hK hE K E) | ((with_reducible refine Eof.use hE ?_); (try clear hK hE K E)) | ((with_reducible refine Kof.use hKh ?_); clear hKh Kh) | ((with_reducible refine Kof.use hKb (P_next ?_)); clear hKb Kb) | (with_reducible first | refine G_plan 16 [] [0, 1, 2, 3, 4, 5, 6, 7, 8, 9, 10, 11, 12, 13, 14, 15, 16, 17, 18, 19, 20, 21, 22, 23, 24, 25, 26, 27] hQe fun K E hK hE => ?_ | refine G_plan 22 [] [0, 1, 2, 3, 4, 5, 6, 7, 8] hQe fun K E hK hE => ?_ | refine G_plan 27 [([0, 1, 2, 3, 4, 5, 6, 7, 8, 9, 10, 11, 12, 13, 14, 15], 16, [[0, 1, 2, 3, 4, 5, 6, 7, 8, 9, 10, 11, 12, 13, 14, 15]])] [] hQe fun K E hK hE => ?_ | refine G_plan 28 [([0, 1, 2, 3, 4, 5, 6, 7, 8, 9, 10], 11, [[]])] [12, 13, 14, 15, 16] hQe fun K E hK hE => ?_) | ((with_reducible refine W_cond (fun h => ?_) (fun h => ?_)) <;> (try (exfalso; first | assumption | omega))) | ((first | (with_reducible first | refine G_region fun K E hK hE => ?_ | refine W_if ?_ | refine W_ifS ?_ | refine P_heads fun Kh hKh => ?_ | refine P_fin fun Kh hKh => ?_ | refine P_each fun Kb hKb => ?_ | refine W_and ?_) | ((with_reducible refine call_ex can7 (Few_S _ (by assumption) _) (fun a h => ?_))) | ((with_reducible refine W_fresh (fun b hb => ?_)); (repeat (obtain ⟨_, hb⟩ := hb))) | ((with_reducible refine W_gd (fun h => ?_) (fun h => ?_)) <;> (try (exfalso; first | assumption | omega)))) <;> (try simp (disch := first | assumption | omega) only [go_sem, seval, hlen, hsd, clsC, hdl, *]))))
              refine G_loop (fun m4 env s' => ∃ (k : Nat), k ≤ dm.length ∧ m4 + k = dm.length ∧ s' = V ∧ env 1 = .ptr b1 0 ∧ env 3 = .ptr b3 0 ∧ env 5 = .int .i64 ((S0 + j + 1 : Nat) : Int) ∧ env 6 = .int .i64 i ∧ env 7 = .ptr b7 0 ∧ env 8 = .int .i64 j ∧ env 9 = .ptr b9 0 ∧ env 10 = .int .i64 ((S0 + j : Nat) : Int) ∧ env 12 = .int .i64 d ∧ env 13 = .bool ((dm.take k).any fun q => decide (q.nm = mn)) ∧ env 14 = .int .i64 k) dm.length ?_ ?_
              · exact ⟨_, Fg.refl _, 0, by omega, by omega, rfl, z_sl, z_sl, z_sl, z_sl, z_sl, z_sl, z_sl, z_sl, z_sl, by (simp only [List.take_zero, List.any_nil]; exact z_sl), z_sl⟩
              clear e1 e3 e5 e6 e7 e8 e9 e10 e12
              rintro m4 env s' ⟨k, hk, hm4, hs, e1, e3, e5, e6, e7, e8, e9, e10, e12, e13, e14⟩
              rw [hs]
              clear hs
              by_cases hkt : k < dm.length
              · obtain ⟨q, hq⟩ := uget hkt
                have hsq := mthC_at16 hq
                have hut : ((dm.take (k + 1)).any fun q => decide (q.nm = mn)) = (((dm.take k).any fun q => decide (q.nm = mn)) || decide (q.nm = mn)) := by rw [utake hq, List.any_append]; simp
                have HUT := Lib.hid hut
                generalize ((dm.take k).any fun q => decide (q.nm = mn)) = A at *
                obtain ⟨qs', qn, qp, qb⟩ := q
                simp only [mthC, strsV, stsV] at hsq HUT
                clear hut hq
                cases A
                · by_cases hqn : qn = mn
                  · have hqi : (qn = mn) = True := eq_true hqn
                    have HUT2 : Hid (((dm.take (k + 1)).any fun q => decide (q.nm = mn)) = true) := Lib.hid (by rw [HUT.out, hqn]; simp)
                    clear hqn HUT
                    (repeat' (first | refine Ctl ?_ | ((with_reducible refine Kof.use hK ?_); clear hK hE K E) | ((with_reducible refine Eof.use hE ?_); (try clear hK hE K E)) | ((with_reducible refine Kof.use hKh ?_); clear hKh Kh) | ((with_reducible refine Kof.use hKb (P_next ?_)); clear hKb Kb) | (with_reducible first | refine G_plan 16 [] [0, 1, 2, 3, 4, 5, 6, 7, 8, 9, 10, 11, 12, 13, 14, 15, 16, 17, 18, 19, 20, 21, 22, 23, 24, 25, 26, 27] hQe fun K E hK hE => ?_ | refine G_plan 22 [] [0, 1, 2, 3, 4, 5, 6, 7, 8] hQe fun K E hK hE => ?_ | refine G_plan 27 [([0, 1, 2, 3, 4, 5, 6, 7, 8, 9, 10, 11, 12, 13, 14, 15], 16, [[0, 1, 2, 3, 4, 5, 6, 7, 8, 9, 10, 11, 12, 13, 14, 15]])] [] hQe fun K E hK hE => ?_ | refine G_plan 28 [([0, 1, 2, 3, 4, 5, 6, 7, 8, 9, 10], 11, [[]])] [12, 13, 14, 15, 16] hQe fun K E hK hE => ?_) | ((with_reducible refine W_cond (fun h => ?_) (fun h => ?_)) <;> (try (exfalso; first | assumption | omega))) | ((first | (with_reducible first | refine G_region fun K E hK hE => ?_ | refine W_if ?_ | refine W_ifS ?_ | refine P_heads fun Kh hKh => ?_ | refine P_fin fun Kh hKh => ?_ | refine P_each fun Kb hKb => ?_ | refine W_and ?_) | ((with_reducible refine call_ex can7 (Few_S _ (by assumption) _) (fun a h => ?_))) | ((with_reducible refine W_fresh (fun b hb => ?_)); (repeat (obtain ⟨_, hb⟩ := hb))) | ((with_reducible refine W_gd (fun h => ?_) (fun h => ?_)) <;> (try (exfalso; first | assumption | omega)))) <;> (try simp (disch := first | assumption | omega) only [go_sem, seval, hlen, hsd, clsC, hdl, hsq, *]))))
                    exact ⟨_, Fg.refl _, m4 - 1, by omega, k + 1, by omega, by omega, rfl, z_sl, z_sl, z_sl, z_sl, z_sl, z_sl, z_sl, z_sl, z_sl, by (rw [HUT2.out]; exact z_sl), z_sl⟩
                  · have hqi : (qn = mn) = False := eq_false hqn
                    have HUT2 : Hid (((dm.take (k + 1)).any fun q => decide (q.nm = mn)) = false) := Lib.hid (by rw [HUT.out]; simp [hqn])
                    clear hqn HUT
                    (repeat' (first | refine Ctl ?_ | ((with_reducible refine Kof.use hK ?_); clear hK hE K E) | ((with_reducible refine Eof.use hE ?_); (try clear hK hE K E)) | ((with_reducible refine Kof.use hKh ?_); clear hKh Kh) | ((with_reducible refine Kof.use hKb (P_next ?_)); clear hKb Kb) | (with_reducible first | refine G_plan 16 [] [0, 1, 2, 3, 4, 5, 6, 7, 8, 9, 10, 11, 12, 13, 14, 15, 16, 17, 18, 19, 20, 21, 22, 23, 24, 25, 26, 27] hQe fun K E hK hE => ?_ | refine G_plan 22 [] [0, 1, 2, 3, 4, 5, 6, 7, 8] hQe fun K E hK hE => ?_ | refine G_plan 27 [([0, 1, 2, 3, 4, 5, 6, 7, 8, 9, 10, 11, 12, 13, 14, 15], 16, [[0, 1, 2, 3, 4, 5, 6, 7, 8, 9, 10, 11, 12, 13, 14, 15]])] [] hQe fun K E hK hE => ?_ | refine G_plan 28 [([0, 1, 2, 3, 4, 5, 6, 7, 8, 9, 10], 11, [[]])] [12, 13, 14, 15, 16] hQe fun K E hK hE => ?_) | ((with_reducible refine W_cond (fun h => ?_) (fun h => ?_)) <;> (try (exfalso; first | assumption | omega))) | ((first | (with_reducible first | refine G_region fun K E hK hE => ?_ | refine W_if ?_ | refine W_ifS ?_ | refine P_heads fun Kh hKh => ?_ | refine P_fin fun Kh hKh => ?_ | refine P_each fun Kb hKb => ?_ | refine W_and ?_) | ((with_reducible refine call_ex can7 (Few_S _ (by assumption) _) (fun a h => ?_))) | ((with_reducible refine W_fresh (fun b hb => ?_)); (repeat (obtain ⟨_, hb⟩ := hb))) | ((with_reducible refine W_gd (fun h => ?_) (fun h => ?_)) <;> (try (exfalso; first | assumption | omega)))) <;> (try simp (disch := first | assumption | omega) only [go_sem, seval, hlen, hsd, clsC, hdl, hsq, *]))))
                    exact ⟨_, Fg.refl _, m4 - 1, by omega, k + 1, by omega, by omega, rfl, z_sl, z_sl, z_sl, z_sl, z_sl, z_sl, z_sl, z_sl, z_sl, by (rw [HUT2.out]; exact z_sl), z_sl⟩
                · have HUT2 : Hid (((dm.take (k + 1)).any fun q => decide (q.nm = mn)) = true) := Lib.hid (by rw [HUT.out]; simp)
                  clear HUT
                  (repeat' (first | refine Ctl ?_ | ((with_reducible refine Kof.use hK ?_); clear hK hE K E) | ((with_reducible refine Eof.use hE ?_); (try clear hK hE K E)) | ((with_reducible refine Kof.use hKh ?_); clear hKh Kh) | ((with_reducible refine Kof.use hKb (P_next ?_)); clear hKb Kb) | (with_reducible first | refine G_plan 16 [] [0, 1, 2, 3, 4, 5, 6, 7, 8, 9, 10, 11, 12, 13, 14, 15, 16, 17, 18, 19, 20, 21, 22, 23, 24, 25, 26, 27] hQe fun K E hK hE => ?_ | refine G_plan 22 [] [0, 1, 2, 3, 4, 5, 6, 7, 8] hQe fun K E hK hE => ?_ | refine G_plan 27 [([0, 1, 2, 3, 4, 5, 6, 7, 8, 9, 10, 11, 12, 13, 14, 15], 16, [[0, 1, 2, 3, 4, 5, 6, 7, 8, 9, 10, 11, 12, 13, 14, 15]])] [] hQe fun K E hK hE => ?_ | refine G_plan 28 [([0, 1, 2, 3, 4, 5, 6, 7, 8, 9, 10], 11, [[]])] [12, 13, 14, 15, 16] hQe fun K E hK hE => ?_) | ((with_reducible refine W_cond (fun h => ?_) (fun h => ?_)) <;> (try (exfalso; first | assumption | omega))) | ((first | (with_reducible first | refine G_region fun K E hK hE => ?_ | refine W_if ?_ | refine W_ifS ?_ | refine P_heads fun Kh hKh => ?_ | refine P_fin fun Kh hKh => ?_ | refine P_each fun Kb hKb => ?_ | refine W_and ?_) | ((with_reducible refine call_ex can7 (Few_S _ (by assumption) _) (fun a h => ?_))) | ((with_reducible refine W_fresh (fun b hb => ?_)); (repeat (obtain ⟨_, hb⟩ := hb))) | ((with_reducible refine W_gd (fun h => ?_) (fun h => ?_)) <;> (try (exfalso; first | assumption | omega)))) <;> (try simp (disch := first | assumption | omega) only [go_sem, seval, hlen, hsd, clsC, hdl, hsq, *]))))
                  exact ⟨_, Fg.refl _, m4 - 1, by omega, k + 1, by omega, by omega, rfl, z_sl, z_sl, z_sl, z_sl, z_sl, z_sl, z_sl, z_sl, z_sl, by (rw [HUT2.out]; exact z_sl), z_sl⟩
              · rw [List.take_of_length_le (by omega)] at e13
                have hrA : (dm.any (fun q => decide (q.nm = mn)) = false ∧ r = S0 + j) ∨ (dm.any (fun q => decide (q.nm = mn)) = true ∧ ¬ r = S0 + j) := by
                  cases hA : dm.any (fun q => decide (q.nm = mn)) with
                  | false => exact .inl ⟨rfl, HR2.out hA⟩
                  | true => exact .inr ⟨rfl, HR3.out hA⟩
                generalize dm.any (fun q => decide (q.nm = mn)) = A at *
                clear HR2 HR3
                rcases hrA with ⟨rfl, rfl⟩ | ⟨rfl, hrn⟩
                · have hrr : (((S0 + j : Nat) : Int) = ((S0 + j : Nat) : Int)) = True := eq_true rfl
                  (repeat' (first | refine Ctl ?_ | ((with_reducible refine Kof.use hK ?_); clear hK hE K E) | ((with_reducible refine Eof.use hE ?_); (try clear hK hE K E)) | ((with_reducible refine Kof.use hKh ?_); clear hKh Kh) | ((with_reducible refine Kof.use hKb (P_next ?_)); clear hKb Kb) | (with_reducible first | refine G_plan 16 [] [0, 1, 2, 3, 4, 5, 6, 7, 8, 9, 10, 11, 12, 13, 14, 15, 16, 17, 18, 19, 20, 21, 22, 23, 24, 25, 26, 27] hQe fun K E hK hE => ?_ | refine G_plan 22 [] [0, 1, 2, 3, 4, 5, 6, 7, 8] hQe fun K E hK hE => ?_ | refine G_plan 27 [([0, 1, 2, 3, 4, 5, 6, 7, 8, 9, 10, 11, 12, 13, 14, 15], 16, [[0, 1, 2, 3, 4, 5, 6, 7, 8, 9, 10, 11, 12, 13, 14, 15]])] [] hQe fun K E hK hE => ?_ | refine G_plan 28 [([0, 1, 2, 3, 4, 5, 6, 7, 8, 9, 10], 11, [[]])] [12, 13, 14, 15, 16] hQe fun K E hK hE => ?_) | ((with_reducible refine W_cond (fun h => ?_) (fun h => ?_)) <;> (try (exfalso; first | assumption | omega))) | ((first | (with_reducible first | refine G_region fun K E hK hE => ?_ | refine call_ret can11 (w6 _) ?_ | refine W_if ?_ | refine W_ifS ?_ | refine P_heads fun Kh hKh => ?_ | refine P_fin fun Kh hKh => ?_ | refine P_each fun Kb hKb => ?_ | refine W_and ?_) | ((with_reducible refine call_ex can7 (Few_S _ (by assumption) _) (fun a h => ?_))) | ((with_reducible refine W_fresh (fun b hb => ?_)); (repeat (obtain ⟨_, hb⟩ := hb))) | ((with_reducible refine W_gd (fun h => ?_) (fun h => ?_)) <;> (try (exfalso; first | assumption | omega)))) <;> (try simp (disch := first | assumption | omega) only [go_sem, seval, hlen, hsd, clsC, hdl, *]))))
                  all_goals exact ⟨_, Fg.refl _, m3 - 1, by omega, d + 1, by omega, by omega, rfl, z_sl, z_sl, z_sl, z_sl, z_sl, z_sl, z_sl, z_sl, z_sl⟩
                · have hrr : ((r : Int) = ((S0 + j : Nat) : Int)) = False := eq_false (by omega)
                  (repeat' (first | refine Ctl ?_ | ((with_reducible refine Kof.use hK ?_); clear hK hE K E) | ((with_reducible refine Eof.use hE ?_); (try clear hK hE K E)) | ((with_reducible refine Kof.use hKh ?_); clear hKh Kh) | ((with_reducible refine Kof.use hKb (P_next ?_)); clear hKb Kb) | (with_reducible first | refine G_plan 16 [] [0, 1, 2, 3, 4, 5, 6, 7, 8, 9, 10, 11, 12, 13, 14, 15, 16, 17, 18, 19, 20, 21, 22, 23, 24, 25, 26, 27] hQe fun K E hK hE => ?_ | refine G_plan 22 [] [0, 1, 2, 3, 4, 5, 6, 7, 8] hQe fun K E hK hE => ?_ | refine G_plan 27 [([0, 1, 2, 3, 4, 5, 6, 7, 8, 9, 10, 11, 12, 13, 14, 15], 16, [[0, 1, 2, 3, 4, 5, 6, 7, 8, 9, 10, 11, 12, 13, 14, 15]])] [] hQe fun K E hK hE => ?_ | refine G_plan 28 [([0, 1, 2, 3, 4, 5, 6, 7, 8, 9, 10], 11, [[]])] [12, 13, 14, 15, 16] hQe fun K E hK hE => ?_) | ((with_reducible refine W_cond (fun h => ?_) (fun h => ?_)) <;> (try (exfalso; first | assumption | omega))) | ((first | (with_reducible first | refine G_region fun K E hK hE => ?_ | refine call_ret can11 (w6 _) ?_ | refine W_if ?_ | refine W_ifS ?_ | refine P_heads fun Kh hKh => ?_ | refine P_fin fun Kh hKh => ?_ | refine P_each fun Kb hKb => ?_ | refine W_and ?_) | ((with_reducible refine call_ex can7 (Few_S _ (by assumption) _) (fun a h => ?_))) | ((with_reducible refine W_fresh (fun b hb => ?_)); (repeat (obtain ⟨_, hb⟩ := hb))) | ((with_reducible refine W_gd (fun h => ?_) (fun h => ?_)) <;> (try (exfalso; first | assumption | omega)))) <;> (try simp (disch := first | assumption | omega) only [go_sem, seval, hlen, hsd, clsC, hdl, *]))))
                  all_goals exact ⟨_, Fg.refl _, m3 - 1, by omega, d + 1, by omega, by omega, rfl, z_sl, z_sl, z_sl, z_sl, z_sl, z_sl, z_sl, z_sl, z_sl⟩
            · obtain ⟨dn, dp, dm⟩ := dc
              simp only at hdl hpc
              have hpf : (dp = cn) = False := eq_false hpc
              clear hpc hdc
              (repeat' (first | refine Ctl ?_ | ((with_reducible refine Kof.use hK ?_); clear hK hE K E) | ((with_reducible refine Eof.use hE ?_); (try clear hK hE K E)) | ((with_reducible refine Kof.use hKh ?_); clear hKh Kh) | ((with_reducible refine Kof.use hKb (P_next ?_)); clear hKb Kb) | (with_reducible first | refine G_plan 16 [] [0, 1, 2, 3, 4, 5, 6, 7, 8, 9, 10, 11, 12, 13, 14, 15, 16, 17, 18, 19, 20, 21, 22, 23, 24, 25, 26, 27] hQe fun K E hK hE => ?_ | refine G_plan 22 [] [0, 1, 2, 3, 4, 5, 6, 7, 8] hQe fun K E hK hE => ?_ | refine G_plan 27 [([0, 1, 2, 3, 4, 5, 6, 7, 8, 9, 10, 11, 12, 13, 14, 15], 16, [[0, 1, 2, 3, 4, 5, 6, 7, 8, 9, 10, 11, 12, 13, 14, 15]])] [] hQe fun K E hK hE => ?_ | refine G_plan 28 [([0, 1, 2, 3, 4, 5, 6, 7, 8, 9, 10], 11, [[]])] [12, 13, 14, 15, 16] hQe fun K E hK hE => ?_) | ((with_reducible refine W_cond (fun h => ?_) (fun h => ?_)) <;> (try (exfalso; first | assumption | omega))) | ((first | (with_reducible first | refine G_region fun K E hK hE => ?_ | refine W_if ?_ | refine W_ifS ?_ | refine P_heads fun Kh hKh => ?_ | refine P_fin fun Kh hKh => ?_ | refine P_each fun Kb hKb => ?_ | refine W_and ?_) | ((with_reducible refine call_ex can7 (Few_S _ (by assumption) _) (fun a h => ?_))) | ((with_reducible refine W_fresh (fun b hb => ?_)); (repeat (obtain ⟨_, hb⟩ := hb))) | ((with_reducible refine W_gd (fun h => ?_) (fun h => ?_)) <;> (try (exfalso; first | assumption | omega)))) <;> (try simp (disch := first | assumption | omega) only [go_sem, seval, hlen, hsd, clsC, hdl, *]))))
              exact ⟨_, Fg.refl _, m3 - 1, by omega, d + 1, by omega, by omega, rfl, z_sl, z_sl, z_sl, z_sl, z_sl, z_sl, z_sl, z_sl, z_sl⟩
          · (repeat' (first | refine Ctl ?_ | ((with_reducible refine Kof.use hK ?_); clear hK hE K E) | ((with_reducible refine Eof.use hE ?_); (try clear hK hE K E)) | ((with_reducible refine Kof.use hKh ?_); clear hKh Kh) | ((with_reducible refine Kof.use hKb (P_next ?_)); clear hKb Kb) | (with_reducible first | refine G_plan 16 [] [0, 1, 2, 3, 4, 5, 6, 7, 8, 9, 10, 11, 12, 13, 14, 15, 16, 17, 18, 19, 20, 21, 22, 23, 24, 25, 26, 27] hQe fun K E hK hE => ?_ | refine G_plan 22 [] [0, 1, 2, 3, 4, 5, 6, 7, 8] hQe fun K E hK hE => ?_ | refine G_plan 27 [([0, 1, 2, 3, 4, 5, 6, 7, 8, 9, 10, 11, 12, 13, 14, 15], 16, [[0, 1, 2, 3, 4, 5, 6, 7, 8, 9, 10, 11, 12, 13, 14, 15]])] [] hQe fun K E hK hE => ?_ | refine G_plan 28 [([0, 1, 2, 3, 4, 5, 6, 7, 8, 9, 10], 11, [[]])] [12, 13, 14, 15, 16] hQe fun K E hK hE => ?_) | ((with_reducible refine W_cond (fun h => ?_) (fun h => ?_)) <;> (try (exfalso; first | assumption | omega))) | ((first | (with_reducible first | refine G_region fun K E hK hE => ?_ | refine W_if ?_ | refine W_ifS ?_ | refine P_heads fun Kh hKh => ?_ | refine P_fin fun Kh hKh => ?_ | refine P_each fun Kb hKb => ?_ | refine W_and ?_) | ((with_reducible refine call_ex can7 (Few_S _ (by assumption) _) (fun a h => ?_))) | ((with_reducible refine W_fresh (fun b hb => ?_)); (repeat (obtain ⟨_, hb⟩ := hb))) | ((with_reducible refine W_gd (fun h => ?_) (fun h => ?_)) <;> (try (exfalso; first | assumption | omega)))) <;> (try simp (disch := first | assumption | omega) only [go_sem, seval, hlen, *]))))
            exact ⟨_, HV.out, m2 - 1, by omega, j + 1, by omega, by omega, rfl, z_sl, z_sl, z_sl, z_sl, z_sl, z_sl⟩
        · obtain rfl : j = cm.length := by omega
          have HST := Lib.hid (show startN x (i + 1) = S0 + cm.length by have := HSO.out i _ HC.out; simp only at this; rw [this, HSt.out])
          (repeat' (first | refine Ctl ?_ | ((with_reducible refine Kof.use hK ?_); clear hK hE K E) | ((with_reducible refine Eof.use hE ?_); (try clear hK hE K E)) | ((with_reducible refine Kof.use hKh ?_); clear hKh Kh) | ((with_reducible refine Kof.use hKb (P_next ?_)); clear hKb Kb) | (with_reducible first | refine G_plan 16 [] [0, 1, 2, 3, 4, 5, 6, 7, 8, 9, 10, 11, 12, 13, 14, 15, 16, 17, 18, 19, 20, 21, 22, 23, 24, 25, 26, 27] hQe fun K E hK hE => ?_ | refine G_plan 22 [] [0, 1, 2, 3, 4, 5, 6, 7, 8] hQe fun K E hK hE => ?_ | refine G_plan 27 [([0, 1, 2, 3, 4, 5, 6, 7, 8, 9, 10, 11, 12, 13, 14, 15], 16, [[0, 1, 2, 3, 4, 5, 6, 7, 8, 9, 10, 11, 12, 13, 14, 15]])] [] hQe fun K E hK hE => ?_ | refine G_plan 28 [([0, 1, 2, 3, 4, 5, 6, 7, 8, 9, 10], 11, [[]])] [12, 13, 14, 15, 16] hQe fun K E hK hE => ?_) | ((with_reducible refine W_cond (fun h => ?_) (fun h => ?_)) <;> (try (exfalso; first | assumption | omega))) | ((first | (with_reducible first | refine G_region fun K E hK hE => ?_ | refine W_if ?_ | refine W_ifS ?_ | refine P_heads fun Kh hKh => ?_ | refine P_fin fun Kh hKh => ?_ | refine P_each fun Kb hKb => ?_ | refine W_and ?_) | ((with_reducible refine call_ex can7 (Few_S _ (by assumption) _) (fun a h => ?_))) | ((with_reducible refine W_fresh (fun b hb => ?_)); (repeat (obtain ⟨_, hb⟩ := hb))) | ((with_reducible refine W_gd (fun h => ?_) (fun h => ?_)) <;> (try (exfalso; first | assumption | omega)))) <;> (try simp (disch := first | assumption | omega) only [go_sem, seval, hlen, hcl, *]))))
          exact ⟨_, HU.out, m - 1, by omega, i + 1, by omega, by omega, rfl, z_sl, z_sl, by (rw [HST.out]; exact z_sl), z_sl⟩
      · obtain rfl : i = x.length := by omega
        have hss : ((startN x x.length : Int) = (startN x x.length : Int)) = True := eq_true rfl
        (repeat' (first | refine Ctl ?_ | ((with_reducible refine Kof.use hK ?_); clear hK hE K E) | ((with_reducible refine Eof.use hE ?_); (try clear hK hE K E)) | ((with_reducible refine Kof.use hKh ?_); clear hKh Kh) | ((with_reducible refine Kof.use hKb (P_next ?_)); clear hKb Kb) | (with_reducible first | refine G_plan 16 [] [0, 1, 2, 3, 4, 5, 6, 7, 8, 9, 10, 11, 12, 13, 14, 15, 16, 17, 18, 19, 20, 21, 22, 23, 24, 25, 26, 27] hQe fun K E hK hE => ?_ | refine G_plan 22 [] [0, 1, 2, 3, 4, 5, 6, 7, 8] hQe fun K E hK hE => ?_ | refine G_plan 27 [([0, 1, 2, 3, 4, 5, 6, 7, 8, 9, 10, 11, 12, 13, 14, 15], 16, [[0, 1, 2, 3, 4, 5, 6, 7, 8, 9, 10, 11, 12, 13, 14, 15]])] [] hQe fun K E hK hE => ?_ | refine G_plan 28 [([0, 1, 2, 3, 4, 5, 6, 7, 8, 9, 10], 11, [[]])] [12, 13, 14, 15, 16] hQe fun K E hK hE => ?_) | ((with_reducible refine W_cond (fun h => ?_) (fun h => ?_)) <;> (try (exfalso; first | assumption | omega))) | ((first | (with_reducible first | refine G_region fun K E hK hE => ?_ | refine call_ret can9 (w2 _) ?_ | refine W_if ?_ | refine W_ifS ?_ | refine P_heads fun Kh hKh => ?_ | refine P_fin fun Kh hKh => ?_ | refine P_each fun Kb hKb => ?_ | refine W_and ?_) | ((with_reducible refine call_ex can7 (Few_S _ (by assumption) _) (fun a h => ?_))) | ((with_reducible refine W_fresh (fun b hb => ?_)); (repeat (obtain ⟨_, hb⟩ := hb))) | ((with_reducible refine W_gd (fun h => ?_) (fun h => ?_)) <;> (try (exfalso; first | assumption | omega)))) <;> (try simp (disch := first | assumption | omega) only [go_sem, seval, hlen, a1, *]))))
        all_goals (first | refine W_ret res3 hQ ?_ | refine W_norm res3 hQ ?_ | refine G_pan hQ ?_)
        all_goals (refine ⟨_, _, Wk.of_eq ?_, ?_, rfl, rfl⟩)
        all_goals first | rfl | exact HT.out
  · have h0i : (rightE x = 0) = False := eq_false h0
    generalize rightE x = e at *
    simp only [srcV] at w1 w3 ⊢
    clear h0
    refine G_enter Try.func3 rfl Try.ntmps3 rfl fun Q hQ hQe => ?_
    (repeat' (first | refine Ctl ?_ | ((with_reducible refine Kof.use hK ?_); clear hK hE K E) | ((with_reducible refine Eof.use hE ?_); (try clear hK hE K E)) | ((with_reducible refine Kof.use hKh ?_); clear hKh Kh) | ((with_reducible refine Kof.use hKb (P_next ?_)); clear hKb Kb) | (with_reducible first | refine G_plan 16 [] [0, 1, 2, 3, 4, 5, 6, 7, 8, 9, 10, 11, 12, 13, 14, 15, 16, 17, 18, 19, 20, 21, 22, 23, 24, 25, 26, 27] hQe fun K E hK hE => ?_ | refine G_plan 22 [] [0, 1, 2, 3, 4, 5, 6, 7, 8] hQe fun K E hK hE => ?_ | refine G_plan 27 [([0, 1, 2, 3, 4, 5, 6, 7, 8, 9, 10, 11, 12, 13, 14, 15], 16, [[0, 1, 2, 3, 4, 5, 6, 7, 8, 9, 10, 11, 12, 13, 14, 15]])] [] hQe fun K E hK hE => ?_ | refine G_plan 28 [([0, 1, 2, 3, 4, 5, 6, 7, 8, 9, 10], 11, [[]])] [12, 13, 14, 15, 16] hQe fun K E hK hE => ?_) | ((with_reducible refine W_cond (fun h => ?_) (fun h => ?_)) <;> (try (exfalso; first | assumption | omega))) | ((first | (with_reducible first | refine G_region fun K E hK hE => ?_ | refine call_ret can9 (w2 _) ?_ | refine call_ret can8 (w3 _) ?_ | refine W_if ?_ | refine W_ifS ?_ | refine P_heads fun Kh hKh => ?_ | refine P_fin fun Kh hKh => ?_ | refine P_each fun Kb hKb => ?_ | refine W_and ?_) | ((with_reducible refine call_ex can7 (w1 _) (fun a h => ?_))) | ((with_reducible refine call_ex can7 (Few_S _ (by assumption) _) (fun a h => ?_))) | ((with_reducible refine W_fresh (fun b hb => ?_)); (repeat (obtain ⟨_, hb⟩ := hb))) | ((with_reducible refine W_gd (fun h => ?_) (fun h => ?_)) <;> (try (exfalso; first | assumption | omega)))) <;> (try simp (disch := first | assumption | omega) only [go_sem, seval, h0i, *]))))
    all_goals (first | refine W_ret res3 hQ ?_ | refine W_norm res3 hQ ?_ | refine G_pan hQ ?_)
    all_goals (refine ⟨_, _, Wk.of_eq ?_, ?_, rfl, rfl⟩)
    all_goals first | rfl | (exact z_fg)
end Go.Proofs.Ytejlknplmfmceaa
