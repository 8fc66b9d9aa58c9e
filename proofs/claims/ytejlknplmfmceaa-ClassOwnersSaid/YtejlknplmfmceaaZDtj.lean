/- What is proved: The law ClassTurns, walked. Conditions: lists and texts of at most 2^47 parts; The law ClassOwners, walked. Conditions: lists and texts of at most 2^47 parts. Conditions: those that stand in the statements. -/
import Derived.Test.YtejlknplmfmceaaZCz
import Derived.Test.YtejlknplmfmceaaZMf
import Derived.Test.YtejlknplmfmceaaZBit
import Derived.Test.YtejlknplmfmceaaZCbj
set_option linter.unusedSimpArgs false
set_option linter.unusedVariables false
set_option maxRecDepth 100000
namespace Go.Proofs.Ytejlknplmfmceaa
open Go.RowKit

attribute [local go_sem] disown_fl owned_fl own_fl
end Go.Proofs.Ytejlknplmfmceaa
set_option maxRecDepth 100000
namespace Go.Proofs.Ytejlknplmfmceaa
open Go.RowKit

theorem pairs_len (x : List Cls) : (pairsM x).length = mcount x := by
  unfold pairsM mcount
  rw [List.length_flatten, List.map_map]
  congr 1
  apply List.map_congr_left
  intro c _
  simp
theorem pairs_sz : ∀ (ps : List (Cls × Mth)) (q : Nms), (∀ p, p ∈ ps → p.2.pars.length ≤ 8 ∧ LOk argOk p.2.body ∧ (preL p.2.body).length ≤ 1024) → szA (ps.foldl pairQ q) ≤ szA q + ps.length * 420000000
  | [], q, _ => by simp
  | p :: ps, q, h => by
    have h1 := pairs_sz ps (pairQ q p) (fun y hy => h y (by simp [hy]))
    obtain ⟨a1, a2, a3⟩ := h p (by simp)
    have h2 : szA (pairQ q p) ≤ szA q + 420000000 := mthN_sz p.1 q p.2 a1 a2 a3
    simp only [List.foldl_cons, List.length_cons]
    rw [Nat.add_mul]
    omega
theorem names_sz {x : List Cls} (h : checkB x = true) : szA (namesN x) ≤ 430080000000 := by
  have hb := Bnd.of h
  have h1 := pairs_sz (pairsM x) nms0 (fun p hp => by
    obtain ⟨h1, h2⟩ := pairs_mem hp
    exact ⟨hb.pars _ h1 _ h2, hb.body _ h1 _ h2, body_len h _ h1 _ h2⟩)
  have h2 := mcount_le x hb.mths
  have h3 := hb.cls
  have h4 : mcount x ≤ 1024 := by omega
  rw [pairs_len] at h1
  rw [names_pairs]
  have h5 : mcount x * 420000000 ≤ 1024 * 420000000 := Nat.mul_le_mul_right _ h4
  have h6 : szA nms0 = 0 := rfl
  rw [h6, Nat.zero_add] at h1
  exact Nat.le_trans h1 h5
theorem mths_le {x : List Cls} (hx : SrcOk x) : ∀ t, t ∈ (namesN x).mths → t.length ≤ 281474976710700 := by
  intro t ht
  rw [names_pairs, pairs_mths] at ht
  simp only [nms0, List.nil_append, List.mem_map] at ht
  obtain ⟨p, hp, rfl⟩ := ht
  obtain ⟨h1, h2⟩ := pairs_mem hp
  have h3 := hx.2 _ h1
  have h4 := (h3.2.2.2 _ h2).1
  have h5 := h3.1
  unfold mthT
  simp only [List.length_append, List.length_cons, List.length_nil]
  omega
theorem natsL_at {l : List Nat} {i k : Nat} (h : l[i]? = some k) : (natsL l)[i]? = some [.int .i64 (k : Int)] := by simp [natsL, h]
set_option maxHeartbeats 8000000 in
theorem ClassOwners_S (x : List Cls) (hx : SrcOk x) (t : St) : SRet Try.prog 5 [srcV x] t (.bool true) t := by
  have w1 := fun s => Few_S x hx s
  have w2 := awake16_S
  have w3 := fun s => CCheck_S x hx s
  by_cases h0 : rightE x = 0
  · have hR := right_of h0
    have hO := own_names hR
    have hM := main_names hR
    have hS := names_sz hR.chk
    have hL := mths_le hx
    have w4 := fun s => CNames_S x hx s
    have hnr : namesR x = namesN x := by unfold namesR; rw [if_pos h0]
    rw [hnr, h0] at w4
    rw [h0] at w3
    generalize namesN x = N at w4 hO hM hS hL
    obtain ⟨qm, qv, qs, qc, qo, qh, qmain, qf, qx⟩ := N
    have HO := Lib.hid hO
    have HL := Lib.hid hL
    simp only [szA] at hS
    simp only at hM
    have hlv := hO.lv
    have hlh := hO.lh
    simp only at hlv hlh
    have a1 := strsl_len qm
    have a2 := strsl_len qv
    have a3 := strsl_len qc
    have a4 := natsL_len qo
    have a5 := natsL_len qh
    rw [hlv] at a4
    rw [hlh] at a5
    have hmx := strs_at hM
    have hml := (List.getElem?_eq_some_iff.1 hM).1
    unfold mmT at hmx
    have hvi : ((qv.length : Int) = (qv.length : Int)) = True := eq_true rfl
    have hci : ((qc.length : Int) = (qc.length : Int)) = True := eq_true rfl
    simp only [fctN] at w4
    simp only [srcV] at w1 w3 w4 ⊢
    clear hO hL hM hR hnr h0 hx hlv hlh
    refine G_enter Try.func5 rfl Try.ntmps5 rfl fun Q hQ hQe => ?_
    (repeat' (first | refine Ctl ?_ | ((with_reducible refine Kof.use hK ?_); clear hK hE K E) | ((with_reducible refine Eof.use hE ?_); (try clear hK hE K E)) | ((with_reducible refine Kof.use hKh ?_); clear hKh Kh) | ((with_reducible refine Kof.use hKb (P_next ?_)); clear hKb Kb) | (with_reducible first | refine G_plan 10 [] [0, 1, 2, 3, 4, 5, 6, 7, 8, 9, 10, 11, 12, 13, 14, 15, 16, 17, 18, 19, 20, 21, 22, 23, 24, 25, 26, 27, 28, 29, 30, 31, 32, 33, 34, 35, 36] hQe fun K E hK hE => ?_ | refine G_plan 13 [] [0, 1, 2, 3, 4, 5, 6, 7, 8, 9, 10, 11, 12, 13, 14, 15, 16, 17, 18, 19, 20, 21, 22, 23] hQe fun K E hK hE => ?_ | refine G_plan 19 [] [0, 1, 2, 3, 4, 5, 6, 7, 8, 9, 10, 11, 12, 13, 14, 15, 16, 17, 18, 19, 20, 21, 22, 23, 24, 25, 26, 27, 28, 29, 30, 31, 32, 33, 34, 35] hQe fun K E hK hE => ?_) | ((with_reducible refine W_cond (fun h => ?_) (fun h => ?_)) <;> (try (exfalso; first | assumption | omega))) | ((first | (with_reducible first | refine G_region fun K E hK hE => ?_ | refine call_ret can9 (w2 _) ?_ | refine call_ret can8 (w3 _) ?_ | refine call_ret can10 (w4 _) ?_ | refine W_if ?_ | refine W_ifS ?_ | refine P_heads fun Kh hKh => ?_ | refine P_fin fun Kh hKh => ?_ | refine P_each fun Kb hKb => ?_ | refine W_and ?_) | ((with_reducible refine call_ex can7 (w1 _) (fun a h => ?_))) | ((with_reducible refine call_ex can7 (Few_S _ (by assumption) _) (fun a h => ?_))) | ((with_reducible refine W_fresh (fun b hb => ?_)); (repeat (obtain ⟨_, hb⟩ := hb))) | ((with_reducible refine W_gd (fun h => ?_) (fun h => ?_)) <;> (try (exfalso; first | assumption | omega)))) <;> (try simp (disch := first | assumption | omega) only [go_sem, seval, a1, a2, a3, a4, a5, hmx, *]))))
    · all_goals (first | refine W_ret res5 hQ ?_ | refine W_norm res5 hQ ?_ | refine G_pan hQ ?_)
      all_goals (refine ⟨_, _, Wk.of_eq ?_, ?_, rfl, rfl⟩)
      all_goals first | rfl | (exact z_fg)
    · rename_i b1 hb1 _ _ _ n1 n2 _ _
      obtain ⟨b3, hb3⟩ : ∃ z, z = b := ⟨_, rfl⟩
      subst hb3
      have hFg : Fg ((t.set b1 (.obj 24 [.lst (x.map clsC) .no])).set b3 (.obj 33 (fctN ⟨qm, qv, qs, qc, qo, qh, qmain, qf, qx⟩))) t := z_fg
      have hT3 : ((t.set b1 (.obj 24 [.lst (x.map clsC) .no])).set b3 (.obj 33 (fctN ⟨qm, qv, qs, qc, qo, qh, qmain, qf, qx⟩))) b3 = .obj 33 (fctN ⟨qm, qv, qs, qc, qo, qh, qmain, qf, qx⟩) := St.set_same _ _ _
      simp only [fctN] at hFg hT3
      generalize ((t.set b1 (.obj 24 [.lst (x.map clsC) .no])).set b3 (.obj 33 _)) = T at *
      have HT := Lib.hid hFg
      clear hFg hb hb1
      refine G_loop (fun m env s' => ∃ (i : Nat), i ≤ qv.length ∧ m + i = qv.length ∧ s' = T ∧ env 3 = .ptr b3 0 ∧ env 5 = .int .i64 i) qv.length ?_ ?_
      · exact ⟨_, Fg.refl _, 0, by omega, by omega, rfl, z_sl, z_sl⟩
      rintro m env s' ⟨i, hi, hm, hs, e3, e5⟩
      rw [hs]
      clear hs
      by_cases hlt : i < qv.length
      · obtain ⟨v, hv⟩ := uget hlt
        obtain ⟨k, hk⟩ := uget (l := qo) (i := i) (by have := HO.out.lv; simp only at this; omega)
        obtain ⟨T0, w, hT0, hvw, hw⟩ := HO.out.ov i k v hk hv
        simp only at hT0
        have hkl := (List.getElem?_eq_some_iff.1 hT0).1
        have hTl := HL.out T0 (List.mem_of_getElem? hT0)
        have hsv := strs_at hv
        have hsk := natsL_at hk
        have hsT := strs_at hT0
        have hwl : 0 < w.length := by cases w with | nil => exact absurd rfl hw | cons _ _ => simp
        have hvl : v.length = T0.length + 1 + w.length := by subst hvw; simp; omega
        have htk : v.take (T0.length + 1) = T0 ++ [46] := by
          subst hvw
          rw [show T0 ++ 46 :: w = (T0 ++ [46]) ++ w by simp, show T0.length + 1 = (T0 ++ [46]).length by simp]
          exact List.take_left
        have hpv : i = 0 ∨ ∃ (a : Nat) (u : List UInt8), 0 < i ∧ (natsL qo)[i - 1]? = some [.int .i64 (a : Int)] ∧ (strs qv)[i - 1]? = some [.str u] ∧ a ≤ k ∧ u ≠ v := by
          by_cases h0 : i = 0
          · exact .inl h0
          · obtain ⟨u, hu⟩ := uget (l := qv) (i := i - 1) (by omega)
            obtain ⟨a, ha⟩ := uget (l := qo) (i := i - 1) (by have := HO.out.lv; simp only at this; omega)
            have e : i - 1 + 1 = i := by omega
            exact .inr ⟨a, u, by omega, natsL_at ha, strs_at hu, HO.out.os (i - 1) a k ha (by rw [e]; exact hk), HO.out.nv (i - 1) u v hu (by rw [e]; exact hv)⟩
        clear hv hk hT0 hvw hw
        rcases hpv with rfl | ⟨a, u, hi0, hsa, hsu, hak, huv⟩
        · (repeat' (first | refine Ctl ?_ | ((with_reducible refine Kof.use hK ?_); clear hK hE K E) | ((with_reducible refine Eof.use hE ?_); (try clear hK hE K E)) | ((with_reducible refine Kof.use hKh ?_); clear hKh Kh) | ((with_reducible refine Kof.use hKb (P_next ?_)); clear hKb Kb) | (with_reducible first | refine G_plan 10 [] [0, 1, 2, 3, 4, 5, 6, 7, 8, 9, 10, 11, 12, 13, 14, 15, 16, 17, 18, 19, 20, 21, 22, 23, 24, 25, 26, 27, 28, 29, 30, 31, 32, 33, 34, 35, 36] hQe fun K E hK hE => ?_ | refine G_plan 13 [] [0, 1, 2, 3, 4, 5, 6, 7, 8, 9, 10, 11, 12, 13, 14, 15, 16, 17, 18, 19, 20, 21, 22, 23] hQe fun K E hK hE => ?_ | refine G_plan 19 [] [0, 1, 2, 3, 4, 5, 6, 7, 8, 9, 10, 11, 12, 13, 14, 15, 16, 17, 18, 19, 20, 21, 22, 23, 24, 25, 26, 27, 28, 29, 30, 31, 32, 33, 34, 35] hQe fun K E hK hE => ?_) | ((with_reducible refine W_cond (fun h => ?_) (fun h => ?_)) <;> (try (exfalso; first | assumption | omega))) | ((first | (with_reducible first | refine G_region fun K E hK hE => ?_ | refine W_if ?_ | refine W_ifS ?_ | refine P_heads fun Kh hKh => ?_ | refine P_fin fun Kh hKh => ?_ | refine P_each fun Kb hKb => ?_ | refine W_and ?_) | ((with_reducible refine call_ex can7 (Few_S _ (by assumption) _) (fun a h => ?_))) | ((with_reducible refine W_fresh (fun b hb => ?_)); (repeat (obtain ⟨_, hb⟩ := hb))) | ((with_reducible refine W_gd (fun h => ?_) (fun h => ?_)) <;> (try (exfalso; first | assumption | omega)))) <;> (try simp (disch := first | assumption | omega) only [go_sem, seval, a1, a2, a3, a4, a5, hsv, hsk, hsT, htk, *]))))
          exact ⟨_, Fg.refl _, m - 1, by omega, 1, by omega, by omega, rfl, z_sl, z_sl⟩
        · have huvf : (u = v) = False := eq_false huv
          have hi1 : ((i : Int) - 1) = ((i - 1 : Nat) : Int) := by omega
          (repeat' (first | refine Ctl ?_ | ((with_reducible refine Kof.use hK ?_); clear hK hE K E) | ((with_reducible refine Eof.use hE ?_); (try clear hK hE K E)) | ((with_reducible refine Kof.use hKh ?_); clear hKh Kh) | ((with_reducible refine Kof.use hKb (P_next ?_)); clear hKb Kb) | (with_reducible first | refine G_plan 10 [] [0, 1, 2, 3, 4, 5, 6, 7, 8, 9, 10, 11, 12, 13, 14, 15, 16, 17, 18, 19, 20, 21, 22, 23, 24, 25, 26, 27, 28, 29, 30, 31, 32, 33, 34, 35, 36] hQe fun K E hK hE => ?_ | refine G_plan 13 [] [0, 1, 2, 3, 4, 5, 6, 7, 8, 9, 10, 11, 12, 13, 14, 15, 16, 17, 18, 19, 20, 21, 22, 23] hQe fun K E hK hE => ?_ | refine G_plan 19 [] [0, 1, 2, 3, 4, 5, 6, 7, 8, 9, 10, 11, 12, 13, 14, 15, 16, 17, 18, 19, 20, 21, 22, 23, 24, 25, 26, 27, 28, 29, 30, 31, 32, 33, 34, 35] hQe fun K E hK hE => ?_) | ((with_reducible refine W_cond (fun h => ?_) (fun h => ?_)) <;> (try (exfalso; first | assumption | omega))) | ((first | (with_reducible first | refine G_region fun K E hK hE => ?_ | refine W_if ?_ | refine W_ifS ?_ | refine P_heads fun Kh hKh => ?_ | refine P_fin fun Kh hKh => ?_ | refine P_each fun Kb hKb => ?_ | refine W_and ?_) | ((with_reducible refine call_ex can7 (Few_S _ (by assumption) _) (fun a h => ?_))) | ((with_reducible refine W_fresh (fun b hb => ?_)); (repeat (obtain ⟨_, hb⟩ := hb))) | ((with_reducible refine W_gd (fun h => ?_) (fun h => ?_)) <;> (try (exfalso; first | assumption | omega)))) <;> (try simp (disch := first | assumption | omega) only [go_sem, seval, a1, a2, a3, a4, a5, hsv, hsk, hsT, htk, hsa, hsu, hi1, *]))))
          exact ⟨_, Fg.refl _, m - 1, by omega, i + 1, by omega, by omega, rfl, z_sl, z_sl⟩
      · (repeat' (first | refine Ctl ?_ | ((with_reducible refine Kof.use hK ?_); clear hK hE K E) | ((with_reducible refine Eof.use hE ?_); (try clear hK hE K E)) | ((with_reducible refine Kof.use hKh ?_); clear hKh Kh) | ((with_reducible refine Kof.use hKb (P_next ?_)); clear hKb Kb) | (with_reducible first | refine G_plan 10 [] [0, 1, 2, 3, 4, 5, 6, 7, 8, 9, 10, 11, 12, 13, 14, 15, 16, 17, 18, 19, 20, 21, 22, 23, 24, 25, 26, 27, 28, 29, 30, 31, 32, 33, 34, 35, 36] hQe fun K E hK hE => ?_ | refine G_plan 13 [] [0, 1, 2, 3, 4, 5, 6, 7, 8, 9, 10, 11, 12, 13, 14, 15, 16, 17, 18, 19, 20, 21, 22, 23] hQe fun K E hK hE => ?_ | refine G_plan 19 [] [0, 1, 2, 3, 4, 5, 6, 7, 8, 9, 10, 11, 12, 13, 14, 15, 16, 17, 18, 19, 20, 21, 22, 23, 24, 25, 26, 27, 28, 29, 30, 31, 32, 33, 34, 35] hQe fun K E hK hE => ?_) | ((with_reducible refine W_cond (fun h => ?_) (fun h => ?_)) <;> (try (exfalso; first | assumption | omega))) | ((first | (with_reducible first | refine G_region fun K E hK hE => ?_ | refine W_if ?_ | refine W_ifS ?_ | refine P_heads fun Kh hKh => ?_ | refine P_fin fun Kh hKh => ?_ | refine P_each fun Kb hKb => ?_ | refine W_and ?_) | ((with_reducible refine call_ex can7 (Few_S _ (by assumption) _) (fun a h => ?_))) | ((with_reducible refine W_fresh (fun b hb => ?_)); (repeat (obtain ⟨_, hb⟩ := hb))) | ((with_reducible refine W_gd (fun h => ?_) (fun h => ?_)) <;> (try (exfalso; first | assumption | omega)))) <;> (try simp (disch := first | assumption | omega) only [go_sem, seval, a1, a2, a3, a4, a5, *]))))
        clear hm hi hlt e5
        refine G_loop (fun m env s' => ∃ (i : Nat), i ≤ qc.length ∧ m + i = qc.length ∧ s' = T ∧ env 3 = .ptr b3 0 ∧ env 8 = .int .i64 i) qc.length ?_ ?_
        · exact ⟨_, Fg.refl _, 0, by omega, by omega, rfl, z_sl, z_sl⟩
        rintro m env s' ⟨i, hi, hm, hs, e3, e8⟩
        rw [hs]
        clear hs
        by_cases hlt : i < qc.length
        · obtain ⟨v, hv⟩ := uget hlt
          obtain ⟨k, hk⟩ := uget (l := qh) (i := i) (by have := HO.out.lh; simp only at this; omega)
          have hT0 := HO.out.oc i k v hk hv
          simp only at hT0
          have hkl := (List.getElem?_eq_some_iff.1 hT0).1
          have hsv := strs_at hv
          have hsk := natsL_at hk
          have hsT := strs_at hT0
          have hpv : i = 0 ∨ ∃ (a : Nat), 0 < i ∧ (natsL qh)[i - 1]? = some [.int .i64 (a : Int)] ∧ a ≤ k := by
            by_cases h0 : i = 0
            · exact .inl h0
            · obtain ⟨a, ha⟩ := uget (l := qh) (i := i - 1) (by have := HO.out.lh; simp only at this; omega)
              have e : i - 1 + 1 = i := by omega
              exact .inr ⟨a, by omega, natsL_at ha, HO.out.hs (i - 1) a k ha (by rw [e]; exact hk)⟩
          have hvv : (v = v) = True := eq_true rfl
          clear hv hk hT0
          rcases hpv with rfl | ⟨a, hi0, hsa, hak⟩
          · (repeat' (first | refine Ctl ?_ | ((with_reducible refine Kof.use hK ?_); clear hK hE K E) | ((with_reducible refine Eof.use hE ?_); (try clear hK hE K E)) | ((with_reducible refine Kof.use hKh ?_); clear hKh Kh) | ((with_reducible refine Kof.use hKb (P_next ?_)); clear hKb Kb) | (with_reducible first | refine G_plan 10 [] [0, 1, 2, 3, 4, 5, 6, 7, 8, 9, 10, 11, 12, 13, 14, 15, 16, 17, 18, 19, 20, 21, 22, 23, 24, 25, 26, 27, 28, 29, 30, 31, 32, 33, 34, 35, 36] hQe fun K E hK hE => ?_ | refine G_plan 13 [] [0, 1, 2, 3, 4, 5, 6, 7, 8, 9, 10, 11, 12, 13, 14, 15, 16, 17, 18, 19, 20, 21, 22, 23] hQe fun K E hK hE => ?_ | refine G_plan 19 [] [0, 1, 2, 3, 4, 5, 6, 7, 8, 9, 10, 11, 12, 13, 14, 15, 16, 17, 18, 19, 20, 21, 22, 23, 24, 25, 26, 27, 28, 29, 30, 31, 32, 33, 34, 35] hQe fun K E hK hE => ?_) | ((with_reducible refine W_cond (fun h => ?_) (fun h => ?_)) <;> (try (exfalso; first | assumption | omega))) | ((first | (with_reducible first | refine G_region fun K E hK hE => ?_ | refine W_if ?_ | refine W_ifS ?_ | refine P_heads fun Kh hKh => ?_ | refine P_fin fun Kh hKh => ?_ | refine P_each fun Kb hKb => ?_ | refine W_and ?_) | ((with_reducible refine call_ex can7 (Few_S _ (by assumption) _) (fun a h => ?_))) | ((with_reducible refine W_fresh (fun b hb => ?_)); (repeat (obtain ⟨_, hb⟩ := hb))) | ((with_reducible refine W_gd (fun h => ?_) (fun h => ?_)) <;> (try (exfalso; first | assumption | omega)))) <;> (try simp (disch := first | assumption | omega) only [go_sem, seval, a1, a2, a3, a4, a5, hsv, hsk, hsT, *]))))
            exact ⟨_, Fg.refl _, m - 1, by omega, 1, by omega, by omega, rfl, z_sl, z_sl⟩
          · have hi1 : ((i : Int) - 1) = ((i - 1 : Nat) : Int) := by omega
            (repeat' (first | refine Ctl ?_ | ((with_reducible refine Kof.use hK ?_); clear hK hE K E) | ((with_reducible refine Eof.use hE ?_); (try clear hK hE K E)) | ((with_reducible refine Kof.use hKh ?_); clear hKh Kh) | ((with_reducible refine Kof.use hKb (P_next ?_)); clear hKb Kb) | (with_reducible first | refine G_plan 10 [] [0, 1, 2, 3, 4, 5, 6, 7, 8, 9, 10, 11, 12, 13, 14, 15, 16, 17, 18, 19, 20, 21, 22, 23, 24, 25, 26, 27, 28, 29, 30, 31, 32, 33, 34, 35, 36] hQe fun K E hK hE => ?_ | refine G_plan 13 [] [0, 1, 2, 3, 4, 5, 6, 7, 8, 9, 10, 11, 12, 13, 14, 15, 16, 17, 18, 19, 20, 21, 22, 23] hQe fun K E hK hE => ?_ | refine G_plan 19 [] [0, 1, 2, 3, 4, 5, 6, 7, 8, 9, 10, 11, 12, 13, 14, 15, 16, 17, 18, 19, 20, 21, 22, 23, 24, 25, 26, 27, 28, 29, 30, 31, 32, 33, 34, 35] hQe fun K E hK hE => ?_) | ((with_reducible refine W_cond (fun h => ?_) (fun h => ?_)) <;> (try (exfalso; first | assumption | omega))) | ((first | (with_reducible first | refine G_region fun K E hK hE => ?_ | refine W_if ?_ | refine W_ifS ?_ | refine P_heads fun Kh hKh => ?_ | refine P_fin fun Kh hKh => ?_ | refine P_each fun Kb hKb => ?_ | refine W_and ?_) | ((with_reducible refine call_ex can7 (Few_S _ (by assumption) _) (fun a h => ?_))) | ((with_reducible refine W_fresh (fun b hb => ?_)); (repeat (obtain ⟨_, hb⟩ := hb))) | ((with_reducible refine W_gd (fun h => ?_) (fun h => ?_)) <;> (try (exfalso; first | assumption | omega)))) <;> (try simp (disch := first | assumption | omega) only [go_sem, seval, a1, a2, a3, a4, a5, hsv, hsk, hsT, hsa, hi1, *]))))
            exact ⟨_, Fg.refl _, m - 1, by omega, i + 1, by omega, by omega, rfl, z_sl, z_sl⟩
        · (repeat' (first | refine Ctl ?_ | ((with_reducible refine Kof.use hK ?_); clear hK hE K E) | ((with_reducible refine Eof.use hE ?_); (try clear hK hE K E)) | ((with_reducible refine Kof.use hKh ?_); clear hKh Kh) | ((with_reducible refine Kof.use hKb (P_next ?_)); clear hKb Kb) | (with_reducible first | refine G_plan 10 [] [0, 1, 2, 3, 4, 5, 6, 7, 8, 9, 10, 11, 12, 13, 14, 15, 16, 17, 18, 19, 20, 21, 22, 23, 24, 25, 26, 27, 28, 29, 30, 31, 32, 33, 34, 35, 36] hQe fun K E hK hE => ?_ | refine G_plan 13 [] [0, 1, 2, 3, 4, 5, 6, 7, 8, 9, 10, 11, 12, 13, 14, 15, 16, 17, 18, 19, 20, 21, 22, 23] hQe fun K E hK hE => ?_ | refine G_plan 19 [] [0, 1, 2, 3, 4, 5, 6, 7, 8, 9, 10, 11, 12, 13, 14, 15, 16, 17, 18, 19, 20, 21, 22, 23, 24, 25, 26, 27, 28, 29, 30, 31, 32, 33, 34, 35] hQe fun K E hK hE => ?_) | ((with_reducible refine W_cond (fun h => ?_) (fun h => ?_)) <;> (try (exfalso; first | assumption | omega))) | ((first | (with_reducible first | refine G_region fun K E hK hE => ?_ | refine call_ret can9 (w2 _) ?_ | refine W_if ?_ | refine W_ifS ?_ | refine P_heads fun Kh hKh => ?_ | refine P_fin fun Kh hKh => ?_ | refine P_each fun Kb hKb => ?_ | refine W_and ?_) | ((with_reducible refine call_ex can7 (Few_S _ (by assumption) _) (fun a h => ?_))) | ((with_reducible refine W_fresh (fun b hb => ?_)); (repeat (obtain ⟨_, hb⟩ := hb))) | ((with_reducible refine W_gd (fun h => ?_) (fun h => ?_)) <;> (try (exfalso; first | assumption | omega)))) <;> (try simp (disch := first | assumption | omega) only [go_sem, seval, a1, a2, a3, a4, a5, *]))))
          all_goals (first | refine W_ret res5 hQ ?_ | refine W_norm res5 hQ ?_ | refine G_pan hQ ?_)
          all_goals (refine ⟨_, _, Wk.of_eq ?_, ?_, rfl, rfl⟩)
          all_goals first | rfl | exact HT.out
  · have h0i : (rightE x = 0) = False := eq_false h0
    generalize rightE x = e at *
    simp only [srcV] at w1 w3 ⊢
    clear h0
    refine G_enter Try.func5 rfl Try.ntmps5 rfl fun Q hQ hQe => ?_
    (repeat' (first | refine Ctl ?_ | ((with_reducible refine Kof.use hK ?_); clear hK hE K E) | ((with_reducible refine Eof.use hE ?_); (try clear hK hE K E)) | ((with_reducible refine Kof.use hKh ?_); clear hKh Kh) | ((with_reducible refine Kof.use hKb (P_next ?_)); clear hKb Kb) | (with_reducible first | refine G_plan 10 [] [0, 1, 2, 3, 4, 5, 6, 7, 8, 9, 10, 11, 12, 13, 14, 15, 16, 17, 18, 19, 20, 21, 22, 23, 24, 25, 26, 27, 28, 29, 30, 31, 32, 33, 34, 35, 36] hQe fun K E hK hE => ?_ | refine G_plan 13 [] [0, 1, 2, 3, 4, 5, 6, 7, 8, 9, 10, 11, 12, 13, 14, 15, 16, 17, 18, 19, 20, 21, 22, 23] hQe fun K E hK hE => ?_ | refine G_plan 19 [] [0, 1, 2, 3, 4, 5, 6, 7, 8, 9, 10, 11, 12, 13, 14, 15, 16, 17, 18, 19, 20, 21, 22, 23, 24, 25, 26, 27, 28, 29, 30, 31, 32, 33, 34, 35] hQe fun K E hK hE => ?_) | ((with_reducible refine W_cond (fun h => ?_) (fun h => ?_)) <;> (try (exfalso; first | assumption | omega))) | ((first | (with_reducible first | refine G_region fun K E hK hE => ?_ | refine call_ret can9 (w2 _) ?_ | refine call_ret can8 (w3 _) ?_ | refine W_if ?_ | refine W_ifS ?_ | refine P_heads fun Kh hKh => ?_ | refine P_fin fun Kh hKh => ?_ | refine P_each fun Kb hKb => ?_ | refine W_and ?_) | ((with_reducible refine call_ex can7 (w1 _) (fun a h => ?_))) | ((with_reducible refine call_ex can7 (Few_S _ (by assumption) _) (fun a h => ?_))) | ((with_reducible refine W_fresh (fun b hb => ?_)); (repeat (obtain ⟨_, hb⟩ := hb))) | ((with_reducible refine W_gd (fun h => ?_) (fun h => ?_)) <;> (try (exfalso; first | assumption | omega)))) <;> (try simp (disch := first | assumption | omega) only [go_sem, seval, h0i, *]))))
    all_goals (first | refine W_ret res5 hQ ?_ | refine W_norm res5 hQ ?_ | refine G_pan hQ ?_)
    all_goals (refine ⟨_, _, Wk.of_eq ?_, ?_, rfl, rfl⟩)
    all_goals first | rfl | (exact z_fg)
end Go.Proofs.Ytejlknplmfmceaa
