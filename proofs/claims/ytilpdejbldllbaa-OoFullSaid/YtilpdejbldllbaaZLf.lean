/- What is proved: The law OoFull, walked. Conditions: those that stand in the statements. -/
import Derived.Test.YtilpdejbldllbaaZTmj
import Derived.Test.YtilpdejbldllbaaZBit
import Derived.Test.YtilpdejbldllbaaZAw
set_option linter.unusedSimpArgs false
set_option linter.unusedVariables false
set_option maxRecDepth 100000
namespace Go.Proofs.Ytilpdejbldllbaa
open Go.RowKit

def litH : List (List VV) := [[.str []], [.str [99, 108, 97, 115, 115, 32, 65, 32, 123, 32]], [.str [99, 108, 97, 115, 115, 32, 65, 32, 123, 32, 109, 40]], [.str [99, 108, 97, 115, 115, 32, 65, 32, 123, 32, 109, 40, 41, 32, 123, 32, 65, 58, 58, 109, 40]], [.str [99, 108, 97, 115, 115, 32, 65, 32, 123, 32, 109, 40, 41, 32, 123, 32]], [.str [99, 108, 97, 115, 115, 32, 65, 32, 123, 32, 109, 40, 41, 32]]]
def litO : List (List VV) := [[.str [99, 108, 97, 115, 115, 32, 65, 32, 123, 32, 125, 32]], [.str [109, 40, 41, 32, 123, 32, 125, 32]], [.str [120, 44]], [.str [120, 44]], [.str [108, 111, 111, 112, 123, 125, 32]], [.str [123, 32, 108, 111, 111, 112, 32]]]
def litL : List (List VV) := [[.str [99, 108, 97, 115, 115, 32, 65, 32, 123, 32, 125, 32]], [.str [109, 40, 41, 32, 123, 32, 125, 32, 125]], [.str [120, 41, 32, 123, 32, 125, 32, 125]], [.str [120, 41, 59, 32, 125, 32, 125]], [.str [108, 111, 111, 112, 123, 125, 32, 125, 32, 125]], [.str [123, 32]]]
def litM : List (List VV) := [[.int .i64 32], [.int .i64 32], [.int .i64 8], [.int .i64 8], [.int .i64 1024], [.int .i64 8]]
theorem lit_at (w : Nat) (hw : w < 6) : litH[w]? = some [.str (fullH w)] ∧ litO[w]? = some [.str (fullO w)] ∧ litL[w]? = some [.str (fullL w)] ∧ litM[w]? = some [.int .i64 (fullM w : Int)] := by
  match w, hw with
  | 0, _ => exact ⟨rfl, rfl, rfl, rfl⟩
  | 1, _ => exact ⟨rfl, rfl, rfl, rfl⟩
  | 2, _ => exact ⟨rfl, rfl, rfl, rfl⟩
  | 3, _ => exact ⟨rfl, rfl, rfl, rfl⟩
  | 4, _ => exact ⟨rfl, rfl, rfl, rfl⟩
  | 5, _ => exact ⟨rfl, rfl, rfl, rfl⟩
  | w + 6, h => omega
theorem fullM_le (w : Nat) : fullM w ≤ 1024 ∧ 8 ≤ fullM w := by unfold fullM; split <;> omega
theorem fullO_le (w : Nat) : (fullO w).length ≤ 12 := by unfold fullO; split <;> simp
theorem fullL_le (w : Nat) : (fullL w).length ≤ 12 := by unfold fullL; split <;> simp
theorem fullH_le (w : Nat) : (fullH w).length ≤ 21 := by unfold fullH; split <;> simp
set_option maxHeartbeats 4000000 in
theorem OoFull_S (a b : Int) (s : St) : SRet Try.prog 8 [.int .i64 a, .int .i64 b] s (.bool true) s := by
  obtain ⟨k, hk⟩ : ∃ k : Nat, (k : Int) = b % 2 := ⟨(b % 2).toNat, by omega⟩
  obtain ⟨w, hw⟩ : ∃ w : Nat, (w : Int) = (a % 256).tmod 6 := ⟨((a % 256).tmod 6).toNat, by
    rw [Int.tmod_eq_emod_of_nonneg (by omega)]; omega⟩
  have hw6 : w < 6 := by rw [Int.tmod_eq_emod_of_nonneg (by omega)] at hw; omega
  have hk1 : k ≤ 1 := by omega
  have f1 : bAnd .i64 b 1 = (k : Int) := by
    have h := bAnd_low b 1 (by omega)
    simp only [show (2 : Int) ^ 1 = 2 by rfl, show (2 : Int) - 1 = 1 by rfl] at h
    rw [h, hk]
  have f2 : bAnd .i64 a 255 = a % 256 := by
    have h := bAnd_low a 8 (by omega)
    simpa only [show (2 : Int) ^ 8 = 256 by rfl, show (256 : Int) - 1 = 255 by rfl] using h
  have f3 : (a % 256).tmod 6 = (w : Int) := hw.symm
  obtain ⟨l1, l2, l3, l4⟩ := lit_at w hw6
  obtain ⟨m1, m2⟩ := fullM_le w
  unfold litH at l1
  unfold litO at l2
  unfold litL at l3
  unfold litM at l4
  have o1 := fullO_le w
  have o2 := fullL_le w
  have o3 := fullH_le w
  have p1 := fun s => Parse_S (fullT w k) (by have := fullT_len w k hk1; omega) s
  clear hk hw
  refine G_enter Try.func8 rfl Try.ntmps8 rfl fun Q hQ hQe => ?_
  (repeat' (first
    | with_reducible first | refine L_seq ?_ | refine L_blk ?_ | refine L_skip ?_ | refine L_endblk ?_ | refine L_ret ?_ | refine L_exit ?_ | refine X_code ?_ | refine X_back ?_ | refine X_blk ?_ | refine X_past (by decide) ?_ | refine L_back ?_
    | ((with_reducible refine Kof.use hK ?_); clear hK hE K E)
    | ((with_reducible refine Eof.use hE ?_); (try clear hK hE K E))
    | ((with_reducible refine W_cond (fun h => ?_) (fun h => ?_)) <;> (try (exfalso; first | assumption | omega)))
    | ((with_reducible first | refine G_region fun K E hK hE => ?_ | refine call_ret can10 (awake_S _) ?_ | refine W_if ?_ | refine W_ifS ?_ | refine W_and ?_) <;> (try simp (disch := first | assumption | omega) only [go_sem, seval, f1, f2, f3, *]))
    | ((with_reducible refine W_fresh (fun b hb => ?_)); (repeat (obtain ⟨_, hb⟩ := hb)); (try simp (disch := first | assumption | omega) only [go_sem, seval, f1, f2, f3, *]))
    | ((with_reducible refine W_app (fun o2 ho => ?_)); (try simp (disch := assumption) only [disown_set, disown_own, ownok_o, ownok_m, List.length_map, List.length_cons, List.length_nil, Nat.zero_add, f1, f2, f3] at ho); (repeat (obtain ⟨_, ho⟩ := ho)); (try simp (disch := first | assumption | omega) only [go_sem, seval, f1, f2, f3, *]))
    | ((with_reducible refine W_gd (fun h => ?_) (fun h => ?_)) <;> (try (exfalso; first | assumption | omega)) <;> (try simp (disch := first | assumption | omega) only [go_sem, seval, f1, f2, f3, *]))))
  refine L_loop (fun m env s' => ∃ (i : Nat) (t : List UInt8), i + 1 ≤ fullM w + k ∧ m + i + 1 = fullM w + k ∧ t = fullH w ++ repT (fullO w) i ∧ s' = s ∧ env 1 = .int .i64 b ∧ env 5 = .int .i64 k ∧ env 7 = .lst litO .full ∧ env 8 = .lst litL .full ∧ env 9 = .lst litM .full ∧ env 10 = .int .i64 w ∧ env 11 = .str t ∧ env 12 = .int .i64 ((i + 1 : Nat) : Int)) (fullM w + k - 1)
    ⟨0, _, by omega, by omega, by simp [repT]; rfl, rfl, by ((try simp (disch := first | assumption | omega) only [go_sem, seval, *]) <;> first | rfl | omega), by ((try simp (disch := first | assumption | omega) only [go_sem, seval, *]) <;> first | rfl | omega), by ((try simp (disch := first | assumption | omega) only [go_sem, seval, *]) <;> first | rfl | omega), by ((try simp (disch := first | assumption | omega) only [go_sem, seval, *]) <;> first | rfl | omega), by ((try simp (disch := first | assumption | omega) only [go_sem, seval, *]) <;> first | rfl | omega), by ((try simp (disch := first | assumption | omega) only [go_sem, seval, *]) <;> first | rfl | omega), by ((try simp (disch := first | assumption | omega) only [go_sem, seval, *]) <;> first | rfl | omega), by ((try simp (disch := first | assumption | omega) only [go_sem, seval, *]) <;> first | rfl | omega)⟩ ?_
  rintro m env s' ⟨i, t, hi, hm, ht, rfl, e1, e5, e7, e8, e9, e10, e11, e12⟩
  unfold litO at e7
  unfold litL at e8
  unfold litM at e9
  have HT := Lib.hid ht
  have htl : t.length ≤ 21 + 1024 * 12 := by
    rw [ht, List.length_append, repT_len]
    have : i * (fullO w).length ≤ 1024 * 12 := Nat.mul_le_mul (by omega) o1
    omega
  clear ht
  by_cases hlt : i + 1 < fullM w + k
  · have hN : t ++ fullO w = fullH w ++ repT (fullO w) (i + 1) := by
      rw [repT_succ, ← List.append_assoc, ← show t = _ from HT]
    have HN := Lib.hid hN
    clear hN
    (repeat' (first
      | with_reducible first | refine L_seq ?_ | refine L_blk ?_ | refine L_skip ?_ | refine L_endblk ?_ | refine L_ret ?_ | refine L_exit ?_ | refine X_code ?_ | refine X_back ?_ | refine X_blk ?_ | refine X_past (by decide) ?_ | refine L_back ?_
      | ((with_reducible refine Kof.use hK ?_); clear hK hE K E)
      | ((with_reducible refine Eof.use hE ?_); (try clear hK hE K E))
      | ((with_reducible refine W_cond (fun h => ?_) (fun h => ?_)) <;> (try (exfalso; first | assumption | omega)))
      | ((with_reducible first | refine G_region fun K E hK hE => ?_ | refine call_ret can10 (awake_S _) ?_ | refine W_if ?_ | refine W_ifS ?_ | refine W_and ?_) <;> (try simp (disch := first | assumption | omega) only [go_sem, seval, l1, l2, l3, l4, *]))
      | ((with_reducible refine W_fresh (fun b hb => ?_)); (repeat (obtain ⟨_, hb⟩ := hb)); (try simp (disch := first | assumption | omega) only [go_sem, seval, l1, l2, l3, l4, *]))
      | ((with_reducible refine W_app (fun o2 ho => ?_)); (try simp (disch := assumption) only [disown_set, disown_own, ownok_o, ownok_m, List.length_map, List.length_cons, List.length_nil, Nat.zero_add, l1, l2, l3, l4] at ho); (repeat (obtain ⟨_, ho⟩ := ho)); (try simp (disch := first | assumption | omega) only [go_sem, seval, l1, l2, l3, l4, *]))
      | ((with_reducible refine W_gd (fun h => ?_) (fun h => ?_)) <;> (try (exfalso; first | assumption | omega)) <;> (try simp (disch := first | assumption | omega) only [go_sem, seval, l1, l2, l3, l4, *]))))
    all_goals exact ⟨m - 1, by omega, i + 1, _, by omega, by omega, HN, rfl, by ((try simp (disch := first | assumption | omega) only [go_sem, seval, *]) <;> first | rfl | omega), by ((try simp (disch := first | assumption | omega) only [go_sem, seval, *]) <;> first | rfl | omega), by ((try simp (disch := first | assumption | omega) only [go_sem, seval, *]) <;> first | rfl | omega), by ((try simp (disch := first | assumption | omega) only [go_sem, seval, *]) <;> first | rfl | omega), by ((try simp (disch := first | assumption | omega) only [go_sem, seval, *]) <;> first | rfl | omega), by ((try simp (disch := first | assumption | omega) only [go_sem, seval, *]) <;> first | rfl | omega), by ((try simp (disch := first | assumption | omega) only [go_sem, seval, *]) <;> first | rfl | omega), by ((try simp (disch := first | assumption | omega) only [go_sem, seval, *]) <;> first | rfl | omega)⟩
  · have htS : t = fullS w k := by
      have h : t = _ := HT
      rw [h, fullS, show fullM w + k - 1 = i by omega]
    have HS := Lib.hid htS
    clear htS
    (repeat' (first
      | with_reducible first | refine L_seq ?_ | refine L_blk ?_ | refine L_skip ?_ | refine L_endblk ?_ | refine L_ret ?_ | refine L_exit ?_ | refine X_code ?_ | refine X_back ?_ | refine X_blk ?_ | refine X_past (by decide) ?_ | refine L_back ?_
      | ((with_reducible refine Kof.use hK ?_); clear hK hE K E)
      | ((with_reducible refine Eof.use hE ?_); (try clear hK hE K E))
      | ((with_reducible refine W_cond (fun h => ?_) (fun h => ?_)) <;> (try (exfalso; first | assumption | omega)))
      | ((with_reducible first | refine G_region fun K E hK hE => ?_ | refine call_ret can10 (awake_S _) ?_ | refine W_if ?_ | refine W_ifS ?_ | refine W_and ?_) <;> (try simp (disch := first | assumption | omega) only [go_sem, seval, l1, l2, l3, l4, *]))
      | ((with_reducible refine W_fresh (fun b hb => ?_)); (repeat (obtain ⟨_, hb⟩ := hb)); (try simp (disch := first | assumption | omega) only [go_sem, seval, l1, l2, l3, l4, *]))
      | ((with_reducible refine W_app (fun o2 ho => ?_)); (try simp (disch := assumption) only [disown_set, disown_own, ownok_o, ownok_m, List.length_map, List.length_cons, List.length_nil, Nat.zero_add, l1, l2, l3, l4] at ho); (repeat (obtain ⟨_, ho⟩ := ho)); (try simp (disch := first | assumption | omega) only [go_sem, seval, l1, l2, l3, l4, *]))
      | ((with_reducible refine W_gd (fun h => ?_) (fun h => ?_)) <;> (try (exfalso; first | assumption | omega)) <;> (try simp (disch := first | assumption | omega) only [go_sem, seval, l1, l2, l3, l4, *]))))
    refine L_loop (fun m env s'' => ∃ (i : Nat) (u : List UInt8), i ≤ fullM w + k + 1 ∧ m + i = fullM w + k + 1 ∧ (w ≠ 5 → i = 0) ∧ u = t ++ fullL w ++ repT [125, 32] i ∧ s'' = s' ∧ env 5 = .int .i64 k ∧ env 9 = .lst litM .full ∧ env 10 = .int .i64 w ∧ env 11 = .str u ∧ env 13 = .int .i64 t.length ∧ env 14 = .int .i64 i) (fullM w + k + 1)
      ⟨0, _, by omega, by omega, fun _ => rfl, by simp [repT]; rfl, rfl, by ((try simp (disch := first | assumption | omega) only [go_sem, seval, *]) <;> first | rfl | omega), by ((try simp (disch := first | assumption | omega) only [go_sem, seval, *]) <;> first | rfl | omega), by ((try simp (disch := first | assumption | omega) only [go_sem, seval, *]) <;> first | rfl | omega), by ((try simp (disch := first | assumption | omega) only [go_sem, seval, *]) <;> first | rfl | omega), by ((try simp (disch := first | assumption | omega) only [go_sem, seval, *]) <;> first | rfl | omega), by ((try simp (disch := first | assumption | omega) only [go_sem, seval, *]) <;> first | rfl | omega)⟩ ?_
    clear e1 e5 e7 e8 e9 e10 e11 e12
    rintro m env s'' ⟨i2, u, hi2, hm2, h5, hu, rfl, e5, e9, e10, e11, e13, e14⟩
    unfold litM at e9
    have HU := Lib.hid hu
    have H5 := Lib.hid h5
    have hul : u.length ≤ 50000 := by
      rw [hu, List.length_append, List.length_append, repT_len]
      simp; omega
    clear hu h5
    by_cases hc : i2 < fullM w + k + 1 ∧ w = 5
    · obtain ⟨hc1, hc2⟩ := hc
      have h5t : ((w : Int) = 5) = True := by apply eq_true; omega
      have hN : u ++ [125, 32] = t ++ fullL w ++ repT [125, 32] (i2 + 1) := by
        rw [repT_succ, ← List.append_assoc, ← show u = _ from HU]
      have HN := Lib.hid hN
      have hw5 : w ≠ 5 → i2 + 1 = 0 := fun h => absurd hc2 h
      clear hN hc2
      (repeat' (first
        | with_reducible first | refine L_seq ?_ | refine L_blk ?_ | refine L_skip ?_ | refine L_endblk ?_ | refine L_ret ?_ | refine L_exit ?_ | refine X_code ?_ | refine X_back ?_ | refine X_blk ?_ | refine X_past (by decide) ?_ | refine L_back ?_
        | ((with_reducible refine Kof.use hK ?_); clear hK hE K E)
        | ((with_reducible refine Eof.use hE ?_); (try clear hK hE K E))
        | ((with_reducible refine W_cond (fun h => ?_) (fun h => ?_)) <;> (try (exfalso; first | assumption | omega)))
        | ((with_reducible first | refine G_region fun K E hK hE => ?_ | refine call_ret can10 (awake_S _) ?_ | refine W_if ?_ | refine W_ifS ?_ | refine W_and ?_) <;> (try simp (disch := first | assumption | omega) only [go_sem, seval, l1, l2, l3, l4, *]))
        | ((with_reducible refine W_fresh (fun b hb => ?_)); (repeat (obtain ⟨_, hb⟩ := hb)); (try simp (disch := first | assumption | omega) only [go_sem, seval, l1, l2, l3, l4, *]))
        | ((with_reducible refine W_app (fun o2 ho => ?_)); (try simp (disch := assumption) only [disown_set, disown_own, ownok_o, ownok_m, List.length_map, List.length_cons, List.length_nil, Nat.zero_add, l1, l2, l3, l4] at ho); (repeat (obtain ⟨_, ho⟩ := ho)); (try simp (disch := first | assumption | omega) only [go_sem, seval, l1, l2, l3, l4, *]))
        | ((with_reducible refine W_gd (fun h => ?_) (fun h => ?_)) <;> (try (exfalso; first | assumption | omega)) <;> (try simp (disch := first | assumption | omega) only [go_sem, seval, l1, l2, l3, l4, *]))))
      all_goals exact ⟨m - 1, by omega, i2 + 1, _, by omega, by omega, hw5, HN, rfl, by ((try simp (disch := first | assumption | omega) only [go_sem, seval, *]) <;> first | rfl | omega), by ((try simp (disch := first | assumption | omega) only [go_sem, seval, *]) <;> first | rfl | omega), by ((try simp (disch := first | assumption | omega) only [go_sem, seval, *]) <;> first | rfl | omega), by ((try simp (disch := first | assumption | omega) only [go_sem, seval, *]) <;> first | rfl | omega), by ((try simp (disch := first | assumption | omega) only [go_sem, seval, *]) <;> first | rfl | omega), by ((try simp (disch := first | assumption | omega) only [go_sem, seval, *]) <;> first | rfl | omega)⟩
    · have hu2 : u = fullT w k := by
        have h : u = _ := HU
        rw [h, show t = _ from HS, fullT]
        by_cases h5 : w = 5
        · rw [if_pos h5, show i2 = fullM w + k + 1 by omega]
        · rw [if_neg h5, show i2 = 0 from H5 h5]; simp [repT]
      have htl2 : t.length = (fullS w k).length := by rw [show t = _ from HS]
      have hx : ((i2 : Int) < ((fullM w + k + 1 : Nat) : Int)) → ¬ (w : Int) = 5 := fun h1 h2 => hc ⟨by omega, by omega⟩
      have HL := Lib.hid htl2
      rw [← hu2] at p1
      have hn5 : i2 < fullM w + k + 1 → ¬ (w : Int) = 5 := fun h1 h2 => hc ⟨h1, by omega⟩
      clear hc hx
      rcases (show k = 0 ∨ k = 1 by omega) with hk0 | hk0
      · obtain ⟨c, x, hp⟩ := full_ok w hw6
        have hp2 : parseS u = .ok (c :: x) := by rw [hu2, hk0]; exact hp
        rw [hp2] at p1
        simp only [parseV, srcV, List.map_cons] at p1
        generalize clsC c = c1 at p1
        generalize x.map clsC = xs at p1
        have hk2 : ¬ (k : Int) = 1 := by omega
        clear hp hp2 hu2 htl2 hk0
        by_cases h1 : i2 < fullM w + k + 1
        · have h5 := hn5 h1
          clear hn5
          (repeat' (first
            | with_reducible first | refine L_seq ?_ | refine L_blk ?_ | refine L_skip ?_ | refine L_endblk ?_ | refine L_ret ?_ | refine L_exit ?_ | refine X_code ?_ | refine X_back ?_ | refine X_blk ?_ | refine X_past (by decide) ?_ | refine L_back ?_
            | ((with_reducible refine Kof.use hK ?_); clear hK hE K E)
            | ((with_reducible refine Eof.use hE ?_); (try clear hK hE K E))
            | ((with_reducible refine W_cond (fun h => ?_) (fun h => ?_)) <;> (try (exfalso; first | assumption | omega)))
            | ((with_reducible first | refine G_region fun K E hK hE => ?_ | refine call_ret can11 (p1 _) ?_ | refine call_ret can10 (awake_S _) ?_ | refine W_if ?_ | refine W_ifS ?_ | refine W_and ?_) <;> (try simp (disch := first | assumption | omega) only [go_sem, seval, l1, l2, l3, l4, *]))
            | ((with_reducible refine W_fresh (fun b hb => ?_)); (repeat (obtain ⟨_, hb⟩ := hb)); (try simp (disch := first | assumption | omega) only [go_sem, seval, l1, l2, l3, l4, *]))
            | ((with_reducible refine W_app (fun o2 ho => ?_)); (try simp (disch := assumption) only [disown_set, disown_own, ownok_o, ownok_m, List.length_map, List.length_cons, List.length_nil, Nat.zero_add, l1, l2, l3, l4] at ho); (repeat (obtain ⟨_, ho⟩ := ho)); (try simp (disch := first | assumption | omega) only [go_sem, seval, l1, l2, l3, l4, *]))
            | ((with_reducible refine W_gd (fun h => ?_) (fun h => ?_)) <;> (try (exfalso; first | assumption | omega)) <;> (try simp (disch := first | assumption | omega) only [go_sem, seval, l1, l2, l3, l4, *]))))
          all_goals (first | refine G_ret hQ (by simp (disch := first | assumption | omega) only [res8, go_sem, seval, *] <;> rfl) ?_ | refine G_norm hQ (by simp (disch := first | assumption | omega) only [res8, go_sem, seval, *] <;> rfl) ?_ | refine G_pan hQ ?_)
          all_goals (refine ⟨_, _, Wk.of_eq ?_, ?_, rfl, rfl⟩)
          all_goals first | rfl | ((try dsimp only); (repeat (first | exact Fg.refl _ | exact Fg.own (by assumption) | (refine Fg.set ?_ _ _) | (refine Fg.setA ?_ (by first | assumption | (simp (disch := assumption) only [own_rd, St.set, if_false, if_true, *]; done))) )); done)
        · clear hn5
          (repeat' (first
            | with_reducible first | refine L_seq ?_ | refine L_blk ?_ | refine L_skip ?_ | refine L_endblk ?_ | refine L_ret ?_ | refine L_exit ?_ | refine X_code ?_ | refine X_back ?_ | refine X_blk ?_ | refine X_past (by decide) ?_ | refine L_back ?_
            | ((with_reducible refine Kof.use hK ?_); clear hK hE K E)
            | ((with_reducible refine Eof.use hE ?_); (try clear hK hE K E))
            | ((with_reducible refine W_cond (fun h => ?_) (fun h => ?_)) <;> (try (exfalso; first | assumption | omega)))
            | ((with_reducible first | refine G_region fun K E hK hE => ?_ | refine call_ret can11 (p1 _) ?_ | refine call_ret can10 (awake_S _) ?_ | refine W_if ?_ | refine W_ifS ?_ | refine W_and ?_) <;> (try simp (disch := first | assumption | omega) only [go_sem, seval, l1, l2, l3, l4, *]))
            | ((with_reducible refine W_fresh (fun b hb => ?_)); (repeat (obtain ⟨_, hb⟩ := hb)); (try simp (disch := first | assumption | omega) only [go_sem, seval, l1, l2, l3, l4, *]))
            | ((with_reducible refine W_app (fun o2 ho => ?_)); (try simp (disch := assumption) only [disown_set, disown_own, ownok_o, ownok_m, List.length_map, List.length_cons, List.length_nil, Nat.zero_add, l1, l2, l3, l4] at ho); (repeat (obtain ⟨_, ho⟩ := ho)); (try simp (disch := first | assumption | omega) only [go_sem, seval, l1, l2, l3, l4, *]))
            | ((with_reducible refine W_gd (fun h => ?_) (fun h => ?_)) <;> (try (exfalso; first | assumption | omega)) <;> (try simp (disch := first | assumption | omega) only [go_sem, seval, l1, l2, l3, l4, *]))))
          all_goals (first | refine G_ret hQ (by simp (disch := first | assumption | omega) only [res8, go_sem, seval, *] <;> rfl) ?_ | refine G_norm hQ (by simp (disch := first | assumption | omega) only [res8, go_sem, seval, *] <;> rfl) ?_ | refine G_pan hQ ?_)
          all_goals (refine ⟨_, _, Wk.of_eq ?_, ?_, rfl, rfl⟩)
          all_goals first | rfl | ((try dsimp only); (repeat (first | exact Fg.refl _ | exact Fg.own (by assumption) | (refine Fg.set ?_ _ _) | (refine Fg.setA ?_ (by first | assumption | (simp (disch := assumption) only [own_rd, St.set, if_false, if_true, *]; done))) )); done)
      · have hp := full_more w hw6
        have hp2 : parseS u = .error (t.length, 2) := by rw [hu2, htl2, hk0]; exact hp
        rw [hp2] at p1
        simp only [parseV, srcV, List.map_nil] at p1
        have hk2 : ((k : Int) = 1) = True := eq_true (by omega)
        clear hp hp2 hu2 htl2 hk0
        by_cases h1 : i2 < fullM w + k + 1
        · have h5 := hn5 h1
          clear hn5
          (repeat' (first
            | with_reducible first | refine L_seq ?_ | refine L_blk ?_ | refine L_skip ?_ | refine L_endblk ?_ | refine L_ret ?_ | refine L_exit ?_ | refine X_code ?_ | refine X_back ?_ | refine X_blk ?_ | refine X_past (by decide) ?_ | refine L_back ?_
            | ((with_reducible refine Kof.use hK ?_); clear hK hE K E)
            | ((with_reducible refine Eof.use hE ?_); (try clear hK hE K E))
            | ((with_reducible refine W_cond (fun h => ?_) (fun h => ?_)) <;> (try (exfalso; first | assumption | omega)))
            | ((with_reducible first | refine G_region fun K E hK hE => ?_ | refine call_ret can11 (p1 _) ?_ | refine call_ret can10 (awake_S _) ?_ | refine W_if ?_ | refine W_ifS ?_ | refine W_and ?_) <;> (try simp (disch := first | assumption | omega) only [go_sem, seval, l1, l2, l3, l4, *]))
            | ((with_reducible refine W_fresh (fun b hb => ?_)); (repeat (obtain ⟨_, hb⟩ := hb)); (try simp (disch := first | assumption | omega) only [go_sem, seval, l1, l2, l3, l4, *]))
            | ((with_reducible refine W_app (fun o2 ho => ?_)); (try simp (disch := assumption) only [disown_set, disown_own, ownok_o, ownok_m, List.length_map, List.length_cons, List.length_nil, Nat.zero_add, l1, l2, l3, l4] at ho); (repeat (obtain ⟨_, ho⟩ := ho)); (try simp (disch := first | assumption | omega) only [go_sem, seval, l1, l2, l3, l4, *]))
            | ((with_reducible refine W_gd (fun h => ?_) (fun h => ?_)) <;> (try (exfalso; first | assumption | omega)) <;> (try simp (disch := first | assumption | omega) only [go_sem, seval, l1, l2, l3, l4, *]))))
          all_goals (first | refine G_ret hQ (by simp (disch := first | assumption | omega) only [res8, go_sem, seval, *] <;> rfl) ?_ | refine G_norm hQ (by simp (disch := first | assumption | omega) only [res8, go_sem, seval, *] <;> rfl) ?_ | refine G_pan hQ ?_)
          all_goals (refine ⟨_, _, Wk.of_eq ?_, ?_, rfl, rfl⟩)
          all_goals first | rfl | ((try dsimp only); (repeat (first | exact Fg.refl _ | exact Fg.own (by assumption) | (refine Fg.set ?_ _ _) | (refine Fg.setA ?_ (by first | assumption | (simp (disch := assumption) only [own_rd, St.set, if_false, if_true, *]; done))) )); done)
        · clear hn5
          (repeat' (first
            | with_reducible first | refine L_seq ?_ | refine L_blk ?_ | refine L_skip ?_ | refine L_endblk ?_ | refine L_ret ?_ | refine L_exit ?_ | refine X_code ?_ | refine X_back ?_ | refine X_blk ?_ | refine X_past (by decide) ?_ | refine L_back ?_
            | ((with_reducible refine Kof.use hK ?_); clear hK hE K E)
            | ((with_reducible refine Eof.use hE ?_); (try clear hK hE K E))
            | ((with_reducible refine W_cond (fun h => ?_) (fun h => ?_)) <;> (try (exfalso; first | assumption | omega)))
            | ((with_reducible first | refine G_region fun K E hK hE => ?_ | refine call_ret can11 (p1 _) ?_ | refine call_ret can10 (awake_S _) ?_ | refine W_if ?_ | refine W_ifS ?_ | refine W_and ?_) <;> (try simp (disch := first | assumption | omega) only [go_sem, seval, l1, l2, l3, l4, *]))
            | ((with_reducible refine W_fresh (fun b hb => ?_)); (repeat (obtain ⟨_, hb⟩ := hb)); (try simp (disch := first | assumption | omega) only [go_sem, seval, l1, l2, l3, l4, *]))
            | ((with_reducible refine W_app (fun o2 ho => ?_)); (try simp (disch := assumption) only [disown_set, disown_own, ownok_o, ownok_m, List.length_map, List.length_cons, List.length_nil, Nat.zero_add, l1, l2, l3, l4] at ho); (repeat (obtain ⟨_, ho⟩ := ho)); (try simp (disch := first | assumption | omega) only [go_sem, seval, l1, l2, l3, l4, *]))
            | ((with_reducible refine W_gd (fun h => ?_) (fun h => ?_)) <;> (try (exfalso; first | assumption | omega)) <;> (try simp (disch := first | assumption | omega) only [go_sem, seval, l1, l2, l3, l4, *]))))
          all_goals (first | refine G_ret hQ (by simp (disch := first | assumption | omega) only [res8, go_sem, seval, *] <;> rfl) ?_ | refine G_norm hQ (by simp (disch := first | assumption | omega) only [res8, go_sem, seval, *] <;> rfl) ?_ | refine G_pan hQ ?_)
          all_goals (refine ⟨_, _, Wk.of_eq ?_, ?_, rfl, rfl⟩)
          all_goals first | rfl | ((try dsimp only); (repeat (first | exact Fg.refl _ | exact Fg.own (by assumption) | (refine Fg.set ?_ _ _) | (refine Fg.setA ?_ (by first | assumption | (simp (disch := assumption) only [own_rd, St.set, if_false, if_true, *]; done))) )); done)
end Go.Proofs.Ytilpdejbldllbaa
