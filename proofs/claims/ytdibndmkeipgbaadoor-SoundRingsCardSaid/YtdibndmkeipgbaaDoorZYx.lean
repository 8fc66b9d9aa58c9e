/- What is proved: What SoundRings hands back. Conditions: what fits a memory. Conditions: those that stand in the statements. -/
import Derived.Test.YtdibndmkeipgbaaDoorZYrj
import Derived.Test.YtdibndmkeipgbaaDoorZYw
set_option linter.unusedSimpArgs false
set_option linter.unusedVariables false
set_option maxRecDepth 100000
namespace Go.Proofs.YtdibndmkeipgbaaDoor
open Go.RowKit

attribute [local go_sem] disown_fl owned_fl own_fl
theorem and_low (a : Int) (j : Nat) (hj : j ≤ 62) : ∃ k : Nat, bAnd .i64 a (2 ^ j - 1) = (k : Int) ∧ k < 2 ^ j := by
  have h1 := bAnd_low a j hj
  have hp : (0 : Int) < 2 ^ j := Int.pow_pos (by decide)
  have h3 : 0 ≤ a % 2 ^ j := Int.emod_nonneg _ (by omega)
  have h4 : a % 2 ^ j < 2 ^ j := Int.emod_lt_of_pos _ hp
  refine ⟨(a % 2 ^ j).toNat, by rw [h1]; omega, ?_⟩
  have : ((a % 2 ^ j).toNat : Int) < ((2 ^ j : Nat) : Int) := by rw [Int.toNat_of_nonneg h3]; simpa using h4
  exact_mod_cast this
theorem ring_row {i : Nat} (hi : i < 32) : ([[.int .u8 114], [.int .u8 (IntKind.u8.wrap (IntKind.i64.wrap (97 + bAnd .i64 (i : Int) 15)))], [.int .u8 (IntKind.u8.wrap (IntKind.i64.wrap (97 + (i : Int).fdiv (2 ^ min 4 64))))]] : List (List VV)) = bytesV (ringN i) := by
  have h1 : bAnd .i64 (i : Int) 15 = (i : Int) % 16 := bAnd_low i 4 (by omega)
  have h2 : (i : Int).fdiv (2 ^ min 4 64) = (i : Int) / 16 := by
    rw [show (2 : Int) ^ min 4 64 = 16 by decide, Int.fdiv_eq_ediv_of_nonneg _ (by decide)]
  have h5 : ∀ n : Int, 0 ≤ n → n ≤ 255 → IntKind.u8.wrap n = n := fun n _ _ => by rw [IntKind.wrap_u8]; omega
  rw [h1, h2, wrap_i64 (by omega) (by omega), wrap_i64 (by omega) (by omega), h5 _ (by omega) (by omega), h5 _ (by omega) (by omega)]
  have h3 : (UInt8.ofNat (97 + i % 16)).toNat = 97 + i % 16 := by
    rw [UInt8.toNat_ofNat']; omega
  have h4 : (UInt8.ofNat (97 + i / 16)).toNat = 97 + i / 16 := by
    rw [UInt8.toNat_ofNat']; omega
  simp only [bytesV, ringN, List.map_cons, List.map_nil, h3, h4]
  rfl
def dcsR (n : Nat) : List (List VV) := (List.range n).map fun i => dclC (ringD i)
theorem dcsR_len {n : Nat} : (dcsR n).length = n := by simp [dcsR]
theorem dcsR_succ {n : Nat} : dcsR (n + 1) = dcsR n ++ [[.str (ringN n), .lst [[.str [86]]] .no]] := by
  unfold dcsR; rw [List.range_succ, List.map_append]; rfl
theorem dcsR_at {n i : Nat} (h : i < n) : (dcsR n)[i]? = some [.str (ringN i), .lst [[.str [86]]] .no] := by
  unfold dcsR; rw [List.getElem?_map, List.getElem?_range h]; rfl
def rlsR (n k i : Nat) : List (List VV) := (List.range i).map fun j => rulC (ringR n k j)
theorem rlsR_len {n k i : Nat} : (rlsR n k i).length = i := by simp [rlsR]
theorem rlsR_succ {n k i : Nat} : rlsR n k (i + 1) = rlsR n k i ++ [[.bool false, .str (ringN i), .lst (ringX.map trmC) .no, .lst [[.bool false, .str (ringN i), .lst (ringX.map trmC) .no], [.bool (decide (k = i)), .str (ringN ((i + 1) % n)), .lst (ringX.map trmC) .no]] .no]] := by
  unfold rlsR; rw [List.range_succ, List.map_append]; rfl
theorem Kp_wkt {P : Program} {N : Nat} {D : List Deferred} {c : Code} {k : List Itm} {Q : Pst} {env : Env} {s : St} (t : Nat) {x y : VV} (ht : env t = x) (hw : Wk x y) (h : Kp P N D (.code c :: k) Q .norm (upd env t y) s) : Kp P N D (.code c :: k) Q .norm env s :=
  fun w0 G w a hfr hD hS => h w0 G w a ⟨hfr.size, fun i => by
    by_cases e : i = t
    · subst e
      simp only [upd, if_true]
      exact hw _ _ (ht ▸ hfr.rel i)
    · simp only [upd, if_neg e]
      exact hfr.rel i⟩ hD hS
set_option maxHeartbeats 8000000 in
theorem SoundRings_S (a c : Int) (t : St) : SRet Tryd.prog 5 [.int .i64 a, .int .i64 c] t (.bool true) t := by
  obtain ⟨m0, hm0, hm1⟩ := and_low a 5 (by omega)
  obtain ⟨k, hk0, hk1⟩ := and_low c 6 (by omega)
  have hm : bAnd .i64 a 31 = (m0 : Int) := hm0
  have hk : bAnd .i64 c 63 = (k : Int) := hk0
  have hm2 : m0 < 32 := hm1
  have hk2 : k < 64 := hk1
  have hn1 : IntKind.i64.wrap (1 + (m0 : Int)) = ((m0 + 1 : Nat) : Int) := by
    rw [show (1 + (m0 : Int)) = ((m0 + 1 : Nat) : Int) by omega]
    exact wrap_i64 (by omega) (by omega)
  clear hm0 hm1 hk0 hk1
  generalize hn : m0 + 1 = n at *
  have hn0 : 0 < n := by omega
  have hn32 : n ≤ 32 := by omega
  clear hn hm2
  refine G_enter Tryd.func5 rfl Tryd.ntmps5 rfl fun Q hQ hQe => ?_
  (repeat' (first | (with_reducible first | refine L_seq ?_ | refine L_blk ?_ | refine L_skip ?_ | refine L_endblk ?_ | refine L_ret ?_ | refine L_exit ?_ | refine X_code ?_ | refine X_back ?_ | refine X_blk ?_ | refine X_past (by decide) ?_ | refine L_back ?_) | ((with_reducible refine Kof.use hK ?_); clear hK hE K E) | ((with_reducible refine Eof.use hE ?_); (try clear hK hE K E)) | ((with_reducible refine Kof.use hKh ?_); clear hKh Kh) | ((with_reducible refine Kof.use hKb (P_next ?_)); clear hKb Kb) | (with_reducible first | refine G_plan 12 [([0, 1, 2, 3, 4, 5, 6, 7, 8, 9, 10, 11, 12, 13, 14], 15, [[0, 1, 2, 3, 4, 5, 6, 7, 8, 9, 10, 11, 12, 13, 14]]), ([], 16, [[], []])] [] hQe fun K E hK hE => ?_ | refine G_plan 13 [([0, 1, 2, 3, 4, 5, 6, 7, 8, 9, 10, 11, 12, 13, 14, 15, 16, 17, 18, 19, 20, 21], 22, [[]]), ([23], 24, [[], []])] [] hQe fun K E hK hE => ?_) | ((with_reducible refine W_cond (fun h => ?_) (fun h => ?_)) <;> (try (exfalso; first | assumption | omega))) | ((first | (with_reducible first | refine G_region fun K E hK hE => ?_ | refine call_ret can10 (Scheck_S _ (by assumption) _) ?_ | refine call_ret can9 (Sstr_S _ (by assumption) _) ?_ | refine call_ret can8 (Sawake_S _) ?_ | refine W_if ?_ | refine W_ifS ?_ | refine P_heads fun Kh hKh => ?_ | refine P_fin fun Kh hKh => ?_ | refine P_each fun Kb hKb => ?_ | refine W_and ?_) | ((with_reducible refine W_fresh (fun b hb => ?_)); (repeat (obtain ⟨_, hb⟩ := hb))) | ((with_reducible refine W_app (fun o2 ho => ?_)); (try simp (disch := assumption) only [disown_set, disown_own, ownok_o, ownok_m, List.length_map, List.length_cons, List.length_nil, Nat.zero_add, hm, hn1] at ho); (repeat (obtain ⟨_, ho⟩ := ho))) | ((with_reducible refine W_gd (fun h => ?_) (fun h => ?_)) <;> (try (exfalso; first | assumption | omega)))) <;> (try simp (disch := first | assumption | omega) only [go_sem, seval, hm, hn1, *]))))
  obtain ⟨bp, hbp⟩ : ∃ z, z = b := ⟨_, rfl⟩
  subst hbp
  refine G_loopS (fun m env s' => ∃ (i : Nat) (o : Own), i ≤ n ∧ m + i = n ∧ OwnOk t o i ∧ NotOwn o bp ∧ s' = (t.own o 50 2 i).set bp (.obj 26 [.lst [[.str [86], .int .i64 4]] .full, .lst (dcsR i) o, .lst [] .full]) ∧
    env 1 = .int .i64 c ∧ env 5 = .int .i64 n ∧ env 6 = .ptr bp 0 ∧ env 7 = .int .i64 i) n ?_ ?_
  · exact ⟨_, GS.refl _, 0, .full, by omega, by omega, ownok_nil, trivial, rfl, by ((try simp (disch := first | assumption | omega) only [go_sem, seval, *]) <;> first | rfl | omega), by ((try simp (disch := first | assumption | omega) only [go_sem, seval, *]) <;> first | rfl | omega), by ((try simp (disch := first | assumption | omega) only [go_sem, seval, *]) <;> first | rfl | omega), by ((try simp (disch := first | assumption | omega) only [go_sem, seval, *]) <;> first | rfl | omega)⟩
  · rintro m env s' ⟨i, o, hi, hm1, ho, hop, rfl, e1, e5, e6, e7⟩
    by_cases hlt : i < n
    · have hrow := ring_row (i := i) (by omega)
      have hln := dcsR_len (n := i)
      (repeat' (first | (with_reducible first | refine L_seq ?_ | refine L_blk ?_ | refine L_skip ?_ | refine L_endblk ?_ | refine L_ret ?_ | refine L_exit ?_ | refine X_code ?_ | refine X_back ?_ | refine X_blk ?_ | refine X_past (by decide) ?_ | refine L_back ?_) | ((with_reducible refine Kof.use hK ?_); clear hK hE K E) | ((with_reducible refine Eof.use hE ?_); (try clear hK hE K E)) | ((with_reducible refine Kof.use hKh ?_); clear hKh Kh) | ((with_reducible refine Kof.use hKb (P_next ?_)); clear hKb Kb) | (with_reducible first | refine G_plan 12 [([0, 1, 2, 3, 4, 5, 6, 7, 8, 9, 10, 11, 12, 13, 14], 15, [[0, 1, 2, 3, 4, 5, 6, 7, 8, 9, 10, 11, 12, 13, 14]]), ([], 16, [[], []])] [] hQe fun K E hK hE => ?_ | refine G_plan 13 [([0, 1, 2, 3, 4, 5, 6, 7, 8, 9, 10, 11, 12, 13, 14, 15, 16, 17, 18, 19, 20, 21], 22, [[]]), ([23], 24, [[], []])] [] hQe fun K E hK hE => ?_) | ((with_reducible refine W_cond (fun h => ?_) (fun h => ?_)) <;> (try (exfalso; first | assumption | omega))) | ((first | (with_reducible first | refine G_region fun K E hK hE => ?_ | refine call_ret can10 (Scheck_S _ (by assumption) _) ?_ | refine call_ret can9 (Sstr_S _ (by assumption) _) ?_ | refine call_ret can8 (Sawake_S _) ?_ | refine W_if ?_ | refine W_ifS ?_ | refine P_heads fun Kh hKh => ?_ | refine P_fin fun Kh hKh => ?_ | refine P_each fun Kb hKb => ?_ | refine W_and ?_) | ((with_reducible refine W_fresh (fun b hb => ?_)); (repeat (obtain ⟨_, hb⟩ := hb))) | ((with_reducible refine W_app (fun o2 ho => ?_)); (try simp (disch := assumption) only [disown_set, disown_own, ownok_o, ownok_m, List.length_map, List.length_cons, List.length_nil, Nat.zero_add, hrow, hln] at ho); (repeat (obtain ⟨_, ho⟩ := ho))) | ((with_reducible refine W_gd (fun h => ?_) (fun h => ?_)) <;> (try (exfalso; first | assumption | omega)))) <;> (try simp (disch := first | assumption | omega) only [go_sem, seval, hrow, hln, *]))))
      refine ⟨_, GS.wkobj (b := bp) (ys := [.lst [[.str [86], .int .i64 4]] .full, .lst (dcsR (i + 1)) o2, .lst [] .full]) (St.set_same _ _ _) rfl (fun j y hy => ?_), m - 1, by omega, i + 1, o2, by omega, by omega, ho, by assumption, by rw [St.set_set], by ((try simp (disch := first | assumption | omega) only [go_sem, seval, *]) <;> first | rfl | omega), by ((try simp (disch := first | assumption | omega) only [go_sem, seval, *]) <;> first | rfl | omega), by ((try simp (disch := first | assumption | omega) only [go_sem, seval, *]) <;> first | rfl | omega), by ((try simp (disch := first | assumption | omega) only [go_sem, seval, *]) <;> first | rfl | omega)⟩
      match j with
      | 0 => simp at hy; subst hy; exact ⟨_, rfl, Wk.refl _, id⟩
      | 1 =>
        simp at hy; subst hy
        refine ⟨_, rfl, ?_, id⟩
        rw [dcsR_succ]
        exact Wk.rows (by simp) (rows_last (.same _ (.lst _ _ .nil)))
      | 2 => simp at hy; subst hy; exact ⟨_, rfl, Wk.refl _, id⟩
      | j + 3 => simp at hy
    · have hie : i = n := by omega
      subst hie
      (repeat' (first | (with_reducible first | refine L_seq ?_ | refine L_blk ?_ | refine L_skip ?_ | refine L_endblk ?_ | refine L_ret ?_ | refine L_exit ?_ | refine X_code ?_ | refine X_back ?_ | refine X_blk ?_ | refine X_past (by decide) ?_ | refine L_back ?_) | ((with_reducible refine Kof.use hK ?_); clear hK hE K E) | ((with_reducible refine Eof.use hE ?_); (try clear hK hE K E)) | ((with_reducible refine Kof.use hKh ?_); clear hKh Kh) | ((with_reducible refine Kof.use hKb (P_next ?_)); clear hKb Kb) | (with_reducible first | refine G_plan 12 [([0, 1, 2, 3, 4, 5, 6, 7, 8, 9, 10, 11, 12, 13, 14], 15, [[0, 1, 2, 3, 4, 5, 6, 7, 8, 9, 10, 11, 12, 13, 14]]), ([], 16, [[], []])] [] hQe fun K E hK hE => ?_ | refine G_plan 13 [([0, 1, 2, 3, 4, 5, 6, 7, 8, 9, 10, 11, 12, 13, 14, 15, 16, 17, 18, 19, 20, 21], 22, [[]]), ([23], 24, [[], []])] [] hQe fun K E hK hE => ?_) | ((with_reducible refine W_cond (fun h => ?_) (fun h => ?_)) <;> (try (exfalso; first | assumption | omega))) | ((first | (with_reducible first | refine G_region fun K E hK hE => ?_ | refine call_ret can10 (Scheck_S _ (by assumption) _) ?_ | refine call_ret can9 (Sstr_S _ (by assumption) _) ?_ | refine call_ret can8 (Sawake_S _) ?_ | refine W_if ?_ | refine W_ifS ?_ | refine P_heads fun Kh hKh => ?_ | refine P_fin fun Kh hKh => ?_ | refine P_each fun Kb hKb => ?_ | refine W_and ?_) | ((with_reducible refine W_fresh (fun b hb => ?_)); (repeat (obtain ⟨_, hb⟩ := hb))) | ((with_reducible refine W_app (fun o2 ho => ?_)); (repeat (obtain ⟨_, ho⟩ := ho))) | ((with_reducible refine W_gd (fun h => ?_) (fun h => ?_)) <;> (try (exfalso; first | assumption | omega)))) <;> (try simp (disch := first | assumption | omega) only [go_sem, seval, *]))))
      refine Kp_wkt 9 (x := .lst [[.bool true, .str [120], .int .i64 0]] .full) (y := .lst (ringX.map trmC) .no) (by ((try simp (disch := first | assumption | omega) only [go_sem, seval, *]) <;> first | rfl | omega)) (Wk.lst _ _) ?_
      have hUp : (t.own o 50 2 i) bp = .free := by rw [own_fr]; exact ⟨hop, hb⟩
      have hFU : Fg (t.own o 50 2 i) t := Fg.own ho
      generalize t.own o 50 2 i = U at *
      have HFU := Lib.hid hFU
      clear hFU ho hop e7 hm1 hi hb hlt hn1
      refine G_loopS (fun m env s' => ∃ (j : Nat) (o : Own), j ≤ i ∧ m + j = i ∧ OwnOk U o j ∧ NotOwn o bp ∧ s' = (U.own o 42 4 j).set bp (.obj 26 [.lst [[.str [86], .int .i64 4]] .full, .lst (dcsR i) .no, .lst (rlsR i k j) o]) ∧
        env 1 = .int .i64 c ∧ env 5 = .int .i64 i ∧ env 6 = .ptr bp 0 ∧ env 9 = .lst (ringX.map trmC) .no ∧ env 10 = .int .i64 j) i ?_ ?_
      · refine ⟨_, GS.wkobj (b := bp) (ys := [.lst [[.str [86], .int .i64 4]] .full, .lst (dcsR i) .no, .lst [] .full]) (St.set_same _ _ _) rfl (fun j y hy => ?_), 0, .full, by omega, by omega, ownok_nil, trivial, by rw [St.set_set]; rfl, by ((try simp (disch := first | assumption | omega) only [go_sem, seval, *]) <;> first | rfl | omega), by ((try simp (disch := first | assumption | omega) only [go_sem, seval, *]) <;> first | rfl | omega), by ((try simp (disch := first | assumption | omega) only [go_sem, seval, *]) <;> first | rfl | omega), by ((try simp (disch := first | assumption | omega) only [go_sem, seval, *]) <;> first | rfl | omega), by ((try simp (disch := first | assumption | omega) only [go_sem, seval, *]) <;> first | rfl | omega)⟩
        match j with
        | 0 => simp at hy; subst hy; exact ⟨_, rfl, Wk.refl _, id⟩
        | 1 => simp at hy; subst hy; exact ⟨_, rfl, Wk.lst _ _, id⟩
        | 2 => simp at hy; subst hy; exact ⟨_, rfl, Wk.refl _, id⟩
        | j + 3 => simp at hy
      · clear e1 e5 e6 env m
        rintro m env s' ⟨j, o, hj, hm1, ho, hop, rfl, e1, e5, e6, e9, e10⟩
        by_cases hlt : j < i
        · have hln := rlsR_len (n := i) (k := k) (i := j)
          have hsx1 := dcsR_at hlt
          have hmd : (j + 1) % i < i := Nat.mod_lt _ hn0
          have hsx2 := dcsR_at hmd
          have hmod : ((j + 1 : Nat) : Int).tmod (i : Int) = (((j + 1) % i : Nat) : Int) := by
            rw [Int.tmod_eq_emod_of_nonneg (by omega)]; rfl
          have hsc := rlsR_succ (n := i) (k := k) (i := j)
          have HSC := Lib.hid hsc
          clear hsc
          generalize (j + 1) % i = g at *
          (repeat' (first | (with_reducible first | refine L_seq ?_ | refine L_blk ?_ | refine L_skip ?_ | refine L_endblk ?_ | refine L_ret ?_ | refine L_exit ?_ | refine X_code ?_ | refine X_back ?_ | refine X_blk ?_ | refine X_past (by decide) ?_ | refine L_back ?_) | ((with_reducible refine Kof.use hK ?_); clear hK hE K E) | ((with_reducible refine Eof.use hE ?_); (try clear hK hE K E)) | ((with_reducible refine Kof.use hKh ?_); clear hKh Kh) | ((with_reducible refine Kof.use hKb (P_next ?_)); clear hKb Kb) | (with_reducible first | refine G_plan 12 [([0, 1, 2, 3, 4, 5, 6, 7, 8, 9, 10, 11, 12, 13, 14], 15, [[0, 1, 2, 3, 4, 5, 6, 7, 8, 9, 10, 11, 12, 13, 14]]), ([], 16, [[], []])] [] hQe fun K E hK hE => ?_ | refine G_plan 13 [([0, 1, 2, 3, 4, 5, 6, 7, 8, 9, 10, 11, 12, 13, 14, 15, 16, 17, 18, 19, 20, 21], 22, [[]]), ([23], 24, [[], []])] [] hQe fun K E hK hE => ?_) | ((with_reducible refine W_cond (fun h => ?_) (fun h => ?_)) <;> (try (exfalso; first | assumption | omega))) | ((first | (with_reducible first | refine G_region fun K E hK hE => ?_ | refine call_ret can10 (Scheck_S _ (by assumption) _) ?_ | refine call_ret can9 (Sstr_S _ (by assumption) _) ?_ | refine call_ret can8 (Sawake_S _) ?_ | refine W_if ?_ | refine W_ifS ?_ | refine P_heads fun Kh hKh => ?_ | refine P_fin fun Kh hKh => ?_ | refine P_each fun Kb hKb => ?_ | refine W_and ?_) | ((with_reducible refine W_fresh (fun b hb => ?_)); (repeat (obtain ⟨_, hb⟩ := hb)); (try (rw [own_fr] at hb; obtain ⟨hob, hb⟩ := hb))) | ((with_reducible refine W_app (fun o2 ho => ?_)); (try simp (disch := assumption) only [disown_set, disown_own, ownok_o, ownok_m, List.length_map, List.length_cons, List.length_nil, Nat.zero_add, hk, hln, hsx1, hsx2, hmod] at ho); (repeat (obtain ⟨_, ho⟩ := ho))) | ((with_reducible refine W_gd (fun h => ?_) (fun h => ?_)) <;> (try (exfalso; first | assumption | omega)))) <;> (try simp (disch := first | assumption | omega) only [go_sem, seval, hk, hln, hsx1, hsx2, hmod, *]))))
          refine ⟨_, (GS.of_fg (Fg.of_set _ (by rw [St.set_other _ _ (by assumption), own_fr]; exact ⟨by assumption, hb⟩))).trans (GS.wkobj (b := bp) (ys := [.lst [[.str [86], .int .i64 4]] .full, .lst (dcsR i) .no, .lst (rlsR i k (j + 1)) o2]) (St.set_same _ _ _) rfl (fun j y hy => ?_)), m - 1, by omega, j + 1, o2, by omega, by omega, ho, by assumption, by rw [St.set_set], by ((try simp (disch := first | assumption | omega) only [go_sem, seval, *]) <;> first | rfl | omega), by ((try simp (disch := first | assumption | omega) only [go_sem, seval, *]) <;> first | rfl | omega), by ((try simp (disch := first | assumption | omega) only [go_sem, seval, *]) <;> first | rfl | omega), by ((try simp (disch := first | assumption | omega) only [go_sem, seval, *]) <;> first | rfl | omega), by ((try simp (disch := first | assumption | omega) only [go_sem, seval, *]) <;> first | rfl | omega)⟩
          match j with
          | 0 => simp at hy; subst hy; exact ⟨_, rfl, Wk.refl _, id⟩
          | 1 => simp at hy; subst hy; exact ⟨_, rfl, Wk.refl _, id⟩
          | 2 =>
            simp at hy; subst hy
            refine ⟨_, rfl, ?_, id⟩
            rw [HSC.out]
            exact Wk.rows (by simp) (rows_last (.same _ (.same _ (.same _ (.lst _ _ .nil)))))
          | j + 3 => simp at hy
        · have hje : j = i := by omega
          subst hje
          have hok : PgmOk (ringP j k) := pgm_ok (ringB hn0 hn32)
          have w4 := fun s => Sstr_S _ hok s
          have w5 := fun s => Scheck_S _ hok s
          have q0 : (ringP j k).doms.map dmC = [[.str [86], .int .i64 4]] := rfl
          have q1 : (ringP j k).decls.map dclC = dcsR j := by simp [ringP, dcsR]
          have q2 : (ringP j k).rules.map rulC = rlsR j k j := by simp [ringP, rlsR]
          simp only [pgC, q0, q1, q2] at w4 w5
          have hFZ : Fg ((U.own o 42 4 j).set bp (.obj 26 [.lst [[.str [86], .int .i64 4]] .full, .lst (dcsR j) .no, .lst (rlsR j k j) o])) t := (Fg.of_set _ (by rw [own_fr]; exact ⟨hop, hUp⟩)).trans ((Fg.own ho).trans HFU.out)
          have hZp : ((U.own o 42 4 j).set bp (.obj 26 [.lst [[.str [86], .int .i64 4]] .full, .lst (dcsR j) .no, .lst (rlsR j k j) o])) bp = .obj 26 [.lst [[.str [86], .int .i64 4]] .full, .lst (dcsR j) .no, .lst (rlsR j k j) o] := St.set_same _ _ _
          generalize (U.own o 42 4 j).set bp (.obj 26 [.lst [[.str [86], .int .i64 4]] .full, .lst (dcsR j) .no, .lst (rlsR j k j) o]) = Z at *
          have HFZ := Lib.hid hFZ
          clear hFZ ho hop HFU hUp hok q0 q1 q2 hm1 hj hlt
          by_cases hkj : k < j
          · rw [ring_no hn0 hn32 hkj] at w4 w5
            simp only [intsL, List.map_nil] at w4 w5
            have v4 := fun o1 o2 o3 s => pg_wk (w4 s) o1 o2 o3
            have v5 := fun o1 o2 o3 s => pg_wk (w5 s) o1 o2 o3
            clear w4 w5
            (repeat' (first | (with_reducible first | refine L_seq ?_ | refine L_blk ?_ | refine L_skip ?_ | refine L_endblk ?_ | refine L_ret ?_ | refine L_exit ?_ | refine X_code ?_ | refine X_back ?_ | refine X_blk ?_ | refine X_past (by decide) ?_ | refine L_back ?_) | ((with_reducible refine Kof.use hK ?_); clear hK hE K E) | ((with_reducible refine Eof.use hE ?_); (try clear hK hE K E)) | ((with_reducible refine Kof.use hKh ?_); clear hKh Kh) | ((with_reducible refine Kof.use hKb (P_next ?_)); clear hKb Kb) | (with_reducible first | refine G_plan 12 [([0, 1, 2, 3, 4, 5, 6, 7, 8, 9, 10, 11, 12, 13, 14], 15, [[0, 1, 2, 3, 4, 5, 6, 7, 8, 9, 10, 11, 12, 13, 14]]), ([], 16, [[], []])] [] hQe fun K E hK hE => ?_ | refine G_plan 13 [([0, 1, 2, 3, 4, 5, 6, 7, 8, 9, 10, 11, 12, 13, 14, 15, 16, 17, 18, 19, 20, 21], 22, [[]]), ([23], 24, [[], []])] [] hQe fun K E hK hE => ?_) | ((with_reducible refine W_cond (fun h => ?_) (fun h => ?_)) <;> (try (exfalso; first | assumption | omega))) | ((first | (with_reducible first | refine G_region fun K E hK hE => ?_ | refine call_ret can9 (v4 _ _ _ _) ?_ | refine call_ret can10 (v5 _ _ _ _) ?_ | refine call_ret can10 (Scheck_S _ (by assumption) _) ?_ | refine call_ret can9 (Sstr_S _ (by assumption) _) ?_ | refine call_ret can8 (Sawake_S _) ?_ | refine W_if ?_ | refine W_ifS ?_ | refine P_heads fun Kh hKh => ?_ | refine P_fin fun Kh hKh => ?_ | refine P_each fun Kb hKb => ?_ | refine W_and ?_) | ((with_reducible refine W_fresh (fun b hb => ?_)); (repeat (obtain ⟨_, hb⟩ := hb))) | ((with_reducible refine W_app (fun o2 ho => ?_)); (try simp (disch := assumption) only [disown_set, disown_own, ownok_o, ownok_m, List.length_map, List.length_cons, List.length_nil, Nat.zero_add, hk] at ho); (repeat (obtain ⟨_, ho⟩ := ho))) | ((with_reducible refine W_gd (fun h => ?_) (fun h => ?_)) <;> (try (exfalso; first | assumption | omega)))) <;> (try simp (disch := first | assumption | omega) only [go_sem, seval, hk, *]))))
            all_goals (first | refine G_ret hQ (by simp (disch := first | assumption | omega) only [res5, go_sem, seval, *] <;> rfl) ?_ | refine G_norm hQ (by simp (disch := first | assumption | omega) only [res5, go_sem, seval, *] <;> rfl) ?_ | refine G_pan hQ ?_)
            all_goals (refine ⟨_, _, Wk.of_eq ?_, ?_, rfl, rfl⟩)
            all_goals first | rfl | exact HFZ.out
          · rw [ring_ok hn0 hn32 (by omega)] at w4 w5
            simp only at w4 w5
            rw [show intsL (List.map (fun n : Nat => (n : Int)) (List.replicate j 0)) = iL (List.replicate j 0) from rfl] at w4
            have v4 := fun o1 o2 o3 s => pg_wk (w4 s) o1 o2 o3
            have v5 := fun o1 o2 o3 s => pg_wk (w5 s) o1 o2 o3
            have hil : (iL (List.replicate j 0)).length = j := by rw [iL_len, List.length_replicate]
            clear w4 w5
            (repeat' (first | (with_reducible first | refine L_seq ?_ | refine L_blk ?_ | refine L_skip ?_ | refine L_endblk ?_ | refine L_ret ?_ | refine L_exit ?_ | refine X_code ?_ | refine X_back ?_ | refine X_blk ?_ | refine X_past (by decide) ?_ | refine L_back ?_) | ((with_reducible refine Kof.use hK ?_); clear hK hE K E) | ((with_reducible refine Eof.use hE ?_); (try clear hK hE K E)) | ((with_reducible refine Kof.use hKh ?_); clear hKh Kh) | ((with_reducible refine Kof.use hKb (P_next ?_)); clear hKb Kb) | (with_reducible first | refine G_plan 12 [([0, 1, 2, 3, 4, 5, 6, 7, 8, 9, 10, 11, 12, 13, 14], 15, [[0, 1, 2, 3, 4, 5, 6, 7, 8, 9, 10, 11, 12, 13, 14]]), ([], 16, [[], []])] [] hQe fun K E hK hE => ?_ | refine G_plan 13 [([0, 1, 2, 3, 4, 5, 6, 7, 8, 9, 10, 11, 12, 13, 14, 15, 16, 17, 18, 19, 20, 21], 22, [[]]), ([23], 24, [[], []])] [] hQe fun K E hK hE => ?_) | ((with_reducible refine W_cond (fun h => ?_) (fun h => ?_)) <;> (try (exfalso; first | assumption | omega))) | ((first | (with_reducible first | refine G_region fun K E hK hE => ?_ | refine call_ret can9 (v4 _ _ _ _) ?_ | refine call_ret can10 (v5 _ _ _ _) ?_ | refine call_ret can10 (Scheck_S _ (by assumption) _) ?_ | refine call_ret can9 (Sstr_S _ (by assumption) _) ?_ | refine call_ret can8 (Sawake_S _) ?_ | refine W_if ?_ | refine W_ifS ?_ | refine P_heads fun Kh hKh => ?_ | refine P_fin fun Kh hKh => ?_ | refine P_each fun Kb hKb => ?_ | refine W_and ?_) | ((with_reducible refine W_fresh (fun b hb => ?_)); (repeat (obtain ⟨_, hb⟩ := hb))) | ((with_reducible refine W_app (fun o2 ho => ?_)); (try simp (disch := assumption) only [disown_set, disown_own, ownok_o, ownok_m, List.length_map, List.length_cons, List.length_nil, Nat.zero_add, hk, hil] at ho); (repeat (obtain ⟨_, ho⟩ := ho))) | ((with_reducible refine W_gd (fun h => ?_) (fun h => ?_)) <;> (try (exfalso; first | assumption | omega)))) <;> (try simp (disch := first | assumption | omega) only [go_sem, seval, hk, hil, *]))))
            refine G_loop (fun m env s' => ∃ i : Nat, i ≤ j ∧ m + i = j ∧ s' = Z ∧ env 5 = .int .i64 j ∧ env 12 = .int .i64 (-1) ∧ env 13 = .int .i64 0 ∧ env 15 = .int .i64 0 ∧ env 14 = .lst (iL (List.replicate j 0)) .no ∧ env 16 = .int .i64 i) j ?_ ?_
            · exact ⟨_, Fg.refl _, 0, by omega, by omega, rfl, by ((try simp (disch := first | assumption | omega) only [go_sem, seval, *]) <;> first | rfl | omega), by ((try simp (disch := first | assumption | omega) only [go_sem, seval, *]) <;> first | rfl | omega), by ((try simp (disch := first | assumption | omega) only [go_sem, seval, *]) <;> first | rfl | omega), by ((try simp (disch := first | assumption | omega) only [go_sem, seval, *]) <;> first | rfl | omega), by ((try simp (disch := first | assumption | omega) only [go_sem, seval, *]) <;> first | rfl | omega), by ((try simp (disch := first | assumption | omega) only [go_sem, seval, *]) <;> first | rfl | omega)⟩
            · clear e1 e5 e6 e9 e10 env m
              rintro m env s' ⟨i, hi, hm1, rfl, e5, e12, e13, e15, e14, e16⟩
              by_cases hlt : i < j
              · have hsx := iL_at (l := List.replicate j 0) (i := i) (by rw [List.length_replicate]; exact hlt)
                have hg0 : gt (List.replicate j 0) i = 0 := by unfold gt; rw [List.getElem?_replicate]; split <;> rfl
                rw [hg0] at hsx
                (repeat' (first | (with_reducible first | refine L_seq ?_ | refine L_blk ?_ | refine L_skip ?_ | refine L_endblk ?_ | refine L_ret ?_ | refine L_exit ?_ | refine X_code ?_ | refine X_back ?_ | refine X_blk ?_ | refine X_past (by decide) ?_ | refine L_back ?_) | ((with_reducible refine Kof.use hK ?_); clear hK hE K E) | ((with_reducible refine Eof.use hE ?_); (try clear hK hE K E)) | ((with_reducible refine Kof.use hKh ?_); clear hKh Kh) | ((with_reducible refine Kof.use hKb (P_next ?_)); clear hKb Kb) | (with_reducible first | refine G_plan 12 [([0, 1, 2, 3, 4, 5, 6, 7, 8, 9, 10, 11, 12, 13, 14], 15, [[0, 1, 2, 3, 4, 5, 6, 7, 8, 9, 10, 11, 12, 13, 14]]), ([], 16, [[], []])] [] hQe fun K E hK hE => ?_ | refine G_plan 13 [([0, 1, 2, 3, 4, 5, 6, 7, 8, 9, 10, 11, 12, 13, 14, 15, 16, 17, 18, 19, 20, 21], 22, [[]]), ([23], 24, [[], []])] [] hQe fun K E hK hE => ?_) | ((with_reducible refine W_cond (fun h => ?_) (fun h => ?_)) <;> (try (exfalso; first | assumption | omega))) | ((first | (with_reducible first | refine G_region fun K E hK hE => ?_ | refine call_ret can10 (Scheck_S _ (by assumption) _) ?_ | refine call_ret can9 (Sstr_S _ (by assumption) _) ?_ | refine call_ret can8 (Sawake_S _) ?_ | refine W_if ?_ | refine W_ifS ?_ | refine P_heads fun Kh hKh => ?_ | refine P_fin fun Kh hKh => ?_ | refine P_each fun Kb hKb => ?_ | refine W_and ?_) | ((with_reducible refine W_fresh (fun b hb => ?_)); (repeat (obtain ⟨_, hb⟩ := hb))) | ((with_reducible refine W_app (fun o2 ho => ?_)); (try simp (disch := assumption) only [disown_set, disown_own, ownok_o, ownok_m, List.length_map, List.length_cons, List.length_nil, Nat.zero_add, hil, hsx] at ho); (repeat (obtain ⟨_, ho⟩ := ho))) | ((with_reducible refine W_gd (fun h => ?_) (fun h => ?_)) <;> (try (exfalso; first | assumption | omega)))) <;> (try simp (disch := first | assumption | omega) only [go_sem, seval, hil, hsx, *]))))
                exact ⟨_, Fg.refl _, m - 1, by omega, i + 1, by omega, by omega, rfl, by ((try simp (disch := first | assumption | omega) only [go_sem, seval, *]) <;> first | rfl | omega), by ((try simp (disch := first | assumption | omega) only [go_sem, seval, *]) <;> first | rfl | omega), by ((try simp (disch := first | assumption | omega) only [go_sem, seval, *]) <;> first | rfl | omega), by ((try simp (disch := first | assumption | omega) only [go_sem, seval, *]) <;> first | rfl | omega), by ((try simp (disch := first | assumption | omega) only [go_sem, seval, *]) <;> first | rfl | omega), by ((try simp (disch := first | assumption | omega) only [go_sem, seval, *]) <;> first | rfl | omega)⟩
              · (repeat' (first | (with_reducible first | refine L_seq ?_ | refine L_blk ?_ | refine L_skip ?_ | refine L_endblk ?_ | refine L_ret ?_ | refine L_exit ?_ | refine X_code ?_ | refine X_back ?_ | refine X_blk ?_ | refine X_past (by decide) ?_ | refine L_back ?_) | ((with_reducible refine Kof.use hK ?_); clear hK hE K E) | ((with_reducible refine Eof.use hE ?_); (try clear hK hE K E)) | ((with_reducible refine Kof.use hKh ?_); clear hKh Kh) | ((with_reducible refine Kof.use hKb (P_next ?_)); clear hKb Kb) | (with_reducible first | refine G_plan 12 [([0, 1, 2, 3, 4, 5, 6, 7, 8, 9, 10, 11, 12, 13, 14], 15, [[0, 1, 2, 3, 4, 5, 6, 7, 8, 9, 10, 11, 12, 13, 14]]), ([], 16, [[], []])] [] hQe fun K E hK hE => ?_ | refine G_plan 13 [([0, 1, 2, 3, 4, 5, 6, 7, 8, 9, 10, 11, 12, 13, 14, 15, 16, 17, 18, 19, 20, 21], 22, [[]]), ([23], 24, [[], []])] [] hQe fun K E hK hE => ?_) | ((with_reducible refine W_cond (fun h => ?_) (fun h => ?_)) <;> (try (exfalso; first | assumption | omega))) | ((first | (with_reducible first | refine G_region fun K E hK hE => ?_ | refine call_ret can10 (Scheck_S _ (by assumption) _) ?_ | refine call_ret can9 (Sstr_S _ (by assumption) _) ?_ | refine call_ret can8 (Sawake_S _) ?_ | refine W_if ?_ | refine W_ifS ?_ | refine P_heads fun Kh hKh => ?_ | refine P_fin fun Kh hKh => ?_ | refine P_each fun Kb hKb => ?_ | refine W_and ?_) | ((with_reducible refine W_fresh (fun b hb => ?_)); (repeat (obtain ⟨_, hb⟩ := hb))) | ((with_reducible refine W_app (fun o2 ho => ?_)); (try simp (disch := assumption) only [disown_set, disown_own, ownok_o, ownok_m, List.length_map, List.length_cons, List.length_nil, Nat.zero_add, hil] at ho); (repeat (obtain ⟨_, ho⟩ := ho))) | ((with_reducible refine W_gd (fun h => ?_) (fun h => ?_)) <;> (try (exfalso; first | assumption | omega)))) <;> (try simp (disch := first | assumption | omega) only [go_sem, seval, hil, *]))))
                all_goals (first | refine G_ret hQ (by simp (disch := first | assumption | omega) only [res5, go_sem, seval, *] <;> rfl) ?_ | refine G_norm hQ (by simp (disch := first | assumption | omega) only [res5, go_sem, seval, *] <;> rfl) ?_ | refine G_pan hQ ?_)
                all_goals (refine ⟨_, _, Wk.of_eq ?_, ?_, rfl, rfl⟩)
                all_goals first | rfl | exact HFZ.out
end Go.Proofs.YtdibndmkeipgbaaDoor
