/- What is proved: What package osierref11's Print hands back: the document's text of a program. Conditions: what fits a memory. Conditions: those that stand in the statements. -/
import Derived.Test.YtbfgdblebepgcaaDoorZNlj
import Derived.Test.YtbfgdblebepgcaaDoorZRlj
import Derived.Test.YtbfgdblebepgcaaDoorZUq
set_option linter.unusedSimpArgs false
set_option linter.unusedVariables false
set_option maxRecDepth 100000
namespace Go.Proofs.YtbfgdblebepgcaaDoor
open Go.RowKit

theorem bytesU_len {l : List UInt8} : (bytesV l).length = l.length := by simp [bytesV]
theorem bytesU_app {a b : List UInt8} : bytesV a ++ bytesV b = bytesV (a ++ b) := by simp [bytesV]
theorem bytesU_one (l : List UInt8) : ∀ y, y ∈ bytesV l → y.length = 1 := by
  intro y hy
  simp only [bytesV, List.mem_map] at hy
  obtain ⟨c, _, rfl⟩ := hy
  rfl
/-- A rule's body as text. -/
def bodT (l : List Atm) : List UInt8 := if l = [] then [] else [32, 58, 45, 32] ++ Lib.join (l.map atmT) [44, 32]
theorem rulT_bod (x : Rul) : rulT x = atmT x.head ++ bodT x.body ++ [46, 10] := by unfold rulT bodT; rfl
def moreB (j : Nat) (t x : List UInt8) : List UInt8 := if j = 0 then t ++ [32, 58, 45, 32] ++ x else t ++ [44, 32] ++ x
theorem moreB_bod {l : List Atm} {j : Nat} {x : Atm} {p : List UInt8} (h : l[j]? = some x) : moreB j (p ++ bodT (l.take j)) (atmT x) = p ++ bodT (l.take (j + 1)) := by
  unfold moreB bodT
  rw [utake h]
  by_cases h0 : j = 0
  · subst h0
    simp [join_one]
  · have hlt := (List.getElem?_eq_some_iff.1 h).1
    have hne : l.take j ≠ [] := by intro e; have := congrArg List.length e; rw [List.length_take] at this; simp only [List.length_nil] at this; omega
    rw [if_neg h0, if_neg hne, if_neg (by simp), List.map_append, List.map_cons, List.map_nil, join_snoc (by simpa using hne)]
    simp
theorem bodT_len {l : List Atm} (h : ∀ a, a ∈ l → (atmT a).length ≤ 400) (h8 : l.length ≤ 8) : (bodT l).length ≤ 4 + 8 * 402 := by
  have h8' := ujoin_le (f := atmT) (m := 400) h8 h
  unfold bodT
  split
  · simp
  · simp only [List.length_append, List.length_cons, List.length_nil]; omega
section
attribute [local go_sem] bytesU_len bytesU_app List.length_append
set_option maxHeartbeats 8000000 in
theorem RPrint11_S (x : Pgm) (hx : PgmOk x) (s : St) : SRet Tryd.prog 10 [.agg (pgC x)] s (printU x) s := by
  have hck := fun s => RMay11_S x hx s
  refine G_enter Tryd.func10 rfl Tryd.ntmps10 rfl fun Q hQ hQe => ?_
  cases hB : pgmB x with
  | false =>
    rw [hB] at hck
    simp only [pgC] at hck
    (repeat' (first
      | with_reducible first | refine L_seq ?_ | refine L_blk ?_ | refine L_skip ?_ | refine L_endblk ?_ | refine L_ret ?_ | refine L_exit ?_ | refine X_code ?_ | refine X_back ?_ | refine X_blk ?_ | refine X_past (by decide) ?_ | refine L_back ?_
      | ((with_reducible refine Kof.use hK ?_); clear hK hE K E)
      | ((with_reducible refine Eof.use hE ?_); (try clear hK hE K E))
      | ((with_reducible refine Kof.use hKh ?_); clear hKh Kh)
      | ((with_reducible refine Kof.use hKb (P_next ?_)); clear hKb Kb)
      | with_reducible refine G_plan 7 [([0, 1, 2, 3, 4, 5, 6, 7, 8, 9, 10, 11, 12, 13, 14], 15, [[0, 1, 2, 3, 4, 5, 6, 7, 8]]), ([16, 17], 18, [[], []])] [19] hQe fun K E hK hE => ?_
      | ((with_reducible refine W_cond (fun h => ?_) (fun h => ?_)) <;> (try (exfalso; first | assumption | omega)))
      | ((with_reducible first | refine G_region fun K E hK hE => ?_ | refine call_ret can21 (hck _) ?_ | refine call_ret can22 (Rspell11_S _ _ (by assumption) _) ?_ | refine call_ret can21 (RMay11_S _ (by assumption) _) ?_ | refine call_ret can23 (Rsigns_S _ (by first | assumption | omega) _) ?_ | refine call_ret can17 (Itoa_S _ (by first | assumption | omega) (by first | assumption | omega) _) ?_ | refine W_if ?_ | refine W_ifS ?_ | refine P_heads fun Kh hKh => ?_ | refine P_fin fun Kh hKh => ?_ | refine P_each fun Kb hKb => ?_ | refine W_and ?_) <;> (try simp (disch := first | assumption | omega) only [go_sem, seval, pgC, *]))
      | ((with_reducible refine W_fresh (fun b hb => ?_)); (repeat (obtain ⟨_, hb⟩ := hb)); (try simp (disch := first | assumption | omega) only [go_sem, seval, pgC, *]))
      | ((with_reducible refine W_app (fun o2 ho => ?_)); (try simp (disch := assumption) only [disown_set, disown_own, ownok_o, ownok_m, List.length_map, List.length_cons, List.length_nil, Nat.zero_add, pgC] at ho); (repeat (obtain ⟨_, ho⟩ := ho)); (try simp (disch := first | assumption | omega) only [go_sem, seval, pgC, *]))
      | ((with_reducible refine W_gd (fun h => ?_) (fun h => ?_)) <;> (try (exfalso; first | assumption | omega)) <;> (try simp (disch := first | assumption | omega) only [go_sem, seval, pgC, *]))))
    all_goals (first | refine G_ret hQ (by simp (disch := first | assumption | omega) only [res10, go_sem, seval, *] <;> rfl) ?_ | refine G_norm hQ (by simp (disch := first | assumption | omega) only [res10, go_sem, seval, *] <;> rfl) ?_ | refine G_pan hQ ?_)
    all_goals (refine ⟨_, _, Wk.of_eq ?_, ?_, rfl, rfl⟩)
    · simp [printU, hB]
    · ((try dsimp only); (repeat (first | exact Fg.refl _ | exact Fg.own (by assumption) | (refine Fg.set ?_ _ _) | (refine Fg.setA ?_ (by first | assumption | (simp (disch := assumption) only [own_rd, St.set, if_false, if_true, *]; done))) )); done)
  | true =>
    rw [hB] at hck
    simp only [pgC] at hck
    (repeat' (first
      | with_reducible first | refine L_seq ?_ | refine L_blk ?_ | refine L_skip ?_ | refine L_endblk ?_ | refine L_ret ?_ | refine L_exit ?_ | refine X_code ?_ | refine X_back ?_ | refine X_blk ?_ | refine X_past (by decide) ?_ | refine L_back ?_
      | ((with_reducible refine Kof.use hK ?_); clear hK hE K E)
      | ((with_reducible refine Eof.use hE ?_); (try clear hK hE K E))
      | ((with_reducible refine Kof.use hKh ?_); clear hKh Kh)
      | ((with_reducible refine Kof.use hKb (P_next ?_)); clear hKb Kb)
      | with_reducible refine G_plan 7 [([0, 1, 2, 3, 4, 5, 6, 7, 8, 9, 10, 11, 12, 13, 14], 15, [[0, 1, 2, 3, 4, 5, 6, 7, 8]]), ([16, 17], 18, [[], []])] [19] hQe fun K E hK hE => ?_
      | ((with_reducible refine W_cond (fun h => ?_) (fun h => ?_)) <;> (try (exfalso; first | assumption | omega)))
      | ((with_reducible first | refine G_region fun K E hK hE => ?_ | refine call_ret can21 (hck _) ?_ | refine call_ret can22 (Rspell11_S _ _ (by assumption) _) ?_ | refine call_ret can21 (RMay11_S _ (by assumption) _) ?_ | refine call_ret can23 (Rsigns_S _ (by first | assumption | omega) _) ?_ | refine call_ret can17 (Itoa_S _ (by first | assumption | omega) (by first | assumption | omega) _) ?_ | refine W_if ?_ | refine W_ifS ?_ | refine P_heads fun Kh hKh => ?_ | refine P_fin fun Kh hKh => ?_ | refine P_each fun Kb hKb => ?_ | refine W_and ?_) <;> (try simp (disch := first | assumption | omega) only [go_sem, seval, pgC, *]))
      | ((with_reducible refine W_fresh (fun b hb => ?_)); (repeat (obtain ⟨_, hb⟩ := hb)); (try simp (disch := first | assumption | omega) only [go_sem, seval, pgC, *]))
      | ((with_reducible refine W_app (fun o2 ho => ?_)); (try simp (disch := assumption) only [disown_set, disown_own, ownok_o, ownok_m, List.length_map, List.length_cons, List.length_nil, Nat.zero_add, pgC] at ho); (repeat (obtain ⟨_, ho⟩ := ho)); (try simp (disch := first | assumption | omega) only [go_sem, seval, pgC, *]))
      | ((with_reducible refine W_gd (fun h => ?_) (fun h => ?_)) <;> (try (exfalso; first | assumption | omega)) <;> (try simp (disch := first | assumption | omega) only [go_sem, seval, pgC, *]))))
    clear hck
    obtain ⟨ds, cs, rs⟩ := x
    simp only at hB ⊢
    obtain ⟨g4, g5, g6, g1, g2, g3⟩ : ds.length ≤ 32 ∧ cs.length ≤ 32 ∧ rs.length ≤ 64 ∧ (∀ d, d ∈ ds → dmB d = true) ∧ (∀ d, d ∈ cs → dclB d = true) ∧ (∀ y, y ∈ rs → rulB y = true) := by
      simp only [pgmB, Bool.and_eq_true, decide_eq_true_eq, List.all_eq_true] at hB
      obtain ⟨⟨⟨⟨⟨k1, k2⟩, k3⟩, k4⟩, k5⟩, k6⟩ := hB
      exact ⟨k1, k2, k3, k4, k5, k6⟩
    obtain ⟨bp, hbp⟩ : ∃ bp, bp = b := ⟨_, rfl⟩
    subst hbp
    have hb0 : s.set bp (.obj 26 [.lst (ds.map dmC) .no, .lst (cs.map dclC) .no, .lst (rs.map rulC) .no]) bp = .obj 26 [.lst (ds.map dmC) .no, .lst (cs.map dclC) .no, .lst (rs.map rulC) .no] := St.set_same _ _ _
    have hF0 : Fg (s.set bp (.obj 26 [.lst (ds.map dmC) .no, .lst (cs.map dclC) .no, .lst (rs.map rulC) .no])) s := Fg.of_set _ hb
    generalize s.set bp (.obj 26 [.lst (ds.map dmC) .no, .lst (cs.map dclC) .no, .lst (rs.map rulC) .no]) = B at *
    have hbf : B bp ≠ .free := by rw [hb0]; simp
    have HF := Lib.hid hF0
    clear hF0 hb
    refine G_loop (fun m env t => ∃ (i : Nat) (o : Own) (bs : List UInt8), i ≤ ds.length ∧ m + i = ds.length ∧ bs = ((ds.take i).map dmT).flatten ∧ t = B.own o 5 1 bs.length ∧ OwnOk B o bs.length ∧ NotOwn o bp ∧
      env 1 = .ptr bp 0 ∧ env 4 = .lst (bytesV bs) o ∧ env 5 = .int .i64 i) ds.length ?_ ?_
    · exact ⟨B.own .full 5 1 0, Fg.refl _, 0, .full, [], by omega, by omega, rfl, rfl, rfl, trivial, by ((try simp (disch := first | assumption | omega) only [go_sem, seval, *]) <;> first | rfl | omega), by ((try simp (disch := first | assumption | omega) only [go_sem, seval, *]) <;> first | rfl | omega), by ((try simp (disch := first | assumption | omega) only [go_sem, seval, *]) <;> first | rfl | omega)⟩
    · rintro m env t ⟨i, o, bs, hi, hm, hbs, rfl, hO, hno, e1, e4, e5⟩
      by_cases hlt : i < ds.length
      · obtain ⟨c, hc⟩ := uget hlt
        obtain ⟨k1, k2, k3, k4⟩ := dm_small (g1 c (List.mem_of_getElem? hc))
        have hsx := dmC_at hc
        have hbl : bs.length ≤ 3200 := by
          have := flat_le (f := dmT) (m := 100) (l := ds.take i) fun y hy => (dm_small (g1 y (List.mem_of_mem_take hy))).1
          rw [← hbs, List.length_take] at this
          have h2 : min i ds.length * 100 ≤ 32 * 100 := Nat.mul_le_mul_right _ (by omega)
          omega
        have hE : bs ++ dmT c = ((ds.take (i + 1)).map dmT).flatten := by rw [flat_at hc, hbs]
        have HE := Lib.hid hE
        clear hc hbs hE
        obtain ⟨cn, cz⟩ := c
        simp only at k2 k3 k4
        have k5 := Lib.itoa_length_le cz (by omega) (by omega)
        obtain ⟨L, hL⟩ : ∃ L, 100 :: 111 :: 109 :: 32 :: (cn ++ [32] ++ Lib.itoa cz ++ [46, 10]) = L := ⟨_, rfl⟩
        have hLd : L = dmT ⟨cn, cz⟩ := by rw [← hL]; simp [dmT]
        rw [← hLd] at HE k1
        have yL := bytesU_one L
        clear hLd
        (repeat' (first
          | with_reducible first | refine L_seq ?_ | refine L_blk ?_ | refine L_skip ?_ | refine L_endblk ?_ | refine L_ret ?_ | refine L_exit ?_ | refine X_code ?_ | refine X_back ?_ | refine X_blk ?_ | refine X_past (by decide) ?_ | refine L_back ?_
          | ((with_reducible refine Kof.use hK ?_); clear hK hE K E)
          | ((with_reducible refine Eof.use hE ?_); (try clear hK hE K E))
          | ((with_reducible refine Kof.use hKh ?_); clear hKh Kh)
          | ((with_reducible refine Kof.use hKb (P_next ?_)); clear hKb Kb)
          | with_reducible refine G_plan 7 [([0, 1, 2, 3, 4, 5, 6, 7, 8, 9, 10, 11, 12, 13, 14], 15, [[0, 1, 2, 3, 4, 5, 6, 7, 8]]), ([16, 17], 18, [[], []])] [19] hQe fun K E hK hE => ?_
          | ((with_reducible refine W_cond (fun h => ?_) (fun h => ?_)) <;> (try (exfalso; first | assumption | omega)))
          | ((with_reducible first | refine G_region fun K E hK hE => ?_ | refine call_ret can17 (Itoa_S _ (by first | assumption | omega) (by first | assumption | omega) _) ?_ | refine W_if ?_ | refine W_ifS ?_ | refine P_heads fun Kh hKh => ?_ | refine P_fin fun Kh hKh => ?_ | refine P_each fun Kb hKb => ?_ | refine W_and ?_) <;> (try simp (disch := first | assumption | omega) only [go_sem, seval, List.length_map, hsx, dmC, hL, *]))
          | ((with_reducible refine W_fresh (fun b hb => ?_)); (repeat (obtain ⟨_, hb⟩ := hb)); (try simp (disch := first | assumption | omega) only [go_sem, seval, List.length_map, hsx, dmC, hL, *]))
          | ((with_reducible refine W_app (fun o2 ho => ?_)); (try simp (disch := assumption) only [disown_set, disown_own, ownok_o, ownok_m, List.length_map, List.length_cons, List.length_nil, Nat.zero_add, List.length_map, hsx, dmC, hL] at ho); (repeat (obtain ⟨_, ho⟩ := ho)); (try simp (disch := first | assumption | omega) only [go_sem, seval, List.length_map, hsx, dmC, hL, *]))
          | ((with_reducible refine W_gd (fun h => ?_) (fun h => ?_)) <;> (try (exfalso; first | assumption | omega)) <;> (try simp (disch := first | assumption | omega) only [go_sem, seval, List.length_map, hsx, dmC, hL, *]))))
        all_goals exact ⟨_, (by ((try dsimp only); (repeat (first | exact Fg.refl _ | exact Fg.own (by assumption) | (refine Fg.set ?_ _ _) | (refine Fg.setA ?_ (by first | assumption | (simp (disch := assumption) only [own_rd, St.set, if_false, if_true, *]; done))) )); done) : Fg _ (B.own o2 5 1 _)), m - 1, by omega, i + 1, o2, _, by omega, by omega, HE.out, by simp only [List.length_append], by simpa only [List.length_append, bytesU_len] using ho, OwnOk.not (by assumption) hbf, by ((try simp (disch := first | assumption | omega) only [go_sem, seval, *]) <;> first | rfl | omega), by ((try simp (disch := first | assumption | omega) only [go_sem, seval, *]) <;> first | rfl | omega), by ((try simp (disch := first | assumption | omega) only [go_sem, seval, *]) <;> first | rfl | omega)⟩
      · have hiL : i = ds.length := by omega
        rw [hiL, List.take_length] at hbs
        have hbl : bs.length ≤ 3200 := by
          have := flat_le (f := dmT) (m := 100) (l := ds) fun y hy => (dm_small (g1 y hy)).1
          rw [← hbs] at this
          have h2 : ds.length * 100 ≤ 32 * 100 := Nat.mul_le_mul_right _ g4
          omega
        have HB1 := Lib.hid hbs
        clear hbs
        (repeat' (first
          | with_reducible first | refine L_seq ?_ | refine L_blk ?_ | refine L_skip ?_ | refine L_endblk ?_ | refine L_ret ?_ | refine L_exit ?_ | refine X_code ?_ | refine X_back ?_ | refine X_blk ?_ | refine X_past (by decide) ?_ | refine L_back ?_
          | ((with_reducible refine Kof.use hK ?_); clear hK hE K E)
          | ((with_reducible refine Eof.use hE ?_); (try clear hK hE K E))
          | ((with_reducible refine Kof.use hKh ?_); clear hKh Kh)
          | ((with_reducible refine Kof.use hKb (P_next ?_)); clear hKb Kb)
          | with_reducible refine G_plan 7 [([0, 1, 2, 3, 4, 5, 6, 7, 8, 9, 10, 11, 12, 13, 14], 15, [[0, 1, 2, 3, 4, 5, 6, 7, 8]]), ([16, 17], 18, [[], []])] [19] hQe fun K E hK hE => ?_
          | ((with_reducible refine W_cond (fun h => ?_) (fun h => ?_)) <;> (try (exfalso; first | assumption | omega)))
          | ((with_reducible first | refine G_region fun K E hK hE => ?_ | refine call_ret can22 (Rspell11_S _ _ (by assumption) _) ?_ | refine call_ret can21 (RMay11_S _ (by assumption) _) ?_ | refine call_ret can23 (Rsigns_S _ (by first | assumption | omega) _) ?_ | refine call_ret can17 (Itoa_S _ (by first | assumption | omega) (by first | assumption | omega) _) ?_ | refine W_if ?_ | refine W_ifS ?_ | refine P_heads fun Kh hKh => ?_ | refine P_fin fun Kh hKh => ?_ | refine P_each fun Kb hKb => ?_ | refine W_and ?_) <;> (try simp (disch := first | assumption | omega) only [go_sem, seval, List.length_map, *]))
          | ((with_reducible refine W_fresh (fun b hb => ?_)); (repeat (obtain ⟨_, hb⟩ := hb)); (try simp (disch := first | assumption | omega) only [go_sem, seval, List.length_map, *]))
          | ((with_reducible refine W_app (fun o2 ho => ?_)); (try simp (disch := assumption) only [disown_set, disown_own, ownok_o, ownok_m, List.length_map, List.length_cons, List.length_nil, Nat.zero_add, List.length_map] at ho); (repeat (obtain ⟨_, ho⟩ := ho)); (try simp (disch := first | assumption | omega) only [go_sem, seval, List.length_map, *]))
          | ((with_reducible refine W_gd (fun h => ?_) (fun h => ?_)) <;> (try (exfalso; first | assumption | omega)) <;> (try simp (disch := first | assumption | omega) only [go_sem, seval, List.length_map, *]))))
        clear e5 hlt hiL hi hm h
        refine G_loop (fun m env t => ∃ (i : Nat) (o : Own) (bs2 : List UInt8), i ≤ cs.length ∧ m + i = cs.length ∧ bs2 = bs ++ ((cs.take i).map dclT).flatten ∧ t = B.own o 5 1 bs2.length ∧ OwnOk B o bs2.length ∧ NotOwn o bp ∧
          env 1 = .ptr bp 0 ∧ env 4 = .lst (bytesV bs2) o ∧ env 6 = .int .i64 i) cs.length ?_ ?_
        · exact ⟨_, Fg.refl _, 0, o, bs, by omega, by omega, by simp, rfl, hO, hno, by ((try simp (disch := first | assumption | omega) only [go_sem, seval, *]) <;> first | rfl | omega), by ((try simp (disch := first | assumption | omega) only [go_sem, seval, *]) <;> first | rfl | omega), by ((try simp (disch := first | assumption | omega) only [go_sem, seval, *]) <;> first | rfl | omega)⟩
        · clear e1 e4 hO hno env o m
          rintro m env t ⟨i, o, bs2, hi, hm, hbs, rfl, hO, hno, e1, e4, e6⟩
          by_cases hlt : i < cs.length
          · obtain ⟨c, hc⟩ := uget hlt
            obtain ⟨k1, k2, k3, k4⟩ := dcl_small (g2 c (List.mem_of_getElem? hc))
            have hnm : ∀ t, t ∈ c.doms → t.length ≤ 32 := by
              have h := g2 c (List.mem_of_getElem? hc)
              simp only [dclB, Bool.and_eq_true, List.all_eq_true] at h
              exact fun t ht => nameB_len (h.2 t ht)
            have hsx := dclC_at hc
            have hbl2 : bs2.length ≤ 16000 := by
              have := flat_le (f := dclT) (m := 400) (l := cs.take i) fun y hy => (dcl_small (g2 y (List.mem_of_mem_take hy))).1
              have h2 : min i cs.length * 400 ≤ 32 * 400 := Nat.mul_le_mul_right _ (by omega)
              rw [List.length_take] at this
              rw [hbs, List.length_append]
              omega
            have hE : bs2 ++ dclT c = bs ++ ((cs.take (i + 1)).map dclT).flatten := by rw [flat_at hc, hbs]; simp
            have HE := Lib.hid hE
            clear hc hbs hE
            obtain ⟨cn, cd⟩ := c
            simp only at k2 k3 k4 hnm
            have hsl : (strs cd).length = cd.length := by simp [strs]
            obtain ⟨L0, hL0⟩ : ∃ L, 114 :: 101 :: 108 :: 32 :: (cn ++ [40]) = L := ⟨_, rfl⟩
            have hL0l : L0.length ≤ 37 := by rw [← hL0]; simp only [List.length_cons, List.length_append, List.length_nil]; omega
            have hEq : dclT ⟨cn, cd⟩ = L0 ++ Lib.join cd [44, 32] ++ [41, 46, 10] := by rw [← hL0]; simp [dclT]
            have HEQ := Lib.hid hEq
            clear hEq
            (repeat' (first
              | with_reducible first | refine L_seq ?_ | refine L_blk ?_ | refine L_skip ?_ | refine L_endblk ?_ | refine L_ret ?_ | refine L_exit ?_ | refine X_code ?_ | refine X_back ?_ | refine X_blk ?_ | refine X_past (by decide) ?_ | refine L_back ?_
              | ((with_reducible refine Kof.use hK ?_); clear hK hE K E)
              | ((with_reducible refine Eof.use hE ?_); (try clear hK hE K E))
              | ((with_reducible refine Kof.use hKh ?_); clear hKh Kh)
              | ((with_reducible refine Kof.use hKb (P_next ?_)); clear hKb Kb)
              | with_reducible refine G_plan 7 [([0, 1, 2, 3, 4, 5, 6, 7, 8, 9, 10, 11, 12, 13, 14], 15, [[0, 1, 2, 3, 4, 5, 6, 7, 8]]), ([16, 17], 18, [[], []])] [19] hQe fun K E hK hE => ?_
              | ((with_reducible refine W_cond (fun h => ?_) (fun h => ?_)) <;> (try (exfalso; first | assumption | omega)))
              | ((with_reducible first | refine G_region fun K E hK hE => ?_ | refine call_ret can22 (Rspell11_S _ _ (by assumption) _) ?_ | refine call_ret can21 (RMay11_S _ (by assumption) _) ?_ | refine call_ret can23 (Rsigns_S _ (by first | assumption | omega) _) ?_ | refine call_ret can17 (Itoa_S _ (by first | assumption | omega) (by first | assumption | omega) _) ?_ | refine W_if ?_ | refine W_ifS ?_ | refine P_heads fun Kh hKh => ?_ | refine P_fin fun Kh hKh => ?_ | refine P_each fun Kb hKb => ?_ | refine W_and ?_) <;> (try simp (disch := first | assumption | omega) only [go_sem, seval, List.length_map, hsx, dclC, hL0, *]))
              | ((with_reducible refine W_fresh (fun b hb => ?_)); (repeat (obtain ⟨_, hb⟩ := hb)); (try simp (disch := first | assumption | omega) only [go_sem, seval, List.length_map, hsx, dclC, hL0, *]))
              | ((with_reducible refine W_app (fun o2 ho => ?_)); (try simp (disch := assumption) only [disown_set, disown_own, ownok_o, ownok_m, List.length_map, List.length_cons, List.length_nil, Nat.zero_add, List.length_map, hsx, dclC, hL0] at ho); (repeat (obtain ⟨_, ho⟩ := ho)); (try simp (disch := first | assumption | omega) only [go_sem, seval, List.length_map, hsx, dclC, hL0, *]))
              | ((with_reducible refine W_gd (fun h => ?_) (fun h => ?_)) <;> (try (exfalso; first | assumption | omega)) <;> (try simp (disch := first | assumption | omega) only [go_sem, seval, List.length_map, hsx, dclC, hL0, *]))))
            refine G_loop (fun m2 env t => ∃ (j : Nat) (tx : List UInt8), j ≤ cd.length ∧ m2 + j = cd.length ∧ tx = L0 ++ Lib.join (cd.take j) [44, 32] ∧ tx.length ≤ 37 + j * 34 ∧ t = B.own o 5 1 bs2.length ∧
              env 1 = .ptr bp 0 ∧ env 4 = .lst (bytesV bs2) o ∧ env 6 = .int .i64 i ∧ env 7 = .str tx ∧ env 8 = .int .i64 j) cd.length ?_ ?_
            · exact ⟨_, Fg.refl _, 0, L0, by omega, by omega, by rw [List.take_zero, Lib.join_nil, List.append_nil], by omega, rfl, by ((try simp (disch := first | assumption | omega) only [go_sem, seval, *]) <;> first | rfl | omega), by ((try simp (disch := first | assumption | omega) only [go_sem, seval, *]) <;> first | rfl | omega), by ((try simp (disch := first | assumption | omega) only [go_sem, seval, *]) <;> first | rfl | omega), by ((try simp (disch := first | assumption | omega) only [go_sem, seval, *]) <;> first | rfl | omega), by ((try simp (disch := first | assumption | omega) only [go_sem, seval, *]) <;> first | rfl | omega)⟩
            · clear e1 e4 e6 env hL0
              rintro m2 env t ⟨j, tx, hj, hm2, htx, htl, rfl, e1, e4, e6, e7, e8⟩
              have HT := Lib.hid htx
              clear htx
              by_cases hlt2 : j < cd.length
              · obtain ⟨c, hc⟩ := uget hlt2
                have hcl := hnm c (List.mem_of_getElem? hc)
                have hsy := strs_at hc
                have hM := moreT_join (p := L0) hc
                rw [← show tx = _ from HT] at hM
                have HM := Lib.hid hM
                have hlen : (moreT j tx c).length ≤ 37 + (j + 1) * 34 := by
                  unfold moreT; split <;> simp only [List.length_append, List.length_cons, List.length_nil] <;> omega
                have HL := Lib.hid hlen
                have htl2 : tx.length ≤ 400 := by
                  have : j * 34 ≤ 8 * 34 := Nat.mul_le_mul_right _ (by omega)
                  omega
                clear hc hM hlen htl
                rcases Nat.eq_zero_or_pos j with hi0 | hip
                · subst hi0
                  simp only [moreT, if_true] at HM HL
                  (repeat' (first
                    | with_reducible first | refine L_seq ?_ | refine L_blk ?_ | refine L_skip ?_ | refine L_endblk ?_ | refine L_ret ?_ | refine L_exit ?_ | refine X_code ?_ | refine X_back ?_ | refine X_blk ?_ | refine X_past (by decide) ?_ | refine L_back ?_
                    | ((with_reducible refine Kof.use hK ?_); clear hK hE K E)
                    | ((with_reducible refine Eof.use hE ?_); (try clear hK hE K E))
                    | ((with_reducible refine Kof.use hKh ?_); clear hKh Kh)
                    | ((with_reducible refine Kof.use hKb (P_next ?_)); clear hKb Kb)
                    | with_reducible refine G_plan 7 [([0, 1, 2, 3, 4, 5, 6, 7, 8, 9, 10, 11, 12, 13, 14], 15, [[0, 1, 2, 3, 4, 5, 6, 7, 8]]), ([16, 17], 18, [[], []])] [19] hQe fun K E hK hE => ?_
                    | ((with_reducible refine W_cond (fun h => ?_) (fun h => ?_)) <;> (try (exfalso; first | assumption | omega)))
                    | ((with_reducible first | refine G_region fun K E hK hE => ?_ | refine call_ret can22 (Rspell11_S _ _ (by assumption) _) ?_ | refine call_ret can21 (RMay11_S _ (by assumption) _) ?_ | refine call_ret can23 (Rsigns_S _ (by first | assumption | omega) _) ?_ | refine call_ret can17 (Itoa_S _ (by first | assumption | omega) (by first | assumption | omega) _) ?_ | refine W_if ?_ | refine W_ifS ?_ | refine P_heads fun Kh hKh => ?_ | refine P_fin fun Kh hKh => ?_ | refine P_each fun Kb hKb => ?_ | refine W_and ?_) <;> (try simp (disch := first | assumption | omega) only [go_sem, seval, List.length_map, hsx, dclC, hsy, hsl, *]))
                    | ((with_reducible refine W_fresh (fun b hb => ?_)); (repeat (obtain ⟨_, hb⟩ := hb)); (try simp (disch := first | assumption | omega) only [go_sem, seval, List.length_map, hsx, dclC, hsy, hsl, *]))
                    | ((with_reducible refine W_app (fun o2 ho => ?_)); (try simp (disch := assumption) only [disown_set, disown_own, ownok_o, ownok_m, List.length_map, List.length_cons, List.length_nil, Nat.zero_add, List.length_map, hsx, dclC, hsy, hsl] at ho); (repeat (obtain ⟨_, ho⟩ := ho)); (try simp (disch := first | assumption | omega) only [go_sem, seval, List.length_map, hsx, dclC, hsy, hsl, *]))
                    | ((with_reducible refine W_gd (fun h => ?_) (fun h => ?_)) <;> (try (exfalso; first | assumption | omega)) <;> (try simp (disch := first | assumption | omega) only [go_sem, seval, List.length_map, hsx, dclC, hsy, hsl, *]))))
                  exact ⟨_, Fg.refl _, m2 - 1, by omega, 0 + 1, _, by omega, by omega, HM.out, HL.out, rfl, by ((try simp (disch := first | assumption | omega) only [go_sem, seval, *]) <;> first | rfl | omega), by ((try simp (disch := first | assumption | omega) only [go_sem, seval, *]) <;> first | rfl | omega), by ((try simp (disch := first | assumption | omega) only [go_sem, seval, *]) <;> first | rfl | omega), by ((try simp (disch := first | assumption | omega) only [go_sem, seval, *]) <;> first | rfl | omega), by ((try simp (disch := first | assumption | omega) only [go_sem, seval, *]) <;> first | rfl | omega)⟩
                · have hi0 : ¬ j = 0 := by omega
                  simp only [moreT, if_neg hi0] at HM HL
                  have hip2 : (0 : Int) < (j : Int) := by omega
                  clear hi0 hip
                  (repeat' (first
                    | with_reducible first | refine L_seq ?_ | refine L_blk ?_ | refine L_skip ?_ | refine L_endblk ?_ | refine L_ret ?_ | refine L_exit ?_ | refine X_code ?_ | refine X_back ?_ | refine X_blk ?_ | refine X_past (by decide) ?_ | refine L_back ?_
                    | ((with_reducible refine Kof.use hK ?_); clear hK hE K E)
                    | ((with_reducible refine Eof.use hE ?_); (try clear hK hE K E))
                    | ((with_reducible refine Kof.use hKh ?_); clear hKh Kh)
                    | ((with_reducible refine Kof.use hKb (P_next ?_)); clear hKb Kb)
                    | with_reducible refine G_plan 7 [([0, 1, 2, 3, 4, 5, 6, 7, 8, 9, 10, 11, 12, 13, 14], 15, [[0, 1, 2, 3, 4, 5, 6, 7, 8]]), ([16, 17], 18, [[], []])] [19] hQe fun K E hK hE => ?_
                    | ((with_reducible refine W_cond (fun h => ?_) (fun h => ?_)) <;> (try (exfalso; first | assumption | omega)))
                    | ((with_reducible first | refine G_region fun K E hK hE => ?_ | refine call_ret can22 (Rspell11_S _ _ (by assumption) _) ?_ | refine call_ret can21 (RMay11_S _ (by assumption) _) ?_ | refine call_ret can23 (Rsigns_S _ (by first | assumption | omega) _) ?_ | refine call_ret can17 (Itoa_S _ (by first | assumption | omega) (by first | assumption | omega) _) ?_ | refine W_if ?_ | refine W_ifS ?_ | refine P_heads fun Kh hKh => ?_ | refine P_fin fun Kh hKh => ?_ | refine P_each fun Kb hKb => ?_ | refine W_and ?_) <;> (try simp (disch := first | assumption | omega) only [go_sem, seval, List.length_map, hsx, dclC, hsy, hsl, *]))
                    | ((with_reducible refine W_fresh (fun b hb => ?_)); (repeat (obtain ⟨_, hb⟩ := hb)); (try simp (disch := first | assumption | omega) only [go_sem, seval, List.length_map, hsx, dclC, hsy, hsl, *]))
                    | ((with_reducible refine W_app (fun o2 ho => ?_)); (try simp (disch := assumption) only [disown_set, disown_own, ownok_o, ownok_m, List.length_map, List.length_cons, List.length_nil, Nat.zero_add, List.length_map, hsx, dclC, hsy, hsl] at ho); (repeat (obtain ⟨_, ho⟩ := ho)); (try simp (disch := first | assumption | omega) only [go_sem, seval, List.length_map, hsx, dclC, hsy, hsl, *]))
                    | ((with_reducible refine W_gd (fun h => ?_) (fun h => ?_)) <;> (try (exfalso; first | assumption | omega)) <;> (try simp (disch := first | assumption | omega) only [go_sem, seval, List.length_map, hsx, dclC, hsy, hsl, *]))))
                  exact ⟨_, Fg.refl _, m2 - 1, by omega, j + 1, _, by omega, by omega, HM.out, HL.out, rfl, by ((try simp (disch := first | assumption | omega) only [go_sem, seval, *]) <;> first | rfl | omega), by ((try simp (disch := first | assumption | omega) only [go_sem, seval, *]) <;> first | rfl | omega), by ((try simp (disch := first | assumption | omega) only [go_sem, seval, *]) <;> first | rfl | omega), by ((try simp (disch := first | assumption | omega) only [go_sem, seval, *]) <;> first | rfl | omega), by ((try simp (disch := first | assumption | omega) only [go_sem, seval, *]) <;> first | rfl | omega)⟩
              · have hjL : j = cd.length := by omega
                have htl2 : tx.length ≤ 400 := by
                  have : j * 34 ≤ 8 * 34 := Nat.mul_le_mul_right _ (by omega)
                  omega
                have hX : tx ++ [41, 46, 10] = dclT ⟨cn, cd⟩ := by rw [HEQ.out, show tx = _ from HT, hjL, List.take_length]
                obtain ⟨L, hL⟩ : ∃ L, tx ++ [41, 46, 10] = L := ⟨_, rfl⟩
                rw [hL] at hX
                rw [← hX] at HE k1
                have yL := bytesU_one L
                clear hX htl
                (repeat' (first
                  | with_reducible first | refine L_seq ?_ | refine L_blk ?_ | refine L_skip ?_ | refine L_endblk ?_ | refine L_ret ?_ | refine L_exit ?_ | refine X_code ?_ | refine X_back ?_ | refine X_blk ?_ | refine X_past (by decide) ?_ | refine L_back ?_
                  | ((with_reducible refine Kof.use hK ?_); clear hK hE K E)
                  | ((with_reducible refine Eof.use hE ?_); (try clear hK hE K E))
                  | ((with_reducible refine Kof.use hKh ?_); clear hKh Kh)
                  | ((with_reducible refine Kof.use hKb (P_next ?_)); clear hKb Kb)
                  | with_reducible refine G_plan 7 [([0, 1, 2, 3, 4, 5, 6, 7, 8, 9, 10, 11, 12, 13, 14], 15, [[0, 1, 2, 3, 4, 5, 6, 7, 8]]), ([16, 17], 18, [[], []])] [19] hQe fun K E hK hE => ?_
                  | ((with_reducible refine W_cond (fun h => ?_) (fun h => ?_)) <;> (try (exfalso; first | assumption | omega)))
                  | ((with_reducible first | refine G_region fun K E hK hE => ?_ | refine call_ret can22 (Rspell11_S _ _ (by assumption) _) ?_ | refine call_ret can21 (RMay11_S _ (by assumption) _) ?_ | refine call_ret can23 (Rsigns_S _ (by first | assumption | omega) _) ?_ | refine call_ret can17 (Itoa_S _ (by first | assumption | omega) (by first | assumption | omega) _) ?_ | refine W_if ?_ | refine W_ifS ?_ | refine P_heads fun Kh hKh => ?_ | refine P_fin fun Kh hKh => ?_ | refine P_each fun Kb hKb => ?_ | refine W_and ?_) <;> (try simp (disch := first | assumption | omega) only [go_sem, seval, List.length_map, hsx, dclC, hL, hsl, *]))
                  | ((with_reducible refine W_fresh (fun b hb => ?_)); (repeat (obtain ⟨_, hb⟩ := hb)); (try simp (disch := first | assumption | omega) only [go_sem, seval, List.length_map, hsx, dclC, hL, hsl, *]))
                  | ((with_reducible refine W_app (fun o2 ho => ?_)); (try simp (disch := assumption) only [disown_set, disown_own, ownok_o, ownok_m, List.length_map, List.length_cons, List.length_nil, Nat.zero_add, List.length_map, hsx, dclC, hL, hsl] at ho); (repeat (obtain ⟨_, ho⟩ := ho)); (try simp (disch := first | assumption | omega) only [go_sem, seval, List.length_map, hsx, dclC, hL, hsl, *]))
                  | ((with_reducible refine W_gd (fun h => ?_) (fun h => ?_)) <;> (try (exfalso; first | assumption | omega)) <;> (try simp (disch := first | assumption | omega) only [go_sem, seval, List.length_map, hsx, dclC, hL, hsl, *]))))
                all_goals exact ⟨_, (by ((try dsimp only); (repeat (first | exact Fg.refl _ | exact Fg.own (by assumption) | (refine Fg.set ?_ _ _) | (refine Fg.setA ?_ (by first | assumption | (simp (disch := assumption) only [own_rd, St.set, if_false, if_true, *]; done))) )); done) : Fg _ (B.own o2 5 1 _)), m - 1, by omega, i + 1, o2, _, by omega, by omega, HE.out, by simp only [List.length_append], by simpa only [List.length_append, bytesU_len] using ho, OwnOk.not (by assumption) hbf, by ((try simp (disch := first | assumption | omega) only [go_sem, seval, *]) <;> first | rfl | omega), by ((try simp (disch := first | assumption | omega) only [go_sem, seval, *]) <;> first | rfl | omega), by ((try simp (disch := first | assumption | omega) only [go_sem, seval, *]) <;> first | rfl | omega)⟩
          · have hiL : i = cs.length := by omega
            rw [hiL, List.take_length] at hbs
            have hbl2 : bs2.length ≤ 16000 := by
              have := flat_le (f := dclT) (m := 400) (l := cs) fun y hy => (dcl_small (g2 y hy)).1
              have h2 : cs.length * 400 ≤ 32 * 400 := Nat.mul_le_mul_right _ g5
              rw [hbs, List.length_append]
              omega
            have HB2 := Lib.hid hbs
            clear hbs
            (repeat' (first
              | with_reducible first | refine L_seq ?_ | refine L_blk ?_ | refine L_skip ?_ | refine L_endblk ?_ | refine L_ret ?_ | refine L_exit ?_ | refine X_code ?_ | refine X_back ?_ | refine X_blk ?_ | refine X_past (by decide) ?_ | refine L_back ?_
              | ((with_reducible refine Kof.use hK ?_); clear hK hE K E)
              | ((with_reducible refine Eof.use hE ?_); (try clear hK hE K E))
              | ((with_reducible refine Kof.use hKh ?_); clear hKh Kh)
              | ((with_reducible refine Kof.use hKb (P_next ?_)); clear hKb Kb)
              | with_reducible refine G_plan 7 [([0, 1, 2, 3, 4, 5, 6, 7, 8, 9, 10, 11, 12, 13, 14], 15, [[0, 1, 2, 3, 4, 5, 6, 7, 8]]), ([16, 17], 18, [[], []])] [19] hQe fun K E hK hE => ?_
              | ((with_reducible refine W_cond (fun h => ?_) (fun h => ?_)) <;> (try (exfalso; first | assumption | omega)))
              | ((with_reducible first | refine G_region fun K E hK hE => ?_ | refine call_ret can22 (Rspell11_S _ _ (by assumption) _) ?_ | refine call_ret can21 (RMay11_S _ (by assumption) _) ?_ | refine call_ret can23 (Rsigns_S _ (by first | assumption | omega) _) ?_ | refine call_ret can17 (Itoa_S _ (by first | assumption | omega) (by first | assumption | omega) _) ?_ | refine W_if ?_ | refine W_ifS ?_ | refine P_heads fun Kh hKh => ?_ | refine P_fin fun Kh hKh => ?_ | refine P_each fun Kb hKb => ?_ | refine W_and ?_) <;> (try simp (disch := first | assumption | omega) only [go_sem, seval, List.length_map, *]))
              | ((with_reducible refine W_fresh (fun b hb => ?_)); (repeat (obtain ⟨_, hb⟩ := hb)); (try simp (disch := first | assumption | omega) only [go_sem, seval, List.length_map, *]))
              | ((with_reducible refine W_app (fun o2 ho => ?_)); (try simp (disch := assumption) only [disown_set, disown_own, ownok_o, ownok_m, List.length_map, List.length_cons, List.length_nil, Nat.zero_add, List.length_map] at ho); (repeat (obtain ⟨_, ho⟩ := ho)); (try simp (disch := first | assumption | omega) only [go_sem, seval, List.length_map, *]))
              | ((with_reducible refine W_gd (fun h => ?_) (fun h => ?_)) <;> (try (exfalso; first | assumption | omega)) <;> (try simp (disch := first | assumption | omega) only [go_sem, seval, List.length_map, *]))))
            clear e6 hlt hiL hi hm h
            refine G_loop (fun m env t => ∃ (i : Nat) (o : Own) (bs3 : List UInt8), i ≤ rs.length ∧ m + i = rs.length ∧ bs3 = bs2 ++ ((rs.take i).map rulT).flatten ∧ t = B.own o 5 1 bs3.length ∧ OwnOk B o bs3.length ∧ NotOwn o bp ∧
              env 1 = .ptr bp 0 ∧ env 4 = .lst (bytesV bs3) o ∧ env 9 = .int .i64 i) rs.length ?_ ?_
            · exact ⟨_, Fg.refl _, 0, o, bs2, by omega, by omega, by simp, rfl, hO, hno, by ((try simp (disch := first | assumption | omega) only [go_sem, seval, *]) <;> first | rfl | omega), by ((try simp (disch := first | assumption | omega) only [go_sem, seval, *]) <;> first | rfl | omega), by ((try simp (disch := first | assumption | omega) only [go_sem, seval, *]) <;> first | rfl | omega)⟩
            · clear e1 e4 hO hno env o m
              rintro m env t ⟨i, o, bs3, hi, hm, hbs, rfl, hO, hno, e1, e4, e9⟩
              by_cases hlt : i < rs.length
              · obtain ⟨c, hc⟩ := uget hlt
                obtain ⟨k1, k2, k3, k4, k5, k6⟩ := rul_small (g3 c (List.mem_of_getElem? hc))
                have k7 : ∀ a, a ∈ c.body → (atmT a).length ≤ 400 := by
                  have h := g3 c (List.mem_of_getElem? hc)
                  simp only [rulB, Bool.and_eq_true, List.all_eq_true] at h
                  exact fun a ha => (atm_small (h.2 a ha)).2
                have hsx := rulC_at hc
                have hbl3 : bs3.length ≤ 300000 := by
                  have := flat_le (f := rulT) (m := 4000) (l := rs.take i) fun y hy => (rul_small (g3 y (List.mem_of_mem_take hy))).1
                  have h2 : min i rs.length * 4000 ≤ 64 * 4000 := Nat.mul_le_mul_right _ (by omega)
                  rw [List.length_take] at this
                  rw [hbs, List.length_append]
                  omega
                have hE : bs3 ++ rulT c = bs2 ++ ((rs.take (i + 1)).map rulT).flatten := by rw [flat_at hc, hbs]; simp
                have HE := Lib.hid hE
                clear hc hbs hE
                obtain ⟨⟨hn, hr, ht⟩, cb⟩ := c
                simp only at k2 k3 k4 k5 k6 k7
                have hsp := fun o0 s => Rspell11_S ⟨hn, hr, ht⟩ o0 k2 s
                simp only at hsp
                have hRB := rulT_bod ⟨⟨hn, hr, ht⟩, cb⟩
                simp only at hRB
                generalize hT : atmT ⟨hn, hr, ht⟩ = T at *
                have HRB := Lib.hid hRB
                clear hRB hT
                (repeat' (first
                  | with_reducible first | refine L_seq ?_ | refine L_blk ?_ | refine L_skip ?_ | refine L_endblk ?_ | refine L_ret ?_ | refine L_exit ?_ | refine X_code ?_ | refine X_back ?_ | refine X_blk ?_ | refine X_past (by decide) ?_ | refine L_back ?_
                  | ((with_reducible refine Kof.use hK ?_); clear hK hE K E)
                  | ((with_reducible refine Eof.use hE ?_); (try clear hK hE K E))
                  | ((with_reducible refine Kof.use hKh ?_); clear hKh Kh)
                  | ((with_reducible refine Kof.use hKb (P_next ?_)); clear hKb Kb)
                  | with_reducible refine G_plan 7 [([0, 1, 2, 3, 4, 5, 6, 7, 8, 9, 10, 11, 12, 13, 14], 15, [[0, 1, 2, 3, 4, 5, 6, 7, 8]]), ([16, 17], 18, [[], []])] [19] hQe fun K E hK hE => ?_
                  | ((with_reducible refine W_cond (fun h => ?_) (fun h => ?_)) <;> (try (exfalso; first | assumption | omega)))
                  | ((with_reducible first | refine G_region fun K E hK hE => ?_ | refine call_ret can22 (hsp _ _) ?_ | refine call_ret can22 (Rspell11_S _ _ (by assumption) _) ?_ | refine call_ret can21 (RMay11_S _ (by assumption) _) ?_ | refine call_ret can23 (Rsigns_S _ (by first | assumption | omega) _) ?_ | refine call_ret can17 (Itoa_S _ (by first | assumption | omega) (by first | assumption | omega) _) ?_ | refine W_if ?_ | refine W_ifS ?_ | refine P_heads fun Kh hKh => ?_ | refine P_fin fun Kh hKh => ?_ | refine P_each fun Kb hKb => ?_ | refine W_and ?_) <;> (try simp (disch := first | assumption | omega) only [go_sem, seval, List.length_map, hsx, rulC, *]))
                  | ((with_reducible refine W_fresh (fun b hb => ?_)); (repeat (obtain ⟨_, hb⟩ := hb)); (try simp (disch := first | assumption | omega) only [go_sem, seval, List.length_map, hsx, rulC, *]))
                  | ((with_reducible refine W_app (fun o2 ho => ?_)); (try simp (disch := assumption) only [disown_set, disown_own, ownok_o, ownok_m, List.length_map, List.length_cons, List.length_nil, Nat.zero_add, List.length_map, hsx, rulC] at ho); (repeat (obtain ⟨_, ho⟩ := ho)); (try simp (disch := first | assumption | omega) only [go_sem, seval, List.length_map, hsx, rulC, *]))
                  | ((with_reducible refine W_gd (fun h => ?_) (fun h => ?_)) <;> (try (exfalso; first | assumption | omega)) <;> (try simp (disch := first | assumption | omega) only [go_sem, seval, List.length_map, hsx, rulC, *]))))
                clear hsp
                refine G_loop (fun m2 env t => ∃ (j : Nat) (tx : List UInt8), j ≤ cb.length ∧ m2 + j = cb.length ∧ tx = T ++ bodT (cb.take j) ∧ t = B.own o 5 1 bs3.length ∧
                  env 1 = .ptr bp 0 ∧ env 4 = .lst (bytesV bs3) o ∧ env 9 = .int .i64 i ∧ env 10 = .str tx ∧ env 11 = .int .i64 j) cb.length ?_ ?_
                · exact ⟨_, Fg.refl _, 0, T, by omega, by omega, by simp [bodT], rfl, by ((try simp (disch := first | assumption | omega) only [go_sem, seval, *]) <;> first | rfl | omega), by ((try simp (disch := first | assumption | omega) only [go_sem, seval, *]) <;> first | rfl | omega), by ((try simp (disch := first | assumption | omega) only [go_sem, seval, *]) <;> first | rfl | omega), by ((try simp (disch := first | assumption | omega) only [go_sem, seval, *]) <;> first | rfl | omega), by ((try simp (disch := first | assumption | omega) only [go_sem, seval, *]) <;> first | rfl | omega)⟩
                · clear e1 e4 e9 env
                  rintro m2 env t ⟨j, tx, hj, hm2, htx, rfl, e1, e4, e9, e10, e11⟩
                  have htl : tx.length ≤ 4000 := by
                    have := bodT_len (l := cb.take j) (fun a ha => k7 a (List.mem_of_mem_take ha)) (by rw [List.length_take]; omega)
                    rw [htx, List.length_append]
                    omega
                  have HT := Lib.hid htx
                  clear htx
                  by_cases hlt2 : j < cb.length
                  · obtain ⟨c, hc⟩ := uget hlt2
                    have hcl := k7 c (List.mem_of_getElem? hc)
                    have hcs := k5 c (List.mem_of_getElem? hc)
                    have hsy := atmC_at hc
                    have hM := moreB_bod (p := T) hc
                    rw [← show tx = _ from HT] at hM
                    have HM := Lib.hid hM
                    clear hc hM
                    obtain ⟨an, ar, at_⟩ := c
                    have hsp := fun o0 s => Rspell11_S ⟨an, ar, at_⟩ o0 hcs s
                    simp only at hsp
                    generalize atmT ⟨an, ar, at_⟩ = T2 at *
                    rcases Nat.eq_zero_or_pos j with hi0 | hip
                    · subst hi0
                      simp only [moreB, if_true] at HM
                      (repeat' (first
                        | with_reducible first | refine L_seq ?_ | refine L_blk ?_ | refine L_skip ?_ | refine L_endblk ?_ | refine L_ret ?_ | refine L_exit ?_ | refine X_code ?_ | refine X_back ?_ | refine X_blk ?_ | refine X_past (by decide) ?_ | refine L_back ?_
                        | ((with_reducible refine Kof.use hK ?_); clear hK hE K E)
                        | ((with_reducible refine Eof.use hE ?_); (try clear hK hE K E))
                        | ((with_reducible refine Kof.use hKh ?_); clear hKh Kh)
                        | ((with_reducible refine Kof.use hKb (P_next ?_)); clear hKb Kb)
                        | with_reducible refine G_plan 7 [([0, 1, 2, 3, 4, 5, 6, 7, 8, 9, 10, 11, 12, 13, 14], 15, [[0, 1, 2, 3, 4, 5, 6, 7, 8]]), ([16, 17], 18, [[], []])] [19] hQe fun K E hK hE => ?_
                        | ((with_reducible refine W_cond (fun h => ?_) (fun h => ?_)) <;> (try (exfalso; first | assumption | omega)))
                        | ((with_reducible first | refine G_region fun K E hK hE => ?_ | refine call_ret can22 (hsp _ _) ?_ | refine call_ret can22 (Rspell11_S _ _ (by assumption) _) ?_ | refine call_ret can21 (RMay11_S _ (by assumption) _) ?_ | refine call_ret can23 (Rsigns_S _ (by first | assumption | omega) _) ?_ | refine call_ret can17 (Itoa_S _ (by first | assumption | omega) (by first | assumption | omega) _) ?_ | refine W_if ?_ | refine W_ifS ?_ | refine P_heads fun Kh hKh => ?_ | refine P_fin fun Kh hKh => ?_ | refine P_each fun Kb hKb => ?_ | refine W_and ?_) <;> (try simp (disch := first | assumption | omega) only [go_sem, seval, List.length_map, hsx, rulC, hsy, atmC, *]))
                        | ((with_reducible refine W_fresh (fun b hb => ?_)); (repeat (obtain ⟨_, hb⟩ := hb)); (try simp (disch := first | assumption | omega) only [go_sem, seval, List.length_map, hsx, rulC, hsy, atmC, *]))
                        | ((with_reducible refine W_app (fun o2 ho => ?_)); (try simp (disch := assumption) only [disown_set, disown_own, ownok_o, ownok_m, List.length_map, List.length_cons, List.length_nil, Nat.zero_add, List.length_map, hsx, rulC, hsy, atmC] at ho); (repeat (obtain ⟨_, ho⟩ := ho)); (try simp (disch := first | assumption | omega) only [go_sem, seval, List.length_map, hsx, rulC, hsy, atmC, *]))
                        | ((with_reducible refine W_gd (fun h => ?_) (fun h => ?_)) <;> (try (exfalso; first | assumption | omega)) <;> (try simp (disch := first | assumption | omega) only [go_sem, seval, List.length_map, hsx, rulC, hsy, atmC, *]))))
                      exact ⟨_, Fg.refl _, m2 - 1, by omega, 0 + 1, _, by omega, by omega, HM.out, rfl, by ((try simp (disch := first | assumption | omega) only [go_sem, seval, *]) <;> first | rfl | omega), by ((try simp (disch := first | assumption | omega) only [go_sem, seval, *]) <;> first | rfl | omega), by ((try simp (disch := first | assumption | omega) only [go_sem, seval, *]) <;> first | rfl | omega), by ((try simp (disch := first | assumption | omega) only [go_sem, seval, *]) <;> first | rfl | omega), by ((try simp (disch := first | assumption | omega) only [go_sem, seval, *]) <;> first | rfl | omega)⟩
                    · have hi0 : ¬ j = 0 := by omega
                      simp only [moreB, if_neg hi0] at HM
                      have hip2 : (0 : Int) < (j : Int) := by omega
                      clear hi0 hip
                      (repeat' (first
                        | with_reducible first | refine L_seq ?_ | refine L_blk ?_ | refine L_skip ?_ | refine L_endblk ?_ | refine L_ret ?_ | refine L_exit ?_ | refine X_code ?_ | refine X_back ?_ | refine X_blk ?_ | refine X_past (by decide) ?_ | refine L_back ?_
                        | ((with_reducible refine Kof.use hK ?_); clear hK hE K E)
                        | ((with_reducible refine Eof.use hE ?_); (try clear hK hE K E))
                        | ((with_reducible refine Kof.use hKh ?_); clear hKh Kh)
                        | ((with_reducible refine Kof.use hKb (P_next ?_)); clear hKb Kb)
                        | with_reducible refine G_plan 7 [([0, 1, 2, 3, 4, 5, 6, 7, 8, 9, 10, 11, 12, 13, 14], 15, [[0, 1, 2, 3, 4, 5, 6, 7, 8]]), ([16, 17], 18, [[], []])] [19] hQe fun K E hK hE => ?_
                        | ((with_reducible refine W_cond (fun h => ?_) (fun h => ?_)) <;> (try (exfalso; first | assumption | omega)))
                        | ((with_reducible first | refine G_region fun K E hK hE => ?_ | refine call_ret can22 (hsp _ _) ?_ | refine call_ret can22 (Rspell11_S _ _ (by assumption) _) ?_ | refine call_ret can21 (RMay11_S _ (by assumption) _) ?_ | refine call_ret can23 (Rsigns_S _ (by first | assumption | omega) _) ?_ | refine call_ret can17 (Itoa_S _ (by first | assumption | omega) (by first | assumption | omega) _) ?_ | refine W_if ?_ | refine W_ifS ?_ | refine P_heads fun Kh hKh => ?_ | refine P_fin fun Kh hKh => ?_ | refine P_each fun Kb hKb => ?_ | refine W_and ?_) <;> (try simp (disch := first | assumption | omega) only [go_sem, seval, List.length_map, hsx, rulC, hsy, atmC, *]))
                        | ((with_reducible refine W_fresh (fun b hb => ?_)); (repeat (obtain ⟨_, hb⟩ := hb)); (try simp (disch := first | assumption | omega) only [go_sem, seval, List.length_map, hsx, rulC, hsy, atmC, *]))
                        | ((with_reducible refine W_app (fun o2 ho => ?_)); (try simp (disch := assumption) only [disown_set, disown_own, ownok_o, ownok_m, List.length_map, List.length_cons, List.length_nil, Nat.zero_add, List.length_map, hsx, rulC, hsy, atmC] at ho); (repeat (obtain ⟨_, ho⟩ := ho)); (try simp (disch := first | assumption | omega) only [go_sem, seval, List.length_map, hsx, rulC, hsy, atmC, *]))
                        | ((with_reducible refine W_gd (fun h => ?_) (fun h => ?_)) <;> (try (exfalso; first | assumption | omega)) <;> (try simp (disch := first | assumption | omega) only [go_sem, seval, List.length_map, hsx, rulC, hsy, atmC, *]))))
                      exact ⟨_, Fg.refl _, m2 - 1, by omega, j + 1, _, by omega, by omega, HM.out, rfl, by ((try simp (disch := first | assumption | omega) only [go_sem, seval, *]) <;> first | rfl | omega), by ((try simp (disch := first | assumption | omega) only [go_sem, seval, *]) <;> first | rfl | omega), by ((try simp (disch := first | assumption | omega) only [go_sem, seval, *]) <;> first | rfl | omega), by ((try simp (disch := first | assumption | omega) only [go_sem, seval, *]) <;> first | rfl | omega), by ((try simp (disch := first | assumption | omega) only [go_sem, seval, *]) <;> first | rfl | omega)⟩
                  · have hjL : j = cb.length := by omega
                    have hX : tx ++ [46, 10] = rulT ⟨⟨hn, hr, ht⟩, cb⟩ := by rw [HRB.out, show tx = _ from HT, hjL, List.take_length]
                    obtain ⟨L, hL⟩ : ∃ L, tx ++ [46, 10] = L := ⟨_, rfl⟩
                    rw [hL] at hX
                    rw [← hX] at HE k1
                    have yL := bytesU_one L
                    clear hX
                    (repeat' (first
                      | with_reducible first | refine L_seq ?_ | refine L_blk ?_ | refine L_skip ?_ | refine L_endblk ?_ | refine L_ret ?_ | refine L_exit ?_ | refine X_code ?_ | refine X_back ?_ | refine X_blk ?_ | refine X_past (by decide) ?_ | refine L_back ?_
                      | ((with_reducible refine Kof.use hK ?_); clear hK hE K E)
                      | ((with_reducible refine Eof.use hE ?_); (try clear hK hE K E))
                      | ((with_reducible refine Kof.use hKh ?_); clear hKh Kh)
                      | ((with_reducible refine Kof.use hKb (P_next ?_)); clear hKb Kb)
                      | with_reducible refine G_plan 7 [([0, 1, 2, 3, 4, 5, 6, 7, 8, 9, 10, 11, 12, 13, 14], 15, [[0, 1, 2, 3, 4, 5, 6, 7, 8]]), ([16, 17], 18, [[], []])] [19] hQe fun K E hK hE => ?_
                      | ((with_reducible refine W_cond (fun h => ?_) (fun h => ?_)) <;> (try (exfalso; first | assumption | omega)))
                      | ((with_reducible first | refine G_region fun K E hK hE => ?_ | refine call_ret can22 (Rspell11_S _ _ (by assumption) _) ?_ | refine call_ret can21 (RMay11_S _ (by assumption) _) ?_ | refine call_ret can23 (Rsigns_S _ (by first | assumption | omega) _) ?_ | refine call_ret can17 (Itoa_S _ (by first | assumption | omega) (by first | assumption | omega) _) ?_ | refine W_if ?_ | refine W_ifS ?_ | refine P_heads fun Kh hKh => ?_ | refine P_fin fun Kh hKh => ?_ | refine P_each fun Kb hKb => ?_ | refine W_and ?_) <;> (try simp (disch := first | assumption | omega) only [go_sem, seval, List.length_map, hsx, rulC, hL, *]))
                      | ((with_reducible refine W_fresh (fun b hb => ?_)); (repeat (obtain ⟨_, hb⟩ := hb)); (try simp (disch := first | assumption | omega) only [go_sem, seval, List.length_map, hsx, rulC, hL, *]))
                      | ((with_reducible refine W_app (fun o2 ho => ?_)); (try simp (disch := assumption) only [disown_set, disown_own, ownok_o, ownok_m, List.length_map, List.length_cons, List.length_nil, Nat.zero_add, List.length_map, hsx, rulC, hL] at ho); (repeat (obtain ⟨_, ho⟩ := ho)); (try simp (disch := first | assumption | omega) only [go_sem, seval, List.length_map, hsx, rulC, hL, *]))
                      | ((with_reducible refine W_gd (fun h => ?_) (fun h => ?_)) <;> (try (exfalso; first | assumption | omega)) <;> (try simp (disch := first | assumption | omega) only [go_sem, seval, List.length_map, hsx, rulC, hL, *]))))
                    all_goals exact ⟨_, (by ((try dsimp only); (repeat (first | exact Fg.refl _ | exact Fg.own (by assumption) | (refine Fg.set ?_ _ _) | (refine Fg.setA ?_ (by first | assumption | (simp (disch := assumption) only [own_rd, St.set, if_false, if_true, *]; done))) )); done) : Fg _ (B.own o2 5 1 _)), m - 1, by omega, i + 1, o2, _, by omega, by omega, HE.out, by simp only [List.length_append], by simpa only [List.length_append, bytesU_len] using ho, OwnOk.not (by assumption) hbf, by ((try simp (disch := first | assumption | omega) only [go_sem, seval, *]) <;> first | rfl | omega), by ((try simp (disch := first | assumption | omega) only [go_sem, seval, *]) <;> first | rfl | omega), by ((try simp (disch := first | assumption | omega) only [go_sem, seval, *]) <;> first | rfl | omega)⟩
              · have hiL : i = rs.length := by omega
                rw [hiL, List.take_length] at hbs
                have hpt : bs3 = pgmT ⟨ds, cs, rs⟩ := by rw [hbs, HB2.out, HB1.out]; simp [pgmT]
                have hbl3 : bs3.length ≤ 9223372036854775000 := by
                  have := flat_le (f := rulT) (m := 4000) (l := rs) fun y hy => (rul_small (g3 y hy)).1
                  have h2 : rs.length * 4000 ≤ 64 * 4000 := Nat.mul_le_mul_right _ g6
                  rw [hbs, List.length_append]
                  omega
                have hsg := fun s => Rsigns_S bs3 hbl3 s
                have HPT := Lib.hid hpt
                have hFf : Fg (B.own o 5 1 bs3.length) s := (Fg.own hO).trans HF.out
                clear hbs hpt
                by_cases hbig : 16384 < bs3.length
                · have hL : lexSigns bs3 = .error (0, 1) := by unfold lexSigns; rw [if_pos hbig]
                  have HLL := Lib.hid hL
                  have hbig2 : (16384 : Int) < (bs3.length : Int) := by omega
                  clear hL hbig hsg
                  (repeat' (first
                    | with_reducible first | refine L_seq ?_ | refine L_blk ?_ | refine L_skip ?_ | refine L_endblk ?_ | refine L_ret ?_ | refine L_exit ?_ | refine X_code ?_ | refine X_back ?_ | refine X_blk ?_ | refine X_past (by decide) ?_ | refine L_back ?_
                    | ((with_reducible refine Kof.use hK ?_); clear hK hE K E)
                    | ((with_reducible refine Eof.use hE ?_); (try clear hK hE K E))
                    | ((with_reducible refine Kof.use hKh ?_); clear hKh Kh)
                    | ((with_reducible refine Kof.use hKb (P_next ?_)); clear hKb Kb)
                    | with_reducible refine G_plan 7 [([0, 1, 2, 3, 4, 5, 6, 7, 8, 9, 10, 11, 12, 13, 14], 15, [[0, 1, 2, 3, 4, 5, 6, 7, 8]]), ([16, 17], 18, [[], []])] [19] hQe fun K E hK hE => ?_
                    | ((with_reducible refine W_cond (fun h => ?_) (fun h => ?_)) <;> (try (exfalso; first | assumption | omega)))
                    | ((with_reducible first | refine G_region fun K E hK hE => ?_ | refine call_ret can22 (Rspell11_S _ _ (by assumption) _) ?_ | refine call_ret can21 (RMay11_S _ (by assumption) _) ?_ | refine call_ret can23 (Rsigns_S _ (by first | assumption | omega) _) ?_ | refine call_ret can17 (Itoa_S _ (by first | assumption | omega) (by first | assumption | omega) _) ?_ | refine W_if ?_ | refine W_ifS ?_ | refine P_heads fun Kh hKh => ?_ | refine P_fin fun Kh hKh => ?_ | refine P_each fun Kb hKb => ?_ | refine W_and ?_) <;> (try simp (disch := first | assumption | omega) only [go_sem, seval, List.length_map, *]))
                    | ((with_reducible refine W_fresh (fun b hb => ?_)); (repeat (obtain ⟨_, hb⟩ := hb)); (try simp (disch := first | assumption | omega) only [go_sem, seval, List.length_map, *]))
                    | ((with_reducible refine W_app (fun o2 ho => ?_)); (try simp (disch := assumption) only [disown_set, disown_own, ownok_o, ownok_m, List.length_map, List.length_cons, List.length_nil, Nat.zero_add, List.length_map] at ho); (repeat (obtain ⟨_, ho⟩ := ho)); (try simp (disch := first | assumption | omega) only [go_sem, seval, List.length_map, *]))
                    | ((with_reducible refine W_gd (fun h => ?_) (fun h => ?_)) <;> (try (exfalso; first | assumption | omega)) <;> (try simp (disch := first | assumption | omega) only [go_sem, seval, List.length_map, *]))))
                  all_goals (first | refine G_ret hQ (by simp (disch := first | assumption | omega) only [res10, go_sem, seval, *] <;> rfl) ?_ | refine G_norm hQ (by simp (disch := first | assumption | omega) only [res10, go_sem, seval, *] <;> rfl) ?_ | refine G_pan hQ ?_)
                  all_goals (refine ⟨_, _, Wk.of_eq ?_, ?_, rfl, rfl⟩)
                  · simp only [printU, hB, if_true]
                    rw [← show bs3 = _ from HPT, HLL.out]
                  · exact hFf
                · have hbig2 : ¬ (16384 : Int) < (bs3.length : Int) := by omega
                  cases hL : lexSigns bs3 with
                  | error q =>
                    obtain ⟨a, e⟩ := q
                    have he := lexSigns_errU hL
                    have he' : ¬ (e : Int) = 0 := by omega
                    have HLL := Lib.hid hL
                    rw [hL] at hsg
                    simp only [signsV] at hsg
                    clear hL hbig
                    (repeat' (first
                      | with_reducible first | refine L_seq ?_ | refine L_blk ?_ | refine L_skip ?_ | refine L_endblk ?_ | refine L_ret ?_ | refine L_exit ?_ | refine X_code ?_ | refine X_back ?_ | refine X_blk ?_ | refine X_past (by decide) ?_ | refine L_back ?_
                      | ((with_reducible refine Kof.use hK ?_); clear hK hE K E)
                      | ((with_reducible refine Eof.use hE ?_); (try clear hK hE K E))
                      | ((with_reducible refine Kof.use hKh ?_); clear hKh Kh)
                      | ((with_reducible refine Kof.use hKb (P_next ?_)); clear hKb Kb)
                      | with_reducible refine G_plan 7 [([0, 1, 2, 3, 4, 5, 6, 7, 8, 9, 10, 11, 12, 13, 14], 15, [[0, 1, 2, 3, 4, 5, 6, 7, 8]]), ([16, 17], 18, [[], []])] [19] hQe fun K E hK hE => ?_
                      | ((with_reducible refine W_cond (fun h => ?_) (fun h => ?_)) <;> (try (exfalso; first | assumption | omega)))
                      | ((with_reducible first | refine G_region fun K E hK hE => ?_ | refine call_ret can23 (hsg _) ?_ | refine call_ret can22 (Rspell11_S _ _ (by assumption) _) ?_ | refine call_ret can21 (RMay11_S _ (by assumption) _) ?_ | refine call_ret can23 (Rsigns_S _ (by first | assumption | omega) _) ?_ | refine call_ret can17 (Itoa_S _ (by first | assumption | omega) (by first | assumption | omega) _) ?_ | refine W_if ?_ | refine W_ifS ?_ | refine P_heads fun Kh hKh => ?_ | refine P_fin fun Kh hKh => ?_ | refine P_each fun Kb hKb => ?_ | refine W_and ?_) <;> (try simp (disch := first | assumption | omega) only [go_sem, seval, List.length_map, *]))
                      | ((with_reducible refine W_fresh (fun b hb => ?_)); (repeat (obtain ⟨_, hb⟩ := hb)); (try simp (disch := first | assumption | omega) only [go_sem, seval, List.length_map, *]))
                      | ((with_reducible refine W_app (fun o2 ho => ?_)); (try simp (disch := assumption) only [disown_set, disown_own, ownok_o, ownok_m, List.length_map, List.length_cons, List.length_nil, Nat.zero_add, List.length_map] at ho); (repeat (obtain ⟨_, ho⟩ := ho)); (try simp (disch := first | assumption | omega) only [go_sem, seval, List.length_map, *]))
                      | ((with_reducible refine W_gd (fun h => ?_) (fun h => ?_)) <;> (try (exfalso; first | assumption | omega)) <;> (try simp (disch := first | assumption | omega) only [go_sem, seval, List.length_map, *]))))
                    all_goals (first | refine G_ret hQ (by simp (disch := first | assumption | omega) only [res10, go_sem, seval, *] <;> rfl) ?_ | refine G_norm hQ (by simp (disch := first | assumption | omega) only [res10, go_sem, seval, *] <;> rfl) ?_ | refine G_pan hQ ?_)
                    all_goals (refine ⟨_, _, Wk.of_eq ?_, ?_, rfl, rfl⟩)
                    · simp only [printU, hB, if_true]
                      rw [← show bs3 = _ from HPT, HLL.out]
                    · exact hFf
                  | ok L =>
                    have HLL := Lib.hid hL
                    rw [hL] at hsg
                    simp only [signsV] at hsg
                    clear hL hbig
                    (repeat' (first
                      | with_reducible first | refine L_seq ?_ | refine L_blk ?_ | refine L_skip ?_ | refine L_endblk ?_ | refine L_ret ?_ | refine L_exit ?_ | refine X_code ?_ | refine X_back ?_ | refine X_blk ?_ | refine X_past (by decide) ?_ | refine L_back ?_
                      | ((with_reducible refine Kof.use hK ?_); clear hK hE K E)
                      | ((with_reducible refine Eof.use hE ?_); (try clear hK hE K E))
                      | ((with_reducible refine Kof.use hKh ?_); clear hKh Kh)
                      | ((with_reducible refine Kof.use hKb (P_next ?_)); clear hKb Kb)
                      | with_reducible refine G_plan 7 [([0, 1, 2, 3, 4, 5, 6, 7, 8, 9, 10, 11, 12, 13, 14], 15, [[0, 1, 2, 3, 4, 5, 6, 7, 8]]), ([16, 17], 18, [[], []])] [19] hQe fun K E hK hE => ?_
                      | ((with_reducible refine W_cond (fun h => ?_) (fun h => ?_)) <;> (try (exfalso; first | assumption | omega)))
                      | ((with_reducible first | refine G_region fun K E hK hE => ?_ | refine call_ret can23 (hsg _) ?_ | refine call_ret can22 (Rspell11_S _ _ (by assumption) _) ?_ | refine call_ret can21 (RMay11_S _ (by assumption) _) ?_ | refine call_ret can23 (Rsigns_S _ (by first | assumption | omega) _) ?_ | refine call_ret can17 (Itoa_S _ (by first | assumption | omega) (by first | assumption | omega) _) ?_ | refine W_if ?_ | refine W_ifS ?_ | refine P_heads fun Kh hKh => ?_ | refine P_fin fun Kh hKh => ?_ | refine P_each fun Kb hKb => ?_ | refine W_and ?_) <;> (try simp (disch := first | assumption | omega) only [go_sem, seval, List.length_map, *]))
                      | ((with_reducible refine W_fresh (fun b hb => ?_)); (repeat (obtain ⟨_, hb⟩ := hb)); (try simp (disch := first | assumption | omega) only [go_sem, seval, List.length_map, *]))
                      | ((with_reducible refine W_app (fun o2 ho => ?_)); (try simp (disch := assumption) only [disown_set, disown_own, ownok_o, ownok_m, List.length_map, List.length_cons, List.length_nil, Nat.zero_add, List.length_map] at ho); (repeat (obtain ⟨_, ho⟩ := ho)); (try simp (disch := first | assumption | omega) only [go_sem, seval, List.length_map, *]))
                      | ((with_reducible refine W_gd (fun h => ?_) (fun h => ?_)) <;> (try (exfalso; first | assumption | omega)) <;> (try simp (disch := first | assumption | omega) only [go_sem, seval, List.length_map, *]))))
                    all_goals (first | refine G_ret hQ (by simp (disch := first | assumption | omega) only [res10, go_sem, seval, *] <;> rfl) ?_ | refine G_norm hQ (by simp (disch := first | assumption | omega) only [res10, go_sem, seval, *] <;> rfl) ?_ | refine G_pan hQ ?_)
                    all_goals (refine ⟨_, _, Wk.of_eq ?_, ?_, rfl, rfl⟩)
                    · simp only [printU, hB, if_true]
                      rw [← show bs3 = _ from HPT, HLL.out]
                    · exact hFf
end
end Go.Proofs.YtbfgdblebepgcaaDoor
