/- What is proved: The law RuleBlanks, walked. Conditions: a text of fewer than 2^63 bytes. Conditions: those that stand in the statements. -/
import Derived.Test.YtbfgdblebepgcaaDoorZNj
import Derived.Test.YtbfgdblebepgcaaDoorZNi
import Derived.Test.YtbfgdblebepgcaaDoorZBit
set_option linter.unusedSimpArgs false
set_option linter.unusedVariables false
set_option maxRecDepth 100000
namespace Go.Proofs.YtbfgdblebepgcaaDoor
open Go.RowKit

theorem betw_at (n : Nat) : ([[.str [32]], [.str [10]], [.str [9, 32]], [.str [32, 35, 32, 120, 10]]] : List (List VV))[n % 4]? = some [.str (betw n)] := by
  have h : n % 4 < 4 := Nat.mod_lt _ (by omega)
  unfold betw
  generalize n % 4 = m at h ⊢
  match m, h with
  | 0, _ => rfl
  | 1, _ => rfl
  | 2, _ => rfl
  | 3, _ => rfl
  | m + 4, h => omega

set_option maxHeartbeats 4000000 in
theorem RuleBlanks_S (l : List UInt8) (w : Int) (hl : l.length ≤ 9223372036854775000) (s : St) : SRet Tryd.prog 6 [.str l, .int .i64 w] s (.bool true) s := by
  have p1 := fun s => UParse_S l hl s
  have p2 := fun s => signs_S l hl s
  refine G_enter Tryd.func6 rfl Tryd.ntmps6 rfl fun Q hQ hQe => ?_
  cases hL : lexSigns l with
  | error q =>
    obtain ⟨a, e⟩ := q
    have he : parseR l = .error (a, e) := by unfold parseR; rw [hL]
    have he0 := (parseR_place he).2
    have he1 : ¬ (e : Int) = 0 := by omega
    rw [he] at p1; rw [hL] at p2
    simp only [parseRV, pgC, List.map_nil, signsV] at p1 p2
    clear hL he
    (repeat' (first
      | with_reducible first | refine L_seq ?_ | refine L_blk ?_ | refine L_skip ?_ | refine L_endblk ?_ | refine L_ret ?_ | refine L_exit ?_ | refine X_code ?_ | refine X_back ?_ | refine X_blk ?_ | refine X_past (by decide) ?_ | refine L_back ?_
      | ((with_reducible refine Kof.use hK ?_); clear hK hE K E)
      | ((with_reducible refine Eof.use hE ?_); (try clear hK hE K E))
      | ((with_reducible refine Kof.use hKh ?_); clear hKh Kh)
      | ((with_reducible refine Kof.use hKb (P_next ?_)); clear hKb Kb)
      | with_reducible refine G_plan 12 [([0, 1, 2, 3, 4, 5, 6, 7, 8, 9, 10, 11, 12, 13, 14], 15, [[0, 1, 2, 3, 4, 5, 6, 7, 8, 9, 10, 11, 12, 13, 14]])] [] hQe fun K E hK hE => ?_
      | ((with_reducible refine W_cond (fun h => ?_) (fun h => ?_)) <;> (try (exfalso; first | assumption | omega)))
      | ((with_reducible first | refine G_region fun K E hK hE => ?_ | refine call_ret can11 (p1 _) ?_ | refine call_ret can13 (p2 _) ?_ | refine call_ret can8 (Uawake_S _) ?_ | refine W_if ?_ | refine W_ifS ?_ | refine P_heads fun Kh hKh => ?_ | refine P_fin fun Kh hKh => ?_ | refine P_each fun Kb hKb => ?_ | refine W_and ?_) <;> (try simp (disch := first | assumption | omega) only [go_sem, seval, *]))
      | ((with_reducible refine W_fresh (fun b hb => ?_)); (repeat (obtain ⟨_, hb⟩ := hb)); (try simp (disch := first | assumption | omega) only [go_sem, seval, *]))
      | ((with_reducible refine W_app (fun o2 ho => ?_)); (repeat (obtain ⟨_, ho⟩ := ho)); (try simp (disch := first | assumption | omega) only [go_sem, seval, *]))
      | ((with_reducible refine W_gd (fun h => ?_) (fun h => ?_)) <;> (try (exfalso; first | assumption | omega)) <;> (try simp (disch := first | assumption | omega) only [go_sem, seval, *]))))
    all_goals (first | refine G_ret hQ (by simp (disch := first | assumption | omega) only [res6, go_sem, seval, *] <;> rfl) ?_ | refine G_norm hQ (by simp (disch := first | assumption | omega) only [res6, go_sem, seval, *] <;> rfl) ?_ | refine G_pan hQ ?_)
    all_goals (refine ⟨_, _, Wk.of_eq ?_, ?_, rfl, rfl⟩)
    all_goals first | rfl | ((try dsimp only); (repeat (first | exact Fg.refl _ | exact Fg.own (by assumption) | (refine Fg.set ?_ _ _) | (refine Fg.setA ?_ (by first | assumption | (simp (disch := assumption) only [own_rd, St.set, if_false, if_true, *]; done))) )); done)
  | ok L =>
    rw [hL] at p2
    cases hP : parseR l with
    | error q =>
      obtain ⟨a, e⟩ := q
      have he0 := (parseR_place hP).2
      have he1 : ¬ (e : Int) = 0 := by omega
      rw [hP] at p1
      simp only [parseRV, pgC, List.map_nil, signsV] at p1 p2
      generalize L.map sgnC = ls at p2
      clear hL hP
      (repeat' (first
        | with_reducible first | refine L_seq ?_ | refine L_blk ?_ | refine L_skip ?_ | refine L_endblk ?_ | refine L_ret ?_ | refine L_exit ?_ | refine X_code ?_ | refine X_back ?_ | refine X_blk ?_ | refine X_past (by decide) ?_ | refine L_back ?_
        | ((with_reducible refine Kof.use hK ?_); clear hK hE K E)
        | ((with_reducible refine Eof.use hE ?_); (try clear hK hE K E))
        | ((with_reducible refine Kof.use hKh ?_); clear hKh Kh)
        | ((with_reducible refine Kof.use hKb (P_next ?_)); clear hKb Kb)
        | with_reducible refine G_plan 12 [([0, 1, 2, 3, 4, 5, 6, 7, 8, 9, 10, 11, 12, 13, 14], 15, [[0, 1, 2, 3, 4, 5, 6, 7, 8, 9, 10, 11, 12, 13, 14]])] [] hQe fun K E hK hE => ?_
        | ((with_reducible refine W_cond (fun h => ?_) (fun h => ?_)) <;> (try (exfalso; first | assumption | omega)))
        | ((with_reducible first | refine G_region fun K E hK hE => ?_ | refine call_ret can11 (p1 _) ?_ | refine call_ret can13 (p2 _) ?_ | refine call_ret can8 (Uawake_S _) ?_ | refine W_if ?_ | refine W_ifS ?_ | refine P_heads fun Kh hKh => ?_ | refine P_fin fun Kh hKh => ?_ | refine P_each fun Kb hKb => ?_ | refine W_and ?_) <;> (try simp (disch := first | assumption | omega) only [go_sem, seval, *]))
        | ((with_reducible refine W_fresh (fun b hb => ?_)); (repeat (obtain ⟨_, hb⟩ := hb)); (try simp (disch := first | assumption | omega) only [go_sem, seval, *]))
        | ((with_reducible refine W_app (fun o2 ho => ?_)); (repeat (obtain ⟨_, ho⟩ := ho)); (try simp (disch := first | assumption | omega) only [go_sem, seval, *]))
        | ((with_reducible refine W_gd (fun h => ?_) (fun h => ?_)) <;> (try (exfalso; first | assumption | omega)) <;> (try simp (disch := first | assumption | omega) only [go_sem, seval, *]))))
      all_goals (first | refine G_ret hQ (by simp (disch := first | assumption | omega) only [res6, go_sem, seval, *] <;> rfl) ?_ | refine G_norm hQ (by simp (disch := first | assumption | omega) only [res6, go_sem, seval, *] <;> rfl) ?_ | refine G_pan hQ ?_)
      all_goals (refine ⟨_, _, Wk.of_eq ?_, ?_, rfl, rfl⟩)
      all_goals first | rfl | ((try dsimp only); (repeat (first | exact Fg.refl _ | exact Fg.own (by assumption) | (refine Fg.set ?_ _ _) | (refine Fg.setA ?_ (by first | assumption | (simp (disch := assumption) only [own_rd, St.set, if_false, if_true, *]; done))) )); done)
    | ok x =>
      rw [hP] at p1
      have hok : PgmOk x := pgm_ok (parseR_check hP)
      have p4 := fun s => USame_S x x hok s
      simp only [eqB_self] at p4
      by_cases hs : l.length ≤ 1024
      · obtain ⟨w0, hw0⟩ : ∃ w0 : Nat, (w0 : Int) = w % 4 := ⟨(w % 4).toNat, Int.toNat_of_nonneg (Int.emod_nonneg _ (by omega))⟩
        obtain ⟨k1, k2, _⟩ := blT_signs hs hL w0
        have p3 := fun s => UParse_S (blT w0 L) (by omega) s
        rw [blT_parseR hs hL hP w0] at p3
        have KT : Hid (∀ i, (blT w0 (L.take i)).length ≤ 16384) := by
          refine Lib.hid fun i => ?_
          have h1 := blT_len w0 (L.take i)
          have h2 := (lexS_gd hL).2.1
          have h3 : sumT (L.take i) ≤ sumT L := by
            conv => rhs; rw [← List.take_append_drop i L, sumT_app]
            omega
          have h4 : (L.take i).length ≤ 1024 := by rw [List.length_take]; omega
          omega
        have hB : ∀ i : Nat, bAnd .i64 (IntKind.i64.wrap (w + (i : Int))) 3 = (((w0 + i) % 4 : Nat) : Int) := fun i => by
          have h1 := bAnd_low (IntKind.i64.wrap (w + (i : Int))) 2 (by omega)
          have h2 := wrap_mod (w + (i : Int)) 2 (by omega)
          simp only [show (2 : Int) ^ 2 = 4 by rfl, show (4 : Int) - 1 = 3 by rfl] at h1 h2
          rw [h1, h2]; omega
        have HS := Lib.hid hs
        simp only [parseRV_ok, pgC, signsV] at p1 p2 p3 p4
        have hml : (L.map sgnC).length = L.length := List.length_map _
        generalize x.doms.map dmC = x1 at p1 p3 p4
        generalize x.decls.map dclC = x2 at p1 p3 p4
        generalize x.rules.map rulC = x3 at p1 p3 p4
        clear hL hP hok hw0
        (repeat' (first
          | with_reducible first | refine L_seq ?_ | refine L_blk ?_ | refine L_skip ?_ | refine L_endblk ?_ | refine L_ret ?_ | refine L_exit ?_ | refine X_code ?_ | refine X_back ?_ | refine X_blk ?_ | refine X_past (by decide) ?_ | refine L_back ?_
          | ((with_reducible refine Kof.use hK ?_); clear hK hE K E)
          | ((with_reducible refine Eof.use hE ?_); (try clear hK hE K E))
          | ((with_reducible refine Kof.use hKh ?_); clear hKh Kh)
          | ((with_reducible refine Kof.use hKb (P_next ?_)); clear hKb Kb)
          | with_reducible refine G_plan 12 [([0, 1, 2, 3, 4, 5, 6, 7, 8, 9, 10, 11, 12, 13, 14], 15, [[0, 1, 2, 3, 4, 5, 6, 7, 8, 9, 10, 11, 12, 13, 14]])] [] hQe fun K E hK hE => ?_
          | ((with_reducible refine W_cond (fun h => ?_) (fun h => ?_)) <;> (try (exfalso; first | assumption | omega)))
          | ((with_reducible first | refine G_region fun K E hK hE => ?_ | refine call_ret can11 (p1 _) ?_ | refine call_ret can13 (p2 _) ?_ | refine call_ret can8 (Uawake_S _) ?_ | refine W_if ?_ | refine W_ifS ?_ | refine P_heads fun Kh hKh => ?_ | refine P_fin fun Kh hKh => ?_ | refine P_each fun Kb hKb => ?_ | refine W_and ?_) <;> (try simp (disch := first | assumption | omega) only [go_sem, seval, hml, *]))
          | ((with_reducible refine W_fresh (fun b hb => ?_)); (repeat (obtain ⟨_, hb⟩ := hb)); (try simp (disch := first | assumption | omega) only [go_sem, seval, hml, *]))
          | ((with_reducible refine W_app (fun o2 ho => ?_)); (try simp (disch := assumption) only [disown_set, disown_own, ownok_o, ownok_m, List.length_map, List.length_cons, List.length_nil, Nat.zero_add, hml] at ho); (repeat (obtain ⟨_, ho⟩ := ho)); (try simp (disch := first | assumption | omega) only [go_sem, seval, hml, *]))
          | ((with_reducible refine W_gd (fun h => ?_) (fun h => ?_)) <;> (try (exfalso; first | assumption | omega)) <;> (try simp (disch := first | assumption | omega) only [go_sem, seval, hml, *]))))
        refine L_loop (fun m env s' => ∃ (i : Nat) (t : List UInt8), i ≤ L.length ∧ m + i = L.length ∧ t = blT w0 (L.take i) ∧ s' = s.set b (.obj 26 [.lst x1 .no, .lst x2 .no, .lst x3 .no]) ∧ env 1 = .int .i64 w ∧ env 5 = .ptr b 0 ∧ env 8 = .lst (L.map sgnC) .no ∧ env 11 = .lst [[.str [32]], [.str [10]], [.str [9, 32]], [.str [32, 35, 32, 120, 10]]] .full ∧ env 12 = .str t ∧ env 13 = .int .i64 i) L.length
          ⟨0, [], by omega, by omega, rfl, rfl, by ((try simp (disch := first | assumption | omega) only [go_sem, seval, *]) <;> first | rfl | omega), by ((try simp (disch := first | assumption | omega) only [go_sem, seval, *]) <;> first | rfl | omega), by ((try simp (disch := first | assumption | omega) only [go_sem, seval, *]) <;> first | rfl | omega), by ((try simp (disch := first | assumption | omega) only [go_sem, seval, *]) <;> first | rfl | omega), by ((try simp (disch := first | assumption | omega) only [go_sem, seval, *]) <;> first | rfl | omega), by ((try simp (disch := first | assumption | omega) only [go_sem, seval, *]) <;> first | rfl | omega)⟩ ?_
        rintro m env s' ⟨i, t, hi, hm, ht, rfl, e1, e5, e8, e11, e12, e13⟩
        have HT := Lib.hid ht
        have htl : t.length ≤ 16384 := by rw [ht]; exact KT i
        clear ht
        by_cases hlt : i < L.length
        · obtain ⟨y, hy⟩ := uget hlt
          have hsy : (L.map sgnC)[i]? = some [.int .i64 y.kind, .str y.text, .int .i64 y.at_] := by simp [hy, sgnC]
          have hbt := betw_at (w0 + i)
          have hBi := hB i
          have hN : t ++ y.text ++ betw (w0 + i) = blT w0 (L.take (i + 1)) := by
            rw [utake hy, blT_app, HT, List.length_take, Nat.min_eq_left hi]
          have HN := Lib.hid hN
          have hyl : t.length + y.text.length + (betw (w0 + i)).length ≤ 16384 := by
            have := KT (i + 1)
            rw [← hN] at this
            simpa [Nat.add_assoc] using this
          have hm4 : (w0 + i) % 4 < 4 := Nat.mod_lt _ (by omega)
          have HY := Lib.hid hy
          clear hB hN hy
          generalize (w0 + i) % 4 = m4 at hbt hBi hm4
          generalize betw (w0 + i) = bt at hbt hyl HN
          (repeat' (first
            | with_reducible first | refine L_seq ?_ | refine L_blk ?_ | refine L_skip ?_ | refine L_endblk ?_ | refine L_ret ?_ | refine L_exit ?_ | refine X_code ?_ | refine X_back ?_ | refine X_blk ?_ | refine X_past (by decide) ?_ | refine L_back ?_
            | ((with_reducible refine Kof.use hK ?_); clear hK hE K E)
            | ((with_reducible refine Eof.use hE ?_); (try clear hK hE K E))
            | ((with_reducible refine Kof.use hKh ?_); clear hKh Kh)
            | ((with_reducible refine Kof.use hKb (P_next ?_)); clear hKb Kb)
            | with_reducible refine G_plan 12 [([0, 1, 2, 3, 4, 5, 6, 7, 8, 9, 10, 11, 12, 13, 14], 15, [[0, 1, 2, 3, 4, 5, 6, 7, 8, 9, 10, 11, 12, 13, 14]])] [] hQe fun K E hK hE => ?_
            | ((with_reducible refine W_cond (fun h => ?_) (fun h => ?_)) <;> (try (exfalso; first | assumption | omega)))
            | ((with_reducible first | refine G_region fun K E hK hE => ?_ | refine call_ret can11 (p1 _) ?_ | refine call_ret can13 (p2 _) ?_ | refine call_ret can8 (Uawake_S _) ?_ | refine W_if ?_ | refine W_ifS ?_ | refine P_heads fun Kh hKh => ?_ | refine P_fin fun Kh hKh => ?_ | refine P_each fun Kb hKb => ?_ | refine W_and ?_) <;> (try simp (disch := first | assumption | omega) only [go_sem, seval, hml, hsy, hBi, hbt, List.length_append, *]))
            | ((with_reducible refine W_fresh (fun b hb => ?_)); (repeat (obtain ⟨_, hb⟩ := hb)); (try simp (disch := first | assumption | omega) only [go_sem, seval, hml, hsy, hBi, hbt, List.length_append, *]))
            | ((with_reducible refine W_app (fun o2 ho => ?_)); (try simp (disch := assumption) only [disown_set, disown_own, ownok_o, ownok_m, List.length_map, List.length_cons, List.length_nil, Nat.zero_add, hml, hsy, hBi, hbt, List.length_append] at ho); (repeat (obtain ⟨_, ho⟩ := ho)); (try simp (disch := first | assumption | omega) only [go_sem, seval, hml, hsy, hBi, hbt, List.length_append, *]))
            | ((with_reducible refine W_gd (fun h => ?_) (fun h => ?_)) <;> (try (exfalso; first | assumption | omega)) <;> (try simp (disch := first | assumption | omega) only [go_sem, seval, hml, hsy, hBi, hbt, List.length_append, *]))))
          all_goals exact ⟨m - 1, by omega, i + 1, _, by omega, by omega, HN, rfl, by ((try simp (disch := first | assumption | omega) only [go_sem, seval, *]) <;> first | rfl | omega), by ((try simp (disch := first | assumption | omega) only [go_sem, seval, *]) <;> first | rfl | omega), by ((try simp (disch := first | assumption | omega) only [go_sem, seval, *]) <;> first | rfl | omega), by ((try simp (disch := first | assumption | omega) only [go_sem, seval, *]) <;> first | rfl | omega), by ((try simp (disch := first | assumption | omega) only [go_sem, seval, *]) <;> first | rfl | omega), by ((try simp (disch := first | assumption | omega) only [go_sem, seval, *]) <;> first | rfl | omega)⟩
        · have hin : i = L.length := by omega
          have ht2 : blT w0 L = t := by have h : t = _ := HT; rw [h, hin, List.take_length]
          rw [ht2] at p3
          clear ht2
          (repeat' (first
            | with_reducible first | refine L_seq ?_ | refine L_blk ?_ | refine L_skip ?_ | refine L_endblk ?_ | refine L_ret ?_ | refine L_exit ?_ | refine X_code ?_ | refine X_back ?_ | refine X_blk ?_ | refine X_past (by decide) ?_ | refine L_back ?_
            | ((with_reducible refine Kof.use hK ?_); clear hK hE K E)
            | ((with_reducible refine Eof.use hE ?_); (try clear hK hE K E))
            | ((with_reducible refine Kof.use hKh ?_); clear hKh Kh)
            | ((with_reducible refine Kof.use hKb (P_next ?_)); clear hKb Kb)
            | with_reducible refine G_plan 12 [([0, 1, 2, 3, 4, 5, 6, 7, 8, 9, 10, 11, 12, 13, 14], 15, [[0, 1, 2, 3, 4, 5, 6, 7, 8, 9, 10, 11, 12, 13, 14]])] [] hQe fun K E hK hE => ?_
            | ((with_reducible refine W_cond (fun h => ?_) (fun h => ?_)) <;> (try (exfalso; first | assumption | omega)))
            | ((with_reducible first | refine G_region fun K E hK hE => ?_ | refine call_ret can11 (p3 _) ?_ | refine call_ret can12 (p4 _) ?_ | refine call_ret can8 (Uawake_S _) ?_ | refine W_if ?_ | refine W_ifS ?_ | refine P_heads fun Kh hKh => ?_ | refine P_fin fun Kh hKh => ?_ | refine P_each fun Kb hKb => ?_ | refine W_and ?_) <;> (try simp (disch := first | assumption | omega) only [go_sem, seval, hml, *]))
            | ((with_reducible refine W_fresh (fun b hb => ?_)); (repeat (obtain ⟨_, hb⟩ := hb)); (try simp (disch := first | assumption | omega) only [go_sem, seval, hml, *]))
            | ((with_reducible refine W_app (fun o2 ho => ?_)); (try simp (disch := assumption) only [disown_set, disown_own, ownok_o, ownok_m, List.length_map, List.length_cons, List.length_nil, Nat.zero_add, hml] at ho); (repeat (obtain ⟨_, ho⟩ := ho)); (try simp (disch := first | assumption | omega) only [go_sem, seval, hml, *]))
            | ((with_reducible refine W_gd (fun h => ?_) (fun h => ?_)) <;> (try (exfalso; first | assumption | omega)) <;> (try simp (disch := first | assumption | omega) only [go_sem, seval, hml, *]))))
          all_goals (first | refine G_ret hQ (by simp (disch := first | assumption | omega) only [res6, go_sem, seval, *] <;> rfl) ?_ | refine G_norm hQ (by simp (disch := first | assumption | omega) only [res6, go_sem, seval, *] <;> rfl) ?_ | refine G_pan hQ ?_)
          all_goals (refine ⟨_, _, Wk.of_eq ?_, ?_, rfl, rfl⟩)
          all_goals first | rfl | ((try dsimp only); (repeat (first | exact Fg.refl _ | exact Fg.own (by assumption) | (refine Fg.set ?_ _ _) | (refine Fg.setA ?_ (by first | assumption | (simp (disch := assumption) only [own_rd, St.set, if_false, if_true, *]; done))) )); done)
      · have hs2 : ¬ ((l.length : Int) ≤ 1024) := by omega
        simp only [parseRV_ok, pgC, signsV] at p1 p2 p4
        generalize x.doms.map dmC = x1 at p1 p4
        generalize x.decls.map dclC = x2 at p1 p4
        generalize x.rules.map rulC = x3 at p1 p4
        generalize L.map sgnC = ls at p2
        clear hL hP hok
        (repeat' (first
          | with_reducible first | refine L_seq ?_ | refine L_blk ?_ | refine L_skip ?_ | refine L_endblk ?_ | refine L_ret ?_ | refine L_exit ?_ | refine X_code ?_ | refine X_back ?_ | refine X_blk ?_ | refine X_past (by decide) ?_ | refine L_back ?_
          | ((with_reducible refine Kof.use hK ?_); clear hK hE K E)
          | ((with_reducible refine Eof.use hE ?_); (try clear hK hE K E))
          | ((with_reducible refine Kof.use hKh ?_); clear hKh Kh)
          | ((with_reducible refine Kof.use hKb (P_next ?_)); clear hKb Kb)
          | with_reducible refine G_plan 12 [([0, 1, 2, 3, 4, 5, 6, 7, 8, 9, 10, 11, 12, 13, 14], 15, [[0, 1, 2, 3, 4, 5, 6, 7, 8, 9, 10, 11, 12, 13, 14]])] [] hQe fun K E hK hE => ?_
          | ((with_reducible refine W_cond (fun h => ?_) (fun h => ?_)) <;> (try (exfalso; first | assumption | omega)))
          | ((with_reducible first | refine G_region fun K E hK hE => ?_ | refine call_ret can11 (p1 _) ?_ | refine call_ret can13 (p2 _) ?_ | refine call_ret can8 (Uawake_S _) ?_ | refine W_if ?_ | refine W_ifS ?_ | refine P_heads fun Kh hKh => ?_ | refine P_fin fun Kh hKh => ?_ | refine P_each fun Kb hKb => ?_ | refine W_and ?_) <;> (try simp (disch := first | assumption | omega) only [go_sem, seval, *]))
          | ((with_reducible refine W_fresh (fun b hb => ?_)); (repeat (obtain ⟨_, hb⟩ := hb)); (try simp (disch := first | assumption | omega) only [go_sem, seval, *]))
          | ((with_reducible refine W_app (fun o2 ho => ?_)); (repeat (obtain ⟨_, ho⟩ := ho)); (try simp (disch := first | assumption | omega) only [go_sem, seval, *]))
          | ((with_reducible refine W_gd (fun h => ?_) (fun h => ?_)) <;> (try (exfalso; first | assumption | omega)) <;> (try simp (disch := first | assumption | omega) only [go_sem, seval, *]))))
        all_goals (first | refine G_ret hQ (by simp (disch := first | assumption | omega) only [res6, go_sem, seval, *] <;> rfl) ?_ | refine G_norm hQ (by simp (disch := first | assumption | omega) only [res6, go_sem, seval, *] <;> rfl) ?_ | refine G_pan hQ ?_)
        all_goals (refine ⟨_, _, Wk.of_eq ?_, ?_, rfl, rfl⟩)
        all_goals first | rfl | ((try dsimp only); (repeat (first | exact Fg.refl _ | exact Fg.own (by assumption) | (refine Fg.set ?_ _ _) | (refine Fg.setA ?_ (by first | assumption | (simp (disch := assumption) only [own_rd, St.set, if_false, if_true, *]; done))) )); done)
end Go.Proofs.YtbfgdblebepgcaaDoor
