/- What is proved: What package osierref12's Dom, find and declared hand back. Conditions: what fits a memory; What package osierref12's declared hands back. Conditions: what fits a memory. Conditions: those that stand in the statements. -/
import Derived.Test.YtdibndmkeipgbaaGreatDoorZYpj
import Derived.Test.YtdibndmkeipgbaaGreatDoorZNlj
set_option linter.unusedSimpArgs false
set_option linter.unusedVariables false
set_option maxRecDepth 100000
namespace Go.Proofs.YtdibndmkeipgbaaGreatDoor
open Go.RowKit

def domD (ds : List Dm) (n : List UInt8) (i : Nat) : Int := domZ (ds.drop i) n
theorem domD_end {ds : List Dm} {n : List UInt8} : domD ds n ds.length = 0 := by unfold domD; rw [List.drop_length]; rfl
theorem domD_at {ds : List Dm} {n : List UInt8} {i : Nat} {c : Dm} (h : ds[i]? = some c) : domD ds n i = if n = c.name then c.size else domD ds n (i + 1) := by
  have hlt : i < ds.length := (List.getElem?_eq_some_iff.1 h).1
  have hc : ds[i] = c := by rw [List.getElem?_eq_getElem hlt] at h; injection h
  unfold domD
  rw [List.drop_eq_getElem_cons hlt, hc]
  rfl
set_option maxHeartbeats 2000000 in
theorem RDom_S (x : Pgm) (n : List UInt8) (hx : x.doms.length ≤ 140737488355328) (t : St) : SRet Tryz.prog 27 [.agg (pgC x), .str n] t (.int .i64 (domZ x.doms n)) t := by
  obtain ⟨ds, cs, rs⟩ := x
  simp only [pgC] at hx ⊢
  generalize cs.map dclC = x1
  generalize rs.map rulC = x3
  have hl : (ds.map dmC).length = ds.length := by simp
  generalize hR : domZ ds n = R
  have HR := Lib.hid hR
  clear hR
  refine G_enter Tryz.func27 rfl Tryz.ntmps27 rfl fun Q hQ hQe => ?_
  (repeat' (first | refine Ctl ?_ | ((with_reducible refine Kof.use hK ?_); clear hK hE K E) | ((with_reducible refine Eof.use hE ?_); (try clear hK hE K E)) | ((with_reducible refine W_cond (fun h => ?_) (fun h => ?_)) <;> (try (exfalso; first | assumption | omega))) | ((first | (with_reducible first | refine G_region fun K E hK hE => ?_ | refine W_if ?_ | refine W_ifS ?_ | refine W_and ?_) | ((with_reducible refine W_fresh (fun b hb => ?_)); (repeat (obtain ⟨_, hb⟩ := hb)))) <;> (try simp (disch := first | assumption | omega) only [go_sem, seval, hl, *]))))
  have hSb : (t.set b (.obj 26 [.lst (ds.map dmC) .no, .lst x1 .no, .lst x3 .no])) b = .obj 26 [.lst (ds.map dmC) .no, .lst x1 .no, .lst x3 .no] := St.set_same _ _ _
  have hF : Fg (t.set b (.obj 26 [.lst (ds.map dmC) .no, .lst x1 .no, .lst x3 .no])) t := Fg.of_set _ hb
  generalize t.set b (.obj 26 [.lst (ds.map dmC) .no, .lst x1 .no, .lst x3 .no]) = S at *
  have HF := Lib.hid hF
  clear hF hb
  refine G_loop (fun m env s' => ∃ i : Nat, i ≤ ds.length ∧ m + i = ds.length ∧ s' = S ∧ Hid (domD ds n i = R) ∧ env 2 = .ptr b 0 ∧ env 1 = .str n ∧ env 5 = .int .i64 i) ds.length ?_ ?_
  · exact ⟨S, Fg.refl _, 0, by omega, by omega, rfl, HR, z_sl, z_sl, z_sl⟩
  · clear HR
    rintro m env s' ⟨i, hi, hm, rfl, HE, e2, e1, e5⟩
    by_cases hlt : i < ds.length
    · obtain ⟨c, hc⟩ := uget hlt
      have hsx := dmC_at hc
      have hE := HE.out
      rw [domD_at hc] at hE
      obtain ⟨cn, cd⟩ := c
      simp only at hE
      clear hc HE
      by_cases hcn : cn = n
      · subst hcn
        rw [if_pos rfl] at hE
        have HE := Lib.hid hE
        clear hE
        (repeat' (first | refine Ctl ?_ | ((with_reducible refine Kof.use hK ?_); clear hK hE K E) | ((with_reducible refine Eof.use hE ?_); (try clear hK hE K E)) | ((with_reducible refine W_cond (fun h => ?_) (fun h => ?_)) <;> (try (exfalso; first | assumption | omega))) | ((first | (with_reducible first | refine G_region fun K E hK hE => ?_ | refine W_if ?_ | refine W_ifS ?_ | refine W_and ?_) | ((with_reducible refine W_fresh (fun b hb => ?_)); (repeat (obtain ⟨_, hb⟩ := hb)))) <;> (try simp (disch := first | assumption | omega) only [go_sem, seval, hl, hsx, dmC, *]))))
        all_goals (first | refine W_ret res27 hQ ?_ | refine W_norm res27 hQ ?_ | refine G_pan hQ ?_)
        all_goals (refine ⟨_, _, Wk.of_eq ?_, ?_, rfl, rfl⟩)
        · rw [show _ = R from HE]
        · exact HF.out
      · rw [if_neg (fun h => hcn h.symm)] at hE
        have HE := Lib.hid hE
        have hcf : (cn = n) = False := eq_false hcn
        clear hE
        (repeat' (first | refine Ctl ?_ | ((with_reducible refine Kof.use hK ?_); clear hK hE K E) | ((with_reducible refine Eof.use hE ?_); (try clear hK hE K E)) | ((with_reducible refine W_cond (fun h => ?_) (fun h => ?_)) <;> (try (exfalso; first | assumption | omega))) | ((first | (with_reducible first | refine G_region fun K E hK hE => ?_ | refine W_if ?_ | refine W_ifS ?_ | refine W_and ?_) | ((with_reducible refine W_fresh (fun b hb => ?_)); (repeat (obtain ⟨_, hb⟩ := hb)))) <;> (try simp (disch := first | assumption | omega) only [go_sem, seval, hl, hsx, dmC, *]))))
        exact ⟨s', Fg.refl _, m - 1, by omega, i + 1, by omega, by omega, rfl, HE, z_sl, z_sl, z_sl⟩
    · have hE := HE.out
      rw [show i = ds.length by omega, domD_end] at hE
      have HE2 := Lib.hid hE
      clear hE HE
      (repeat' (first | refine Ctl ?_ | ((with_reducible refine Kof.use hK ?_); clear hK hE K E) | ((with_reducible refine Eof.use hE ?_); (try clear hK hE K E)) | ((with_reducible refine W_cond (fun h => ?_) (fun h => ?_)) <;> (try (exfalso; first | assumption | omega))) | ((first | (with_reducible first | refine G_region fun K E hK hE => ?_ | refine W_if ?_ | refine W_ifS ?_ | refine W_and ?_) | ((with_reducible refine W_fresh (fun b hb => ?_)); (repeat (obtain ⟨_, hb⟩ := hb)))) <;> (try simp (disch := first | assumption | omega) only [go_sem, seval, hl, *]))))
      all_goals (first | refine W_ret res27 hQ ?_ | refine W_norm res27 hQ ?_ | refine G_pan hQ ?_)
      all_goals (refine ⟨_, _, Wk.of_eq ?_, ?_, rfl, rfl⟩)
      · rw [show _ = R from HE2]
      · exact HF.out
/-- Where a text stands; -1: nowhere. -/
def ixZ (n : List UInt8) (l : List (List UInt8)) : Int := match ixT n l with | some k => k | none => -1
def ixD (n : List UInt8) (l : List (List UInt8)) (i : Nat) : Int := match ixT n (l.drop i) with | some k => ((k + i : Nat) : Int) | none => -1
theorem ixD_end {n : List UInt8} {l : List (List UInt8)} : ixD n l l.length = -1 := by unfold ixD; rw [List.drop_length]; rfl
theorem ixD_at {n c : List UInt8} {l : List (List UInt8)} {i : Nat} (h : l[i]? = some c) : ixD n l i = if n = c then (i : Int) else ixD n l (i + 1) := by
  have hlt : i < l.length := (List.getElem?_eq_some_iff.1 h).1
  have hc : l[i] = c := by rw [List.getElem?_eq_getElem hlt] at h; injection h
  unfold ixD
  rw [List.drop_eq_getElem_cons hlt, hc]
  simp only [ixT]
  by_cases e : n = c
  · rw [if_pos e, if_pos e]; simp
  · rw [if_neg e, if_neg e]
    cases ixT n (l.drop (i + 1)) with
    | none => rfl
    | some k => simp only [Option.map_some]; congr 1; omega
set_option maxHeartbeats 2000000 in
theorem Rfind_S (l : List (List UInt8)) (n : List UInt8) (o : Own) (hx : l.length ≤ 140737488355328) (t : St) : SRet Tryz.prog 46 [.lst (strs l) o, .str n] t (.int .i64 (ixZ n l)) t := by
  have hl : (strs l).length = l.length := by simp [strs]
  generalize hR : ixZ n l = R
  have HR := Lib.hid hR
  clear hR
  refine G_enter Tryz.func46 rfl Tryz.ntmps46 rfl fun Q hQ hQe => ?_
  (repeat' (first | refine Ctl ?_ | ((with_reducible refine Kof.use hK ?_); clear hK hE K E) | ((with_reducible refine Eof.use hE ?_); (try clear hK hE K E)) | ((with_reducible refine W_cond (fun h => ?_) (fun h => ?_)) <;> (try (exfalso; first | assumption | omega))) | ((first | (with_reducible first | refine G_region fun K E hK hE => ?_ | refine W_if ?_ | refine W_ifS ?_ | refine W_and ?_)) <;> (try simp (disch := first | assumption | omega) only [go_sem, seval, hl, *]))))
  refine G_loop (fun m env s' => ∃ i : Nat, i ≤ l.length ∧ m + i = l.length ∧ s' = t ∧ Hid (ixD n l i = R) ∧ env 0 = .lst (strs l) o ∧ env 1 = .str n ∧ env 5 = .int .i64 i) l.length ?_ ?_
  · exact ⟨_, Fg.refl _, 0, by omega, by omega, rfl, HR, z_sl, z_sl, z_sl⟩
  · clear HR
    rintro m env s' ⟨i, hi, hm, rfl, HE, e0, e1, e5⟩
    by_cases hlt : i < l.length
    · obtain ⟨c, hc⟩ := uget hlt
      have hsx := strs_at hc
      have hE := HE.out
      rw [ixD_at hc] at hE
      clear hc HE
      by_cases hcn : c = n
      · subst hcn
        rw [if_pos rfl] at hE
        have HE := Lib.hid hE
        clear hE
        (repeat' (first | refine Ctl ?_ | ((with_reducible refine Kof.use hK ?_); clear hK hE K E) | ((with_reducible refine Eof.use hE ?_); (try clear hK hE K E)) | ((with_reducible refine W_cond (fun h => ?_) (fun h => ?_)) <;> (try (exfalso; first | assumption | omega))) | ((first | (with_reducible first | refine G_region fun K E hK hE => ?_ | refine W_if ?_ | refine W_ifS ?_ | refine W_and ?_)) <;> (try simp (disch := first | assumption | omega) only [go_sem, seval, hl, hsx, *]))))
        all_goals (first | refine W_ret res46 hQ ?_ | refine W_norm res46 hQ ?_ | refine G_pan hQ ?_)
        all_goals (refine ⟨_, _, Wk.of_eq ?_, ?_, rfl, rfl⟩)
        · rw [show _ = R from HE]
        · (exact z_fg)
      · rw [if_neg (fun h => hcn h.symm)] at hE
        have HE := Lib.hid hE
        have hcf : (c = n) = False := eq_false hcn
        clear hE
        (repeat' (first | refine Ctl ?_ | ((with_reducible refine Kof.use hK ?_); clear hK hE K E) | ((with_reducible refine Eof.use hE ?_); (try clear hK hE K E)) | ((with_reducible refine W_cond (fun h => ?_) (fun h => ?_)) <;> (try (exfalso; first | assumption | omega))) | ((first | (with_reducible first | refine G_region fun K E hK hE => ?_ | refine W_if ?_ | refine W_ifS ?_ | refine W_and ?_)) <;> (try simp (disch := first | assumption | omega) only [go_sem, seval, hl, hsx, *]))))
        exact ⟨s', Fg.refl _, m - 1, by omega, i + 1, by omega, by omega, rfl, HE, z_sl, z_sl, z_sl⟩
    · have hE := HE.out
      rw [show i = l.length by omega, ixD_end] at hE
      have HE2 := Lib.hid hE
      clear hE HE
      (repeat' (first | refine Ctl ?_ | ((with_reducible refine Kof.use hK ?_); clear hK hE K E) | ((with_reducible refine Eof.use hE ?_); (try clear hK hE K E)) | ((with_reducible refine W_cond (fun h => ?_) (fun h => ?_)) <;> (try (exfalso; first | assumption | omega))) | ((first | (with_reducible first | refine G_region fun K E hK hE => ?_ | refine W_if ?_ | refine W_ifS ?_ | refine W_and ?_)) <;> (try simp (disch := first | assumption | omega) only [go_sem, seval, hl, *]))))
      all_goals (first | refine W_ret res46 hQ ?_ | refine W_norm res46 hQ ?_ | refine G_pan hQ ?_)
      all_goals (refine ⟨_, _, Wk.of_eq ?_, ?_, rfl, rfl⟩)
      · rw [show _ = R from HE2]
      · (exact z_fg)
end Go.Proofs.YtdibndmkeipgbaaGreatDoor
set_option maxRecDepth 100000
namespace Go.Proofs.YtdibndmkeipgbaaGreatDoor
open Go.RowKit

theorem ixT_first {k : List UInt8} {l : List (List UInt8)} {i : Nat} (h : l[i]? = some k) : ixT k l = some i ↔ k ∉ l.take i := by
  have hlt := (List.getElem?_eq_some_iff.1 h).1
  have hs : l = l.take i ++ l.drop i := (List.take_append_drop i l).symm
  have h2 : l.drop i = k :: l.drop (i + 1) := by
    rw [List.drop_eq_getElem_cons hlt]
    rw [List.getElem?_eq_getElem hlt] at h; injection h with h; rw [h]
  rw [hs, ixT_app, ← hs]
  cases hx : ixT k (l.take i) with
  | some j =>
    have h3 := ixT_lt hx
    have h4 := (List.getElem?_eq_some_iff.1 h3).1
    rw [List.length_take] at h4
    simp only [Option.some.injEq]
    constructor
    · intro e; omega
    · intro e; exact absurd (List.mem_of_getElem? h3) e
  | none =>
    have h3 := ixT_none.1 hx
    rw [h2]
    simp only [ixT, if_true, Option.map_some, Nat.zero_add, List.length_take]
    constructor
    · intro _; exact h3
    · intro _; congr 1; omega
theorem nodup_take {l : List (List UInt8)} {i : Nat} {k : List UInt8} (h : l[i]? = some k) : (l.take (i + 1)).Nodup ↔ (l.take i).Nodup ∧ k ∉ l.take i := by
  rw [utake h, List.nodup_append]
  constructor
  · rintro ⟨h1, _, h3⟩
    exact ⟨h1, fun hk => h3 _ hk _ (by simp) rfl⟩
  · rintro ⟨h1, h2⟩
    refine ⟨h1, by simp, ?_⟩
    intro a ha b hb e
    rw [List.mem_singleton] at hb
    subst hb; subst e
    exact h2 ha
theorem not_nodup {l : List (List UInt8)} {i : Nat} (h : ¬ (l.take i).Nodup) : ¬ l.Nodup := fun hn => h (hn.sublist (List.take_sublist _ _))
theorem mem_take_lt {l : List (List UInt8)} {i : Nat} {k : List UInt8} (h : k ∈ l.take i) : ∃ j, j < i ∧ l[j]? = some k := by
  obtain ⟨j, hj, e⟩ := List.getElem_of_mem h
  rw [List.length_take] at hj
  refine ⟨j, by omega, ?_⟩
  rw [List.getElem_take] at e
  rw [List.getElem?_eq_getElem (by omega), e]
theorem mem_take_of {l : List (List UInt8)} {i j : Nat} {k : List UInt8} (hj : j < i) (h : l[j]? = some k) : k ∈ l.take i := by
  refine List.mem_of_getElem? (i := j) ?_
  rw [List.getElem?_take, if_pos hj]; exact h
set_option maxHeartbeats 8000000 in
theorem Rdecl_S (x : Pgm) (hx : PgmOk x) (t : St) : SRet Tryz.prog 18 [.agg (pgC x)] t (.int .i64 (readE x)) t := by
  have w1 := fun s => RMay11_S x hx s
  have w2 := fun n s => RDom_S x n hx.1 s
  have w3 := fun n s => RRel_S x n hx.2.1 s
  obtain ⟨ds, cs, rs⟩ := x
  obtain ⟨hd, hc, hr, hdd, hdc, _⟩ := hx
  simp only at hd hc hr hdd hdc w2 w3
  have hlr : (ds.map dmC).length = ds.length := by simp
  have hle : (cs.map dclC).length = cs.length := by simp
  cases hB : pgmB ⟨ds, cs, rs⟩ with
  | false =>
    have he : readE ⟨ds, cs, rs⟩ = 1 := by unfold readE; rw [if_pos hB]
    rw [hB] at w1
    simp only [pgC] at w1 ⊢
    rw [he]
    clear he hB
    refine G_enter Tryz.func18 rfl Tryz.ntmps18 rfl fun Q hQ hQe => ?_
    (repeat' (first | refine Ctl ?_ | ((with_reducible refine Kof.use hK ?_); clear hK hE K E) | ((with_reducible refine Eof.use hE ?_); (try clear hK hE K E)) | ((with_reducible refine Kof.use hKh ?_); clear hKh Kh) | ((with_reducible refine Kof.use hKb (P_next ?_)); clear hKb Kb) | (with_reducible first | refine G_plan 14 [] [0, 1, 2, 3, 4, 5, 6, 7, 8, 9, 10, 11, 12] hQe fun K E hK hE => ?_ | refine G_plan 19 [([0, 1, 2, 3, 4, 5, 6, 8], 7, [[8]])] [9] hQe fun K E hK hE => ?_ | refine G_plan 27 [([0, 1, 2, 3, 4, 5, 6, 7, 8, 9], 10, [[]])] [11] hQe fun K E hK hE => ?_) | ((with_reducible refine W_cond (fun h => ?_) (fun h => ?_)) <;> (try (exfalso; first | assumption | omega))) | ((first | (with_reducible first | refine G_region fun K E hK hE => ?_ | refine call_ret can25 (w1 _) ?_ | refine call_ret can25 (RMay11_S _ (by assumption) _) ?_ | refine call_ret can27 (RDom_S _ _ (by assumption) _) ?_ | refine call_ret can26 (RRel_S _ _ (by assumption) _) ?_ | refine W_if ?_ | refine W_ifS ?_ | refine P_heads fun Kh hKh => ?_ | refine P_fin fun Kh hKh => ?_ | refine P_each fun Kb hKb => ?_ | refine W_and ?_) | ((with_reducible refine W_fresh (fun b hb => ?_)); (repeat (obtain ⟨_, hb⟩ := hb))) | ((with_reducible refine W_gd (fun h => ?_) (fun h => ?_)) <;> (try (exfalso; first | assumption | omega)))) <;> (try simp (disch := first | assumption | omega) only [go_sem, seval, *]))))
    all_goals (first | refine W_ret res18 hQ ?_ | refine W_norm res18 hQ ?_ | refine G_pan hQ ?_)
    all_goals (refine ⟨_, _, Wk.of_eq ?_, ?_, rfl, rfl⟩)
    all_goals first | rfl | (exact z_fg)
  | true =>
    rw [hB] at w1
    have hread : readE ⟨ds, cs, rs⟩ = if ds.all szOk = false then 1 else if ¬ (ds.map (·.name)).Nodup ∨ ¬ (cs.map (·.name)).Nodup then 120 else if cs.all (kwn ds) = false then 121 else 0 := by
      unfold readE
      simp only [hB, szOk_any, kwn_any, Bool.not_eq_true', Bool.true_eq_false, if_false]
    generalize readE ⟨ds, cs, rs⟩ = RE at hread
    have HRD := Lib.hid hread
    have HDC := Lib.hid hdc
    clear hread hB hdc
    simp only [pgC] at w1 w2 w3 ⊢
    refine G_enter Tryz.func18 rfl Tryz.ntmps18 rfl fun Q hQ hQe => ?_
    (repeat' (first | refine Ctl ?_ | ((with_reducible refine Kof.use hK ?_); clear hK hE K E) | ((with_reducible refine Eof.use hE ?_); (try clear hK hE K E)) | ((with_reducible refine Kof.use hKh ?_); clear hKh Kh) | ((with_reducible refine Kof.use hKb (P_next ?_)); clear hKb Kb) | (with_reducible first | refine G_plan 14 [] [0, 1, 2, 3, 4, 5, 6, 7, 8, 9, 10, 11, 12] hQe fun K E hK hE => ?_ | refine G_plan 19 [([0, 1, 2, 3, 4, 5, 6, 8], 7, [[8]])] [9] hQe fun K E hK hE => ?_ | refine G_plan 27 [([0, 1, 2, 3, 4, 5, 6, 7, 8, 9], 10, [[]])] [11] hQe fun K E hK hE => ?_) | ((with_reducible refine W_cond (fun h => ?_) (fun h => ?_)) <;> (try (exfalso; first | assumption | omega))) | ((first | (with_reducible first | refine G_region fun K E hK hE => ?_ | refine call_ret can25 (w1 _) ?_ | refine call_ret can25 (RMay11_S _ (by assumption) _) ?_ | refine call_ret can27 (RDom_S _ _ (by assumption) _) ?_ | refine call_ret can26 (RRel_S _ _ (by assumption) _) ?_ | refine W_if ?_ | refine W_ifS ?_ | refine P_heads fun Kh hKh => ?_ | refine P_fin fun Kh hKh => ?_ | refine P_each fun Kb hKb => ?_ | refine W_and ?_) | ((with_reducible refine W_fresh (fun b hb => ?_)); (repeat (obtain ⟨_, hb⟩ := hb))) | ((with_reducible refine W_gd (fun h => ?_) (fun h => ?_)) <;> (try (exfalso; first | assumption | omega)))) <;> (try simp (disch := first | assumption | omega) only [go_sem, seval, *]))))
    obtain ⟨pp, hpp⟩ : ∃ x, x = b := ⟨_, rfl⟩
    subst hpp
    have hSb : (t.set pp (.obj 26 [.lst (ds.map dmC) .no, .lst (cs.map dclC) .no, .lst (rs.map rulC) .no])) pp = .obj 26 [.lst (ds.map dmC) .no, .lst (cs.map dclC) .no, .lst (rs.map rulC) .no] := St.set_same _ _ _
    have hF : Fg (t.set pp (.obj 26 [.lst (ds.map dmC) .no, .lst (cs.map dclC) .no, .lst (rs.map rulC) .no])) t := Fg.of_set _ hb
    generalize t.set pp (.obj 26 [.lst (ds.map dmC) .no, .lst (cs.map dclC) .no, .lst (rs.map rulC) .no]) = S at *
    have HF := Lib.hid hF
    clear hF hb
    refine G_loop (fun m env s' => ∃ i : Nat, i ≤ ds.length ∧ m + i = ds.length ∧ s' = S ∧ Hid ((ds.take i).all szOk = true) ∧ env 1 = .ptr pp 0 ∧ env 3 = .int .i64 i) ds.length ?_ ?_
    · exact ⟨S, Fg.refl _, 0, by omega, by omega, rfl, Lib.hid rfl, z_sl, z_sl⟩
    rintro m env s' ⟨i, hi, hm, rfl, HE, e1, e3⟩
    by_cases hlt : i < ds.length
    · obtain ⟨d, hd0⟩ := uget hlt
      have hsx := dmC_at hd0
      have HD := Lib.hid hd0
      clear hd0
      obtain ⟨dn, dz⟩ := d
      by_cases hz : szOk ⟨dn, dz⟩ = true
      · have hz2 := hz
        simp only [szOk, Bool.not_eq_true', Bool.or_eq_false_iff, decide_eq_false_iff_not] at hz2
        obtain ⟨hz3, hz4⟩ := hz2
        have HZ := Lib.hid hz
        clear hz
        (repeat' (first | refine Ctl ?_ | ((with_reducible refine Kof.use hK ?_); clear hK hE K E) | ((with_reducible refine Eof.use hE ?_); (try clear hK hE K E)) | ((with_reducible refine Kof.use hKh ?_); clear hKh Kh) | ((with_reducible refine Kof.use hKb (P_next ?_)); clear hKb Kb) | (with_reducible first | refine G_plan 14 [] [0, 1, 2, 3, 4, 5, 6, 7, 8, 9, 10, 11, 12] hQe fun K E hK hE => ?_ | refine G_plan 19 [([0, 1, 2, 3, 4, 5, 6, 8], 7, [[8]])] [9] hQe fun K E hK hE => ?_ | refine G_plan 27 [([0, 1, 2, 3, 4, 5, 6, 7, 8, 9], 10, [[]])] [11] hQe fun K E hK hE => ?_) | ((with_reducible refine W_cond (fun h => ?_) (fun h => ?_)) <;> (try (exfalso; first | assumption | omega))) | ((first | (with_reducible first | refine G_region fun K E hK hE => ?_ | refine call_ret can25 (RMay11_S _ (by assumption) _) ?_ | refine call_ret can27 (RDom_S _ _ (by assumption) _) ?_ | refine call_ret can26 (RRel_S _ _ (by assumption) _) ?_ | refine W_if ?_ | refine W_ifS ?_ | refine P_heads fun Kh hKh => ?_ | refine P_fin fun Kh hKh => ?_ | refine P_each fun Kb hKb => ?_ | refine W_and ?_) | ((with_reducible refine W_fresh (fun b hb => ?_)); (repeat (obtain ⟨_, hb⟩ := hb))) | ((with_reducible refine W_gd (fun h => ?_) (fun h => ?_)) <;> (try (exfalso; first | assumption | omega)))) <;> (try simp (disch := first | assumption | omega) only [go_sem, seval, hlr, hsx, dmC, *]))))
        exact ⟨s', Fg.refl _, m - 1, by omega, i + 1, by omega, by omega, rfl, Lib.hid (uall_take HE.out HD.out HZ.out), z_sl, z_sl⟩
      · have hz2 := hz
        simp only [szOk, Bool.not_eq_true', Bool.or_eq_false_iff, decide_eq_false_iff_not] at hz2
        have hall : ds.all szOk = false := uall_not HD.out (by simpa using hz)
        have hE : RE = 1 := by rw [HRD.out, if_pos hall]
        subst hE
        clear hz hall
        (repeat' (first | refine Ctl ?_ | ((with_reducible refine Kof.use hK ?_); clear hK hE K E) | ((with_reducible refine Eof.use hE ?_); (try clear hK hE K E)) | ((with_reducible refine Kof.use hKh ?_); clear hKh Kh) | ((with_reducible refine Kof.use hKb (P_next ?_)); clear hKb Kb) | (with_reducible first | refine G_plan 14 [] [0, 1, 2, 3, 4, 5, 6, 7, 8, 9, 10, 11, 12] hQe fun K E hK hE => ?_ | refine G_plan 19 [([0, 1, 2, 3, 4, 5, 6, 8], 7, [[8]])] [9] hQe fun K E hK hE => ?_ | refine G_plan 27 [([0, 1, 2, 3, 4, 5, 6, 7, 8, 9], 10, [[]])] [11] hQe fun K E hK hE => ?_) | ((with_reducible refine W_cond (fun h => ?_) (fun h => ?_)) <;> (try (exfalso; first | assumption | omega))) | ((first | (with_reducible first | refine G_region fun K E hK hE => ?_ | refine call_ret can25 (RMay11_S _ (by assumption) _) ?_ | refine call_ret can27 (RDom_S _ _ (by assumption) _) ?_ | refine call_ret can26 (RRel_S _ _ (by assumption) _) ?_ | refine W_if ?_ | refine W_ifS ?_ | refine P_heads fun Kh hKh => ?_ | refine P_fin fun Kh hKh => ?_ | refine P_each fun Kb hKb => ?_ | refine W_and ?_) | ((with_reducible refine W_fresh (fun b hb => ?_)); (repeat (obtain ⟨_, hb⟩ := hb))) | ((with_reducible refine W_gd (fun h => ?_) (fun h => ?_)) <;> (try (exfalso; first | assumption | omega)))) <;> (try simp (disch := first | assumption | omega) only [go_sem, seval, hlr, hsx, dmC, *]))))
        all_goals first
          | (exfalso; omega)
          | ((first | refine W_ret res18 hQ ?_ | refine W_norm res18 hQ ?_ | refine G_pan hQ ?_)
             (refine ⟨_, _, Wk.of_eq ?_, ?_, rfl, rfl⟩)
             · rfl
             · exact HF.out)
    · have hall := HE.out
      rw [List.take_of_length_le (by omega)] at hall
      have hr2 := HRD.out
      rw [if_neg (by rw [hall]; simp)] at hr2
      have HRD2 := Lib.hid hr2
      clear hr2 HRD hall HE
      (repeat' (first | refine Ctl ?_ | ((with_reducible refine Kof.use hK ?_); clear hK hE K E) | ((with_reducible refine Eof.use hE ?_); (try clear hK hE K E)) | ((with_reducible refine Kof.use hKh ?_); clear hKh Kh) | ((with_reducible refine Kof.use hKb (P_next ?_)); clear hKb Kb) | (with_reducible first | refine G_plan 14 [] [0, 1, 2, 3, 4, 5, 6, 7, 8, 9, 10, 11, 12] hQe fun K E hK hE => ?_ | refine G_plan 19 [([0, 1, 2, 3, 4, 5, 6, 8], 7, [[8]])] [9] hQe fun K E hK hE => ?_ | refine G_plan 27 [([0, 1, 2, 3, 4, 5, 6, 7, 8, 9], 10, [[]])] [11] hQe fun K E hK hE => ?_) | ((with_reducible refine W_cond (fun h => ?_) (fun h => ?_)) <;> (try (exfalso; first | assumption | omega))) | ((first | (with_reducible first | refine G_region fun K E hK hE => ?_ | refine call_ret can25 (RMay11_S _ (by assumption) _) ?_ | refine call_ret can27 (RDom_S _ _ (by assumption) _) ?_ | refine call_ret can26 (RRel_S _ _ (by assumption) _) ?_ | refine W_if ?_ | refine W_ifS ?_ | refine P_heads fun Kh hKh => ?_ | refine P_fin fun Kh hKh => ?_ | refine P_each fun Kb hKb => ?_ | refine W_and ?_) | ((with_reducible refine W_fresh (fun b hb => ?_)); (repeat (obtain ⟨_, hb⟩ := hb))) | ((with_reducible refine W_gd (fun h => ?_) (fun h => ?_)) <;> (try (exfalso; first | assumption | omega)))) <;> (try simp (disch := first | assumption | omega) only [go_sem, seval, hlr, *]))))
      refine G_loop (fun m env s2 => ∃ i : Nat, i ≤ ds.length ∧ m + i = ds.length ∧ s2 = s' ∧ Hid (((ds.map (·.name)).take i).Nodup) ∧ env 1 = .ptr pp 0 ∧ env 4 = .int .i64 i) ds.length ?_ ?_
      · exact ⟨_, Fg.refl _, 0, by omega, by omega, rfl, Lib.hid (by simp), z_sl, z_sl⟩
      clear e1 e3 env hm hi hlt m i
      rintro m env s2 ⟨i, hi, hm, rfl, HN, e1, e4⟩
      by_cases hlt : i < ds.length
      · obtain ⟨d, hd0⟩ := uget hlt
        have hsx := dmC_at hd0
        have hnm : (ds.map (·.name))[i]? = some d.name := by rw [List.getElem?_map, hd0]; rfl
        have HNM := Lib.hid hnm
        clear hd0 hnm
        obtain ⟨dn, dz⟩ := d
        (repeat' (first | refine Ctl ?_ | ((with_reducible refine Kof.use hK ?_); clear hK hE K E) | ((with_reducible refine Eof.use hE ?_); (try clear hK hE K E)) | ((with_reducible refine Kof.use hKh ?_); clear hKh Kh) | ((with_reducible refine Kof.use hKb (P_next ?_)); clear hKb Kb) | (with_reducible first | refine G_plan 14 [] [0, 1, 2, 3, 4, 5, 6, 7, 8, 9, 10, 11, 12] hQe fun K E hK hE => ?_ | refine G_plan 19 [([0, 1, 2, 3, 4, 5, 6, 8], 7, [[8]])] [9] hQe fun K E hK hE => ?_ | refine G_plan 27 [([0, 1, 2, 3, 4, 5, 6, 7, 8, 9], 10, [[]])] [11] hQe fun K E hK hE => ?_) | ((with_reducible refine W_cond (fun h => ?_) (fun h => ?_)) <;> (try (exfalso; first | assumption | omega))) | ((first | (with_reducible first | refine G_region fun K E hK hE => ?_ | refine call_ret can25 (RMay11_S _ (by assumption) _) ?_ | refine call_ret can27 (RDom_S _ _ (by assumption) _) ?_ | refine call_ret can26 (RRel_S _ _ (by assumption) _) ?_ | refine W_if ?_ | refine W_ifS ?_ | refine P_heads fun Kh hKh => ?_ | refine P_fin fun Kh hKh => ?_ | refine P_each fun Kb hKb => ?_ | refine W_and ?_) | ((with_reducible refine W_fresh (fun b hb => ?_)); (repeat (obtain ⟨_, hb⟩ := hb))) | ((with_reducible refine W_gd (fun h => ?_) (fun h => ?_)) <;> (try (exfalso; first | assumption | omega)))) <;> (try simp (disch := first | assumption | omega) only [go_sem, seval, hlr, *]))))
        refine G_loop (fun m' env s3 => ∃ k : Nat, k ≤ i ∧ m' + k = i ∧ s3 = s2 ∧ Hid (∀ j, j < k → (ds.map (·.name))[j]? ≠ some dn) ∧ env 1 = .ptr pp 0 ∧ env 4 = .int .i64 i ∧ env 5 = .int .i64 k) i ?_ ?_
        · exact ⟨_, Fg.refl _, 0, by omega, by omega, rfl, Lib.hid (fun j hj => by omega), z_sl, z_sl, z_sl⟩
        clear e1 e4 env
        rintro m' env s3 ⟨k, hk, hm', rfl, HK, e1, e4, e5⟩
        by_cases hlk : k < i
        · obtain ⟨c, hc0⟩ := uget (l := ds) (i := k) (by omega)
          have hsy := dmC_at hc0
          have hcm : (ds.map (·.name))[k]? = some c.name := by rw [List.getElem?_map, hc0]; rfl
          have HCM := Lib.hid hcm
          clear hc0 hcm
          obtain ⟨cn, cz⟩ := c
          by_cases hcn : dn = cn
          · have hE : RE = 120 := by
              rw [HRD2.out, if_pos]
              refine .inl (not_nodup (i := i + 1) ?_)
              rw [nodup_take HNM.out]
              rintro ⟨_, h2⟩
              exact h2 (mem_take_of hlk (by rw [HCM.out]; simp only; rw [hcn]))
            subst hE
            subst hcn
            (repeat' (first | refine Ctl ?_ | ((with_reducible refine Kof.use hK ?_); clear hK hE K E) | ((with_reducible refine Eof.use hE ?_); (try clear hK hE K E)) | ((with_reducible refine Kof.use hKh ?_); clear hKh Kh) | ((with_reducible refine Kof.use hKb (P_next ?_)); clear hKb Kb) | (with_reducible first | refine G_plan 14 [] [0, 1, 2, 3, 4, 5, 6, 7, 8, 9, 10, 11, 12] hQe fun K E hK hE => ?_ | refine G_plan 19 [([0, 1, 2, 3, 4, 5, 6, 8], 7, [[8]])] [9] hQe fun K E hK hE => ?_ | refine G_plan 27 [([0, 1, 2, 3, 4, 5, 6, 7, 8, 9], 10, [[]])] [11] hQe fun K E hK hE => ?_) | ((with_reducible refine W_cond (fun h => ?_) (fun h => ?_)) <;> (try (exfalso; first | assumption | omega))) | ((first | (with_reducible first | refine G_region fun K E hK hE => ?_ | refine call_ret can25 (RMay11_S _ (by assumption) _) ?_ | refine call_ret can27 (RDom_S _ _ (by assumption) _) ?_ | refine call_ret can26 (RRel_S _ _ (by assumption) _) ?_ | refine W_if ?_ | refine W_ifS ?_ | refine P_heads fun Kh hKh => ?_ | refine P_fin fun Kh hKh => ?_ | refine P_each fun Kb hKb => ?_ | refine W_and ?_) | ((with_reducible refine W_fresh (fun b hb => ?_)); (repeat (obtain ⟨_, hb⟩ := hb))) | ((with_reducible refine W_gd (fun h => ?_) (fun h => ?_)) <;> (try (exfalso; first | assumption | omega)))) <;> (try simp (disch := first | assumption | omega) only [go_sem, seval, hlr, hsx, hsy, dmC, *]))))
            all_goals (first | refine W_ret res18 hQ ?_ | refine W_norm res18 hQ ?_ | refine G_pan hQ ?_)
            all_goals (refine ⟨_, _, Wk.of_eq ?_, ?_, rfl, rfl⟩)
            all_goals first | rfl | exact HF.out
          · have hcf : (dn = cn) = False := eq_false hcn
            have HCN := Lib.hid hcn
            clear hcn
            (repeat' (first | refine Ctl ?_ | ((with_reducible refine Kof.use hK ?_); clear hK hE K E) | ((with_reducible refine Eof.use hE ?_); (try clear hK hE K E)) | ((with_reducible refine Kof.use hKh ?_); clear hKh Kh) | ((with_reducible refine Kof.use hKb (P_next ?_)); clear hKb Kb) | (with_reducible first | refine G_plan 14 [] [0, 1, 2, 3, 4, 5, 6, 7, 8, 9, 10, 11, 12] hQe fun K E hK hE => ?_ | refine G_plan 19 [([0, 1, 2, 3, 4, 5, 6, 8], 7, [[8]])] [9] hQe fun K E hK hE => ?_ | refine G_plan 27 [([0, 1, 2, 3, 4, 5, 6, 7, 8, 9], 10, [[]])] [11] hQe fun K E hK hE => ?_) | ((with_reducible refine W_cond (fun h => ?_) (fun h => ?_)) <;> (try (exfalso; first | assumption | omega))) | ((first | (with_reducible first | refine G_region fun K E hK hE => ?_ | refine call_ret can25 (RMay11_S _ (by assumption) _) ?_ | refine call_ret can27 (RDom_S _ _ (by assumption) _) ?_ | refine call_ret can26 (RRel_S _ _ (by assumption) _) ?_ | refine W_if ?_ | refine W_ifS ?_ | refine P_heads fun Kh hKh => ?_ | refine P_fin fun Kh hKh => ?_ | refine P_each fun Kb hKb => ?_ | refine W_and ?_) | ((with_reducible refine W_fresh (fun b hb => ?_)); (repeat (obtain ⟨_, hb⟩ := hb))) | ((with_reducible refine W_gd (fun h => ?_) (fun h => ?_)) <;> (try (exfalso; first | assumption | omega)))) <;> (try simp (disch := first | assumption | omega) only [go_sem, seval, hlr, hsx, hsy, dmC, *]))))
            refine ⟨_, Fg.refl _, m' - 1, by omega, k + 1, by omega, by omega, rfl, Lib.hid (fun j hj => ?_), z_sl, z_sl, z_sl⟩
            by_cases hjk : j = k
            · subst hjk
              rw [HCM.out]
              intro e
              injection e with e
              exact HCN.out e.symm
            · exact HK.out j (by omega)
        · (repeat' (first | refine Ctl ?_ | ((with_reducible refine Kof.use hK ?_); clear hK hE K E) | ((with_reducible refine Eof.use hE ?_); (try clear hK hE K E)) | ((with_reducible refine Kof.use hKh ?_); clear hKh Kh) | ((with_reducible refine Kof.use hKb (P_next ?_)); clear hKb Kb) | (with_reducible first | refine G_plan 14 [] [0, 1, 2, 3, 4, 5, 6, 7, 8, 9, 10, 11, 12] hQe fun K E hK hE => ?_ | refine G_plan 19 [([0, 1, 2, 3, 4, 5, 6, 8], 7, [[8]])] [9] hQe fun K E hK hE => ?_ | refine G_plan 27 [([0, 1, 2, 3, 4, 5, 6, 7, 8, 9], 10, [[]])] [11] hQe fun K E hK hE => ?_) | ((with_reducible refine W_cond (fun h => ?_) (fun h => ?_)) <;> (try (exfalso; first | assumption | omega))) | ((first | (with_reducible first | refine G_region fun K E hK hE => ?_ | refine call_ret can25 (RMay11_S _ (by assumption) _) ?_ | refine call_ret can27 (RDom_S _ _ (by assumption) _) ?_ | refine call_ret can26 (RRel_S _ _ (by assumption) _) ?_ | refine W_if ?_ | refine W_ifS ?_ | refine P_heads fun Kh hKh => ?_ | refine P_fin fun Kh hKh => ?_ | refine P_each fun Kb hKb => ?_ | refine W_and ?_) | ((with_reducible refine W_fresh (fun b hb => ?_)); (repeat (obtain ⟨_, hb⟩ := hb))) | ((with_reducible refine W_gd (fun h => ?_) (fun h => ?_)) <;> (try (exfalso; first | assumption | omega)))) <;> (try simp (disch := first | assumption | omega) only [go_sem, seval, hlr, *]))))
          refine ⟨_, Fg.refl _, m - 1, by omega, i + 1, by omega, by omega, rfl, Lib.hid ?_, z_sl, z_sl⟩
          rw [nodup_take HNM.out]
          refine ⟨HN.out, fun hmem => ?_⟩
          obtain ⟨j, hj, e⟩ := mem_take_lt hmem
          exact HK.out j (by omega) e
      · have hdn := HN.out
        rw [List.take_of_length_le (by simp; omega)] at hdn
        have HDN := Lib.hid hdn
        clear hdn HN
        (repeat' (first | refine Ctl ?_ | ((with_reducible refine Kof.use hK ?_); clear hK hE K E) | ((with_reducible refine Eof.use hE ?_); (try clear hK hE K E)) | ((with_reducible refine Kof.use hKh ?_); clear hKh Kh) | ((with_reducible refine Kof.use hKb (P_next ?_)); clear hKb Kb) | (with_reducible first | refine G_plan 14 [] [0, 1, 2, 3, 4, 5, 6, 7, 8, 9, 10, 11, 12] hQe fun K E hK hE => ?_ | refine G_plan 19 [([0, 1, 2, 3, 4, 5, 6, 8], 7, [[8]])] [9] hQe fun K E hK hE => ?_ | refine G_plan 27 [([0, 1, 2, 3, 4, 5, 6, 7, 8, 9], 10, [[]])] [11] hQe fun K E hK hE => ?_) | ((with_reducible refine W_cond (fun h => ?_) (fun h => ?_)) <;> (try (exfalso; first | assumption | omega))) | ((first | (with_reducible first | refine G_region fun K E hK hE => ?_ | refine call_ret can25 (RMay11_S _ (by assumption) _) ?_ | refine call_ret can27 (RDom_S _ _ (by assumption) _) ?_ | refine call_ret can26 (RRel_S _ _ (by assumption) _) ?_ | refine W_if ?_ | refine W_ifS ?_ | refine P_heads fun Kh hKh => ?_ | refine P_fin fun Kh hKh => ?_ | refine P_each fun Kb hKb => ?_ | refine W_and ?_) | ((with_reducible refine W_fresh (fun b hb => ?_)); (repeat (obtain ⟨_, hb⟩ := hb))) | ((with_reducible refine W_gd (fun h => ?_) (fun h => ?_)) <;> (try (exfalso; first | assumption | omega)))) <;> (try simp (disch := first | assumption | omega) only [go_sem, seval, hlr, *]))))
        refine G_loop (fun m env s3 => ∃ i : Nat, i ≤ cs.length ∧ m + i = cs.length ∧ s3 = s2 ∧ Hid (((cs.map (·.name)).take i).Nodup) ∧ env 1 = .ptr pp 0 ∧ env 6 = .int .i64 i) cs.length ?_ ?_
        · exact ⟨_, Fg.refl _, 0, by omega, by omega, rfl, Lib.hid (by simp), z_sl, z_sl⟩
        clear e1 e4 env hm hi hlt m i
        rintro m env s3 ⟨i, hi, hm, rfl, HN, e1, e6⟩
        by_cases hlt : i < cs.length
        · obtain ⟨d, hd0⟩ := uget hlt
          have hsx := dclC_at hd0
          have hnm : (cs.map (·.name))[i]? = some d.name := by rw [List.getElem?_map, hd0]; rfl
          have HNM := Lib.hid hnm
          clear hd0 hnm
          obtain ⟨dn, dz⟩ := d
          by_cases hrz : relZ cs dn = (i : Int)
          · have HRZ := Lib.hid hrz
            have hit : ((relZ cs dn = (i : Int)) = True) := eq_true hrz
            (repeat' (first | refine Ctl ?_ | ((with_reducible refine Kof.use hK ?_); clear hK hE K E) | ((with_reducible refine Eof.use hE ?_); (try clear hK hE K E)) | ((with_reducible refine Kof.use hKh ?_); clear hKh Kh) | ((with_reducible refine Kof.use hKb (P_next ?_)); clear hKb Kb) | (with_reducible first | refine G_plan 14 [] [0, 1, 2, 3, 4, 5, 6, 7, 8, 9, 10, 11, 12] hQe fun K E hK hE => ?_ | refine G_plan 19 [([0, 1, 2, 3, 4, 5, 6, 8], 7, [[8]])] [9] hQe fun K E hK hE => ?_ | refine G_plan 27 [([0, 1, 2, 3, 4, 5, 6, 7, 8, 9], 10, [[]])] [11] hQe fun K E hK hE => ?_) | ((with_reducible refine W_cond (fun h => ?_) (fun h => ?_)) <;> (try (exfalso; first | assumption | omega))) | ((first | (with_reducible first | refine G_region fun K E hK hE => ?_ | refine call_ret can26 (w3 _ _) ?_ | refine call_ret can25 (RMay11_S _ (by assumption) _) ?_ | refine call_ret can27 (RDom_S _ _ (by assumption) _) ?_ | refine call_ret can26 (RRel_S _ _ (by assumption) _) ?_ | refine W_if ?_ | refine W_ifS ?_ | refine P_heads fun Kh hKh => ?_ | refine P_fin fun Kh hKh => ?_ | refine P_each fun Kb hKb => ?_ | refine W_and ?_) | ((with_reducible refine W_fresh (fun b hb => ?_)); (repeat (obtain ⟨_, hb⟩ := hb))) | ((with_reducible refine W_gd (fun h => ?_) (fun h => ?_)) <;> (try (exfalso; first | assumption | omega)))) <;> (try simp (disch := first | assumption | omega) only [go_sem, seval, hle, hsx, dclC, *]))))
            refine ⟨_, Fg.refl _, m - 1, by omega, i + 1, by omega, by omega, rfl, Lib.hid ?_, z_sl, z_sl⟩
            rw [nodup_take HNM.out]
            refine ⟨HN.out, (ixT_first HNM.out).1 ?_⟩
            have hz := HRZ.out
            unfold relZ relI at hz
            cases hx : ixT dn (cs.map (·.name)) with
            | none => rw [hx] at hz; simp only at hz; omega
            | some j => rw [hx] at hz; simp only at hz; congr 1; omega
          · have hE : RE = 120 := by
              rw [HRD2.out, if_pos]
              refine .inr (not_nodup (i := i + 1) ?_)
              rw [nodup_take HNM.out]
              rintro ⟨_, h2⟩
              apply hrz
              unfold relZ relI
              rw [(ixT_first HNM.out).2 h2]
            subst hE
            have hif : ((relZ cs dn = (i : Int)) = False) := eq_false hrz
            (repeat' (first | refine Ctl ?_ | ((with_reducible refine Kof.use hK ?_); clear hK hE K E) | ((with_reducible refine Eof.use hE ?_); (try clear hK hE K E)) | ((with_reducible refine Kof.use hKh ?_); clear hKh Kh) | ((with_reducible refine Kof.use hKb (P_next ?_)); clear hKb Kb) | (with_reducible first | refine G_plan 14 [] [0, 1, 2, 3, 4, 5, 6, 7, 8, 9, 10, 11, 12] hQe fun K E hK hE => ?_ | refine G_plan 19 [([0, 1, 2, 3, 4, 5, 6, 8], 7, [[8]])] [9] hQe fun K E hK hE => ?_ | refine G_plan 27 [([0, 1, 2, 3, 4, 5, 6, 7, 8, 9], 10, [[]])] [11] hQe fun K E hK hE => ?_) | ((with_reducible refine W_cond (fun h => ?_) (fun h => ?_)) <;> (try (exfalso; first | assumption | omega))) | ((first | (with_reducible first | refine G_region fun K E hK hE => ?_ | refine call_ret can26 (w3 _ _) ?_ | refine call_ret can25 (RMay11_S _ (by assumption) _) ?_ | refine call_ret can27 (RDom_S _ _ (by assumption) _) ?_ | refine call_ret can26 (RRel_S _ _ (by assumption) _) ?_ | refine W_if ?_ | refine W_ifS ?_ | refine P_heads fun Kh hKh => ?_ | refine P_fin fun Kh hKh => ?_ | refine P_each fun Kb hKb => ?_ | refine W_and ?_) | ((with_reducible refine W_fresh (fun b hb => ?_)); (repeat (obtain ⟨_, hb⟩ := hb))) | ((with_reducible refine W_gd (fun h => ?_) (fun h => ?_)) <;> (try (exfalso; first | assumption | omega)))) <;> (try simp (disch := first | assumption | omega) only [go_sem, seval, hle, hsx, dclC, *]))))
            all_goals (first | refine W_ret res18 hQ ?_ | refine W_norm res18 hQ ?_ | refine G_pan hQ ?_)
            all_goals (refine ⟨_, _, Wk.of_eq ?_, ?_, rfl, rfl⟩)
            all_goals first | rfl | exact HF.out
        · have hcn := HN.out
          rw [List.take_of_length_le (by simp; omega)] at hcn
          have hr3 := HRD2.out
          rw [if_neg (by rintro (h | h); exact h HDN.out; exact h hcn)] at hr3
          have HRD3 := Lib.hid hr3
          clear hcn HN hr3 HRD2 HDN
          (repeat' (first | refine Ctl ?_ | ((with_reducible refine Kof.use hK ?_); clear hK hE K E) | ((with_reducible refine Eof.use hE ?_); (try clear hK hE K E)) | ((with_reducible refine Kof.use hKh ?_); clear hKh Kh) | ((with_reducible refine Kof.use hKb (P_next ?_)); clear hKb Kb) | (with_reducible first | refine G_plan 14 [] [0, 1, 2, 3, 4, 5, 6, 7, 8, 9, 10, 11, 12] hQe fun K E hK hE => ?_ | refine G_plan 19 [([0, 1, 2, 3, 4, 5, 6, 8], 7, [[8]])] [9] hQe fun K E hK hE => ?_ | refine G_plan 27 [([0, 1, 2, 3, 4, 5, 6, 7, 8, 9], 10, [[]])] [11] hQe fun K E hK hE => ?_) | ((with_reducible refine W_cond (fun h => ?_) (fun h => ?_)) <;> (try (exfalso; first | assumption | omega))) | ((first | (with_reducible first | refine G_region fun K E hK hE => ?_ | refine call_ret can25 (RMay11_S _ (by assumption) _) ?_ | refine call_ret can27 (RDom_S _ _ (by assumption) _) ?_ | refine call_ret can26 (RRel_S _ _ (by assumption) _) ?_ | refine W_if ?_ | refine W_ifS ?_ | refine P_heads fun Kh hKh => ?_ | refine P_fin fun Kh hKh => ?_ | refine P_each fun Kb hKb => ?_ | refine W_and ?_) | ((with_reducible refine W_fresh (fun b hb => ?_)); (repeat (obtain ⟨_, hb⟩ := hb))) | ((with_reducible refine W_gd (fun h => ?_) (fun h => ?_)) <;> (try (exfalso; first | assumption | omega)))) <;> (try simp (disch := first | assumption | omega) only [go_sem, seval, hle, *]))))
          refine G_loop (fun m env s4 => ∃ i : Nat, i ≤ cs.length ∧ m + i = cs.length ∧ s4 = s3 ∧ Hid ((cs.take i).all (kwn ds) = true) ∧ env 1 = .ptr pp 0 ∧ env 7 = .int .i64 i) cs.length ?_ ?_
          · exact ⟨_, Fg.refl _, 0, by omega, by omega, rfl, Lib.hid (by simp), z_sl, z_sl⟩
          clear e1 e6 env hm hi hlt m i
          rintro m env s4 ⟨i, hi, hm, rfl, HN, e1, e7⟩
          by_cases hlt : i < cs.length
          · obtain ⟨d, hd0⟩ := uget hlt
            have hsx := dclC_at hd0
            have hdl := (HDC.out d (List.mem_of_getElem? hd0)).2.1
            have HD := Lib.hid hd0
            clear hd0
            obtain ⟨dn, dz⟩ := d
            simp only at hdl
            have hlz : (strs dz).length = dz.length := by simp [strs]
            (repeat' (first | refine Ctl ?_ | ((with_reducible refine Kof.use hK ?_); clear hK hE K E) | ((with_reducible refine Eof.use hE ?_); (try clear hK hE K E)) | ((with_reducible refine Kof.use hKh ?_); clear hKh Kh) | ((with_reducible refine Kof.use hKb (P_next ?_)); clear hKb Kb) | (with_reducible first | refine G_plan 14 [] [0, 1, 2, 3, 4, 5, 6, 7, 8, 9, 10, 11, 12] hQe fun K E hK hE => ?_ | refine G_plan 19 [([0, 1, 2, 3, 4, 5, 6, 8], 7, [[8]])] [9] hQe fun K E hK hE => ?_ | refine G_plan 27 [([0, 1, 2, 3, 4, 5, 6, 7, 8, 9], 10, [[]])] [11] hQe fun K E hK hE => ?_) | ((with_reducible refine W_cond (fun h => ?_) (fun h => ?_)) <;> (try (exfalso; first | assumption | omega))) | ((first | (with_reducible first | refine G_region fun K E hK hE => ?_ | refine call_ret can25 (RMay11_S _ (by assumption) _) ?_ | refine call_ret can27 (RDom_S _ _ (by assumption) _) ?_ | refine call_ret can26 (RRel_S _ _ (by assumption) _) ?_ | refine W_if ?_ | refine W_ifS ?_ | refine P_heads fun Kh hKh => ?_ | refine P_fin fun Kh hKh => ?_ | refine P_each fun Kb hKb => ?_ | refine W_and ?_) | ((with_reducible refine W_fresh (fun b hb => ?_)); (repeat (obtain ⟨_, hb⟩ := hb))) | ((with_reducible refine W_gd (fun h => ?_) (fun h => ?_)) <;> (try (exfalso; first | assumption | omega)))) <;> (try simp (disch := first | assumption | omega) only [go_sem, seval, hle, hsx, dclC, *]))))
            refine G_loop (fun m' env s5 => ∃ k : Nat, k ≤ dz.length ∧ m' + k = dz.length ∧ s5 = s4 ∧ Hid ((dz.take k).all (fun s => !decide (domZ ds s = 0)) = true) ∧ env 1 = .ptr pp 0 ∧ env 7 = .int .i64 i ∧ env 8 = .int .i64 k) dz.length ?_ ?_
            · exact ⟨_, Fg.refl _, 0, by omega, by omega, rfl, Lib.hid (by simp), z_sl, z_sl, z_sl⟩
            clear e1 e7 env
            rintro m' env s5 ⟨k, hk, hm', rfl, HK, e1, e7, e8⟩
            by_cases hlk : k < dz.length
            · obtain ⟨c, hc0⟩ := uget hlk
              have hsy := strs_at hc0
              have HC := Lib.hid hc0
              clear hc0
              by_cases hz0 : domZ ds c = 0
              · have hE : RE = 121 := by
                  rw [HRD3.out, if_pos]
                  exact uall_not HD.out (by unfold kwn; exact uall_not HC.out (by simp [hz0]))
                subst hE
                (repeat' (first | refine Ctl ?_ | ((with_reducible refine Kof.use hK ?_); clear hK hE K E) | ((with_reducible refine Eof.use hE ?_); (try clear hK hE K E)) | ((with_reducible refine Kof.use hKh ?_); clear hKh Kh) | ((with_reducible refine Kof.use hKb (P_next ?_)); clear hKb Kb) | (with_reducible first | refine G_plan 14 [] [0, 1, 2, 3, 4, 5, 6, 7, 8, 9, 10, 11, 12] hQe fun K E hK hE => ?_ | refine G_plan 19 [([0, 1, 2, 3, 4, 5, 6, 8], 7, [[8]])] [9] hQe fun K E hK hE => ?_ | refine G_plan 27 [([0, 1, 2, 3, 4, 5, 6, 7, 8, 9], 10, [[]])] [11] hQe fun K E hK hE => ?_) | ((with_reducible refine W_cond (fun h => ?_) (fun h => ?_)) <;> (try (exfalso; first | assumption | omega))) | ((first | (with_reducible first | refine G_region fun K E hK hE => ?_ | refine call_ret can27 (w2 _ _) ?_ | refine call_ret can25 (RMay11_S _ (by assumption) _) ?_ | refine call_ret can27 (RDom_S _ _ (by assumption) _) ?_ | refine call_ret can26 (RRel_S _ _ (by assumption) _) ?_ | refine W_if ?_ | refine W_ifS ?_ | refine P_heads fun Kh hKh => ?_ | refine P_fin fun Kh hKh => ?_ | refine P_each fun Kb hKb => ?_ | refine W_and ?_) | ((with_reducible refine W_fresh (fun b hb => ?_)); (repeat (obtain ⟨_, hb⟩ := hb))) | ((with_reducible refine W_gd (fun h => ?_) (fun h => ?_)) <;> (try (exfalso; first | assumption | omega)))) <;> (try simp (disch := first | assumption | omega) only [go_sem, seval, hle, hsx, dclC, hlz, hsy, hz0, *]))))
                all_goals (first | refine W_ret res18 hQ ?_ | refine W_norm res18 hQ ?_ | refine G_pan hQ ?_)
                all_goals (refine ⟨_, _, Wk.of_eq ?_, ?_, rfl, rfl⟩)
                all_goals first | rfl | exact HF.out
              · have hzf : (domZ ds c = 0) = False := eq_false hz0
                have HZ := Lib.hid hz0
                clear hz0
                (repeat' (first | refine Ctl ?_ | ((with_reducible refine Kof.use hK ?_); clear hK hE K E) | ((with_reducible refine Eof.use hE ?_); (try clear hK hE K E)) | ((with_reducible refine Kof.use hKh ?_); clear hKh Kh) | ((with_reducible refine Kof.use hKb (P_next ?_)); clear hKb Kb) | (with_reducible first | refine G_plan 14 [] [0, 1, 2, 3, 4, 5, 6, 7, 8, 9, 10, 11, 12] hQe fun K E hK hE => ?_ | refine G_plan 19 [([0, 1, 2, 3, 4, 5, 6, 8], 7, [[8]])] [9] hQe fun K E hK hE => ?_ | refine G_plan 27 [([0, 1, 2, 3, 4, 5, 6, 7, 8, 9], 10, [[]])] [11] hQe fun K E hK hE => ?_) | ((with_reducible refine W_cond (fun h => ?_) (fun h => ?_)) <;> (try (exfalso; first | assumption | omega))) | ((first | (with_reducible first | refine G_region fun K E hK hE => ?_ | refine call_ret can27 (w2 _ _) ?_ | refine call_ret can25 (RMay11_S _ (by assumption) _) ?_ | refine call_ret can27 (RDom_S _ _ (by assumption) _) ?_ | refine call_ret can26 (RRel_S _ _ (by assumption) _) ?_ | refine W_if ?_ | refine W_ifS ?_ | refine P_heads fun Kh hKh => ?_ | refine P_fin fun Kh hKh => ?_ | refine P_each fun Kb hKb => ?_ | refine W_and ?_) | ((with_reducible refine W_fresh (fun b hb => ?_)); (repeat (obtain ⟨_, hb⟩ := hb))) | ((with_reducible refine W_gd (fun h => ?_) (fun h => ?_)) <;> (try (exfalso; first | assumption | omega)))) <;> (try simp (disch := first | assumption | omega) only [go_sem, seval, hle, hsx, dclC, hlz, hsy, *]))))
                exact ⟨_, Fg.refl _, m' - 1, by omega, k + 1, by omega, by omega, rfl, Lib.hid (uall_take HK.out HC.out (by simp [HZ.out])), z_sl, z_sl, z_sl⟩
            · have hall := HK.out
              rw [List.take_of_length_le (by omega)] at hall
              have HALL := Lib.hid hall
              clear hall HK
              (repeat' (first | refine Ctl ?_ | ((with_reducible refine Kof.use hK ?_); clear hK hE K E) | ((with_reducible refine Eof.use hE ?_); (try clear hK hE K E)) | ((with_reducible refine Kof.use hKh ?_); clear hKh Kh) | ((with_reducible refine Kof.use hKb (P_next ?_)); clear hKb Kb) | (with_reducible first | refine G_plan 14 [] [0, 1, 2, 3, 4, 5, 6, 7, 8, 9, 10, 11, 12] hQe fun K E hK hE => ?_ | refine G_plan 19 [([0, 1, 2, 3, 4, 5, 6, 8], 7, [[8]])] [9] hQe fun K E hK hE => ?_ | refine G_plan 27 [([0, 1, 2, 3, 4, 5, 6, 7, 8, 9], 10, [[]])] [11] hQe fun K E hK hE => ?_) | ((with_reducible refine W_cond (fun h => ?_) (fun h => ?_)) <;> (try (exfalso; first | assumption | omega))) | ((first | (with_reducible first | refine G_region fun K E hK hE => ?_ | refine call_ret can25 (RMay11_S _ (by assumption) _) ?_ | refine call_ret can27 (RDom_S _ _ (by assumption) _) ?_ | refine call_ret can26 (RRel_S _ _ (by assumption) _) ?_ | refine W_if ?_ | refine W_ifS ?_ | refine P_heads fun Kh hKh => ?_ | refine P_fin fun Kh hKh => ?_ | refine P_each fun Kb hKb => ?_ | refine W_and ?_) | ((with_reducible refine W_fresh (fun b hb => ?_)); (repeat (obtain ⟨_, hb⟩ := hb))) | ((with_reducible refine W_gd (fun h => ?_) (fun h => ?_)) <;> (try (exfalso; first | assumption | omega)))) <;> (try simp (disch := first | assumption | omega) only [go_sem, seval, hle, hsx, dclC, hlz, *]))))
              exact ⟨_, Fg.refl _, m - 1, by omega, i + 1, by omega, by omega, rfl, Lib.hid (uall_take HN.out HD.out HALL.out), z_sl, z_sl⟩
          · have hall := HN.out
            rw [List.take_of_length_le (by omega)] at hall
            have hE : RE = 0 := by rw [HRD3.out, if_neg (by rw [hall]; simp)]
            subst hE
            clear hall HN
            (repeat' (first | refine Ctl ?_ | ((with_reducible refine Kof.use hK ?_); clear hK hE K E) | ((with_reducible refine Eof.use hE ?_); (try clear hK hE K E)) | ((with_reducible refine Kof.use hKh ?_); clear hKh Kh) | ((with_reducible refine Kof.use hKb (P_next ?_)); clear hKb Kb) | (with_reducible first | refine G_plan 14 [] [0, 1, 2, 3, 4, 5, 6, 7, 8, 9, 10, 11, 12] hQe fun K E hK hE => ?_ | refine G_plan 19 [([0, 1, 2, 3, 4, 5, 6, 8], 7, [[8]])] [9] hQe fun K E hK hE => ?_ | refine G_plan 27 [([0, 1, 2, 3, 4, 5, 6, 7, 8, 9], 10, [[]])] [11] hQe fun K E hK hE => ?_) | ((with_reducible refine W_cond (fun h => ?_) (fun h => ?_)) <;> (try (exfalso; first | assumption | omega))) | ((first | (with_reducible first | refine G_region fun K E hK hE => ?_ | refine call_ret can25 (RMay11_S _ (by assumption) _) ?_ | refine call_ret can27 (RDom_S _ _ (by assumption) _) ?_ | refine call_ret can26 (RRel_S _ _ (by assumption) _) ?_ | refine W_if ?_ | refine W_ifS ?_ | refine P_heads fun Kh hKh => ?_ | refine P_fin fun Kh hKh => ?_ | refine P_each fun Kb hKb => ?_ | refine W_and ?_) | ((with_reducible refine W_fresh (fun b hb => ?_)); (repeat (obtain ⟨_, hb⟩ := hb))) | ((with_reducible refine W_gd (fun h => ?_) (fun h => ?_)) <;> (try (exfalso; first | assumption | omega)))) <;> (try simp (disch := first | assumption | omega) only [go_sem, seval, hle, *]))))
            all_goals (first | refine W_ret res18 hQ ?_ | refine W_norm res18 hQ ?_ | refine G_pan hQ ?_)
            all_goals (refine ⟨_, _, Wk.of_eq ?_, ?_, rfl, rfl⟩)
            all_goals first | rfl | exact HF.out
end Go.Proofs.YtdibndmkeipgbaaGreatDoor
