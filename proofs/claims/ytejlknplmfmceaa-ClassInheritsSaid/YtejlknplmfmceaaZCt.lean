/- What is proved: What package class's set.add hands back. Conditions: what fits a memory. Conditions: those that stand in the statements. -/
import Derived.Test.YtejlknplmfmceaaZCpj
import Derived.Test.YtejlknplmfmceaaZPkj
set_option linter.unusedSimpArgs false
set_option linter.unusedVariables false
set_option maxRecDepth 100000
namespace Go.Proofs.Ytejlknplmfmceaa
open Go.RowKit

/-- A set's map: each text is there. -/
def isA (l : List (List UInt8)) : List (List UInt8 × Bool) := pairsA (fun v : List UInt8 => v) (fun _ _ => true) 0 l
theorem isA_lk {l : List (List UInt8)} (n : List UInt8) : (lkA n (isA l)).getD false = decide (n ∈ l) := by
  unfold isA
  rw [lkA_pairs, List.map_id']
  cases h : ixT n l with
  | none => rw [decide_eq_false (ixT_none.1 h)]; rfl
  | some j => have := List.mem_of_getElem? (ixT_lt h); simp [ixT_lt h, this]
theorem isA_new {l : List (List UInt8)} {n : List UInt8} (hn : n ∉ l) : ptA n true (isA l) = isA (l ++ [n]) := by
  unfold isA
  rw [ptA_new (by rw [pairsA_keys, List.map_id']; exact hn)]
  have : ∀ (i : Nat) (l : List (List UInt8)), pairsA (fun v : List UInt8 => v) (fun _ _ => true) i (l ++ [n]) = pairsA (fun v : List UInt8 => v) (fun _ _ => true) i l ++ [(n, true)] := by
    intro i l
    induction l generalizing i with
    | nil => rfl
    | cons a l ih => simp only [List.cons_append, pairsA, ih (i + 1)]
  rw [this 0 l]
abbrev rsSt : List (Nat × TypeId × Nat) := [(0, 9, 1)]
/-- A set in memory: its list's row is hidden. -/
def Stm1 (t : St) (xb bm : Nat) (l : List (List UInt8)) : St := (t.set bm (.map (mpV encB (isA l)))).set xb (.pk 54 [.lst (strs l) .no, .mp bm] rsSt)
section
variable {t : St} {xb bm b : Nat} {l : List (List UInt8)}
theorem Stm1_at : (Stm1 t xb bm l) xb = .pk 54 [.lst (strs l) .no, .mp bm] rsSt := St.set_same _ _ _
theorem Stm1_bm (h : ¬ bm = xb) : (Stm1 t xb bm l) bm = .map (mpV encB (isA l)) := by unfold Stm1; rw [St.set_other _ _ h, St.set_same]
theorem Stm1_gt (h : ¬ b = xb) (h2 : ¬ b = bm) : (Stm1 t xb bm l) b = t b := by unfold Stm1; rw [St.set_other _ _ h, St.set_other _ _ h2]
theorem Stm1_set {c : Cell} (h : ¬ b = xb) (h2 : ¬ b = bm) : (Stm1 t xb bm l).set b c = Stm1 (t.set b c) xb bm l := by
  funext x
  simp only [Stm1, St.set]
  by_cases h3 : x = b
  · subst h3; simp [h, h2]
  · simp [h3]
theorem Stm1_free : ((Stm1 t xb bm l) b = .free) = (¬ b = xb ∧ ¬ xb = b ∧ ¬ b = bm ∧ ¬ bm = b ∧ t b = .free) := by
  apply propext
  unfold Stm1
  simp only [St.set]
  by_cases h1 : b = xb
  · simp [h1]
  · have h1' : ¬ xb = b := fun e => h1 e.symm
    by_cases h2 : b = bm
    · subst h2; simp [h1, h1']
    · have h2' : ¬ bm = b := fun e => h2 e.symm
      simp [h1, h2, h1', h2']
end
theorem Stm1_pack {B : St} {xb bm : Nat} {l : List (List UInt8)} {o : Own} {M : Cell} (n1 : NotOwn o xb) (m1 : NotOwn o bm) (h1 : OwnOk B o l.length) (ho : Owned (((B.own o 9 1 l.length).set bm M).set xb (.pk 54 [.lst (strs l) o, .mp bm] [])) o 9 1 (strs l).length) :
    GS (((B.own o 9 1 l.length).set bm M).set xb (.pk 54 [.lst (strs l) o, .mp bm] [])) ((B.set bm M).set xb (.pk 54 [.lst (strs l) .no, .mp bm] rsSt)) := by
  have g2 := GS.pack (i := 0) (l := strs l) (o := o) (T' := 9) (sz := 1) (rs' := rsSt) (St.set_same ((B.own o 9 1 l.length).set bm M) xb (.pk 54 [.lst (strs l) o, .mp bm] [])) rfl ho (fun r hr => .inl (by simpa using hr))
  rw [disown_set n1, disown_set m1, disown_own h1, St.set_set] at g2
  exact g2
attribute [local go_sem] Stm1_at Stm1_bm Stm1_gt Stm1_set Stm1_free
set_option maxHeartbeats 4000000 in
theorem Cadd_S (t : St) (xb bm : Nat) (l ts : List (List UInt8)) (o0 : Own) (hxb : t xb = .free) (hbm : t bm = .free) (hne : ¬ bm = xb) (hl : l.length ≤ 1000000000000) (hts : ts.length ≤ 100000) :
    SRet Try.prog 16 [.ptr xb 0, .lst (ts.map strC) o0] (Stm1 t xb bm l) (.tup []) (Stm1 t xb bm (addsS l ts)) := by
  have hlen : (ts.map strC).length = ts.length := by simp
  have hne2 : ¬ xb = bm := fun e => hne e.symm
  generalize hR : addsS l ts = R
  have HR := Lib.hid hR
  clear hR
  refine G_enter Try.func16 rfl Try.ntmps16 rfl fun Q hQ hQe => ?_
  (repeat' (first | refine Ctl ?_ | ((with_reducible refine Kof.use hK ?_); clear hK hE K E) | ((with_reducible refine Eof.use hE ?_); (try clear hK hE K E)) | ((with_reducible refine W_cond (fun h => ?_) (fun h => ?_)) <;> (try (exfalso; first | assumption | omega))) | ((first | (with_reducible first | refine G_region fun K E hK hE => ?_ | refine W_if ?_ | refine W_ifS ?_ | refine W_and ?_) | ((with_reducible refine W_app (fun o2 ho => ?_)); (try simp (disch := assumption) only [disown_set, disown_own, ownok_o, ownok_m, List.length_map, List.length_cons, List.length_nil, Nat.zero_add, hlen] at ho); (repeat (obtain ⟨_, ho⟩ := ho))) | ((with_reducible refine W_gd (fun h => ?_) (fun h => ?_)) <;> (try (exfalso; first | assumption | omega)))) <;> (try simp (disch := first | assumption | omega) only [go_sem, seval, hlen, *]))))
  refine G_loopS (fun m env s' => ∃ (i : Nat) (Y : List (List UInt8)), i ≤ ts.length ∧ m + i = ts.length ∧ Y.length ≤ l.length + i ∧ Hid (addsS Y (ts.drop i) = R) ∧ s' = Stm1 t xb bm Y ∧ env 0 = .ptr xb 0 ∧ env 6 = .lst (ts.map strC) o0 ∧ env 7 = .int .i64 ts.length ∧ env 8 = .int .i64 i) ts.length ?_ ?_
  · exact ⟨_, GS.refl _, 0, l, by omega, by omega, by omega, HR, rfl, z_sl, z_sl, z_sl, z_sl⟩
  clear HR
  rintro m env s' ⟨i, Y, hi, hm, hYl, HR, rfl, e0, e6, e7, e8⟩
  by_cases hlt : i < ts.length
  · obtain ⟨q, hq⟩ := uget hlt
    have hqx : (ts.map strC)[i]? = some [.str q] := by simp [strC, hq]
    have hr := HR.out
    rw [List.drop_eq_getElem_cons hlt, show ts[i] = q by rw [List.getElem?_eq_getElem hlt] at hq; injection hq] at hr
    have hlk := isA_lk (l := Y) q
    unfold addsS at hr
    rw [List.foldl_cons] at hr
    clear HR hq
    by_cases hq0 : q = []
    · rw [show addS Y q = Y by unfold addS; rw [if_pos (.inl hq0)]] at hr
      have HR2 : Hid (addsS Y (ts.drop (i + 1)) = R) := Lib.hid hr
      subst hq0
      clear hr hlk
      (repeat' (first | refine Ctl ?_ | ((with_reducible refine Kof.use hK ?_); clear hK hE K E) | ((with_reducible refine Eof.use hE ?_); (try clear hK hE K E)) | ((with_reducible refine W_cond (fun h => ?_) (fun h => ?_)) <;> (try (exfalso; first | assumption | omega))) | ((first | (with_reducible first | refine G_region fun K E hK hE => ?_ | refine W_if ?_ | refine W_ifS ?_ | refine W_and ?_) | ((with_reducible refine W_app (fun o2 ho => ?_)); (try simp (disch := assumption) only [disown_set, disown_own, ownok_o, ownok_m, List.length_map, List.length_cons, List.length_nil, Nat.zero_add, hlen, hqx] at ho); (repeat (obtain ⟨_, ho⟩ := ho))) | ((with_reducible refine W_gd (fun h => ?_) (fun h => ?_)) <;> (try (exfalso; first | assumption | omega)))) <;> (try simp (disch := first | assumption | omega) only [go_sem, seval, hlen, hqx, *]))))
      all_goals exact ⟨_, GS.refl _, m - 1, by omega, i + 1, Y, by omega, by omega, by omega, HR2, rfl, z_sl, z_sl, z_sl, z_sl⟩
    · have hqf : (q = []) = False := eq_false hq0
      by_cases hqY : q ∈ Y
      · rw [show addS Y q = Y by unfold addS; rw [if_pos (.inr hqY)]] at hr
        have HR2 : Hid (addsS Y (ts.drop (i + 1)) = R) := Lib.hid hr
        rw [decide_eq_true hqY] at hlk
        clear hr hqY
        (repeat' (first | refine Ctl ?_ | ((with_reducible refine Kof.use hK ?_); clear hK hE K E) | ((with_reducible refine Eof.use hE ?_); (try clear hK hE K E)) | ((with_reducible refine W_cond (fun h => ?_) (fun h => ?_)) <;> (try (exfalso; first | assumption | omega))) | ((first | (with_reducible first | refine G_region fun K E hK hE => ?_ | refine W_if ?_ | refine W_ifS ?_ | refine W_and ?_) | ((with_reducible refine W_app (fun o2 ho => ?_)); (try simp (disch := assumption) only [disown_set, disown_own, ownok_o, ownok_m, List.length_map, List.length_cons, List.length_nil, Nat.zero_add, hlen, hqx, hlk] at ho); (repeat (obtain ⟨_, ho⟩ := ho))) | ((with_reducible refine W_gd (fun h => ?_) (fun h => ?_)) <;> (try (exfalso; first | assumption | omega)))) <;> (try simp (disch := first | assumption | omega) only [go_sem, seval, hlen, hqx, hlk, *]))))
        all_goals exact ⟨_, GS.refl _, m - 1, by omega, i + 1, Y, by omega, by omega, by omega, HR2, rfl, z_sl, z_sl, z_sl, z_sl⟩
      · rw [show addS Y q = Y ++ [q] by unfold addS; rw [if_neg (by intro h; rcases h with h | h; exact hq0 h; exact hqY h)]] at hr
        have HR2 : Hid (addsS (Y ++ [q]) (ts.drop (i + 1)) = R) := Lib.hid hr
        have HPT := Lib.hid (isA_new hqY)
        rw [decide_eq_false hqY] at hlk
        have hcl : (strs Y).length = Y.length := by simp [strs]
        clear hr hqY
        refine Kp_unpk xb 0 (T' := 9) (sz := 1) [] Stm1_at rfl (by simp) (by simp) ?_
        intro o1 hO1 hn1
        simp only [List.set, hcl] at hO1 ⊢
        unfold Stm1 at hO1 ⊢
        rw [own_push hn1, St.set_set]
        simp only [ownok_pk, ownok_m] at hO1
        obtain ⟨_, hn1m, hO1⟩ := hO1
        rw [own_push hn1m]
        (repeat' (first | refine Ctl ?_ | ((with_reducible refine Kof.use hK ?_); clear hK hE K E) | ((with_reducible refine Eof.use hE ?_); (try clear hK hE K E)) | ((with_reducible refine W_cond (fun h => ?_) (fun h => ?_)) <;> (try (exfalso; first | assumption | omega))) | ((first | (with_reducible first | refine G_region fun K E hK hE => ?_ | refine W_if ?_ | refine W_ifS ?_ | refine W_and ?_) | ((with_reducible refine W_app (fun o2 ho => ?_)); (try simp (disch := assumption) only [disown_set, disown_own, ownok_o, ownok_m, List.length_map, List.length_cons, List.length_nil, Nat.zero_add, hlen, hqx, hlk, hcl, ownok_pk, ownok_m, or_true, if_true] at ho); (repeat (obtain ⟨_, ho⟩ := ho))) | ((with_reducible refine W_gd (fun h => ?_) (fun h => ?_)) <;> (try (exfalso; first | assumption | omega)))) <;> (try simp (disch := first | assumption | omega) only [go_sem, seval, hlen, hqx, hlk, hcl, ownok_pk, ownok_m, or_true, if_true, *]))))
        have hst : strs (Y ++ [q]) = strs Y ++ [[.str q]] := by simp [strs, strC]
        have hln : (Y ++ [q]).length = Y.length + 1 := by simp
        have hg := Stm1_pack (B := t) (xb := xb) (bm := bm) (l := Y ++ [q]) (o := o2) (M := .map (mpV encB (ptA q true (isA Y)))) (by assumption) (by assumption) (by rw [hln]; assumption) (by
          rw [show (strs (Y ++ [q])).length = Y.length + 1 by simp [strs], hln]
          simp (disch := first | assumption | omega) only [go_sem, seval, *])
        rw [hst, hln] at hg
        rw [HPT.out] at hg ⊢
        exact ⟨Stm1 t xb bm (Y ++ [q]), by unfold Stm1; rw [hst]; exact hg, m - 1, by omega, i + 1, Y ++ [q], by omega, by omega, by rw [hln]; omega, HR2, rfl, z_sl, z_sl, z_sl, z_sl⟩
  · have hr := HR.out
    rw [List.drop_of_length_le (by omega)] at hr
    obtain rfl : Y = R := hr
    clear HR
    (repeat' (first | refine Ctl ?_ | ((with_reducible refine Kof.use hK ?_); clear hK hE K E) | ((with_reducible refine Eof.use hE ?_); (try clear hK hE K E)) | ((with_reducible refine W_cond (fun h => ?_) (fun h => ?_)) <;> (try (exfalso; first | assumption | omega))) | ((first | (with_reducible first | refine G_region fun K E hK hE => ?_ | refine W_if ?_ | refine W_ifS ?_ | refine W_and ?_) | ((with_reducible refine W_app (fun o2 ho => ?_)); (try simp (disch := assumption) only [disown_set, disown_own, ownok_o, ownok_m, List.length_map, List.length_cons, List.length_nil, Nat.zero_add, hlen] at ho); (repeat (obtain ⟨_, ho⟩ := ho))) | ((with_reducible refine W_gd (fun h => ?_) (fun h => ?_)) <;> (try (exfalso; first | assumption | omega)))) <;> (try simp (disch := first | assumption | omega) only [go_sem, seval, hlen, *]))))
    all_goals (first | refine W_ret res16 hQ ?_ | refine W_norm res16 hQ ?_ | refine G_pan hQ ?_)
    all_goals (refine ⟨_, _, Wk.of_eq ?_, ?_, rfl, rfl⟩)
    all_goals first | rfl | (exact z_fg)
end Go.Proofs.Ytejlknplmfmceaa
