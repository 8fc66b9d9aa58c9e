/- What is proved: What lex.Spell and oo.isName hand back. Conditions: those that stand in the statements. -/
import Derived.Test.YtdibndmkeipgbaaGreatDoorZBldj
import Derived.Test.YtdibndmkeipgbaaGreatDoorZOoj
set_option linter.unusedSimpArgs false
set_option linter.unusedVariables false
set_option maxRecDepth 100000
namespace Go.Proofs.YtdibndmkeipgbaaGreatDoor
open Go.RowKit

def signB (x : Sgn) : Bool := decide (x.text ≠ []) && decide (oneK x.text = (x.kind, x.text.length))
def spellV (L : List Sgn) : VV := if L.all signB = true then .tup [.str (Lib.join (L.map (·.text)) [32]), .int .i64 0] else .tup [.str [], .int .i64 1]

theorem join_len (m : Nat) (sep : List UInt8) : ∀ (xs : List (List UInt8)), (∀ x, x ∈ xs → x.length ≤ m) → (Lib.join xs sep).length ≤ xs.length * (m + sep.length)
  | [], _ => by simp [Lib.join_nil]
  | x :: r, h => by
    rw [Lib.join_cons, List.length_append]
    have h0 := h x (by simp)
    have h1 : ∀ (r : List (List UInt8)), (∀ y, y ∈ r → y.length ≤ m) → (Lib.joinTail sep r).length ≤ r.length * (m + sep.length) := by
      intro r
      induction r with
      | nil => intro _; simp [Lib.joinTail]
      | cons y r ih =>
        intro hr
        have h2 := ih fun z hz => hr z (by simp [hz])
        have h3 := hr y (by simp)
        simp only [Lib.joinTail, List.map_cons, List.flatten_cons, List.length_append, List.length_cons, Nat.succ_mul] at h2 ⊢
        omega
    have h2 := h1 r fun y hy => h y (by simp [hy])
    rw [List.length_cons, Nat.succ_mul]
    omega
theorem markN_le (l : List UInt8) : markN l ≤ 32 := by
  unfold markN
  repeat (first | omega | split)
theorem oneK_le32 : ∀ l : List UInt8, (oneK l).2 ≤ 32
  | [] => by simp [oneK]
  | c :: l => by
    simp only [oneK]
    split
    · split
      · simp
      · simp only; omega
    · split
      · split
        · simp
        · simp only; omega
      · exact markN_le _

theorem spellV_no {L : List Sgn} {x : Sgn} (h : x ∈ L) (hx : signB x = false) : spellV L = .tup [.str [], .int .i64 1] := by
  unfold spellV
  rw [if_neg]
  rw [List.all_eq_true]
  intro ha
  rw [ha x h] at hx
  cases hx

theorem Spell_S (L : List Sgn) (o0 : Own) (hL : L.length ≤ 4096) (hl : ∀ x, x ∈ L → x.text.length ≤ 9223372036854775000) (s : St) :
    SRet Tryz.prog 89 [.lst (L.map sgnC) o0] s (spellV L) s := by
  refine G_enter Tryz.func89 rfl Tryz.ntmps89 rfl fun Q hQ hQe => ?_
  (repeat' (first | refine Ctl ?_ | ((with_reducible refine Kof.use hK ?_); clear hK hE K E) | ((with_reducible refine Eof.use hE ?_); (try clear hK hE K E)) | ((with_reducible refine W_cond (fun h => ?_) (fun h => ?_)) <;> (try (exfalso; first | assumption | omega))) | ((first | (with_reducible first | refine G_region fun K E hK hE => ?_ | refine W_if ?_ | refine W_ifS ?_ | refine W_and ?_) | ((with_reducible refine W_fresh (fun b hb => ?_)); (repeat (obtain ⟨_, hb⟩ := hb))) | ((with_reducible refine W_app (fun o2 ho => ?_)); (try simp (disch := assumption) only [disown_set, disown_own, ownok_o, ownok_m, List.length_map, List.length_cons, List.length_nil, Nat.zero_add, List.length_map] at ho); (repeat (obtain ⟨_, ho⟩ := ho))) | ((with_reducible refine W_gd (fun h => ?_) (fun h => ?_)) <;> (try (exfalso; first | assumption | omega)))) <;> (try simp (disch := first | assumption | omega) only [go_sem, seval, List.length_map, *]))))
  refine G_loop (fun n env s' => ∃ (i : Nat) (o : Own), i ≤ L.length ∧ n + i = L.length ∧ (∀ x, x ∈ L.take i → signB x = true) ∧ s' = s.own o 9 1 i ∧ OwnOk s o i ∧
      env 4 = .lst (strs ((L.take i).map (·.text))) o ∧ env 12 = .lst (L.map sgnC) o0 ∧ env 13 = .int .i64 L.length ∧ env 14 = .int .i64 i) L.length ?_ ?_
  · exact ⟨_, Fg.refl _, 0, .full, by omega, by omega, by simp, rfl, rfl, z_sl, z_sl, z_sl, z_sl⟩
  · rintro n env s' ⟨i, o, hi, hn, hall, rfl, hown, e4, e12, e13, e14⟩
    by_cases hlt : i < L.length
    · have hx : L[i]? = some L[i] := List.getElem?_eq_getElem hlt
      have hmem : L[i] ∈ L := List.getElem_mem hlt
      have hxl := hl _ hmem
      generalize L[i] = x at hx hmem hxl
      have hsx : (L.map sgnC)[i]? = some (sgnC x) := by rw [List.getElem?_map, hx]; rfl
      have htake : L.take (i + 1) = L.take i ++ [x] := by rw [List.take_add_one, hx]; rfl
      have hst : (strs ((L.take i).map fun x => x.text)).length = i := by simp [strs]; omega
      have hst2 : strs ((L.take (i + 1)).map fun x => x.text) = strs ((L.take i).map fun x => x.text) ++ [[.str x.text]] := by rw [htake]; simp [strs]
      have hall2 : signB x = true → ∀ y, y ∈ L.take (i + 1) → signB y = true := fun h y hy => by
        rw [htake] at hy
        rcases List.mem_append.1 hy with hy | hy
        · exact hall y hy
        · rw [List.mem_singleton] at hy; subst hy; exact h
      clear hall htake
      obtain ⟨xk, xt, xa⟩ := x
      cases xt with
      | nil =>
        have hno : spellV L = .tup [.str [], .int .i64 1] := spellV_no hmem rfl
        (repeat' (first | refine Ctl ?_ | ((with_reducible refine Kof.use hK ?_); clear hK hE K E) | ((with_reducible refine Eof.use hE ?_); (try clear hK hE K E)) | ((with_reducible refine W_cond (fun h => ?_) (fun h => ?_)) <;> (try (exfalso; first | assumption | omega))) | ((first | (with_reducible first | refine G_region fun K E hK hE => ?_ | refine W_if ?_ | refine W_ifS ?_ | refine W_and ?_) | ((with_reducible refine W_fresh (fun b hb => ?_)); (repeat (obtain ⟨_, hb⟩ := hb))) | ((with_reducible refine W_app (fun o2 ho => ?_)); (try simp (disch := assumption) only [disown_set, disown_own, ownok_o, ownok_m, List.length_map, List.length_cons, List.length_nil, Nat.zero_add, List.length_map, hsx, sgnC] at ho); (repeat (obtain ⟨_, ho⟩ := ho))) | ((with_reducible refine W_gd (fun h => ?_) (fun h => ?_)) <;> (try (exfalso; first | assumption | omega)))) <;> (try simp (disch := first | assumption | omega) only [go_sem, seval, List.length_map, hsx, sgnC, *]))))
        all_goals (first | refine W_ret res89 hQ ?_ | refine W_norm res89 hQ ?_ | refine G_pan hQ ?_)
        all_goals refine ⟨_, _, ?_, ?_, rfl, rfl⟩
        · rw [hno]; exact Wk.refl _
        · (exact z_fg)
      | cons c l =>
        by_cases hbs : signB ⟨xk, c :: l, xa⟩ = true
        · have hb2 := hbs
          simp only [signB, Bool.and_eq_true, decide_eq_true_eq] at hb2
          have hk1 : ((oneK (c :: l)).1 : Int) = xk := by rw [hb2.2]
          have hk2 : ((oneK (c :: l)).2 : Int) = (l.length : Int) + 1 := by rw [hb2.2]; simp
          clear hb2
          (repeat' (first | refine Ctl ?_ | ((with_reducible refine Kof.use hK ?_); clear hK hE K E) | ((with_reducible refine Eof.use hE ?_); (try clear hK hE K E)) | ((with_reducible refine W_cond (fun h => ?_) (fun h => ?_)) <;> (try (exfalso; first | assumption | omega))) | ((first | (with_reducible first | refine G_region fun K E hK hE => ?_ | refine call_ret can86 (one_S _ _ (by assumption) _) ?_ | refine W_if ?_ | refine W_ifS ?_ | refine W_and ?_) | ((with_reducible refine W_fresh (fun b hb => ?_)); (repeat (obtain ⟨_, hb⟩ := hb))) | ((with_reducible refine W_app (fun o2 ho => ?_)); (try simp (disch := assumption) only [disown_set, disown_own, ownok_o, ownok_m, List.length_map, List.length_cons, List.length_nil, Nat.zero_add, List.length_map, hsx, sgnC, hst] at ho); (repeat (obtain ⟨_, ho⟩ := ho))) | ((with_reducible refine W_gd (fun h => ?_) (fun h => ?_)) <;> (try (exfalso; first | assumption | omega)))) <;> (try simp (disch := first | assumption | omega) only [go_sem, seval, List.length_map, hsx, sgnC, hst, *]))))
          all_goals exact ⟨_, Fg.setA (Fg.refl _) (by rw [own_fr]; exact ⟨by assumption, by assumption⟩), n - 1, by omega, i + 1, o2, by omega, by omega, hall2 hbs, rfl, by assumption, z_sl, z_sl, z_sl, z_sl⟩
        · have hno : spellV L = .tup [.str [], .int .i64 1] := spellV_no hmem (by simpa using hbs)
          have hb2 : ¬ (((oneK (c :: l)).1 : Int) = xk ∧ ((oneK (c :: l)).2 : Int) = (l.length : Int) + 1) := by
            rintro ⟨h1, h2⟩
            apply hbs
            simp only [signB, Bool.and_eq_true, decide_eq_true_eq, ne_eq, reduceCtorEq, not_false_eq_true, true_and]
            exact Prod.ext (by omega) (by simp; omega)
          (repeat' (first | refine Ctl ?_ | ((with_reducible refine Kof.use hK ?_); clear hK hE K E) | ((with_reducible refine Eof.use hE ?_); (try clear hK hE K E)) | ((with_reducible refine W_cond (fun h => ?_) (fun h => ?_)) <;> (try (exfalso; first | assumption | omega))) | ((first | (with_reducible first | refine G_region fun K E hK hE => ?_ | refine call_ret can86 (one_S _ _ (by assumption) _) ?_ | refine W_if ?_ | refine W_ifS ?_ | refine W_and ?_) | ((with_reducible refine W_fresh (fun b hb => ?_)); (repeat (obtain ⟨_, hb⟩ := hb))) | ((with_reducible refine W_app (fun o2 ho => ?_)); (try simp (disch := assumption) only [disown_set, disown_own, ownok_o, ownok_m, List.length_map, List.length_cons, List.length_nil, Nat.zero_add, List.length_map, hsx, sgnC, hst] at ho); (repeat (obtain ⟨_, ho⟩ := ho))) | ((with_reducible refine W_gd (fun h => ?_) (fun h => ?_)) <;> (try (exfalso; first | assumption | omega)))) <;> (try simp (disch := first | assumption | omega) only [go_sem, seval, List.length_map, hsx, sgnC, hst, *]))))
          all_goals first
            | (exfalso; grind; done)
            | ((first | refine W_ret res89 hQ ?_ | refine W_norm res89 hQ ?_ | refine G_pan hQ ?_)
               refine ⟨_, _, ?_, ?_, rfl, rfl⟩
               · rw [hno]; exact Wk.refl _
               · (exact z_fg))
    · have hiL : i = L.length := by omega
      have htk : L.take i = L := by rw [hiL]; exact List.take_length
      rw [htk] at hall
      have hjl : (Lib.join ((L.take i).map fun x => x.text) [32]).length ≤ 140737488355328 := by
        rw [htk]
        have h1 := join_len 32 [32] (L.map fun x => x.text) (fun t ht => by
          obtain ⟨x, hx, rfl⟩ := List.mem_map.1 ht
          have := hall x hx
          simp only [signB, Bool.and_eq_true, decide_eq_true_eq] at this
          have h2 := oneK_le32 x.text
          rw [this.2] at h2
          exact h2)
        simp only [List.length_map, List.length_cons, List.length_nil] at h1
        have : L.length * (32 + (0 + 1)) ≤ 4096 * 33 := Nat.mul_le_mul hL (by omega)
        omega
      have hjn : ((L.take i).map fun x => x.text).length ≤ 140737488355328 := by rw [htk, List.length_map]; omega
      have hres : spellV L = .tup [.str (Lib.join ((L.take i).map fun x => x.text) [32]), .int .i64 0] := by
        unfold spellV
        rw [if_pos (List.all_eq_true.2 hall), htk]
      clear hall htk hiL
      (repeat' (first | refine Ctl ?_ | ((with_reducible refine Kof.use hK ?_); clear hK hE K E) | ((with_reducible refine Eof.use hE ?_); (try clear hK hE K E)) | ((with_reducible refine W_cond (fun h => ?_) (fun h => ?_)) <;> (try (exfalso; first | assumption | omega))) | ((first | (with_reducible first | refine G_region fun K E hK hE => ?_ | refine call_ret can70 (Join_S _ _ _ (by assumption) (by assumption) _) ?_ | refine W_if ?_ | refine W_ifS ?_ | refine W_and ?_) | ((with_reducible refine W_fresh (fun b hb => ?_)); (repeat (obtain ⟨_, hb⟩ := hb))) | ((with_reducible refine W_app (fun o2 ho => ?_)); (try simp (disch := assumption) only [disown_set, disown_own, ownok_o, ownok_m, List.length_map, List.length_cons, List.length_nil, Nat.zero_add, List.length_map] at ho); (repeat (obtain ⟨_, ho⟩ := ho))) | ((with_reducible refine W_gd (fun h => ?_) (fun h => ?_)) <;> (try (exfalso; first | assumption | omega)))) <;> (try simp (disch := first | assumption | omega) only [go_sem, seval, List.length_map, *]))))
      all_goals (first | refine W_ret res89 hQ ?_ | refine W_norm res89 hQ ?_ | refine G_pan hQ ?_)
      all_goals refine ⟨_, _, ?_, ?_, rfl, rfl⟩
      · rw [hres]; exact Wk.refl _
      · (exact z_fg)

end Go.Proofs.YtdibndmkeipgbaaGreatDoor
