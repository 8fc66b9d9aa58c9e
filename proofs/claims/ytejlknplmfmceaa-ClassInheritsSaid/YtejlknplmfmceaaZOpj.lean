/- What is proved: What lex.Spell and oo.isName hand back; What oo.names and the instances of slices.ContainsFunc and slices.IndexFunc hand back. Conditions: those that stand in the statements. -/
import Derived.Test.YtejlknplmfmceaaZBldj
import Derived.Test.YtejlknplmfmceaaZOoj
set_option linter.unusedSimpArgs false
set_option linter.unusedVariables false
set_option maxRecDepth 100000
namespace Go.Proofs.Ytejlknplmfmceaa
open Go.RowKit

def signB (x : Sgn) : Bool := decide (x.text ≠ []) && decide (oneK x.text = (x.kind, x.text.length))
def spellV (L : List Sgn) : VV := if L.all signB = true then .tup [.str (Lib.join (L.map (·.text)) [32]), .int .i64 0] else .tup [.str [], .int .i64 1]

theorem join_len (m : Nat) (sep : List UInt8) : ∀ (xs : List (List UInt8)), (∀ x, x ∈ xs → x.length ≤ m) → (Lib.join xs sep).length ≤ xs.length * (m + sep.length)
  | [], _ => by simp [Lib.join_nil]
  | x :: r, h => by
    rw [Lib.join_cons, List.length_append]
    have h0 := h x (by simp)
    have h1 : ∀ (r : List (List UInt8)), (∀ y, y ∈ r → y.length ≤ m) → (Lib.joinTail sep r).length ≤ r.length * (m + sep.length) := by
      intro r
      induction r with
      | nil => intro _; simp [Lib.joinTail]
      | cons y r ih =>
        intro hr
        have h2 := ih fun z hz => hr z (by simp [hz])
        have h3 := hr y (by simp)
        simp only [Lib.joinTail, List.map_cons, List.flatten_cons, List.length_append, List.length_cons, Nat.succ_mul] at h2 ⊢
        omega
    have h2 := h1 r fun y hy => h y (by simp [hy])
    rw [List.length_cons, Nat.succ_mul]
    omega
theorem markN_le (l : List UInt8) : markN l ≤ 32 := by
  unfold markN
  repeat (first | omega | split)
theorem oneK_le32 : ∀ l : List UInt8, (oneK l).2 ≤ 32
  | [] => by simp [oneK]
  | c :: l => by
    simp only [oneK]
    split
    · split
      · simp
      · simp only; omega
    · split
      · split
        · simp
        · simp only; omega
      · exact markN_le _

theorem spellV_no {L : List Sgn} {x : Sgn} (h : x ∈ L) (hx : signB x = false) : spellV L = .tup [.str [], .int .i64 1] := by
  unfold spellV
  rw [if_neg]
  rw [List.all_eq_true]
  intro ha
  rw [ha x h] at hx
  cases hx

theorem Spell_S (L : List Sgn) (o0 : Own) (hL : L.length ≤ 4096) (hl : ∀ x, x ∈ L → x.text.length ≤ 9223372036854775000) (s : St) :
    SRet Try.prog 74 [.lst (L.map sgnC) o0] s (spellV L) s := by
  refine G_enter Try.func74 rfl Try.ntmps74 rfl fun Q hQ hQe => ?_
  (repeat' (first | refine Ctl ?_ | ((with_reducible refine Kof.use hK ?_); clear hK hE K E) | ((with_reducible refine Eof.use hE ?_); (try clear hK hE K E)) | ((with_reducible refine W_cond (fun h => ?_) (fun h => ?_)) <;> (try (exfalso; first | assumption | omega))) | ((first | (with_reducible first | refine G_region fun K E hK hE => ?_ | refine W_if ?_ | refine W_ifS ?_ | refine W_and ?_) | ((with_reducible refine W_fresh (fun b hb => ?_)); (repeat (obtain ⟨_, hb⟩ := hb))) | ((with_reducible refine W_app (fun o2 ho => ?_)); (try simp (disch := assumption) only [disown_set, disown_own, ownok_o, ownok_m, List.length_map, List.length_cons, List.length_nil, Nat.zero_add, List.length_map] at ho); (repeat (obtain ⟨_, ho⟩ := ho))) | ((with_reducible refine W_gd (fun h => ?_) (fun h => ?_)) <;> (try (exfalso; first | assumption | omega)))) <;> (try simp (disch := first | assumption | omega) only [go_sem, seval, List.length_map, *]))))
  refine G_loop (fun n env s' => ∃ (i : Nat) (o : Own), i ≤ L.length ∧ n + i = L.length ∧ (∀ x, x ∈ L.take i → signB x = true) ∧ s' = s.own o 9 1 i ∧ OwnOk s o i ∧
      env 4 = .lst (strs ((L.take i).map (·.text))) o ∧ env 12 = .lst (L.map sgnC) o0 ∧ env 13 = .int .i64 L.length ∧ env 14 = .int .i64 i) L.length ?_ ?_
  · exact ⟨_, Fg.refl _, 0, .full, by omega, by omega, by simp, rfl, rfl, z_sl, z_sl, z_sl, z_sl⟩
  · rintro n env s' ⟨i, o, hi, hn, hall, rfl, hown, e4, e12, e13, e14⟩
    by_cases hlt : i < L.length
    · have hx : L[i]? = some L[i] := List.getElem?_eq_getElem hlt
      have hmem : L[i] ∈ L := List.getElem_mem hlt
      have hxl := hl _ hmem
      generalize L[i] = x at hx hmem hxl
      have hsx : (L.map sgnC)[i]? = some (sgnC x) := by rw [List.getElem?_map, hx]; rfl
      have htake : L.take (i + 1) = L.take i ++ [x] := by rw [List.take_add_one, hx]; rfl
      have hst : (strs ((L.take i).map fun x => x.text)).length = i := by simp [strs]; omega
      have hst2 : strs ((L.take (i + 1)).map fun x => x.text) = strs ((L.take i).map fun x => x.text) ++ [[.str x.text]] := by rw [htake]; simp [strs]
      have hall2 : signB x = true → ∀ y, y ∈ L.take (i + 1) → signB y = true := fun h y hy => by
        rw [htake] at hy
        rcases List.mem_append.1 hy with hy | hy
        · exact hall y hy
        · rw [List.mem_singleton] at hy; subst hy; exact h
      clear hall htake
      obtain ⟨xk, xt, xa⟩ := x
      cases xt with
      | nil =>
        have hno : spellV L = .tup [.str [], .int .i64 1] := spellV_no hmem rfl
        (repeat' (first | refine Ctl ?_ | ((with_reducible refine Kof.use hK ?_); clear hK hE K E) | ((with_reducible refine Eof.use hE ?_); (try clear hK hE K E)) | ((with_reducible refine W_cond (fun h => ?_) (fun h => ?_)) <;> (try (exfalso; first | assumption | omega))) | ((first | (with_reducible first | refine G_region fun K E hK hE => ?_ | refine W_if ?_ | refine W_ifS ?_ | refine W_and ?_) | ((with_reducible refine W_fresh (fun b hb => ?_)); (repeat (obtain ⟨_, hb⟩ := hb))) | ((with_reducible refine W_app (fun o2 ho => ?_)); (try simp (disch := assumption) only [disown_set, disown_own, ownok_o, ownok_m, List.length_map, List.length_cons, List.length_nil, Nat.zero_add, List.length_map, hsx, sgnC] at ho); (repeat (obtain ⟨_, ho⟩ := ho))) | ((with_reducible refine W_gd (fun h => ?_) (fun h => ?_)) <;> (try (exfalso; first | assumption | omega)))) <;> (try simp (disch := first | assumption | omega) only [go_sem, seval, List.length_map, hsx, sgnC, *]))))
        all_goals (first | refine W_ret res74 hQ ?_ | refine W_norm res74 hQ ?_ | refine G_pan hQ ?_)
        all_goals refine ⟨_, _, ?_, ?_, rfl, rfl⟩
        · rw [hno]; exact Wk.refl _
        · (exact z_fg)
      | cons c l =>
        by_cases hbs : signB ⟨xk, c :: l, xa⟩ = true
        · have hb2 := hbs
          simp only [signB, Bool.and_eq_true, decide_eq_true_eq] at hb2
          have hk1 : ((oneK (c :: l)).1 : Int) = xk := by rw [hb2.2]
          have hk2 : ((oneK (c :: l)).2 : Int) = (l.length : Int) + 1 := by rw [hb2.2]; simp
          clear hb2
          (repeat' (first | refine Ctl ?_ | ((with_reducible refine Kof.use hK ?_); clear hK hE K E) | ((with_reducible refine Eof.use hE ?_); (try clear hK hE K E)) | ((with_reducible refine W_cond (fun h => ?_) (fun h => ?_)) <;> (try (exfalso; first | assumption | omega))) | ((first | (with_reducible first | refine G_region fun K E hK hE => ?_ | refine call_ret can65 (one_S _ _ (by assumption) _) ?_ | refine W_if ?_ | refine W_ifS ?_ | refine W_and ?_) | ((with_reducible refine W_fresh (fun b hb => ?_)); (repeat (obtain ⟨_, hb⟩ := hb))) | ((with_reducible refine W_app (fun o2 ho => ?_)); (try simp (disch := assumption) only [disown_set, disown_own, ownok_o, ownok_m, List.length_map, List.length_cons, List.length_nil, Nat.zero_add, List.length_map, hsx, sgnC, hst] at ho); (repeat (obtain ⟨_, ho⟩ := ho))) | ((with_reducible refine W_gd (fun h => ?_) (fun h => ?_)) <;> (try (exfalso; first | assumption | omega)))) <;> (try simp (disch := first | assumption | omega) only [go_sem, seval, List.length_map, hsx, sgnC, hst, *]))))
          all_goals exact ⟨_, Fg.setA (Fg.refl _) (by rw [own_fr]; exact ⟨by assumption, by assumption⟩), n - 1, by omega, i + 1, o2, by omega, by omega, hall2 hbs, rfl, by assumption, z_sl, z_sl, z_sl, z_sl⟩
        · have hno : spellV L = .tup [.str [], .int .i64 1] := spellV_no hmem (by simpa using hbs)
          have hb2 : ¬ (((oneK (c :: l)).1 : Int) = xk ∧ ((oneK (c :: l)).2 : Int) = (l.length : Int) + 1) := by
            rintro ⟨h1, h2⟩
            apply hbs
            simp only [signB, Bool.and_eq_true, decide_eq_true_eq, ne_eq, reduceCtorEq, not_false_eq_true, true_and]
            exact Prod.ext (by omega) (by simp; omega)
          (repeat' (first | refine Ctl ?_ | ((with_reducible refine Kof.use hK ?_); clear hK hE K E) | ((with_reducible refine Eof.use hE ?_); (try clear hK hE K E)) | ((with_reducible refine W_cond (fun h => ?_) (fun h => ?_)) <;> (try (exfalso; first | assumption | omega))) | ((first | (with_reducible first | refine G_region fun K E hK hE => ?_ | refine call_ret can65 (one_S _ _ (by assumption) _) ?_ | refine W_if ?_ | refine W_ifS ?_ | refine W_and ?_) | ((with_reducible refine W_fresh (fun b hb => ?_)); (repeat (obtain ⟨_, hb⟩ := hb))) | ((with_reducible refine W_app (fun o2 ho => ?_)); (try simp (disch := assumption) only [disown_set, disown_own, ownok_o, ownok_m, List.length_map, List.length_cons, List.length_nil, Nat.zero_add, List.length_map, hsx, sgnC, hst] at ho); (repeat (obtain ⟨_, ho⟩ := ho))) | ((with_reducible refine W_gd (fun h => ?_) (fun h => ?_)) <;> (try (exfalso; first | assumption | omega)))) <;> (try simp (disch := first | assumption | omega) only [go_sem, seval, List.length_map, hsx, sgnC, hst, *]))))
          all_goals first
            | (exfalso; grind; done)
            | ((first | refine W_ret res74 hQ ?_ | refine W_norm res74 hQ ?_ | refine G_pan hQ ?_)
               refine ⟨_, _, ?_, ?_, rfl, rfl⟩
               · rw [hno]; exact Wk.refl _
               · (exact z_fg))
    · have hiL : i = L.length := by omega
      have htk : L.take i = L := by rw [hiL]; exact List.take_length
      rw [htk] at hall
      have hjl : (Lib.join ((L.take i).map fun x => x.text) [32]).length ≤ 140737488355328 := by
        rw [htk]
        have h1 := join_len 32 [32] (L.map fun x => x.text) (fun t ht => by
          obtain ⟨x, hx, rfl⟩ := List.mem_map.1 ht
          have := hall x hx
          simp only [signB, Bool.and_eq_true, decide_eq_true_eq] at this
          have h2 := oneK_le32 x.text
          rw [this.2] at h2
          exact h2)
        simp only [List.length_map, List.length_cons, List.length_nil] at h1
        have : L.length * (32 + (0 + 1)) ≤ 4096 * 33 := Nat.mul_le_mul hL (by omega)
        omega
      have hjn : ((L.take i).map fun x => x.text).length ≤ 140737488355328 := by rw [htk, List.length_map]; omega
      have hres : spellV L = .tup [.str (Lib.join ((L.take i).map fun x => x.text) [32]), .int .i64 0] := by
        unfold spellV
        rw [if_pos (List.all_eq_true.2 hall), htk]
      clear hall htk hiL
      (repeat' (first | refine Ctl ?_ | ((with_reducible refine Kof.use hK ?_); clear hK hE K E) | ((with_reducible refine Eof.use hE ?_); (try clear hK hE K E)) | ((with_reducible refine W_cond (fun h => ?_) (fun h => ?_)) <;> (try (exfalso; first | assumption | omega))) | ((first | (with_reducible first | refine G_region fun K E hK hE => ?_ | refine call_ret can58 (Join_S _ _ _ (by assumption) (by assumption) _) ?_ | refine W_if ?_ | refine W_ifS ?_ | refine W_and ?_) | ((with_reducible refine W_fresh (fun b hb => ?_)); (repeat (obtain ⟨_, hb⟩ := hb))) | ((with_reducible refine W_app (fun o2 ho => ?_)); (try simp (disch := assumption) only [disown_set, disown_own, ownok_o, ownok_m, List.length_map, List.length_cons, List.length_nil, Nat.zero_add, List.length_map] at ho); (repeat (obtain ⟨_, ho⟩ := ho))) | ((with_reducible refine W_gd (fun h => ?_) (fun h => ?_)) <;> (try (exfalso; first | assumption | omega)))) <;> (try simp (disch := first | assumption | omega) only [go_sem, seval, List.length_map, *]))))
      all_goals (first | refine W_ret res74 hQ ?_ | refine W_norm res74 hQ ?_ | refine G_pan hQ ?_)
      all_goals refine ⟨_, _, ?_, ?_, rfl, rfl⟩
      · rw [hres]; exact Wk.refl _
      · (exact z_fg)

/-- That a text is a name: by the code's lights. -/
def isNameB (t : List UInt8) : Bool := signB ⟨1, t, 0⟩ && !kwB t
theorem isName_S (t : List UInt8) (hl : t.length ≤ 9223372036854775000) (s : St) : SRet Try.prog 53 [.str t] s (.bool (isNameB t)) s := by
  refine G_enter Try.func53 rfl Try.ntmps53 rfl fun Q hQ hQe => ?_
  have hL : ([⟨1, t, 0⟩] : List Sgn).length ≤ 4096 := by simp
  have hx : ∀ x, x ∈ ([⟨1, t, 0⟩] : List Sgn) → x.text.length ≤ 9223372036854775000 := by intro x hx; rw [List.mem_singleton] at hx; subst hx; exact hl
  have hsp := Spell_S [⟨1, t, 0⟩] .full hL hx s
  simp only [List.map_cons, List.map_nil, sgnC] at hsp
  cases hb : signB ⟨1, t, 0⟩
  · have hv : spellV [⟨1, t, 0⟩] = .tup [.str [], .int .i64 1] := by simp [spellV, hb]
    rw [hv] at hsp
    (repeat' (first | refine Ctl ?_ | ((with_reducible refine Kof.use hK ?_); clear hK hE K E) | ((with_reducible refine Eof.use hE ?_); (try clear hK hE K E)) | ((with_reducible refine W_cond (fun h => ?_) (fun h => ?_)) <;> (try (exfalso; first | assumption | omega))) | ((first | (with_reducible first | refine G_region fun K E hK hE => ?_ | refine call_ret can74 (hsp) ?_ | refine call_ret can75 (keyword_S _ _) ?_ | refine call_ret can74 (Spell_S _ _ (by first | assumption | omega) (by first | assumption | omega) _) ?_ | refine W_if ?_ | refine W_ifS ?_ | refine W_and ?_) | ((with_reducible refine W_gd (fun h => ?_) (fun h => ?_)) <;> (try (exfalso; first | assumption | omega)))) <;> (try simp (disch := first | assumption | omega) only [go_sem, seval, *]))))
    all_goals (first | refine W_ret res53 hQ ?_ | refine W_norm res53 hQ ?_ | refine G_pan hQ ?_)
    all_goals (refine ⟨_, _, Wk.of_eq ?_, ?_, rfl, rfl⟩)
    all_goals first | (exact z_fg) | (simp [isNameB, hb])
  · have hv : spellV [⟨1, t, 0⟩] = .tup [.str (Lib.join [t] [32]), .int .i64 0] := by simp [spellV, hb]
    rw [hv] at hsp
    (repeat' (first | refine Ctl ?_ | ((with_reducible refine Kof.use hK ?_); clear hK hE K E) | ((with_reducible refine Eof.use hE ?_); (try clear hK hE K E)) | ((with_reducible refine W_cond (fun h => ?_) (fun h => ?_)) <;> (try (exfalso; first | assumption | omega))) | ((first | (with_reducible first | refine G_region fun K E hK hE => ?_ | refine call_ret can74 (hsp) ?_ | refine call_ret can75 (keyword_S _ _) ?_ | refine call_ret can74 (Spell_S _ _ (by first | assumption | omega) (by first | assumption | omega) _) ?_ | refine W_if ?_ | refine W_ifS ?_ | refine W_and ?_) | ((with_reducible refine W_gd (fun h => ?_) (fun h => ?_)) <;> (try (exfalso; first | assumption | omega)))) <;> (try simp (disch := first | assumption | omega) only [go_sem, seval, *]))))
    all_goals (first | refine W_ret res53 hQ ?_ | refine W_norm res53 hQ ?_ | refine G_pan hQ ?_)
    all_goals (refine ⟨_, _, Wk.of_eq ?_, ?_, rfl, rfl⟩)
    all_goals first | (exact z_fg) | (simp [isNameB, hb])
end Go.Proofs.Ytejlknplmfmceaa
set_option maxRecDepth 100000
namespace Go.Proofs.Ytejlknplmfmceaa
open Go.RowKit

/-- The place of the first text that is no name. -/
def noName : List (List UInt8) → Int
  | [] => -1
  | x :: r => if isNameB x = true then (if noName r < 0 then -1 else noName r + 1) else 0
theorem noName_none : ∀ {xs : List (List UInt8)}, (∀ x, x ∈ xs → isNameB x = true) → noName xs = -1
  | [], _ => rfl
  | x :: r, h => by
    simp only [noName]
    rw [if_pos (h x (by simp)), noName_none fun y hy => h y (by simp [hy])]
    rfl
theorem noName_at : ∀ {xs : List (List UInt8)} {i : Nat} {x : List UInt8}, (∀ x, x ∈ xs.take i → isNameB x = true) → xs[i]? = some x → isNameB x = false → noName xs = i
  | [], i, x, _, h, _ => by simp at h
  | y :: r, 0, x, _, h, hx => by
    simp at h
    subst h
    simp [noName, hx]
  | y :: r, i + 1, x, ha, h, hx => by
    have h1 : isNameB y = true := ha y (by simp)
    have h2 := noName_at (xs := r) (i := i) (x := x) (fun z hz => ha z (by simp [hz])) (by simpa using h) hx
    simp only [noName]
    rw [if_pos h1, h2, if_neg (by omega)]
    omega
theorem noName_any : ∀ (xs : List (List UInt8)), decide (0 ≤ noName xs) = !(xs.all isNameB)
  | [] => by simp [noName]
  | x :: r => by
    have := noName_any r
    cases hx : isNameB x
    · simp [noName, hx]
    · simp only [noName, hx, if_true, List.all_cons, Bool.true_and]
      rw [← this]
      split <;> simp <;> omega

theorem cNames_S (t : List UInt8) (hl : t.length ≤ 9223372036854775000) (s : St) : SRet Try.prog 77 [.str t] s (.bool !(isNameB t)) s := by
  refine G_enter Try.func77 rfl Try.ntmps77 rfl fun Q hQ hQe => ?_
  (repeat' (first | refine Ctl ?_ | ((with_reducible refine Kof.use hK ?_); clear hK hE K E) | ((with_reducible refine Eof.use hE ?_); (try clear hK hE K E)) | ((with_reducible refine W_cond (fun h => ?_) (fun h => ?_)) <;> (try (exfalso; first | assumption | omega))) | ((first | (with_reducible first | refine G_region fun K E hK hE => ?_ | refine call_ret can53 (isName_S _ (by first | assumption | omega) _) ?_ | refine W_if ?_ | refine W_ifS ?_ | refine W_and ?_)) <;> (try simp (disch := first | assumption | omega) only [go_sem, seval, *]))))
  all_goals (first | refine W_ret res77 hQ ?_ | refine W_norm res77 hQ ?_ | refine G_pan hQ ?_)
  all_goals (refine ⟨_, _, Wk.of_eq ?_, ?_, rfl, rfl⟩)
  all_goals first | (exact z_fg) | rfl
theorem iNames_S (xs : List (List UInt8)) (o : Own) (hl : ∀ x, x ∈ xs → x.length ≤ 9223372036854775000) (hn : xs.length ≤ 9223372036854775000) (s : St) :
    SRet Try.prog 92 [.lst (strs xs) o, .fn 77 []] s (.int .i64 (noName xs)) s := by
  have hsl : (strs xs).length = xs.length := by simp [strs]
  refine G_enter Try.func92 rfl Try.ntmps92 rfl fun Q hQ hQe => ?_
  (repeat' (first | refine Ctl ?_ | ((with_reducible refine Kof.use hK ?_); clear hK hE K E) | ((with_reducible refine Eof.use hE ?_); (try clear hK hE K E)) | ((with_reducible refine W_cond (fun h => ?_) (fun h => ?_)) <;> (try (exfalso; first | assumption | omega))) | ((first | (with_reducible first | refine G_region fun K E hK hE => ?_ | refine W_if ?_ | refine W_ifS ?_ | refine W_and ?_)) <;> (try simp (disch := first | assumption | omega) only [go_sem, seval, hsl, *]))))
  refine G_loop (fun n env s' => ∃ (i : Nat), i ≤ xs.length ∧ n + i = xs.length ∧ (∀ x, x ∈ xs.take i → isNameB x = true) ∧ s' = s ∧
      env 0 = .lst (strs xs) o ∧ env 1 = .fn 77 [] ∧ env 7 = .int .i64 xs.length ∧ env 8 = .int .i64 i) xs.length ?_ ?_
  · exact ⟨_, Fg.refl _, 0, by omega, by omega, by simp, rfl, z_sl, z_sl, z_sl, z_sl⟩
  · rintro n env s' ⟨i, hi, hm, hall, rfl, e0, e1, e7, e8⟩
    by_cases hlt : i < xs.length
    · have hx : xs[i]? = some xs[i] := List.getElem?_eq_getElem hlt
      have hxl := hl _ (List.getElem_mem hlt)
      generalize xs[i] = x at hx hxl
      have hsx : (strs xs)[i]? = some [.str x] := by simp [strs, hx]
      have htake : xs.take (i + 1) = xs.take i ++ [x] := by rw [List.take_add_one, hx]; rfl
      cases hb : isNameB x
      · have hres := noName_at hall hx hb
        clear hall htake
        (repeat' (first | refine Ctl ?_ | ((with_reducible refine Kof.use hK ?_); clear hK hE K E) | ((with_reducible refine Eof.use hE ?_); (try clear hK hE K E)) | ((with_reducible refine W_cond (fun h => ?_) (fun h => ?_)) <;> (try (exfalso; first | assumption | omega))) | ((first | (with_reducible first | refine G_region fun K E hK hE => ?_ | refine call_ret can77 (cNames_S _ (by assumption) _) ?_ | refine W_if ?_ | refine W_ifS ?_ | refine W_and ?_)) <;> (try simp (disch := first | assumption | omega) only [go_sem, seval, hsl, hsx, *]))))
        all_goals (first | refine W_ret res92 hQ ?_ | refine W_norm res92 hQ ?_ | refine G_pan hQ ?_)
        all_goals (refine ⟨_, _, Wk.of_eq ?_, ?_, rfl, rfl⟩)
        all_goals first | (exact z_fg) | (rw [hres]; done)
      · have hall2 : ∀ y, y ∈ xs.take (i + 1) → isNameB y = true := fun y hy => by
          rw [htake] at hy
          rcases List.mem_append.1 hy with hy | hy
          · exact hall y hy
          · rw [List.mem_singleton] at hy; subst hy; exact hb
        clear hall htake
        (repeat' (first | refine Ctl ?_ | ((with_reducible refine Kof.use hK ?_); clear hK hE K E) | ((with_reducible refine Eof.use hE ?_); (try clear hK hE K E)) | ((with_reducible refine W_cond (fun h => ?_) (fun h => ?_)) <;> (try (exfalso; first | assumption | omega))) | ((first | (with_reducible first | refine G_region fun K E hK hE => ?_ | refine call_ret can77 (cNames_S _ (by assumption) _) ?_ | refine W_if ?_ | refine W_ifS ?_ | refine W_and ?_)) <;> (try simp (disch := first | assumption | omega) only [go_sem, seval, hsl, hsx, *]))))
        all_goals exact ⟨_, Fg.refl _, n - 1, by omega, i + 1, by omega, by omega, hall2, rfl, z_sl, z_sl, z_sl, z_sl⟩
    · have hres : noName xs = -1 := noName_none (by
        have : xs.take i = xs := List.take_of_length_le (by omega)
        rw [this] at hall
        exact hall)
      clear hall
      (repeat' (first | refine Ctl ?_ | ((with_reducible refine Kof.use hK ?_); clear hK hE K E) | ((with_reducible refine Eof.use hE ?_); (try clear hK hE K E)) | ((with_reducible refine W_cond (fun h => ?_) (fun h => ?_)) <;> (try (exfalso; first | assumption | omega))) | ((first | (with_reducible first | refine G_region fun K E hK hE => ?_ | refine W_if ?_ | refine W_ifS ?_ | refine W_and ?_)) <;> (try simp (disch := first | assumption | omega) only [go_sem, seval, hsl, *]))))
      all_goals (first | refine W_ret res92 hQ ?_ | refine W_norm res92 hQ ?_ | refine G_pan hQ ?_)
      all_goals (refine ⟨_, _, Wk.of_eq ?_, ?_, rfl, rfl⟩)
      all_goals first | (exact z_fg) | (rw [hres]; done)
theorem fNames_S (xs : List (List UInt8)) (o : Own) (hl : ∀ x, x ∈ xs → x.length ≤ 9223372036854775000) (hn : xs.length ≤ 9223372036854775000) (s : St) :
    SRet Try.prog 76 [.lst (strs xs) o, .fn 77 []] s (.bool !(xs.all isNameB)) s := by
  refine G_enter Try.func76 rfl Try.ntmps76 rfl fun Q hQ hQe => ?_
  (repeat' (first | refine Ctl ?_ | ((with_reducible refine Kof.use hK ?_); clear hK hE K E) | ((with_reducible refine Eof.use hE ?_); (try clear hK hE K E)) | ((with_reducible refine W_cond (fun h => ?_) (fun h => ?_)) <;> (try (exfalso; first | assumption | omega))) | ((first | (with_reducible first | refine G_region fun K E hK hE => ?_ | refine call_ret can92 (iNames_S _ _ (by assumption) (by assumption) _) ?_ | refine W_if ?_ | refine W_ifS ?_ | refine W_and ?_)) <;> (try simp (disch := first | assumption | omega) only [go_sem, seval, *]))))
  all_goals (first | refine W_ret res76 hQ ?_ | refine W_norm res76 hQ ?_ | refine G_pan hQ ?_)
  all_goals (refine ⟨_, _, Wk.of_eq ?_, ?_, rfl, rfl⟩)
  all_goals first | (exact z_fg) | (rw [noName_any])
theorem cMay_S (t : List UInt8) (hl : t.length ≤ 9223372036854775000) (s : St) : SRet Try.prog 93 [.str t] s (.bool !(isNameB t)) s := by
  refine G_enter Try.func93 rfl Try.ntmps93 rfl fun Q hQ hQe => ?_
  (repeat' (first | refine Ctl ?_ | ((with_reducible refine Kof.use hK ?_); clear hK hE K E) | ((with_reducible refine Eof.use hE ?_); (try clear hK hE K E)) | ((with_reducible refine W_cond (fun h => ?_) (fun h => ?_)) <;> (try (exfalso; first | assumption | omega))) | ((first | (with_reducible first | refine G_region fun K E hK hE => ?_ | refine call_ret can53 (isName_S _ (by first | assumption | omega) _) ?_ | refine W_if ?_ | refine W_ifS ?_ | refine W_and ?_)) <;> (try simp (disch := first | assumption | omega) only [go_sem, seval, *]))))
  all_goals (first | refine W_ret res93 hQ ?_ | refine W_norm res93 hQ ?_ | refine G_pan hQ ?_)
  all_goals (refine ⟨_, _, Wk.of_eq ?_, ?_, rfl, rfl⟩)
  all_goals first | (exact z_fg) | rfl
theorem iMay_S (xs : List (List UInt8)) (o : Own) (hl : ∀ x, x ∈ xs → x.length ≤ 9223372036854775000) (hn : xs.length ≤ 9223372036854775000) (s : St) :
    SRet Try.prog 92 [.lst (strs xs) o, .fn 93 []] s (.int .i64 (noName xs)) s := by
  have hsl : (strs xs).length = xs.length := by simp [strs]
  refine G_enter Try.func92 rfl Try.ntmps92 rfl fun Q hQ hQe => ?_
  (repeat' (first | refine Ctl ?_ | ((with_reducible refine Kof.use hK ?_); clear hK hE K E) | ((with_reducible refine Eof.use hE ?_); (try clear hK hE K E)) | ((with_reducible refine W_cond (fun h => ?_) (fun h => ?_)) <;> (try (exfalso; first | assumption | omega))) | ((first | (with_reducible first | refine G_region fun K E hK hE => ?_ | refine W_if ?_ | refine W_ifS ?_ | refine W_and ?_)) <;> (try simp (disch := first | assumption | omega) only [go_sem, seval, hsl, *]))))
  refine G_loop (fun n env s' => ∃ (i : Nat), i ≤ xs.length ∧ n + i = xs.length ∧ (∀ x, x ∈ xs.take i → isNameB x = true) ∧ s' = s ∧
      env 0 = .lst (strs xs) o ∧ env 1 = .fn 93 [] ∧ env 7 = .int .i64 xs.length ∧ env 8 = .int .i64 i) xs.length ?_ ?_
  · exact ⟨_, Fg.refl _, 0, by omega, by omega, by simp, rfl, z_sl, z_sl, z_sl, z_sl⟩
  · rintro n env s' ⟨i, hi, hm, hall, rfl, e0, e1, e7, e8⟩
    by_cases hlt : i < xs.length
    · have hx : xs[i]? = some xs[i] := List.getElem?_eq_getElem hlt
      have hxl := hl _ (List.getElem_mem hlt)
      generalize xs[i] = x at hx hxl
      have hsx : (strs xs)[i]? = some [.str x] := by simp [strs, hx]
      have htake : xs.take (i + 1) = xs.take i ++ [x] := by rw [List.take_add_one, hx]; rfl
      cases hb : isNameB x
      · have hres := noName_at hall hx hb
        clear hall htake
        (repeat' (first | refine Ctl ?_ | ((with_reducible refine Kof.use hK ?_); clear hK hE K E) | ((with_reducible refine Eof.use hE ?_); (try clear hK hE K E)) | ((with_reducible refine W_cond (fun h => ?_) (fun h => ?_)) <;> (try (exfalso; first | assumption | omega))) | ((first | (with_reducible first | refine G_region fun K E hK hE => ?_ | refine call_ret can93 (cMay_S _ (by assumption) _) ?_ | refine W_if ?_ | refine W_ifS ?_ | refine W_and ?_)) <;> (try simp (disch := first | assumption | omega) only [go_sem, seval, hsl, hsx, *]))))
        all_goals (first | refine W_ret res92 hQ ?_ | refine W_norm res92 hQ ?_ | refine G_pan hQ ?_)
        all_goals (refine ⟨_, _, Wk.of_eq ?_, ?_, rfl, rfl⟩)
        all_goals first | (exact z_fg) | (rw [hres]; done)
      · have hall2 : ∀ y, y ∈ xs.take (i + 1) → isNameB y = true := fun y hy => by
          rw [htake] at hy
          rcases List.mem_append.1 hy with hy | hy
          · exact hall y hy
          · rw [List.mem_singleton] at hy; subst hy; exact hb
        clear hall htake
        (repeat' (first | refine Ctl ?_ | ((with_reducible refine Kof.use hK ?_); clear hK hE K E) | ((with_reducible refine Eof.use hE ?_); (try clear hK hE K E)) | ((with_reducible refine W_cond (fun h => ?_) (fun h => ?_)) <;> (try (exfalso; first | assumption | omega))) | ((first | (with_reducible first | refine G_region fun K E hK hE => ?_ | refine call_ret can93 (cMay_S _ (by assumption) _) ?_ | refine W_if ?_ | refine W_ifS ?_ | refine W_and ?_)) <;> (try simp (disch := first | assumption | omega) only [go_sem, seval, hsl, hsx, *]))))
        all_goals exact ⟨_, Fg.refl _, n - 1, by omega, i + 1, by omega, by omega, hall2, rfl, z_sl, z_sl, z_sl, z_sl⟩
    · have hres : noName xs = -1 := noName_none (by
        have : xs.take i = xs := List.take_of_length_le (by omega)
        rw [this] at hall
        exact hall)
      clear hall
      (repeat' (first | refine Ctl ?_ | ((with_reducible refine Kof.use hK ?_); clear hK hE K E) | ((with_reducible refine Eof.use hE ?_); (try clear hK hE K E)) | ((with_reducible refine W_cond (fun h => ?_) (fun h => ?_)) <;> (try (exfalso; first | assumption | omega))) | ((first | (with_reducible first | refine G_region fun K E hK hE => ?_ | refine W_if ?_ | refine W_ifS ?_ | refine W_and ?_)) <;> (try simp (disch := first | assumption | omega) only [go_sem, seval, hsl, *]))))
      all_goals (first | refine W_ret res92 hQ ?_ | refine W_norm res92 hQ ?_ | refine G_pan hQ ?_)
      all_goals (refine ⟨_, _, Wk.of_eq ?_, ?_, rfl, rfl⟩)
      all_goals first | (exact z_fg) | (rw [hres]; done)
theorem fMay_S (xs : List (List UInt8)) (o : Own) (hl : ∀ x, x ∈ xs → x.length ≤ 9223372036854775000) (hn : xs.length ≤ 9223372036854775000) (s : St) :
    SRet Try.prog 76 [.lst (strs xs) o, .fn 93 []] s (.bool !(xs.all isNameB)) s := by
  refine G_enter Try.func76 rfl Try.ntmps76 rfl fun Q hQ hQe => ?_
  (repeat' (first | refine Ctl ?_ | ((with_reducible refine Kof.use hK ?_); clear hK hE K E) | ((with_reducible refine Eof.use hE ?_); (try clear hK hE K E)) | ((with_reducible refine W_cond (fun h => ?_) (fun h => ?_)) <;> (try (exfalso; first | assumption | omega))) | ((first | (with_reducible first | refine G_region fun K E hK hE => ?_ | refine call_ret can92 (iMay_S _ _ (by assumption) (by assumption) _) ?_ | refine W_if ?_ | refine W_ifS ?_ | refine W_and ?_)) <;> (try simp (disch := first | assumption | omega) only [go_sem, seval, *]))))
  all_goals (first | refine W_ret res76 hQ ?_ | refine W_norm res76 hQ ?_ | refine G_pan hQ ?_)
  all_goals (refine ⟨_, _, Wk.of_eq ?_, ?_, rfl, rfl⟩)
  all_goals first | (exact z_fg) | (rw [noName_any])

def namesB (xs : List (List UInt8)) : Bool := decide (xs.length ≤ 8) && xs.all isNameB
theorem oonames_S (xs : List (List UInt8)) (o : Own) (hl : ∀ x, x ∈ xs → x.length ≤ 9223372036854775000) (s : St) :
    SRet Try.prog 54 [.lst (strs xs) o] s (.bool (namesB xs)) s := by
  have hsl : (strs xs).length = xs.length := by simp [strs]
  refine G_enter Try.func54 rfl Try.ntmps54 rfl fun Q hQ hQe => ?_
  by_cases h8 : xs.length ≤ 8
  · have hn : xs.length ≤ 9223372036854775000 := by omega
    (repeat' (first | refine Ctl ?_ | ((with_reducible refine Kof.use hK ?_); clear hK hE K E) | ((with_reducible refine Eof.use hE ?_); (try clear hK hE K E)) | ((with_reducible refine W_cond (fun h => ?_) (fun h => ?_)) <;> (try (exfalso; first | assumption | omega))) | ((first | (with_reducible first | refine G_region fun K E hK hE => ?_ | refine call_ret can76 (fNames_S _ _ (by assumption) (by first | assumption | omega) _) ?_ | refine call_ret can76 (fMay_S _ _ (by assumption) (by first | assumption | omega) _) ?_ | refine W_if ?_ | refine W_ifS ?_ | refine W_and ?_) | ((with_reducible refine W_gd (fun h => ?_) (fun h => ?_)) <;> (try (exfalso; first | assumption | omega)))) <;> (try simp (disch := first | assumption | omega) only [go_sem, seval, hsl, *]))))
    all_goals (first | refine W_ret res54 hQ ?_ | refine W_norm res54 hQ ?_ | refine G_pan hQ ?_)
    all_goals (refine ⟨_, _, Wk.of_eq ?_, ?_, rfl, rfl⟩)
    all_goals first | (exact z_fg) | (simp [namesB, h8])
  · (repeat' (first | refine Ctl ?_ | ((with_reducible refine Kof.use hK ?_); clear hK hE K E) | ((with_reducible refine Eof.use hE ?_); (try clear hK hE K E)) | ((with_reducible refine W_cond (fun h => ?_) (fun h => ?_)) <;> (try (exfalso; first | assumption | omega))) | ((first | (with_reducible first | refine G_region fun K E hK hE => ?_ | refine call_ret can76 (fNames_S _ _ (by assumption) (by first | assumption | omega) _) ?_ | refine call_ret can76 (fMay_S _ _ (by assumption) (by first | assumption | omega) _) ?_ | refine W_if ?_ | refine W_ifS ?_ | refine W_and ?_) | ((with_reducible refine W_gd (fun h => ?_) (fun h => ?_)) <;> (try (exfalso; first | assumption | omega)))) <;> (try simp (disch := first | assumption | omega) only [go_sem, seval, hsl, *]))))
    all_goals (first | refine W_ret res54 hQ ?_ | refine W_norm res54 hQ ?_ | refine G_pan hQ ?_)
    all_goals (refine ⟨_, _, Wk.of_eq ?_, ?_, rfl, rfl⟩)
    all_goals first | (exact z_fg) | (simp [namesB, h8])
end Go.Proofs.Ytejlknplmfmceaa
