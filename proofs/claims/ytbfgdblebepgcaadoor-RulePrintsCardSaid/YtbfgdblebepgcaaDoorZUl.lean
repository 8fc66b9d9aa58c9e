/- What is proved: Names, and atoms that may be. Conditions: those that stand in the statements. -/
import Derived.Test.YtbfgdblebepgcaaDoorZUk
import Derived.Test.YtbfgdblebepgcaaDoorZOp
import Derived.Test.YtbfgdblebepgcaaDoorZBr
set_option linter.unusedSimpArgs false
set_option linter.unusedVariables false
set_option maxRecDepth 100000
namespace Go.Proofs.YtbfgdblebepgcaaDoor
open Go.RowKit

theorem uget {α : Type} {l : List α} {i : Nat} (h : i < l.length) : ∃ x, l[i]? = some x := ⟨_, List.getElem?_eq_getElem h⟩
theorem utake {α : Type} {l : List α} {i : Nat} {x : α} (h : l[i]? = some x) : l.take (i + 1) = l.take i ++ [x] := by rw [List.take_add_one, h]; rfl
theorem uall_take {α : Type} {l : List α} {p : α → Bool} {i : Nat} {x : α} (h : (l.take i).all p = true) (hx : l[i]? = some x) (hp : p x = true) : (l.take (i + 1)).all p = true := by
  rw [utake hx, List.all_append, h]; simp [hp]
theorem uall_not {α : Type} {l : List α} {p : α → Bool} {i : Nat} {x : α} (hx : l[i]? = some x) (hp : p x = false) : l.all p = false := by
  cases h : l.all p with
  | false => rfl
  | true => rw [List.all_eq_true.1 h x (List.mem_of_getElem? hx)] at hp; cases hp
def nameB (t : List UInt8) : Bool := signB ⟨1, t, 0⟩
theorem uisName_S (t : List UInt8) (hl : t.length ≤ 9223372036854775000) (s : St) : SRet Tryd.prog 32 [.str t] s (.bool (nameB t)) s := by
  refine G_enter Tryd.func32 rfl Tryd.ntmps32 rfl fun Q hQ hQe => ?_
  have hL : ([⟨1, t, 0⟩] : List Sgn).length ≤ 4096 := by simp
  have hx : ∀ x, x ∈ ([⟨1, t, 0⟩] : List Sgn) → x.text.length ≤ 9223372036854775000 := by intro x hx; rw [List.mem_singleton] at hx; subst hx; exact hl
  have hsp := Spell_S [⟨1, t, 0⟩] .full hL hx s
  simp only [List.map_cons, List.map_nil, sgnC] at hsp
  cases hb : signB ⟨1, t, 0⟩
  · have hv : spellV [⟨1, t, 0⟩] = .tup [.str [], .int .i64 1] := by simp [spellV, hb]
    rw [hv] at hsp
    (repeat' (first
      | with_reducible first | refine L_seq ?_ | refine L_blk ?_ | refine L_skip ?_ | refine L_endblk ?_ | refine L_ret ?_ | refine L_exit ?_ | refine X_code ?_ | refine X_back ?_ | refine X_blk ?_ | refine X_past (by decide) ?_ | refine L_back ?_
      | ((with_reducible refine Kof.use hK ?_); clear hK hE K E)
      | ((with_reducible refine Eof.use hE ?_); (try clear hK hE K E))
      | ((with_reducible refine W_cond (fun h => ?_) (fun h => ?_)) <;> (try (exfalso; first | assumption | omega)))
      | ((with_reducible first | refine G_region fun K E hK hE => ?_ | refine call_ret can55 (hsp) ?_ | refine call_ret can55 (Spell_S _ _ (by first | assumption | omega) (by first | assumption | omega) _) ?_ | refine W_if ?_ | refine W_ifS ?_ | refine W_and ?_) <;> (try simp (disch := first | assumption | omega) only [go_sem, seval, *]))
      | ((with_reducible refine W_fresh (fun b hb => ?_)); (repeat (obtain ⟨_, hb⟩ := hb)); (try simp (disch := first | assumption | omega) only [go_sem, seval, *]))
      | ((with_reducible refine W_app (fun o2 ho => ?_)); (repeat (obtain ⟨_, ho⟩ := ho)); (try simp (disch := first | assumption | omega) only [go_sem, seval, *]))
      | ((with_reducible refine W_gd (fun h => ?_) (fun h => ?_)) <;> (try (exfalso; first | assumption | omega)) <;> (try simp (disch := first | assumption | omega) only [go_sem, seval, *]))))
    all_goals (first | refine G_ret hQ (by simp (disch := first | assumption | omega) only [res32, go_sem, seval, *] <;> rfl) ?_ | refine G_norm hQ (by simp (disch := first | assumption | omega) only [res32, go_sem, seval, *] <;> rfl) ?_ | refine G_pan hQ ?_)
    all_goals (refine ⟨_, _, Wk.of_eq ?_, ?_, rfl, rfl⟩)
    all_goals first | ((try dsimp only); (repeat (first | exact Fg.refl _ | exact Fg.own (by assumption) | (refine Fg.set ?_ _ _) | (refine Fg.setA ?_ (by first | assumption | (simp (disch := assumption) only [own_rd, St.set, if_false, if_true, *]; done))) )); done) | (simp [nameB, hb])
  · have hv : spellV [⟨1, t, 0⟩] = .tup [.str (Lib.join [t] [32]), .int .i64 0] := by simp [spellV, hb]
    rw [hv] at hsp
    (repeat' (first
      | with_reducible first | refine L_seq ?_ | refine L_blk ?_ | refine L_skip ?_ | refine L_endblk ?_ | refine L_ret ?_ | refine L_exit ?_ | refine X_code ?_ | refine X_back ?_ | refine X_blk ?_ | refine X_past (by decide) ?_ | refine L_back ?_
      | ((with_reducible refine Kof.use hK ?_); clear hK hE K E)
      | ((with_reducible refine Eof.use hE ?_); (try clear hK hE K E))
      | ((with_reducible refine W_cond (fun h => ?_) (fun h => ?_)) <;> (try (exfalso; first | assumption | omega)))
      | ((with_reducible first | refine G_region fun K E hK hE => ?_ | refine call_ret can55 (hsp) ?_ | refine call_ret can55 (Spell_S _ _ (by first | assumption | omega) (by first | assumption | omega) _) ?_ | refine W_if ?_ | refine W_ifS ?_ | refine W_and ?_) <;> (try simp (disch := first | assumption | omega) only [go_sem, seval, *]))
      | ((with_reducible refine W_fresh (fun b hb => ?_)); (repeat (obtain ⟨_, hb⟩ := hb)); (try simp (disch := first | assumption | omega) only [go_sem, seval, *]))
      | ((with_reducible refine W_app (fun o2 ho => ?_)); (repeat (obtain ⟨_, ho⟩ := ho)); (try simp (disch := first | assumption | omega) only [go_sem, seval, *]))
      | ((with_reducible refine W_gd (fun h => ?_) (fun h => ?_)) <;> (try (exfalso; first | assumption | omega)) <;> (try simp (disch := first | assumption | omega) only [go_sem, seval, *]))))
    all_goals (first | refine G_ret hQ (by simp (disch := first | assumption | omega) only [res32, go_sem, seval, *] <;> rfl) ?_ | refine G_norm hQ (by simp (disch := first | assumption | omega) only [res32, go_sem, seval, *] <;> rfl) ?_ | refine G_pan hQ ?_)
    all_goals (refine ⟨_, _, Wk.of_eq ?_, ?_, rfl, rfl⟩)
    all_goals first | ((try dsimp only); (repeat (first | exact Fg.refl _ | exact Fg.own (by assumption) | (refine Fg.set ?_ _ _) | (refine Fg.setA ?_ (by first | assumption | (simp (disch := assumption) only [own_rd, St.set, if_false, if_true, *]; done))) )); done) | (simp [nameB, hb])
def trmB (t : Trm) : Bool := if t.var = true then nameB t.nm && decide (t.n = 0) else decide (t.nm = []) && decide (0 ≤ t.n) && decide (t.n ≤ 9999999999)
def atmB (a : Atm) : Bool := a.ts.all trmB && nameB a.rel && decide (0 < a.ts.length) && decide (a.ts.length ≤ 8)
theorem trmC_at {l : List Trm} {i : Nat} {x : Trm} (h : l[i]? = some x) : (l.map trmC)[i]? = some (trmC x) := by rw [List.getElem?_map, h]; rfl
/-- What fits a memory. -/
def AtmOk (a : Atm) : Prop := a.rel.length ≤ 140737488355328 ∧ a.ts.length ≤ 140737488355328 ∧ ∀ t, t ∈ a.ts → t.nm.length ≤ 140737488355328 ∧ -9223372036854775808 ≤ t.n ∧ t.n ≤ 9223372036854775807
set_option maxHeartbeats 2000000 in
theorem umay_S (a : Atm) (o0 : Own) (ha : AtmOk a) (s : St) : SRet Tryd.prog 33 [.agg [.bool a.not, .str a.rel, .lst (a.ts.map trmC) o0]] s (.bool (atmB a)) s := by
  obtain ⟨h1, h2, h3⟩ := ha
  refine G_enter Tryd.func33 rfl Tryd.ntmps33 rfl fun Q hQ hQe => ?_
  (repeat' (first
    | with_reducible first | refine L_seq ?_ | refine L_blk ?_ | refine L_skip ?_ | refine L_endblk ?_ | refine L_ret ?_ | refine L_exit ?_ | refine X_code ?_ | refine X_back ?_ | refine X_blk ?_ | refine X_past (by decide) ?_ | refine L_back ?_
    | ((with_reducible refine Kof.use hK ?_); clear hK hE K E)
    | ((with_reducible refine Eof.use hE ?_); (try clear hK hE K E))
    | ((with_reducible refine W_cond (fun h => ?_) (fun h => ?_)) <;> (try (exfalso; first | assumption | omega)))
    | ((with_reducible first | refine G_region fun K E hK hE => ?_ | refine call_ret can32 (uisName_S _ (by first | assumption | omega) _) ?_ | refine W_if ?_ | refine W_ifS ?_ | refine W_and ?_) <;> (try simp (disch := first | assumption | omega) only [go_sem, seval, List.length_map, *]))
    | ((with_reducible refine W_fresh (fun b hb => ?_)); (repeat (obtain ⟨_, hb⟩ := hb)); (try simp (disch := first | assumption | omega) only [go_sem, seval, List.length_map, *]))
    | ((with_reducible refine W_app (fun o2 ho => ?_)); (try simp (disch := assumption) only [disown_set, disown_own, ownok_o, ownok_m, List.length_map, List.length_cons, List.length_nil, Nat.zero_add, List.length_map] at ho); (repeat (obtain ⟨_, ho⟩ := ho)); (try simp (disch := first | assumption | omega) only [go_sem, seval, List.length_map, *]))
    | ((with_reducible refine W_gd (fun h => ?_) (fun h => ?_)) <;> (try (exfalso; first | assumption | omega)) <;> (try simp (disch := first | assumption | omega) only [go_sem, seval, List.length_map, *]))))
  obtain ⟨nt, rel, ts⟩ := a
  simp only at h1 h2 h3 ⊢
  have hb0 : s.set b (.obj 49 [.bool nt, .str rel, .lst (ts.map trmC) o0]) b = .obj 49 [.bool nt, .str rel, .lst (ts.map trmC) o0] := St.set_same _ _ _
  have hF0 : Fg (s.set b (.obj 49 [.bool nt, .str rel, .lst (ts.map trmC) o0])) s := Fg.of_set _ hb
  generalize s.set b (.obj 49 [.bool nt, .str rel, .lst (ts.map trmC) o0]) = B at *
  have hbf : B b ≠ .free := by rw [hb0]; simp
  have HF := Lib.hid hF0
  clear hF0 hb
  refine G_loop (fun m env s' => ∃ i : Nat, i ≤ ts.length ∧ m + i = ts.length ∧ s' = B ∧ (ts.take i).all trmB = true ∧ env 1 = .ptr b 0 ∧ env 6 = .lst (ts.map trmC) o0 ∧ env 7 = .int .i64 ts.length ∧ env 8 = .int .i64 i) ts.length ?_ ?_
  · exact ⟨B, Fg.refl _, 0, by omega, by omega, rfl, rfl, by ((try simp (disch := first | assumption | omega) only [go_sem, seval, *]) <;> first | rfl | omega), by ((try simp (disch := first | assumption | omega) only [go_sem, seval, *]) <;> first | rfl | omega), by ((try simp (disch := first | assumption | omega) only [go_sem, seval, *]) <;> first | rfl | omega), by ((try simp (disch := first | assumption | omega) only [go_sem, seval, *]) <;> first | rfl | omega)⟩
  · rintro m env s' ⟨i, hi, hm, rfl, hall, e1, e6, e7, e8⟩
    by_cases hlt : i < ts.length
    · obtain ⟨c, hc⟩ := uget hlt
      obtain ⟨hc1, hc2, hc3⟩ := h3 c (List.mem_of_getElem? hc)
      have hsx := trmC_at hc
      have HX := Lib.hid hc
      have HH := Lib.hid hall
      clear hc hall
      obtain ⟨cv, cn, cz⟩ := c
      simp only at hc1 hc2 hc3
      cases cv
      all_goals
        (repeat' (first
          | with_reducible first | refine L_seq ?_ | refine L_blk ?_ | refine L_skip ?_ | refine L_endblk ?_ | refine L_ret ?_ | refine L_exit ?_ | refine X_code ?_ | refine X_back ?_ | refine X_blk ?_ | refine X_past (by decide) ?_ | refine L_back ?_
          | ((with_reducible refine Kof.use hK ?_); clear hK hE K E)
          | ((with_reducible refine Eof.use hE ?_); (try clear hK hE K E))
          | ((with_reducible refine W_cond (fun h => ?_) (fun h => ?_)) <;> (try (exfalso; first | assumption | omega)))
          | ((with_reducible first | refine G_region fun K E hK hE => ?_ | refine call_ret can32 (uisName_S _ (by first | assumption | omega) _) ?_ | refine W_if ?_ | refine W_ifS ?_ | refine W_and ?_) <;> (try simp (disch := first | assumption | omega) only [go_sem, seval, List.length_map, hsx, trmC, *]))
          | ((with_reducible refine W_fresh (fun b hb => ?_)); (repeat (obtain ⟨_, hb⟩ := hb)); (try simp (disch := first | assumption | omega) only [go_sem, seval, List.length_map, hsx, trmC, *]))
          | ((with_reducible refine W_app (fun o2 ho => ?_)); (try simp (disch := assumption) only [disown_set, disown_own, ownok_o, ownok_m, List.length_map, List.length_cons, List.length_nil, Nat.zero_add, List.length_map, hsx, trmC] at ho); (repeat (obtain ⟨_, ho⟩ := ho)); (try simp (disch := first | assumption | omega) only [go_sem, seval, List.length_map, hsx, trmC, *]))
          | ((with_reducible refine W_gd (fun h => ?_) (fun h => ?_)) <;> (try (exfalso; first | assumption | omega)) <;> (try simp (disch := first | assumption | omega) only [go_sem, seval, List.length_map, hsx, trmC, *]))))
      all_goals first
        | (have hres : atmB ⟨nt, rel, ts⟩ = false := by unfold atmB; rw [uall_not HX.out (by simp [trmB]; grind)]; simp
           (first | refine G_ret hQ (by simp (disch := first | assumption | omega) only [res33, go_sem, seval, *] <;> rfl) ?_ | refine G_norm hQ (by simp (disch := first | assumption | omega) only [res33, go_sem, seval, *] <;> rfl) ?_ | refine G_pan hQ ?_)
           (refine ⟨_, _, Wk.of_eq ?_, ?_, rfl, rfl⟩)
           · rw [hres]
           · exact (Fg.of_set _ hb).trans HF)
        | exact ⟨s', Fg.of_set _ hb, m - 1, by omega, i + 1, by omega, by omega, rfl, uall_take HH.out HX.out (by simp [trmB]; grind), by ((try simp (disch := first | assumption | omega) only [go_sem, seval, *]) <;> first | rfl | omega), by ((try simp (disch := first | assumption | omega) only [go_sem, seval, *]) <;> first | rfl | omega), by ((try simp (disch := first | assumption | omega) only [go_sem, seval, *]) <;> first | rfl | omega), by ((try simp (disch := first | assumption | omega) only [go_sem, seval, *]) <;> first | rfl | omega)⟩
    · have hiL : i = ts.length := by omega
      rw [hiL, List.take_length] at hall
      have HA := Lib.hid hall
      clear hall
      (repeat' (first
        | with_reducible first | refine L_seq ?_ | refine L_blk ?_ | refine L_skip ?_ | refine L_endblk ?_ | refine L_ret ?_ | refine L_exit ?_ | refine X_code ?_ | refine X_back ?_ | refine X_blk ?_ | refine X_past (by decide) ?_ | refine L_back ?_
        | ((with_reducible refine Kof.use hK ?_); clear hK hE K E)
        | ((with_reducible refine Eof.use hE ?_); (try clear hK hE K E))
        | ((with_reducible refine W_cond (fun h => ?_) (fun h => ?_)) <;> (try (exfalso; first | assumption | omega)))
        | ((with_reducible first | refine G_region fun K E hK hE => ?_ | refine call_ret can32 (uisName_S _ (by first | assumption | omega) _) ?_ | refine W_if ?_ | refine W_ifS ?_ | refine W_and ?_) <;> (try simp (disch := first | assumption | omega) only [go_sem, seval, List.length_map, *]))
        | ((with_reducible refine W_fresh (fun b hb => ?_)); (repeat (obtain ⟨_, hb⟩ := hb)); (try simp (disch := first | assumption | omega) only [go_sem, seval, List.length_map, *]))
        | ((with_reducible refine W_app (fun o2 ho => ?_)); (try simp (disch := assumption) only [disown_set, disown_own, ownok_o, ownok_m, List.length_map, List.length_cons, List.length_nil, Nat.zero_add, List.length_map] at ho); (repeat (obtain ⟨_, ho⟩ := ho)); (try simp (disch := first | assumption | omega) only [go_sem, seval, List.length_map, *]))
        | ((with_reducible refine W_gd (fun h => ?_) (fun h => ?_)) <;> (try (exfalso; first | assumption | omega)) <;> (try simp (disch := first | assumption | omega) only [go_sem, seval, List.length_map, *]))))
      all_goals (first | refine G_ret hQ (by simp (disch := first | assumption | omega) only [res33, go_sem, seval, *] <;> rfl) ?_ | refine G_norm hQ (by simp (disch := first | assumption | omega) only [res33, go_sem, seval, *] <;> rfl) ?_ | refine G_pan hQ ?_)
      all_goals (refine ⟨_, _, Wk.of_eq ?_, ?_, rfl, rfl⟩)
      all_goals first | exact HF | (have hall := HA.out; simp [atmB, hall, *]; done) | (have hall := HA.out; simp [atmB, hall, *]; grind)
end Go.Proofs.YtbfgdblebepgcaaDoor
