/- What is proved: Names, and atoms that may be; Atoms as text. Conditions: texts and lists are short; Programs that may be. Conditions: what fits a memory. Conditions: those that stand in the statements. -/
import Derived.Test.YtdibndmkeipgbaaGreatDoorZUk
import Derived.Test.YtdibndmkeipgbaaGreatDoorZOp
import Derived.Test.YtdibndmkeipgbaaGreatDoorZBr
set_option linter.unusedSimpArgs false
set_option linter.unusedVariables false
set_option maxRecDepth 100000
namespace Go.Proofs.YtdibndmkeipgbaaGreatDoor
open Go.RowKit

theorem uget {α : Type} {l : List α} {i : Nat} (h : i < l.length) : ∃ x, l[i]? = some x := ⟨_, List.getElem?_eq_getElem h⟩
theorem utake {α : Type} {l : List α} {i : Nat} {x : α} (h : l[i]? = some x) : l.take (i + 1) = l.take i ++ [x] := by rw [List.take_add_one, h]; rfl
theorem uall_take {α : Type} {l : List α} {p : α → Bool} {i : Nat} {x : α} (h : (l.take i).all p = true) (hx : l[i]? = some x) (hp : p x = true) : (l.take (i + 1)).all p = true := by
  rw [utake hx, List.all_append, h]; simp [hp]
theorem uall_not {α : Type} {l : List α} {p : α → Bool} {i : Nat} {x : α} (hx : l[i]? = some x) (hp : p x = false) : l.all p = false := by
  cases h : l.all p with
  | false => rfl
  | true => rw [List.all_eq_true.1 h x (List.mem_of_getElem? hx)] at hp; cases hp
def nameB (t : List UInt8) : Bool := signB ⟨1, t, 0⟩
theorem uisName_S (t : List UInt8) (hl : t.length ≤ 9223372036854775000) (s : St) : SRet Tryz.prog 77 [.str t] s (.bool (nameB t)) s := by
  refine G_enter Tryz.func77 rfl Tryz.ntmps77 rfl fun Q hQ hQe => ?_
  have hL : ([⟨1, t, 0⟩] : List Sgn).length ≤ 4096 := by simp
  have hx : ∀ x, x ∈ ([⟨1, t, 0⟩] : List Sgn) → x.text.length ≤ 9223372036854775000 := by intro x hx; rw [List.mem_singleton] at hx; subst hx; exact hl
  have hsp := Spell_S [⟨1, t, 0⟩] .full hL hx s
  simp only [List.map_cons, List.map_nil, sgnC] at hsp
  cases hb : signB ⟨1, t, 0⟩
  · have hv : spellV [⟨1, t, 0⟩] = .tup [.str [], .int .i64 1] := by simp [spellV, hb]
    rw [hv] at hsp
    (repeat' (first | refine Ctl ?_ | ((with_reducible refine Kof.use hK ?_); clear hK hE K E) | ((with_reducible refine Eof.use hE ?_); (try clear hK hE K E)) | ((with_reducible refine W_cond (fun h => ?_) (fun h => ?_)) <;> (try (exfalso; first | assumption | omega))) | ((first | (with_reducible first | refine G_region fun K E hK hE => ?_ | refine call_ret can89 (hsp) ?_ | refine call_ret can89 (Spell_S _ _ (by first | assumption | omega) (by first | assumption | omega) _) ?_ | refine W_if ?_ | refine W_ifS ?_ | refine W_and ?_)) <;> (try simp (disch := first | assumption | omega) only [go_sem, seval, *]))))
    all_goals (first | refine W_ret res77 hQ ?_ | refine W_norm res77 hQ ?_ | refine G_pan hQ ?_)
    all_goals (refine ⟨_, _, Wk.of_eq ?_, ?_, rfl, rfl⟩)
    all_goals first | (exact z_fg) | (simp [nameB, hb])
  · have hv : spellV [⟨1, t, 0⟩] = .tup [.str (Lib.join [t] [32]), .int .i64 0] := by simp [spellV, hb]
    rw [hv] at hsp
    (repeat' (first | refine Ctl ?_ | ((with_reducible refine Kof.use hK ?_); clear hK hE K E) | ((with_reducible refine Eof.use hE ?_); (try clear hK hE K E)) | ((with_reducible refine W_cond (fun h => ?_) (fun h => ?_)) <;> (try (exfalso; first | assumption | omega))) | ((first | (with_reducible first | refine G_region fun K E hK hE => ?_ | refine call_ret can89 (hsp) ?_ | refine call_ret can89 (Spell_S _ _ (by first | assumption | omega) (by first | assumption | omega) _) ?_ | refine W_if ?_ | refine W_ifS ?_ | refine W_and ?_)) <;> (try simp (disch := first | assumption | omega) only [go_sem, seval, *]))))
    all_goals (first | refine W_ret res77 hQ ?_ | refine W_norm res77 hQ ?_ | refine G_pan hQ ?_)
    all_goals (refine ⟨_, _, Wk.of_eq ?_, ?_, rfl, rfl⟩)
    all_goals first | (exact z_fg) | (simp [nameB, hb])
def trmB (t : Trm) : Bool := if t.var = true then nameB t.nm && decide (t.n = 0) else decide (t.nm = []) && decide (0 ≤ t.n) && decide (t.n ≤ 9999999999)
def atmB (a : Atm) : Bool := a.ts.all trmB && nameB a.rel && decide (0 < a.ts.length) && decide (a.ts.length ≤ 8)
theorem trmC_at {l : List Trm} {i : Nat} {x : Trm} (h : l[i]? = some x) : (l.map trmC)[i]? = some (trmC x) := by rw [List.getElem?_map, h]; rfl
/-- What fits a memory. -/
def AtmOk (a : Atm) : Prop := a.rel.length ≤ 140737488355328 ∧ a.ts.length ≤ 140737488355328 ∧ ∀ t, t ∈ a.ts → t.nm.length ≤ 140737488355328 ∧ -9223372036854775808 ≤ t.n ∧ t.n ≤ 9223372036854775807
set_option maxHeartbeats 2000000 in
theorem umay_S (a : Atm) (o0 : Own) (ha : AtmOk a) (s : St) : SRet Tryz.prog 78 [.agg [.bool a.not, .str a.rel, .lst (a.ts.map trmC) o0]] s (.bool (atmB a)) s := by
  obtain ⟨h1, h2, h3⟩ := ha
  refine G_enter Tryz.func78 rfl Tryz.ntmps78 rfl fun Q hQ hQe => ?_
  (repeat' (first | refine Ctl ?_ | ((with_reducible refine Kof.use hK ?_); clear hK hE K E) | ((with_reducible refine Eof.use hE ?_); (try clear hK hE K E)) | ((with_reducible refine W_cond (fun h => ?_) (fun h => ?_)) <;> (try (exfalso; first | assumption | omega))) | ((first | (with_reducible first | refine G_region fun K E hK hE => ?_ | refine call_ret can77 (uisName_S _ (by first | assumption | omega) _) ?_ | refine W_if ?_ | refine W_ifS ?_ | refine W_and ?_) | ((with_reducible refine W_fresh (fun b hb => ?_)); (repeat (obtain ⟨_, hb⟩ := hb))) | ((with_reducible refine W_gd (fun h => ?_) (fun h => ?_)) <;> (try (exfalso; first | assumption | omega)))) <;> (try simp (disch := first | assumption | omega) only [go_sem, seval, List.length_map, *]))))
  obtain ⟨nt, rel, ts⟩ := a
  simp only at h1 h2 h3 ⊢
  have hb0 : s.set b (.obj 47 [.bool nt, .str rel, .lst (ts.map trmC) o0]) b = .obj 47 [.bool nt, .str rel, .lst (ts.map trmC) o0] := St.set_same _ _ _
  have hF0 : Fg (s.set b (.obj 47 [.bool nt, .str rel, .lst (ts.map trmC) o0])) s := Fg.of_set _ hb
  generalize s.set b (.obj 47 [.bool nt, .str rel, .lst (ts.map trmC) o0]) = B at *
  have hbf : B b ≠ .free := by rw [hb0]; simp
  have HF := Lib.hid hF0
  clear hF0 hb
  refine G_loop (fun m env s' => ∃ i : Nat, i ≤ ts.length ∧ m + i = ts.length ∧ s' = B ∧ (ts.take i).all trmB = true ∧ env 1 = .ptr b 0 ∧ env 6 = .lst (ts.map trmC) o0 ∧ env 7 = .int .i64 ts.length ∧ env 8 = .int .i64 i) ts.length ?_ ?_
  · exact ⟨B, Fg.refl _, 0, by omega, by omega, rfl, rfl, z_sl, z_sl, z_sl, z_sl⟩
  · rintro m env s' ⟨i, hi, hm, rfl, hall, e1, e6, e7, e8⟩
    by_cases hlt : i < ts.length
    · obtain ⟨c, hc⟩ := uget hlt
      obtain ⟨hc1, hc2, hc3⟩ := h3 c (List.mem_of_getElem? hc)
      have hsx := trmC_at hc
      have HX := Lib.hid hc
      have HH := Lib.hid hall
      clear hc hall
      obtain ⟨cv, cn, cz⟩ := c
      simp only at hc1 hc2 hc3
      cases cv
      all_goals
        (repeat' (first | refine Ctl ?_ | ((with_reducible refine Kof.use hK ?_); clear hK hE K E) | ((with_reducible refine Eof.use hE ?_); (try clear hK hE K E)) | ((with_reducible refine W_cond (fun h => ?_) (fun h => ?_)) <;> (try (exfalso; first | assumption | omega))) | ((first | (with_reducible first | refine G_region fun K E hK hE => ?_ | refine call_ret can77 (uisName_S _ (by first | assumption | omega) _) ?_ | refine W_if ?_ | refine W_ifS ?_ | refine W_and ?_) | ((with_reducible refine W_fresh (fun b hb => ?_)); (repeat (obtain ⟨_, hb⟩ := hb))) | ((with_reducible refine W_gd (fun h => ?_) (fun h => ?_)) <;> (try (exfalso; first | assumption | omega)))) <;> (try simp (disch := first | assumption | omega) only [go_sem, seval, List.length_map, hsx, trmC, *]))))
      all_goals first
        | (have hres : atmB ⟨nt, rel, ts⟩ = false := by unfold atmB; rw [uall_not HX.out (by simp [trmB]; grind)]; simp
           (first | refine W_ret res78 hQ ?_ | refine W_norm res78 hQ ?_ | refine G_pan hQ ?_)
           (refine ⟨_, _, Wk.of_eq ?_, ?_, rfl, rfl⟩)
           · rw [hres]
           · exact (Fg.of_set _ hb).trans HF)
        | exact ⟨s', Fg.of_set _ hb, m - 1, by omega, i + 1, by omega, by omega, rfl, uall_take HH.out HX.out (by simp [trmB]; grind), z_sl, z_sl, z_sl, z_sl⟩
    · have hiL : i = ts.length := by omega
      rw [hiL, List.take_length] at hall
      have HA := Lib.hid hall
      clear hall
      (repeat' (first | refine Ctl ?_ | ((with_reducible refine Kof.use hK ?_); clear hK hE K E) | ((with_reducible refine Eof.use hE ?_); (try clear hK hE K E)) | ((with_reducible refine W_cond (fun h => ?_) (fun h => ?_)) <;> (try (exfalso; first | assumption | omega))) | ((first | (with_reducible first | refine G_region fun K E hK hE => ?_ | refine call_ret can77 (uisName_S _ (by first | assumption | omega) _) ?_ | refine W_if ?_ | refine W_ifS ?_ | refine W_and ?_) | ((with_reducible refine W_fresh (fun b hb => ?_)); (repeat (obtain ⟨_, hb⟩ := hb))) | ((with_reducible refine W_gd (fun h => ?_) (fun h => ?_)) <;> (try (exfalso; first | assumption | omega)))) <;> (try simp (disch := first | assumption | omega) only [go_sem, seval, List.length_map, *]))))
      all_goals (first | refine W_ret res78 hQ ?_ | refine W_norm res78 hQ ?_ | refine G_pan hQ ?_)
      all_goals (refine ⟨_, _, Wk.of_eq ?_, ?_, rfl, rfl⟩)
      all_goals first | exact HF | (have hall := HA.out; simp [atmB, hall, *]; done) | (have hall := HA.out; simp [atmB, hall, *]; grind)
end Go.Proofs.YtdibndmkeipgbaaGreatDoor
set_option maxRecDepth 100000
namespace Go.Proofs.YtdibndmkeipgbaaGreatDoor
open Go.RowKit

def trmT (t : Trm) : List UInt8 := if t.var = true then t.nm else Lib.itoa t.n
def atmT (a : Atm) : List UInt8 := (if a.not = true then [33] else []) ++ (a.rel ++ [40] ++ Lib.join (a.ts.map trmT) [44, 32] ++ [41])
def AtmS (a : Atm) : Prop := a.rel.length ≤ 1000 ∧ a.ts.length ≤ 1000 ∧ ∀ t, t ∈ a.ts → (trmT t).length ≤ 1000 ∧ -9223372036854775808 ≤ t.n ∧ t.n ≤ 9223372036854775807
set_option maxHeartbeats 2000000 in
theorem uspell_S (a : Atm) (o0 : Own) (ha : AtmS a) (s : St) : SRet Tryz.prog 71 [.agg [.bool a.not, .str a.rel, .lst (a.ts.map trmC) o0]] s (.str (atmT a)) s := by
  obtain ⟨h1, h2, h3⟩ := ha
  refine G_enter Tryz.func71 rfl Tryz.ntmps71 rfl fun Q hQ hQe => ?_
  (repeat' (first | refine Ctl ?_ | ((with_reducible refine Kof.use hK ?_); clear hK hE K E) | ((with_reducible refine Eof.use hE ?_); (try clear hK hE K E)) | ((with_reducible refine Kof.use hKh ?_); clear hKh Kh) | ((with_reducible refine Kof.use hKb (P_next ?_)); clear hKb Kb) | (with_reducible refine G_plan 10 [([0, 1, 2, 3], 4, [[0, 1, 2]])] [5, 6, 7] hQe fun K E hK hE => ?_) | ((with_reducible refine W_cond (fun h => ?_) (fun h => ?_)) <;> (try (exfalso; first | assumption | omega))) | ((first | (with_reducible first | refine G_region fun K E hK hE => ?_ | refine call_ret can69 (Itoa_S _ (by first | assumption | omega) (by first | assumption | omega) _) ?_ | refine W_if ?_ | refine W_ifS ?_ | refine P_heads fun Kh hKh => ?_ | refine P_fin fun Kh hKh => ?_ | refine P_each fun Kb hKb => ?_ | refine W_and ?_) | ((with_reducible refine W_fresh (fun b hb => ?_)); (repeat (obtain ⟨_, hb⟩ := hb))) | ((with_reducible refine W_app (fun o2 ho => ?_)); (try simp (disch := assumption) only [disown_set, disown_own, ownok_o, ownok_m, List.length_map, List.length_cons, List.length_nil, Nat.zero_add, List.length_map] at ho); (repeat (obtain ⟨_, ho⟩ := ho)))) <;> (try simp (disch := first | assumption | omega) only [go_sem, seval, List.length_map, *]))))
  obtain ⟨nt, rel, ts⟩ := a
  simp only at h1 h2 h3 ⊢
  have hb0 : s.set b (.obj 47 [.bool nt, .str rel, .lst (ts.map trmC) o0]) b = .obj 47 [.bool nt, .str rel, .lst (ts.map trmC) o0] := St.set_same _ _ _
  have hF0 : Fg (s.set b (.obj 47 [.bool nt, .str rel, .lst (ts.map trmC) o0])) s := Fg.of_set _ hb
  generalize s.set b (.obj 47 [.bool nt, .str rel, .lst (ts.map trmC) o0]) = B at *
  have hbf : B b ≠ .free := by rw [hb0]; simp
  have HF := Lib.hid hF0
  clear hF0 hb
  refine G_loop (fun m env s' => ∃ (i : Nat) (o : Own), i ≤ ts.length ∧ m + i = ts.length ∧ s' = B.own o 9 1 i ∧ OwnOk B o i ∧ NotOwn o b ∧ env 1 = .ptr b 0 ∧ env 3 = .lst (strs ((ts.take i).map trmT)) o ∧ env 9 = .lst (ts.map trmC) o0 ∧ env 10 = .int .i64 ts.length ∧ env 11 = .int .i64 i) ts.length ?_ ?_
  · exact ⟨B, Fg.refl _, 0, .full, by omega, by omega, rfl, rfl, trivial, z_sl, z_sl, z_sl, z_sl, z_sl⟩
  · rintro m env s' ⟨i, o, hi, hm, rfl, hO, hob, e1, e3, e9, e10, e11⟩
    by_cases hlt : i < ts.length
    · obtain ⟨c, hc⟩ := uget hlt
      obtain ⟨hc1, hc2, hc3⟩ := h3 c (List.mem_of_getElem? hc)
      have hsx := trmC_at hc
      have htk : strs ((ts.take (i + 1)).map trmT) = strs ((ts.take i).map trmT) ++ [[.str (trmT c)]] := by rw [utake hc]; simp [strs]
      have hst : (strs ((ts.take i).map trmT)).length = i := by simp [strs]; omega
      have HT := Lib.hid htk
      clear hc htk
      obtain ⟨cv, cn, cz⟩ := c
      simp only at hc1 hc2 hc3
      cases cv
      all_goals
        (repeat' (first | refine Ctl ?_ | ((with_reducible refine Kof.use hK ?_); clear hK hE K E) | ((with_reducible refine Eof.use hE ?_); (try clear hK hE K E)) | ((with_reducible refine Kof.use hKh ?_); clear hKh Kh) | ((with_reducible refine Kof.use hKb (P_next ?_)); clear hKb Kb) | (with_reducible refine G_plan 10 [([0, 1, 2, 3], 4, [[0, 1, 2]])] [5, 6, 7] hQe fun K E hK hE => ?_) | ((with_reducible refine W_cond (fun h => ?_) (fun h => ?_)) <;> (try (exfalso; first | assumption | omega))) | ((first | (with_reducible first | refine G_region fun K E hK hE => ?_ | refine call_ret can69 (Itoa_S _ (by first | assumption | omega) (by first | assumption | omega) _) ?_ | refine W_if ?_ | refine W_ifS ?_ | refine P_heads fun Kh hKh => ?_ | refine P_fin fun Kh hKh => ?_ | refine P_each fun Kb hKb => ?_ | refine W_and ?_) | ((with_reducible refine W_fresh (fun b hb => ?_)); (repeat (obtain ⟨_, hb⟩ := hb))) | ((with_reducible refine W_app (fun o2 ho => ?_)); (try simp (disch := assumption) only [disown_set, disown_own, ownok_o, ownok_m, List.length_map, List.length_cons, List.length_nil, Nat.zero_add, List.length_map, hsx, trmC, hst] at ho); (repeat (obtain ⟨_, ho⟩ := ho)))) <;> (try simp (disch := first | assumption | omega) only [go_sem, seval, List.length_map, hsx, trmC, hst, *]))))
      all_goals exact ⟨_, Fg.setA (Fg.refl _) (by rw [own_fr]; exact ⟨by assumption, by assumption⟩), m - 1, by omega, i + 1, o2, by omega, by omega, rfl, by assumption, OwnOk.not (by assumption) hbf, z_sl, by (rw [show strs (List.map trmT (List.take (i + 1) ts)) = _ from HT]; ((try simp (disch := first | assumption | omega) only [go_sem, seval, *]) <;> first | rfl | omega)), z_sl, z_sl, z_sl⟩
    · have hiL : i = ts.length := by omega
      subst hiL
      rw [List.take_length] at e3
      have hjl : (Lib.join (ts.map trmT) [44, 32]).length ≤ 10000000 := by
        have h1 := join_len 1000 [44, 32] (ts.map trmT) (fun t ht => by
          obtain ⟨x, hx, rfl⟩ := List.mem_map.1 ht
          exact (h3 x hx).1)
        simp only [List.length_map, List.length_cons, List.length_nil] at h1
        have : ts.length * (1000 + (0 + 1 + 1)) ≤ 1000 * 1002 := Nat.mul_le_mul h2 (by omega)
        omega
      have hjl2 : (Lib.join (ts.map trmT) [44, 32]).length ≤ 140737488355328 := by omega
      have hjn : (ts.map trmT).length ≤ 140737488355328 := by rw [List.length_map]; omega
      cases nt
      all_goals
        (repeat' (first | refine Ctl ?_ | ((with_reducible refine Kof.use hK ?_); clear hK hE K E) | ((with_reducible refine Eof.use hE ?_); (try clear hK hE K E)) | ((with_reducible refine Kof.use hKh ?_); clear hKh Kh) | ((with_reducible refine Kof.use hKb (P_next ?_)); clear hKb Kb) | (with_reducible refine G_plan 10 [([0, 1, 2, 3], 4, [[0, 1, 2]])] [5, 6, 7] hQe fun K E hK hE => ?_) | ((with_reducible refine W_cond (fun h => ?_) (fun h => ?_)) <;> (try (exfalso; first | assumption | omega))) | ((first | (with_reducible first | refine G_region fun K E hK hE => ?_ | refine call_ret can70 (Join_S _ _ _ (by assumption) (by assumption) _) ?_ | refine call_ret can69 (Itoa_S _ (by first | assumption | omega) (by first | assumption | omega) _) ?_ | refine W_if ?_ | refine W_ifS ?_ | refine P_heads fun Kh hKh => ?_ | refine P_fin fun Kh hKh => ?_ | refine P_each fun Kb hKb => ?_ | refine W_and ?_) | ((with_reducible refine W_fresh (fun b hb => ?_)); (repeat (obtain ⟨_, hb⟩ := hb))) | ((with_reducible refine W_app (fun o2 ho => ?_)); (try simp (disch := assumption) only [disown_set, disown_own, ownok_o, ownok_m, List.length_map, List.length_cons, List.length_nil, Nat.zero_add, List.length_map, List.length_append] at ho); (repeat (obtain ⟨_, ho⟩ := ho)))) <;> (try simp (disch := first | assumption | omega) only [go_sem, seval, List.length_map, List.length_append, *]))))
      all_goals (first | refine W_ret res71 hQ ?_ | refine W_norm res71 hQ ?_ | refine G_pan hQ ?_)
      all_goals (refine ⟨_, _, Wk.of_eq ?_, ?_, rfl, rfl⟩)
      all_goals first | exact (Fg.own hO).trans HF | (simp [atmT]; done)
end Go.Proofs.YtdibndmkeipgbaaGreatDoor
set_option maxRecDepth 100000
namespace Go.Proofs.YtdibndmkeipgbaaGreatDoor
open Go.RowKit

def dmB (d : Dm) : Bool := nameB d.name && decide (0 ≤ d.size) && decide (d.size ≤ 9999999999)
def dclB (d : Dcl) : Bool := nameB d.name && decide (d.doms.length ≠ 0) && decide (d.doms.length ≤ 8) && d.doms.all nameB
def rulB (x : Rul) : Bool := atmB x.head && !x.head.not && decide (x.head.rel ≠ [100, 111, 109]) && decide (x.head.rel ≠ [114, 101, 108]) && decide (x.body.length ≤ 8) && x.body.all atmB
def pgmB (x : Pgm) : Bool := decide (x.doms.length ≤ 32) && decide (x.decls.length ≤ 32) && decide (x.rules.length ≤ 64) && x.doms.all dmB && x.decls.all dclB && x.rules.all rulB
def DmOk (d : Dm) : Prop := d.name.length ≤ 140737488355328 ∧ -9223372036854775808 ≤ d.size ∧ d.size ≤ 9223372036854775807
def DclOk (d : Dcl) : Prop := d.name.length ≤ 140737488355328 ∧ d.doms.length ≤ 140737488355328 ∧ ∀ t, t ∈ d.doms → t.length ≤ 140737488355328
def RulOk (x : Rul) : Prop := AtmOk x.head ∧ x.body.length ≤ 140737488355328 ∧ ∀ a, a ∈ x.body → AtmOk a
def PgmOk (x : Pgm) : Prop := x.doms.length ≤ 140737488355328 ∧ x.decls.length ≤ 140737488355328 ∧ x.rules.length ≤ 140737488355328 ∧ (∀ d, d ∈ x.doms → DmOk d) ∧ (∀ d, d ∈ x.decls → DclOk d) ∧ ∀ y, y ∈ x.rules → RulOk y
theorem dmC_at {l : List Dm} {i : Nat} {x : Dm} (h : l[i]? = some x) : (l.map dmC)[i]? = some (dmC x) := by rw [List.getElem?_map, h]; rfl
theorem dclC_at {l : List Dcl} {i : Nat} {x : Dcl} (h : l[i]? = some x) : (l.map dclC)[i]? = some (dclC x) := by rw [List.getElem?_map, h]; rfl
theorem rulC_at {l : List Rul} {i : Nat} {x : Rul} (h : l[i]? = some x) : (l.map rulC)[i]? = some (rulC x) := by rw [List.getElem?_map, h]; rfl
theorem atmC_at {l : List Atm} {i : Nat} {x : Atm} (h : l[i]? = some x) : (l.map atmC)[i]? = some (atmC x) := by rw [List.getElem?_map, h]; rfl
theorem strs_at {l : List (List UInt8)} {i : Nat} {x : List UInt8} (h : l[i]? = some x) : (strs l)[i]? = some [.str x] := by simp [strs, h]
theorem dclB_bad {n : List UInt8} {d : List (List UInt8)} (h : nameB n = false ∨ d.length = 0 ∨ 8 < d.length) : dclB ⟨n, d⟩ = false := by
  rcases h with h | h | h
  · simp [dclB, h]
  · simp only [dclB, h]; simp
  · have : ¬ d.length ≤ 8 := by omega
    simp [dclB, this]
theorem rulB_bad {hn : Bool} {hr : List UInt8} {ht : List Trm} {b : List Atm} (h : hn = true ∨ atmB ⟨hn, hr, ht⟩ = false ∨ hr = [100, 111, 109] ∨ hr = [114, 101, 108] ∨ 8 < b.length) : rulB ⟨⟨hn, hr, ht⟩, b⟩ = false := by
  rcases h with h | h | h | h | h
  · simp [rulB, h]
  · simp [rulB, h]
  · simp [rulB, h]
  · simp [rulB, h]
  · have : ¬ b.length ≤ 8 := by omega
    simp [rulB, this]
set_option maxHeartbeats 4000000 in
theorem ucheck_S (x : Pgm) (hx : PgmOk x) (s : St) : SRet Tryz.prog 67 [.agg (pgC x)] s (.bool (pgmB x)) s := by
  obtain ⟨h1, h2, h3, h4, h5, h6⟩ := hx
  obtain ⟨ds, cs, rs⟩ := x
  simp only at h1 h2 h3 h4 h5 h6
  refine G_enter Tryz.func67 rfl Tryz.ntmps67 rfl fun Q hQ hQe => ?_
  (repeat' (first | refine Ctl ?_ | ((with_reducible refine Kof.use hK ?_); clear hK hE K E) | ((with_reducible refine Eof.use hE ?_); (try clear hK hE K E)) | ((with_reducible refine W_cond (fun h => ?_) (fun h => ?_)) <;> (try (exfalso; first | assumption | omega))) | ((first | (with_reducible first | refine G_region fun K E hK hE => ?_ | refine call_ret can77 (uisName_S _ (by first | assumption | omega) _) ?_ | refine call_ret can78 (umay_S _ _ (by assumption) _) ?_ | refine W_if ?_ | refine W_ifS ?_ | refine W_and ?_) | ((with_reducible refine W_fresh (fun b hb => ?_)); (repeat (obtain ⟨_, hb⟩ := hb))) | ((with_reducible refine W_gd (fun h => ?_) (fun h => ?_)) <;> (try (exfalso; first | assumption | omega)))) <;> (try simp (disch := first | assumption | omega) only [go_sem, seval, List.length_map, pgC, *]))))
  all_goals first
    | ((first | refine W_ret res67 hQ ?_ | refine W_norm res67 hQ ?_ | refine G_pan hQ ?_)
       (refine ⟨_, _, Wk.of_eq ?_, ?_, rfl, rfl⟩)
       · simp [pgmB]; omega
       · (exact z_fg))
    | skip
  have hs32 : ds.length ≤ 32 ∧ cs.length ≤ 32 ∧ rs.length ≤ 64 := by omega
  have HS := Lib.hid hs32
  clear hs32
  have hb0 : s.set b (.obj 26 [.lst (ds.map dmC) .no, .lst (cs.map dclC) .no, .lst (rs.map rulC) .no]) b = .obj 26 [.lst (ds.map dmC) .no, .lst (cs.map dclC) .no, .lst (rs.map rulC) .no] := St.set_same _ _ _
  have hF0 : Fg (s.set b (.obj 26 [.lst (ds.map dmC) .no, .lst (cs.map dclC) .no, .lst (rs.map rulC) .no])) s := Fg.of_set _ hb
  obtain ⟨bp, hbp⟩ : ∃ bp, bp = b := ⟨_, rfl⟩
  subst hbp
  generalize s.set bp (.obj 26 [.lst (ds.map dmC) .no, .lst (cs.map dclC) .no, .lst (rs.map rulC) .no]) = B at *
  have hbf : B bp ≠ .free := by rw [hb0]; simp
  have HF := Lib.hid hF0
  rename_i q1 q2
  clear hF0 hb q1 q2 h
  refine G_loop (fun m env s' => ∃ i : Nat, i ≤ ds.length ∧ m + i = ds.length ∧ s' = B ∧ (ds.take i).all dmB = true ∧ env 1 = .ptr bp 0 ∧ env 30 = .lst (ds.map dmC) .no ∧ env 31 = .int .i64 ds.length ∧ env 32 = .int .i64 i) ds.length ?_ ?_
  · exact ⟨B, Fg.refl _, 0, by omega, by omega, rfl, rfl, z_sl, z_sl, z_sl, z_sl⟩
  · rintro m env s' ⟨i, hi, hm, rfl, hall, e1, e30, e31, e32⟩
    by_cases hlt : i < ds.length
    · obtain ⟨c, hc⟩ := uget hlt
      obtain ⟨hc1, hc2, hc3⟩ := h4 c (List.mem_of_getElem? hc)
      have hsx := dmC_at hc
      have HX := Lib.hid hc
      have HH := Lib.hid hall
      clear hc hall
      obtain ⟨cn, cz⟩ := c
      simp only at hc1 hc2 hc3
      (repeat' (first | refine Ctl ?_ | ((with_reducible refine Kof.use hK ?_); clear hK hE K E) | ((with_reducible refine Eof.use hE ?_); (try clear hK hE K E)) | ((with_reducible refine W_cond (fun h => ?_) (fun h => ?_)) <;> (try (exfalso; first | assumption | omega))) | ((first | (with_reducible first | refine G_region fun K E hK hE => ?_ | refine call_ret can77 (uisName_S _ (by first | assumption | omega) _) ?_ | refine call_ret can78 (umay_S _ _ (by assumption) _) ?_ | refine W_if ?_ | refine W_ifS ?_ | refine W_and ?_) | ((with_reducible refine W_fresh (fun b hb => ?_)); (repeat (obtain ⟨_, hb⟩ := hb))) | ((with_reducible refine W_gd (fun h => ?_) (fun h => ?_)) <;> (try (exfalso; first | assumption | omega)))) <;> (try simp (disch := first | assumption | omega) only [go_sem, seval, List.length_map, hsx, dmC, *]))))
      all_goals first
        | (have hres : pgmB ⟨ds, cs, rs⟩ = false := by unfold pgmB; simp only; rw [uall_not (p := dmB) HX.out (by simp [dmB]; grind)]; simp
           (first | refine W_ret res67 hQ ?_ | refine W_norm res67 hQ ?_ | refine G_pan hQ ?_)
           (refine ⟨_, _, Wk.of_eq ?_, ?_, rfl, rfl⟩)
           · rw [hres]
           · exact (Fg.of_set _ hb).trans HF)
        | exact ⟨s', Fg.of_set _ hb, m - 1, by omega, i + 1, by omega, by omega, rfl, uall_take HH.out HX.out (by simp [dmB]; grind), z_sl, z_sl, z_sl, z_sl⟩
    · have hiL : i = ds.length := by omega
      rw [hiL, List.take_length] at hall
      have HA := Lib.hid hall
      clear hall
      (repeat' (first | refine Ctl ?_ | ((with_reducible refine Kof.use hK ?_); clear hK hE K E) | ((with_reducible refine Eof.use hE ?_); (try clear hK hE K E)) | ((with_reducible refine W_cond (fun h => ?_) (fun h => ?_)) <;> (try (exfalso; first | assumption | omega))) | ((first | (with_reducible first | refine G_region fun K E hK hE => ?_ | refine call_ret can77 (uisName_S _ (by first | assumption | omega) _) ?_ | refine call_ret can78 (umay_S _ _ (by assumption) _) ?_ | refine W_if ?_ | refine W_ifS ?_ | refine W_and ?_) | ((with_reducible refine W_fresh (fun b hb => ?_)); (repeat (obtain ⟨_, hb⟩ := hb))) | ((with_reducible refine W_gd (fun h => ?_) (fun h => ?_)) <;> (try (exfalso; first | assumption | omega)))) <;> (try simp (disch := first | assumption | omega) only [go_sem, seval, List.length_map, *]))))
      clear e30 e31 e32 h hlt hiL hi hm
      refine G_loop (fun m env t => ∃ i : Nat, i ≤ cs.length ∧ m + i = cs.length ∧ t = s' ∧ (cs.take i).all dclB = true ∧ env 1 = .ptr bp 0 ∧ env 52 = .lst (cs.map dclC) .no ∧ env 53 = .int .i64 cs.length ∧ env 54 = .int .i64 i) cs.length ?_ ?_
      · exact ⟨s', Fg.refl _, 0, by omega, by omega, rfl, rfl, z_sl, z_sl, z_sl, z_sl⟩
      · clear e1 env
        rintro m env t ⟨i, hi, hm, rfl, hall, e1, e52, e53, e54⟩
        by_cases hlt : i < cs.length
        · obtain ⟨c, hc⟩ := uget hlt
          obtain ⟨hc1, hc2, hc3⟩ := h5 c (List.mem_of_getElem? hc)
          have hsx := dclC_at hc
          have HX := Lib.hid hc
          have HH := Lib.hid hall
          clear hc hall
          obtain ⟨cn, cd⟩ := c
          simp only at hc1 hc2 hc3
          have hsl : (strs cd).length = cd.length := by simp [strs]
          (repeat' (first | refine Ctl ?_ | ((with_reducible refine Kof.use hK ?_); clear hK hE K E) | ((with_reducible refine Eof.use hE ?_); (try clear hK hE K E)) | ((with_reducible refine W_cond (fun h => ?_) (fun h => ?_)) <;> (try (exfalso; first | assumption | omega))) | ((first | (with_reducible first | refine G_region fun K E hK hE => ?_ | refine call_ret can77 (uisName_S _ (by first | assumption | omega) _) ?_ | refine call_ret can78 (umay_S _ _ (by assumption) _) ?_ | refine W_if ?_ | refine W_ifS ?_ | refine W_and ?_) | ((with_reducible refine W_fresh (fun b hb => ?_)); (repeat (obtain ⟨_, hb⟩ := hb))) | ((with_reducible refine W_gd (fun h => ?_) (fun h => ?_)) <;> (try (exfalso; first | assumption | omega)))) <;> (try simp (disch := first | assumption | omega) only [go_sem, seval, List.length_map, hsx, dclC, hsl, *]))))
          all_goals first
            | (have hres : pgmB ⟨ds, cs, rs⟩ = false := by unfold pgmB; simp only; rw [uall_not (p := dclB) HX.out (dclB_bad (by first | exact .inl (by assumption) | exact .inr (.inl (by have := of_eq_true (by assumption : ((cd.length : Int) = 0) = True); omega)) | exact .inr (.inr (by omega))))]; simp
               (first | refine W_ret res67 hQ ?_ | refine W_norm res67 hQ ?_ | refine G_pan hQ ?_)
               (refine ⟨_, _, Wk.of_eq ?_, ?_, rfl, rfl⟩)
               · rw [hres]
               · exact (Fg.of_set _ hb).trans HF)
            | skip
          have HG : nameB cn = true ∧ cd.length ≠ 0 ∧ cd.length ≤ 8 := ⟨by assumption, by omega, by omega⟩
          refine G_loop (fun m2 env t' => ∃ j : Nat, j ≤ cd.length ∧ m2 + j = cd.length ∧ t' = t ∧ (cd.take j).all nameB = true ∧ env 1 = .ptr bp 0 ∧ env 52 = .lst (cs.map dclC) .no ∧ env 53 = .int .i64 cs.length ∧ env 54 = .int .i64 i ∧
            env 75 = .lst (strs cd) .no ∧ env 76 = .int .i64 cd.length ∧ env 77 = .int .i64 j) cd.length ?_ ?_
          · exact ⟨t, Fg.of_set _ hb, 0, by omega, by omega, rfl, rfl, z_sl, z_sl, z_sl, z_sl, z_sl, z_sl, z_sl⟩
          · rename_i q1 q2 q3
            clear e1 e52 e53 e54 env q1 q2 q3 h hb b
            rintro m2 env t' ⟨j, hj, hm2, rfl, hall, e1, e52, e53, e54, e75, e76, e77⟩
            by_cases hlt2 : j < cd.length
            · obtain ⟨c, hc⟩ := uget hlt2
              have hcl := hc3 c (List.mem_of_getElem? hc)
              have hsy := strs_at hc
              have HY := Lib.hid hc
              have HH2 := Lib.hid hall
              clear hc hall
              (repeat' (first | refine Ctl ?_ | ((with_reducible refine Kof.use hK ?_); clear hK hE K E) | ((with_reducible refine Eof.use hE ?_); (try clear hK hE K E)) | ((with_reducible refine W_cond (fun h => ?_) (fun h => ?_)) <;> (try (exfalso; first | assumption | omega))) | ((first | (with_reducible first | refine G_region fun K E hK hE => ?_ | refine call_ret can77 (uisName_S _ (by first | assumption | omega) _) ?_ | refine call_ret can78 (umay_S _ _ (by assumption) _) ?_ | refine W_if ?_ | refine W_ifS ?_ | refine W_and ?_) | ((with_reducible refine W_fresh (fun b hb => ?_)); (repeat (obtain ⟨_, hb⟩ := hb))) | ((with_reducible refine W_gd (fun h => ?_) (fun h => ?_)) <;> (try (exfalso; first | assumption | omega)))) <;> (try simp (disch := first | assumption | omega) only [go_sem, seval, List.length_map, hsy, hsl, *]))))
              all_goals first
                | (have hres : pgmB ⟨ds, cs, rs⟩ = false := by unfold pgmB; simp only; rw [uall_not (p := dclB) HX.out (by unfold dclB; simp only; rw [uall_not (p := nameB) HY.out (by assumption)]; simp)]; simp
                   (first | refine W_ret res67 hQ ?_ | refine W_norm res67 hQ ?_ | refine G_pan hQ ?_)
                   (refine ⟨_, _, Wk.of_eq ?_, ?_, rfl, rfl⟩)
                   · rw [hres]
                   · exact HF)
                | exact ⟨t', Fg.refl _, m2 - 1, by omega, j + 1, by omega, by omega, rfl, uall_take HH2.out HY.out (by assumption), z_sl, z_sl, z_sl, z_sl, z_sl, z_sl, z_sl⟩
            · have hjL : j = cd.length := by omega
              rw [hjL, List.take_length] at hall
              have HA2 := Lib.hid hall
              clear hall
              (repeat' (first | refine Ctl ?_ | ((with_reducible refine Kof.use hK ?_); clear hK hE K E) | ((with_reducible refine Eof.use hE ?_); (try clear hK hE K E)) | ((with_reducible refine W_cond (fun h => ?_) (fun h => ?_)) <;> (try (exfalso; first | assumption | omega))) | ((first | (with_reducible first | refine G_region fun K E hK hE => ?_ | refine call_ret can77 (uisName_S _ (by first | assumption | omega) _) ?_ | refine call_ret can78 (umay_S _ _ (by assumption) _) ?_ | refine W_if ?_ | refine W_ifS ?_ | refine W_and ?_) | ((with_reducible refine W_fresh (fun b hb => ?_)); (repeat (obtain ⟨_, hb⟩ := hb))) | ((with_reducible refine W_gd (fun h => ?_) (fun h => ?_)) <;> (try (exfalso; first | assumption | omega)))) <;> (try simp (disch := first | assumption | omega) only [go_sem, seval, List.length_map, *]))))
              exact ⟨t', Fg.refl _, m - 1, by omega, i + 1, by omega, by omega, rfl, uall_take HH.out HX.out (by have := HA2.out; simp [dclB, HG, this]), z_sl, z_sl, z_sl, z_sl⟩
        · have hiL : i = cs.length := by omega
          rw [hiL, List.take_length] at hall
          have HA2 := Lib.hid hall
          clear hall
          (repeat' (first | refine Ctl ?_ | ((with_reducible refine Kof.use hK ?_); clear hK hE K E) | ((with_reducible refine Eof.use hE ?_); (try clear hK hE K E)) | ((with_reducible refine W_cond (fun h => ?_) (fun h => ?_)) <;> (try (exfalso; first | assumption | omega))) | ((first | (with_reducible first | refine G_region fun K E hK hE => ?_ | refine call_ret can77 (uisName_S _ (by first | assumption | omega) _) ?_ | refine call_ret can78 (umay_S _ _ (by assumption) _) ?_ | refine W_if ?_ | refine W_ifS ?_ | refine W_and ?_) | ((with_reducible refine W_fresh (fun b hb => ?_)); (repeat (obtain ⟨_, hb⟩ := hb))) | ((with_reducible refine W_gd (fun h => ?_) (fun h => ?_)) <;> (try (exfalso; first | assumption | omega)))) <;> (try simp (disch := first | assumption | omega) only [go_sem, seval, List.length_map, *]))))
          clear e52 e53 e54 h hlt hiL hi hm
          refine G_loop (fun m env s' => ∃ i : Nat, i ≤ rs.length ∧ m + i = rs.length ∧ s' = t ∧ (rs.take i).all rulB = true ∧ env 1 = .ptr bp 0 ∧ env 87 = .lst (rs.map rulC) .no ∧ env 88 = .int .i64 rs.length ∧ env 89 = .int .i64 i) rs.length ?_ ?_
          · exact ⟨t, Fg.refl _, 0, by omega, by omega, rfl, rfl, z_sl, z_sl, z_sl, z_sl⟩
          · clear e1 env
            rintro m env s' ⟨i, hi, hm, rfl, hall, e1, e87, e88, e89⟩
            by_cases hlt : i < rs.length
            · obtain ⟨c, hc⟩ := uget hlt
              obtain ⟨hc1, hc2, hc3⟩ := h6 c (List.mem_of_getElem? hc)
              have hsx := rulC_at hc
              have HX := Lib.hid hc
              have HH := Lib.hid hall
              clear hc hall
              obtain ⟨⟨hn, hr, ht⟩, cb⟩ := c
              simp only at hc1 hc2 hc3
              cases hn
              all_goals
                (repeat' (first | refine Ctl ?_ | ((with_reducible refine Kof.use hK ?_); clear hK hE K E) | ((with_reducible refine Eof.use hE ?_); (try clear hK hE K E)) | ((with_reducible refine W_cond (fun h => ?_) (fun h => ?_)) <;> (try (exfalso; first | assumption | omega))) | ((first | (with_reducible first | refine G_region fun K E hK hE => ?_ | refine call_ret can77 (uisName_S _ (by first | assumption | omega) _) ?_ | refine call_ret can78 (umay_S _ _ (by assumption) _) ?_ | refine W_if ?_ | refine W_ifS ?_ | refine W_and ?_) | ((with_reducible refine W_fresh (fun b hb => ?_)); (repeat (obtain ⟨_, hb⟩ := hb))) | ((with_reducible refine W_gd (fun h => ?_) (fun h => ?_)) <;> (try (exfalso; first | assumption | omega)))) <;> (try simp (disch := first | assumption | omega) only [go_sem, seval, List.length_map, hsx, rulC, *]))))
              all_goals first
                | (have hres : pgmB ⟨ds, cs, rs⟩ = false := by unfold pgmB; simp only; rw [uall_not (p := rulB) HX.out (rulB_bad (by first | exact .inl rfl | exact .inr (.inl (by assumption)) | exact .inr (.inr (.inl (of_eq_true (by assumption)))) | exact .inr (.inr (.inr (.inl (of_eq_true (by assumption))))) | exact .inr (.inr (.inr (.inr (by omega))))))]; simp
                   (first | refine W_ret res67 hQ ?_ | refine W_norm res67 hQ ?_ | refine G_pan hQ ?_)
                   (refine ⟨_, _, Wk.of_eq ?_, ?_, rfl, rfl⟩)
                   · rw [hres]
                   · exact (Fg.of_set _ hb).trans HF)
                | skip
              have HG : atmB ⟨false, hr, ht⟩ = true ∧ ¬ hr = [100, 111, 109] ∧ ¬ hr = [114, 101, 108] ∧ cb.length ≤ 8 := ⟨by assumption, by assumption, by assumption, by omega⟩
              refine G_loop (fun m2 env t' => ∃ j : Nat, j ≤ cb.length ∧ m2 + j = cb.length ∧ t' = s' ∧ (cb.take j).all atmB = true ∧ env 1 = .ptr bp 0 ∧ env 87 = .lst (rs.map rulC) .no ∧ env 88 = .int .i64 rs.length ∧ env 89 = .int .i64 i ∧
                env 121 = .lst (cb.map atmC) .no ∧ env 122 = .int .i64 cb.length ∧ env 123 = .int .i64 j) cb.length ?_ ?_
              · exact ⟨s', Fg.of_set _ hb, 0, by omega, by omega, rfl, rfl, z_sl, z_sl, z_sl, z_sl, z_sl, z_sl, z_sl⟩
              · rename_i q1 q2 q3 q4
                clear e1 e87 e88 e89 env q1 q2 q3 q4 h hb b
                rintro m2 env t' ⟨j, hj, hm2, rfl, hall, e1, e87, e88, e89, e121, e122, e123⟩
                by_cases hlt2 : j < cb.length
                · obtain ⟨c, hc⟩ := uget hlt2
                  have hcl := hc3 c (List.mem_of_getElem? hc)
                  have hsy := atmC_at hc
                  have HY := Lib.hid hc
                  have HH2 := Lib.hid hall
                  clear hc hall
                  obtain ⟨an, ar, at_⟩ := c
                  (repeat' (first | refine Ctl ?_ | ((with_reducible refine Kof.use hK ?_); clear hK hE K E) | ((with_reducible refine Eof.use hE ?_); (try clear hK hE K E)) | ((with_reducible refine W_cond (fun h => ?_) (fun h => ?_)) <;> (try (exfalso; first | assumption | omega))) | ((first | (with_reducible first | refine G_region fun K E hK hE => ?_ | refine call_ret can77 (uisName_S _ (by first | assumption | omega) _) ?_ | refine call_ret can78 (umay_S _ _ (by assumption) _) ?_ | refine W_if ?_ | refine W_ifS ?_ | refine W_and ?_) | ((with_reducible refine W_fresh (fun b hb => ?_)); (repeat (obtain ⟨_, hb⟩ := hb))) | ((with_reducible refine W_gd (fun h => ?_) (fun h => ?_)) <;> (try (exfalso; first | assumption | omega)))) <;> (try simp (disch := first | assumption | omega) only [go_sem, seval, List.length_map, hsy, atmC, *]))))
                  all_goals first
                    | (have hres : pgmB ⟨ds, cs, rs⟩ = false := by unfold pgmB; simp only; rw [uall_not (p := rulB) HX.out (by unfold rulB; simp only; rw [uall_not (p := atmB) HY.out (by assumption)]; simp)]; simp
                       (first | refine W_ret res67 hQ ?_ | refine W_norm res67 hQ ?_ | refine G_pan hQ ?_)
                       (refine ⟨_, _, Wk.of_eq ?_, ?_, rfl, rfl⟩)
                       · rw [hres]
                       · exact (Fg.of_set _ hb).trans HF)
                    | exact ⟨t', Fg.of_set _ hb, m2 - 1, by omega, j + 1, by omega, by omega, rfl, uall_take HH2.out HY.out (by assumption), z_sl, z_sl, z_sl, z_sl, z_sl, z_sl, z_sl⟩
                · have hjL : j = cb.length := by omega
                  rw [hjL, List.take_length] at hall
                  have HA3 := Lib.hid hall
                  clear hall
                  (repeat' (first | refine Ctl ?_ | ((with_reducible refine Kof.use hK ?_); clear hK hE K E) | ((with_reducible refine Eof.use hE ?_); (try clear hK hE K E)) | ((with_reducible refine W_cond (fun h => ?_) (fun h => ?_)) <;> (try (exfalso; first | assumption | omega))) | ((first | (with_reducible first | refine G_region fun K E hK hE => ?_ | refine call_ret can77 (uisName_S _ (by first | assumption | omega) _) ?_ | refine call_ret can78 (umay_S _ _ (by assumption) _) ?_ | refine W_if ?_ | refine W_ifS ?_ | refine W_and ?_) | ((with_reducible refine W_fresh (fun b hb => ?_)); (repeat (obtain ⟨_, hb⟩ := hb))) | ((with_reducible refine W_gd (fun h => ?_) (fun h => ?_)) <;> (try (exfalso; first | assumption | omega)))) <;> (try simp (disch := first | assumption | omega) only [go_sem, seval, List.length_map, *]))))
                  exact ⟨t', Fg.refl _, m - 1, by omega, i + 1, by omega, by omega, rfl, uall_take HH.out HX.out (by have := HA3.out; simp [rulB, HG, this]), z_sl, z_sl, z_sl, z_sl⟩
            · have hiL : i = rs.length := by omega
              rw [hiL, List.take_length] at hall
              have HA3 := Lib.hid hall
              clear hall
              (repeat' (first | refine Ctl ?_ | ((with_reducible refine Kof.use hK ?_); clear hK hE K E) | ((with_reducible refine Eof.use hE ?_); (try clear hK hE K E)) | ((with_reducible refine W_cond (fun h => ?_) (fun h => ?_)) <;> (try (exfalso; first | assumption | omega))) | ((first | (with_reducible first | refine G_region fun K E hK hE => ?_ | refine call_ret can77 (uisName_S _ (by first | assumption | omega) _) ?_ | refine call_ret can78 (umay_S _ _ (by assumption) _) ?_ | refine W_if ?_ | refine W_ifS ?_ | refine W_and ?_) | ((with_reducible refine W_fresh (fun b hb => ?_)); (repeat (obtain ⟨_, hb⟩ := hb))) | ((with_reducible refine W_gd (fun h => ?_) (fun h => ?_)) <;> (try (exfalso; first | assumption | omega)))) <;> (try simp (disch := first | assumption | omega) only [go_sem, seval, List.length_map, *]))))
              all_goals (first | refine W_ret res67 hQ ?_ | refine W_norm res67 hQ ?_ | refine G_pan hQ ?_)
              all_goals (refine ⟨_, _, Wk.of_eq ?_, ?_, rfl, rfl⟩)
              · obtain ⟨k1, k2, k3⟩ := HS.out
                have k4 := HA.out
                have k5 := HA2.out
                have k6 := HA3.out
                simp [pgmB, *]
              · exact HF
end Go.Proofs.YtdibndmkeipgbaaGreatDoor
