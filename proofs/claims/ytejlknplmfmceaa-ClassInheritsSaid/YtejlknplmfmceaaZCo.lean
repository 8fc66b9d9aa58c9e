/- What is proved: What package class's body hands back. Conditions: what fits a memory. Conditions: those that stand in the statements. -/
import Derived.Test.YtejlknplmfmceaaZClj
set_option linter.unusedSimpArgs false
set_option linter.unusedVariables false
set_option maxRecDepth 100000
namespace Go.Proofs.Ytejlknplmfmceaa
open Go.RowKit

attribute [local go_sem] p_enil1 p_enil2 p_nilE one_nil
theorem W_appF {s : St} {k : VV → St → Prop} {e : TypeId} {q : QI} {xs ys : List (List VV)} {p' : Nat → Prop} (h1 : k (.lst (xs ++ ys) .full) s) (h2 : ∀ b, p' b → k (.lst (xs ++ ys) (.at_ b)) (s.set b (.vec e q.sz (xs.length + ys.length))))
    (hb : (xs.length + ys.length) * q.bt ≤ 140737488355328 := by ((try simp only [go_sem, *]); omega))
    (hm : xs.length + ys.length ≤ 9223372036854775807 := by ((try simp only [go_sem, *]); omega))
    (hx : ∀ y, y ∈ xs → y.length = q.sz := by (intro y hy; simp only [List.mem_cons, List.not_mem_nil, or_false] at hy; rcases hy with rfl | rfl <;> simp))
    (hy : ∀ y, y ∈ ys → y.length = q.sz := by first | assumption | (intro y hy; obtain ⟨z, _, rfl⟩ := List.mem_map.1 hy; simp [strC]))
    (hz : q.zok = true := by rfl)
    (hp : ∀ b, (s b = .free) = p' b := by (intro b; (try simp (disch := first | assumption | omega) only [go_sem, seval, *]); (try simp only [set_free_o, set_free_v, set_free_m, ite_free_o, ite_free_v, ite_free_m, set_free_p, ite_free_p]); rfl)) :
    vappend k e q xs ys .full s := by
  refine ⟨hb, hm, hy, hz, hx, fun h => ?_, fun _ b hf => h2 b (hp b ▸ hf)⟩
  subst h
  rw [List.append_nil] at h1
  exact h1
def swR (x : List Cls) : Stm → Bool
  | .mk k _ _ c n ar _ _ => if k = 1 then (atC x n).isSome else if k = 6 then (match lookN x c n true with | none => false | some y => decide (y.2.pars.length = ar.length)) else if k = 5 then calledB x n ar.length else true
def badR (st : Bool) : Stm → Bool
  | .mk k d s _ _ ar _ _ => (decide (d = selfT) && decide (k ≠ 4)) || (st && (d :: s :: ar).any fun a => decide (a = selfT))
theorem stmR_eq (x : List Cls) (st : Bool) (s : Stm) : stmR x st s = (!badR st s && swR x s) := by
  obtain ⟨k, d, s, c, n, ar, o, t⟩ := s
  simp only [stmR, badR, swR, List.any_cons, Bool.or_assoc]
  rfl
set_option maxHeartbeats 8000000 in
theorem Cbd1_S (t : St) (p bm b2 b3 b5 : Nat) (x : List Cls) (m : Mth) (hS : SrcAt t p bm x) (h2 : t b2 = .obj 47 [.ptr p 0]) (h3 : t b3 = .obj 41 (mthC m)) (h5 : t b5 = .free)
    (hx : x.length ≤ 100000) (hl : ∀ c, c ∈ x → c.mths.length ≤ 100000) (hst : ∀ i, i < x.length → startN x i ≤ 100000) (a : Bool) (k : Int) (d sr cn nm : List UInt8) (ar : List (List UInt8)) (o t2 : List Stm) (har : ar.length ≤ 100000) :
    SRet Try.prog 31 [.agg (stC (.mk k d sr cn nm ar o t2)), .ptr b3 0, .ptr b5 0, .ptr b2 0] (t.set b5 (.obj 4 [.bool a])) (.tup []) (t.set b5 (.obj 4 [.bool (a && stmR x m.stat (.mk k d sr cn nm ar o t2))])) := by
  have hSf : ∀ s, Fg s t → SrcAt s p bm x := fun s hs => hS.fg hs
  have hal : (ar.map strC).length = ar.length := by simp
  rw [stmR_eq]
  have w1 : ∀ o s, SRet Try.prog 32 [.lst ([.str d] :: [.str sr] :: ar.map strC) o, .str selfT] s (.bool ((d :: sr :: ar).any fun a => decide (a = selfT))) s := fun o s => contS_S (d :: sr :: ar) o selfT (by simp; omega) s
  simp only [badR, swR]
  generalize ((d :: sr :: ar).any fun a => decide (a = selfT)) = cb at w1 ⊢
  have w2 := fun s g1 g2 => Clook_S s p bm x cn nm true ⟨g1, g2⟩ hx hl hst
  have w3 := fun s g1 g2 => Ccalled_S s p bm x nm ar.length ⟨g1, g2⟩ hx hl
  have hlk := atA16_lk (x := x) nm
  obtain ⟨k1, k2⟩ := hS
  have n2 : ¬ b2 = b5 := (nef h5 (by rw [h2]; simp)).1
  have n3 : ¬ b3 = b5 := (nef h5 (by rw [h3]; simp)).1
  have np : ¬ p = b5 := (nef h5 (by rw [k1]; simp)).1
  have nb : ¬ bm = b5 := (nef h5 (by rw [k2]; simp)).1
  have f2 : t b2 ≠ .free := by rw [h2]; simp
  have f3 : t b3 ≠ .free := by rw [h3]; simp
  have fp : t p ≠ .free := by rw [k1]; simp
  have fb : t bm ≠ .free := by rw [k2]; simp
  obtain ⟨ms, mn, mp, mb⟩ := m
  simp only [mthC, strsV, stsV] at h3 ⊢
  simp only [stC, strsV]
  generalize lookN x cn nm true = L at w2 ⊢
  generalize calledB x nm ar.length = cc at w3 ⊢
  generalize atC x nm = ao at hlk ⊢
  generalize hR : (a && _) = R
  have hkk : k = 1 ∨ k = 6 ∨ k = 5 ∨ k = 4 ∨ (¬ k = 1 ∧ ¬ k = 6 ∧ ¬ k = 5 ∧ ¬ k = 4) := by omega
  clear hSf hl hst
  rcases hkk with rfl | rfl | rfl | rfl | ⟨q1, q2, q3, q4⟩
  -- cases
  · have hyl := hal
    cases ao <;> by_cases hd : d = selfT
    all_goals first
      | (subst hd; unfold selfT at *)
      | (have hdf : (d = selfT) = False := eq_false hd
         clear hd
         unfold selfT at *
         rcases (show ms = false ∨ (ms = true ∧ cb = false) ∨ (ms = true ∧ cb = true) by cases ms <;> cases cb <;> simp) with rfl | ⟨rfl, rfl⟩ | ⟨rfl, rfl⟩ <;> cases a)
    all_goals try simp only [Option.map_none, Option.map_some] at hlk
    all_goals try simp only [lkN, lkP, mthC, strsV, stsV] at w2
    all_goals (try simp [*] at hR) <;> (try subst hR)
    all_goals
      refine G_enter Try.func31 rfl Try.ntmps31 rfl fun Q hQ hQe => ?_
      (repeat' (first | refine Ctl ?_ | ((with_reducible refine Kof.use hK ?_); clear hK hE K E) | ((with_reducible refine Eof.use hE ?_); (try clear hK hE K E)) | ((with_reducible refine Kof.use hKh ?_); clear hKh Kh) | ((with_reducible refine Kof.use hKb (P_next ?_)); clear hKb Kb) | (with_reducible first | refine G_plan 5 [] [0, 1, 2, 3, 4, 5, 6, 7, 8, 9, 10, 11] hQe fun K E hK hE => ?_ | refine G_plan 9 [([0, 1, 2, 3, 4, 5, 6, 7, 8, 9, 10, 11, 12, 13, 14, 15], 16, [[]])] [] hQe fun K E hK hE => ?_) | ((with_reducible refine W_cond (fun h => ?_) (fun h => ?_)) <;> (try (exfalso; first | assumption | omega))) | ((first | (with_reducible first | refine G_region fun K E hK hE => ?_ | refine call_ret can32 (w1 _ _) ?_ | refine call_ret can19 (w2 _ z_sl z_sl) ?_ | refine call_ret can33 (w3 _ z_sl z_sl) ?_ | refine W_if ?_ | refine W_ifS ?_ | refine P_heads fun Kh hKh => ?_ | refine P_fin fun Kh hKh => ?_ | refine P_each fun Kb hKb => ?_ | refine W_and ?_) | ((with_reducible refine W_fresh (fun b hb => ?_)); (repeat (obtain ⟨_, hb⟩ := hb)); (try (obtain ⟨_, _⟩ := nef hb f2; obtain ⟨_, _⟩ := nef hb f3; obtain ⟨_, _⟩ := nef hb fp; obtain ⟨_, _⟩ := nef hb fb))) | ((with_reducible refine W_app (fun o2 ho => ?_)); (try simp (disch := assumption) only [disown_set, disown_own, ownok_o, ownok_m, List.length_map, List.length_cons, List.length_nil, Nat.zero_add, hlk, hal, hyl, Option.getD_some, Option.getD_none, Option.isSome_some, Option.isSome_none, beq_self_eq_true, if_true] at ho); (repeat (obtain ⟨_, ho⟩ := ho))) | ((with_reducible refine W_gd (fun h => ?_) (fun h => ?_)) <;> (try (exfalso; first | assumption | omega)))) <;> (try simp (disch := first | assumption | omega) only [go_sem, seval, hlk, hal, hyl, Option.getD_some, Option.getD_none, Option.isSome_some, Option.isSome_none, beq_self_eq_true, if_true, *])) | ((with_reducible refine W_appF ?_ (fun b hb => ?_)) <;> (try ((repeat (obtain ⟨_, hb⟩ := hb)); obtain ⟨_, _⟩ := nef hb f2; obtain ⟨_, _⟩ := nef hb f3; obtain ⟨_, _⟩ := nef hb fp; obtain ⟨_, _⟩ := nef hb fb)) <;> (try simp (disch := first | assumption | omega) only [go_sem, seval, hal, *]))))
    all_goals (first | refine W_ret res31 hQ ?_ | refine W_norm res31 hQ ?_ | refine G_pan hQ ?_)
    all_goals (refine ⟨_, _, Wk.of_eq ?_, ?_, rfl, rfl⟩)
    all_goals first | rfl | (exact z_fg) | trace_state
  · have hyl := hal
    rcases L with _ | ⟨yn, ⟨ys, ynm, yp, yb⟩⟩ <;> by_cases hd : d = selfT
    all_goals first
      | (subst hd; unfold selfT at *)
      | (have hdf : (d = selfT) = False := eq_false hd
         clear hd
         unfold selfT at *
         rcases (show ms = false ∨ (ms = true ∧ cb = false) ∨ (ms = true ∧ cb = true) by cases ms <;> cases cb <;> simp) with rfl | ⟨rfl, rfl⟩ | ⟨rfl, rfl⟩ <;> cases a)
    all_goals try simp only [Option.map_none, Option.map_some] at hlk
    all_goals try simp only [lkN, lkP, mthC, strsV, stsV] at w2
    all_goals (try simp [*] at hR) <;> (try subst hR)
    all_goals
      refine G_enter Try.func31 rfl Try.ntmps31 rfl fun Q hQ hQe => ?_
      (repeat' (first | refine Ctl ?_ | ((with_reducible refine Kof.use hK ?_); clear hK hE K E) | ((with_reducible refine Eof.use hE ?_); (try clear hK hE K E)) | ((with_reducible refine Kof.use hKh ?_); clear hKh Kh) | ((with_reducible refine Kof.use hKb (P_next ?_)); clear hKb Kb) | (with_reducible first | refine G_plan 5 [] [0, 1, 2, 3, 4, 5, 6, 7, 8, 9, 10, 11] hQe fun K E hK hE => ?_ | refine G_plan 9 [([0, 1, 2, 3, 4, 5, 6, 7, 8, 9, 10, 11, 12, 13, 14, 15], 16, [[]])] [] hQe fun K E hK hE => ?_) | ((with_reducible refine W_cond (fun h => ?_) (fun h => ?_)) <;> (try (exfalso; first | assumption | omega))) | ((first | (with_reducible first | refine G_region fun K E hK hE => ?_ | refine call_ret can32 (w1 _ _) ?_ | refine call_ret can19 (w2 _ z_sl z_sl) ?_ | refine call_ret can33 (w3 _ z_sl z_sl) ?_ | refine W_if ?_ | refine W_ifS ?_ | refine P_heads fun Kh hKh => ?_ | refine P_fin fun Kh hKh => ?_ | refine P_each fun Kb hKb => ?_ | refine W_and ?_) | ((with_reducible refine W_fresh (fun b hb => ?_)); (repeat (obtain ⟨_, hb⟩ := hb)); (try (obtain ⟨_, _⟩ := nef hb f2; obtain ⟨_, _⟩ := nef hb f3; obtain ⟨_, _⟩ := nef hb fp; obtain ⟨_, _⟩ := nef hb fb))) | ((with_reducible refine W_app (fun o2 ho => ?_)); (try simp (disch := assumption) only [disown_set, disown_own, ownok_o, ownok_m, List.length_map, List.length_cons, List.length_nil, Nat.zero_add, hlk, hal, hyl, Option.getD_some, Option.getD_none, Option.isSome_some, Option.isSome_none, beq_self_eq_true, if_true] at ho); (repeat (obtain ⟨_, ho⟩ := ho))) | ((with_reducible refine W_gd (fun h => ?_) (fun h => ?_)) <;> (try (exfalso; first | assumption | omega)))) <;> (try simp (disch := first | assumption | omega) only [go_sem, seval, hlk, hal, hyl, Option.getD_some, Option.getD_none, Option.isSome_some, Option.isSome_none, beq_self_eq_true, if_true, *])) | ((with_reducible refine W_appF ?_ (fun b hb => ?_)) <;> (try ((repeat (obtain ⟨_, hb⟩ := hb)); obtain ⟨_, _⟩ := nef hb f2; obtain ⟨_, _⟩ := nef hb f3; obtain ⟨_, _⟩ := nef hb fp; obtain ⟨_, _⟩ := nef hb fb)) <;> (try simp (disch := first | assumption | omega) only [go_sem, seval, hal, *]))))
    all_goals (first | refine W_ret res31 hQ ?_ | refine W_norm res31 hQ ?_ | refine G_pan hQ ?_)
    all_goals (refine ⟨_, _, Wk.of_eq ?_, ?_, rfl, rfl⟩)
    all_goals first | rfl | (exact z_fg) | trace_state
  · have hyl := hal
    skip <;> by_cases hd : d = selfT
    all_goals first
      | (subst hd; unfold selfT at *)
      | (have hdf : (d = selfT) = False := eq_false hd
         clear hd
         unfold selfT at *
         rcases (show ms = false ∨ (ms = true ∧ cb = false) ∨ (ms = true ∧ cb = true) by cases ms <;> cases cb <;> simp) with rfl | ⟨rfl, rfl⟩ | ⟨rfl, rfl⟩ <;> cases a)
    all_goals try simp only [Option.map_none, Option.map_some] at hlk
    all_goals try simp only [lkN, lkP, mthC, strsV, stsV] at w2
    all_goals (try simp [*] at hR) <;> (try subst hR)
    all_goals
      refine G_enter Try.func31 rfl Try.ntmps31 rfl fun Q hQ hQe => ?_
      (repeat' (first | refine Ctl ?_ | ((with_reducible refine Kof.use hK ?_); clear hK hE K E) | ((with_reducible refine Eof.use hE ?_); (try clear hK hE K E)) | ((with_reducible refine Kof.use hKh ?_); clear hKh Kh) | ((with_reducible refine Kof.use hKb (P_next ?_)); clear hKb Kb) | (with_reducible first | refine G_plan 5 [] [0, 1, 2, 3, 4, 5, 6, 7, 8, 9, 10, 11] hQe fun K E hK hE => ?_ | refine G_plan 9 [([0, 1, 2, 3, 4, 5, 6, 7, 8, 9, 10, 11, 12, 13, 14, 15], 16, [[]])] [] hQe fun K E hK hE => ?_) | ((with_reducible refine W_cond (fun h => ?_) (fun h => ?_)) <;> (try (exfalso; first | assumption | omega))) | ((first | (with_reducible first | refine G_region fun K E hK hE => ?_ | refine call_ret can32 (w1 _ _) ?_ | refine call_ret can19 (w2 _ z_sl z_sl) ?_ | refine call_ret can33 (w3 _ z_sl z_sl) ?_ | refine W_if ?_ | refine W_ifS ?_ | refine P_heads fun Kh hKh => ?_ | refine P_fin fun Kh hKh => ?_ | refine P_each fun Kb hKb => ?_ | refine W_and ?_) | ((with_reducible refine W_fresh (fun b hb => ?_)); (repeat (obtain ⟨_, hb⟩ := hb)); (try (obtain ⟨_, _⟩ := nef hb f2; obtain ⟨_, _⟩ := nef hb f3; obtain ⟨_, _⟩ := nef hb fp; obtain ⟨_, _⟩ := nef hb fb))) | ((with_reducible refine W_app (fun o2 ho => ?_)); (try simp (disch := assumption) only [disown_set, disown_own, ownok_o, ownok_m, List.length_map, List.length_cons, List.length_nil, Nat.zero_add, hlk, hal, hyl, Option.getD_some, Option.getD_none, Option.isSome_some, Option.isSome_none, beq_self_eq_true, if_true] at ho); (repeat (obtain ⟨_, ho⟩ := ho))) | ((with_reducible refine W_gd (fun h => ?_) (fun h => ?_)) <;> (try (exfalso; first | assumption | omega)))) <;> (try simp (disch := first | assumption | omega) only [go_sem, seval, hlk, hal, hyl, Option.getD_some, Option.getD_none, Option.isSome_some, Option.isSome_none, beq_self_eq_true, if_true, *])) | ((with_reducible refine W_appF ?_ (fun b hb => ?_)) <;> (try ((repeat (obtain ⟨_, hb⟩ := hb)); obtain ⟨_, _⟩ := nef hb f2; obtain ⟨_, _⟩ := nef hb f3; obtain ⟨_, _⟩ := nef hb fp; obtain ⟨_, _⟩ := nef hb fb)) <;> (try simp (disch := first | assumption | omega) only [go_sem, seval, hal, *]))))
    all_goals (first | refine W_ret res31 hQ ?_ | refine W_norm res31 hQ ?_ | refine G_pan hQ ?_)
    all_goals (refine ⟨_, _, Wk.of_eq ?_, ?_, rfl, rfl⟩)
    all_goals first | rfl | (exact z_fg) | trace_state
  · have hyl := hal
    skip <;> by_cases hd : d = selfT
    all_goals first
      | (subst hd; unfold selfT at *; rcases (show ms = false ∨ (ms = true ∧ cb = false) ∨ (ms = true ∧ cb = true) by cases ms <;> cases cb <;> simp) with rfl | ⟨rfl, rfl⟩ | ⟨rfl, rfl⟩ <;> cases a)
      | (have hdf : (d = selfT) = False := eq_false hd
         clear hd
         unfold selfT at *
         rcases (show ms = false ∨ (ms = true ∧ cb = false) ∨ (ms = true ∧ cb = true) by cases ms <;> cases cb <;> simp) with rfl | ⟨rfl, rfl⟩ | ⟨rfl, rfl⟩ <;> cases a)
    all_goals try simp only [Option.map_none, Option.map_some] at hlk
    all_goals try simp only [lkN, lkP, mthC, strsV, stsV] at w2
    all_goals (try simp [*] at hR) <;> (try subst hR)
    all_goals
      refine G_enter Try.func31 rfl Try.ntmps31 rfl fun Q hQ hQe => ?_
      (repeat' (first | refine Ctl ?_ | ((with_reducible refine Kof.use hK ?_); clear hK hE K E) | ((with_reducible refine Eof.use hE ?_); (try clear hK hE K E)) | ((with_reducible refine Kof.use hKh ?_); clear hKh Kh) | ((with_reducible refine Kof.use hKb (P_next ?_)); clear hKb Kb) | (with_reducible first | refine G_plan 5 [] [0, 1, 2, 3, 4, 5, 6, 7, 8, 9, 10, 11] hQe fun K E hK hE => ?_ | refine G_plan 9 [([0, 1, 2, 3, 4, 5, 6, 7, 8, 9, 10, 11, 12, 13, 14, 15], 16, [[]])] [] hQe fun K E hK hE => ?_) | ((with_reducible refine W_cond (fun h => ?_) (fun h => ?_)) <;> (try (exfalso; first | assumption | omega))) | ((first | (with_reducible first | refine G_region fun K E hK hE => ?_ | refine call_ret can32 (w1 _ _) ?_ | refine call_ret can19 (w2 _ z_sl z_sl) ?_ | refine call_ret can33 (w3 _ z_sl z_sl) ?_ | refine W_if ?_ | refine W_ifS ?_ | refine P_heads fun Kh hKh => ?_ | refine P_fin fun Kh hKh => ?_ | refine P_each fun Kb hKb => ?_ | refine W_and ?_) | ((with_reducible refine W_fresh (fun b hb => ?_)); (repeat (obtain ⟨_, hb⟩ := hb)); (try (obtain ⟨_, _⟩ := nef hb f2; obtain ⟨_, _⟩ := nef hb f3; obtain ⟨_, _⟩ := nef hb fp; obtain ⟨_, _⟩ := nef hb fb))) | ((with_reducible refine W_app (fun o2 ho => ?_)); (try simp (disch := assumption) only [disown_set, disown_own, ownok_o, ownok_m, List.length_map, List.length_cons, List.length_nil, Nat.zero_add, hlk, hal, hyl, Option.getD_some, Option.getD_none, Option.isSome_some, Option.isSome_none, beq_self_eq_true, if_true] at ho); (repeat (obtain ⟨_, ho⟩ := ho))) | ((with_reducible refine W_gd (fun h => ?_) (fun h => ?_)) <;> (try (exfalso; first | assumption | omega)))) <;> (try simp (disch := first | assumption | omega) only [go_sem, seval, hlk, hal, hyl, Option.getD_some, Option.getD_none, Option.isSome_some, Option.isSome_none, beq_self_eq_true, if_true, *])) | ((with_reducible refine W_appF ?_ (fun b hb => ?_)) <;> (try ((repeat (obtain ⟨_, hb⟩ := hb)); obtain ⟨_, _⟩ := nef hb f2; obtain ⟨_, _⟩ := nef hb f3; obtain ⟨_, _⟩ := nef hb fp; obtain ⟨_, _⟩ := nef hb fb)) <;> (try simp (disch := first | assumption | omega) only [go_sem, seval, hal, *]))))
    all_goals (first | refine W_ret res31 hQ ?_ | refine W_norm res31 hQ ?_ | refine G_pan hQ ?_)
    all_goals (refine ⟨_, _, Wk.of_eq ?_, ?_, rfl, rfl⟩)
    all_goals first | rfl | (exact z_fg) | trace_state
  · have hyl := hal
    skip <;> by_cases hd : d = selfT
    all_goals first
      | (subst hd; unfold selfT at *)
      | (have hdf : (d = selfT) = False := eq_false hd
         clear hd
         unfold selfT at *
         rcases (show ms = false ∨ (ms = true ∧ cb = false) ∨ (ms = true ∧ cb = true) by cases ms <;> cases cb <;> simp) with rfl | ⟨rfl, rfl⟩ | ⟨rfl, rfl⟩ <;> cases a)
    all_goals try simp only [Option.map_none, Option.map_some] at hlk
    all_goals try simp only [lkN, lkP, mthC, strsV, stsV] at w2
    all_goals (try simp [*] at hR) <;> (try subst hR)
    all_goals
      refine G_enter Try.func31 rfl Try.ntmps31 rfl fun Q hQ hQe => ?_
      (repeat' (first | refine Ctl ?_ | ((with_reducible refine Kof.use hK ?_); clear hK hE K E) | ((with_reducible refine Eof.use hE ?_); (try clear hK hE K E)) | ((with_reducible refine Kof.use hKh ?_); clear hKh Kh) | ((with_reducible refine Kof.use hKb (P_next ?_)); clear hKb Kb) | (with_reducible first | refine G_plan 5 [] [0, 1, 2, 3, 4, 5, 6, 7, 8, 9, 10, 11] hQe fun K E hK hE => ?_ | refine G_plan 9 [([0, 1, 2, 3, 4, 5, 6, 7, 8, 9, 10, 11, 12, 13, 14, 15], 16, [[]])] [] hQe fun K E hK hE => ?_) | ((with_reducible refine W_cond (fun h => ?_) (fun h => ?_)) <;> (try (exfalso; first | assumption | omega))) | ((first | (with_reducible first | refine G_region fun K E hK hE => ?_ | refine call_ret can32 (w1 _ _) ?_ | refine call_ret can19 (w2 _ z_sl z_sl) ?_ | refine call_ret can33 (w3 _ z_sl z_sl) ?_ | refine W_if ?_ | refine W_ifS ?_ | refine P_heads fun Kh hKh => ?_ | refine P_fin fun Kh hKh => ?_ | refine P_each fun Kb hKb => ?_ | refine W_and ?_) | ((with_reducible refine W_fresh (fun b hb => ?_)); (repeat (obtain ⟨_, hb⟩ := hb)); (try (obtain ⟨_, _⟩ := nef hb f2; obtain ⟨_, _⟩ := nef hb f3; obtain ⟨_, _⟩ := nef hb fp; obtain ⟨_, _⟩ := nef hb fb))) | ((with_reducible refine W_app (fun o2 ho => ?_)); (try simp (disch := assumption) only [disown_set, disown_own, ownok_o, ownok_m, List.length_map, List.length_cons, List.length_nil, Nat.zero_add, hlk, hal, hyl, Option.getD_some, Option.getD_none, Option.isSome_some, Option.isSome_none, beq_self_eq_true, if_true] at ho); (repeat (obtain ⟨_, ho⟩ := ho))) | ((with_reducible refine W_gd (fun h => ?_) (fun h => ?_)) <;> (try (exfalso; first | assumption | omega)))) <;> (try simp (disch := first | assumption | omega) only [go_sem, seval, hlk, hal, hyl, Option.getD_some, Option.getD_none, Option.isSome_some, Option.isSome_none, beq_self_eq_true, if_true, *])) | ((with_reducible refine W_appF ?_ (fun b hb => ?_)) <;> (try ((repeat (obtain ⟨_, hb⟩ := hb)); obtain ⟨_, _⟩ := nef hb f2; obtain ⟨_, _⟩ := nef hb f3; obtain ⟨_, _⟩ := nef hb fp; obtain ⟨_, _⟩ := nef hb fb)) <;> (try simp (disch := first | assumption | omega) only [go_sem, seval, hal, *]))))
    all_goals (first | refine W_ret res31 hQ ?_ | refine W_norm res31 hQ ?_ | refine G_pan hQ ?_)
    all_goals (refine ⟨_, _, Wk.of_eq ?_, ?_, rfl, rfl⟩)
    all_goals first | rfl | (exact z_fg) | trace_state
end Go.Proofs.Ytejlknplmfmceaa
