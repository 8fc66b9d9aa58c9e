/- What is proved: What oo.Parse hands back. Conditions: those that stand in the statements. -/
import Derived.Test.YtilpdejbldllbaaZRg
set_option linter.unusedSimpArgs false
set_option linter.unusedVariables false
set_option maxRecDepth 100000
namespace Go.Proofs.Ytilpdejbldllbaa
open Go.RowKit

theorem cv_nilI : cv .nilIface = .raw .nilIface := rfl
/-- Parse's deferred closure at a return: nothing changes. -/
theorem rec0 (s : St) (b2 b3 b4 : Nat) : SDef Try.prog 19 [.ptr b2 0, .ptr b3 0, .ptr b4 0] s none s := by
  refine SDef_of (x := none) Try.func19 rfl Try.ntmps19 rfl rfl rfl rfl ?_
  (repeat (first | refine L_seq ?_ | refine L_blk ?_ | refine L_skip ?_ | refine L_endblk ?_ | refine L_ret ?_ | (refine L_exit ?_; repeat (first | refine X_code ?_ | refine X_back ?_ | refine X_blk ?_ | refine X_past (by decide) ?_)) | (refine L_cond ?_; simp only [go_sem, seval, recV, cv_nilI]) | (refine L_region fun K E hK hE => ?_; simp only [go_sem, seval, recV, cv_nilI]; try (refine hK _ _ ?_; clear hK hE K E))))
  exact Fg.refl s

set_option maxHeartbeats 1000000 in
/-- .. and while a stop goes through: the three results are set. -/
theorem rec1 (s : St) (b2 b3 b4 er at_ : Nat) (v2 v3 v4 : List VV) (h2 : s b2 = .obj 25 v2) (h3 : s b3 = .obj 3 v3) (h4 : s b4 = .obj 26 v4) (l2 : v2.length = 1) (l3 : v3.length = 1) (l4 : v4.length = 1)
    (n23 : ¬ b3 = b2) (n24 : ¬ b4 = b2) (n34 : ¬ b4 = b3) :
    SDef Try.prog 19 [.ptr b2 0, .ptr b3 0, .ptr b4 0] s (some (stopV er at_)) (((s.set b2 (.obj 25 [.lst [] .full])).set b3 (.obj 3 [.int .i64 at_])).set b4 (.obj 26 [.int .i64 er])) := by
  refine SDef_of (x := some _) Try.func19 rfl Try.ntmps19 rfl rfl rfl rfl ?_
  have hQe : EOk 22 [] (fun (x : VV) (_ : Env) (_ : St) => False) := fun _ _ _ _ _ _ h => h
  obtain ⟨x2, rfl⟩ : ∃ x, v2 = [x] := by match v2, l2 with | [x], _ => exact ⟨x, rfl⟩
  obtain ⟨x3, rfl⟩ : ∃ x, v3 = [x] := by match v3, l3 with | [x], _ => exact ⟨x, rfl⟩
  obtain ⟨x4, rfl⟩ : ∃ x, v4 = [x] := by match v4, l4 with | [x], _ => exact ⟨x, rfl⟩
  have m23 : ¬ b2 = b3 := fun e => n23 e.symm
  have m24 : ¬ b2 = b4 := fun e => n24 e.symm
  have m34 : ¬ b3 = b4 := fun e => n34 e.symm
  have f2 : s b2 ≠ .free := by rw [h2]; simp
  have f3 : s b3 ≠ .free := by rw [h3]; simp
  have f4 : s b4 ≠ .free := by rw [h4]; simp
  (repeat' (first
    | with_reducible first | refine L_seq ?_ | refine L_blk ?_ | refine L_skip ?_ | refine L_endblk ?_ | refine L_ret ?_ | refine L_exit ?_ | refine X_code ?_ | refine X_back ?_ | refine X_blk ?_ | refine X_past (by decide) ?_ | refine L_back ?_
    | ((with_reducible refine Kof.use hK ?_); clear hK hE K E)
    | ((with_reducible refine Eof.use hE ?_); (try clear hK hE K E))
    | ((with_reducible refine Kof.use hKh ?_); clear hKh Kh)
    | ((with_reducible refine Kof.use hKb (P_next ?_)); clear hKb Kb)
    | with_reducible refine G_plan 5 [([0, 1, 2, 3, 4], 5, [[1, 2, 3, 4]]), ([], 6, [[], [3, 4]]), ([], 7, [[], [], []])] [] hQe fun K E hK hE => ?_
    | ((with_reducible refine W_cond (fun h => ?_) (fun h => ?_)) <;> (try (exfalso; first | assumption | omega)))
    | ((with_reducible first | refine G_region fun K E hK hE => ?_ | refine W_if ?_ | refine W_ifS ?_ | refine P_heads fun Kh hKh => ?_ | refine P_fin fun Kh hKh => ?_ | refine P_each fun Kb hKb => ?_ | refine W_and ?_) <;> (try simp (disch := first | assumption | omega) only [go_sem, seval, recV, cv_nilI, stopV, *]))
    | ((with_reducible refine W_fresh (fun b hb => ?_)); (repeat (obtain ⟨_, hb⟩ := hb)); (try (obtain ⟨_, _⟩ := nef hb f2; obtain ⟨_, _⟩ := nef hb f3; obtain ⟨_, _⟩ := nef hb f4)); (try simp (disch := first | assumption | omega) only [go_sem, seval, recV, cv_nilI, stopV, *]))
    | ((with_reducible refine W_app (fun o2 ho => ?_)); (try simp (disch := assumption) only [disown_set, disown_own, ownok_o, ownok_m, List.length_map, List.length_cons, List.length_nil, Nat.zero_add, recV, cv_nilI, stopV] at ho); (repeat (obtain ⟨_, ho⟩ := ho)); (try simp (disch := first | assumption | omega) only [go_sem, seval, recV, cv_nilI, stopV, *]))
    | ((with_reducible refine W_gd (fun h => ?_) (fun h => ?_)) <;> (try (exfalso; first | assumption | omega)) <;> (try simp (disch := first | assumption | omega) only [go_sem, seval, recV, cv_nilI, stopV, *]))))
  show Fg _ _
  ((try dsimp only); (repeat (first | exact Fg.refl _ | exact Fg.own (by assumption) | (refine Fg.set ?_ _ _) | (refine Fg.setA ?_ (by first | assumption | (simp (disch := assumption) only [own_rd, St.set, if_false, if_true, *]; done))) )); done)

theorem is0_S (s : St) (r e : Nat) (L : List Sgn) (n : Nat) (t : List UInt8) : SRet Try.prog 21 [.ptr r 0, .int .i64 0, .str t] (Rd s r e L n) (.bool (isT L 0 t)) (Rd s r e L n) := is_S s r e L n 0 t
theorem room32_S (s : St) (r e : Nat) (L : List Sgn) (n hv : Nat) (b : Bool) :
    SCalls Try.prog 20 [.ptr r 0, .int .i64 hv, .int .i64 32, .bool b] (Rd s r e L n) (PO unitV s r e (roomP e L n hv 32 b)) := room_S s r e L n hv 32 b
theorem Rd_at {s : St} {r e : Nat} {L : List Sgn} {n : Nat} : (Rd s r e L n) r = .obj 49 [.lst (L.map sgnC) .no, .int .i64 e, .int .i64 n] := St.set_same _ _ _
theorem Rd_gt {s : St} {r e b : Nat} {L : List Sgn} {n : Nat} (h : ¬ b = r) : (Rd s r e L n) b = s b := St.set_other _ _ h
theorem Rd_st {s : St} {r e b : Nat} {L : List Sgn} {n : Nat} {c : Cell} (h : ¬ b = r) : (Rd s r e L n).set b c = Rd (s.set b c) r e L n := Rd_set (eq_false h)
theorem Rd_fr {s : St} {r e b : Nat} {L : List Sgn} {n : Nat} : ((Rd s r e L n) b = .free) = (¬ b = r ∧ ¬ r = b ∧ s b = .free) := set_free_o
theorem Rd_mk {s : St} {r e n : Nat} {L : List Sgn} : s.set r (.obj 49 [.lst (L.map sgnC) .no, .int .i64 e, .int .i64 n]) = Rd s r e L n := rfl
theorem Rd_mk0 {s : St} {r e : Nat} {L : List Sgn} : s.set r (.obj 49 [.lst (L.map sgnC) .no, .int .i64 e, .int .i64 0]) = Rd s r e L 0 := rfl
theorem Rd_dis {s : St} {r e n : Nat} {L : List Sgn} {o : Own} (h : NotOwn o r) : (Rd s r e L n).disown o = Rd (s.disown o) r e L n := disown_set h
theorem Rd_own' {s : St} {r e n T sz k : Nat} {L : List Sgn} {o : Own} (h : NotOwn o r) : (Rd s r e L n).own o T sz k = Rd (s.own o T sz k) r e L n := own_push h
theorem Rd_ok {s : St} {r e n k : Nat} {L : List Sgn} {o : Own} : OwnOk (Rd s r e L n) o k = (NotOwn o r ∧ OwnOk s o k) := ownok_o
theorem Rd_ownd {s : St} {r e n T sz k : Nat} {L : List Sgn} {o : Own} (h : NotOwn o r) : Owned (Rd s r e L n) o T sz k = Owned s o T sz k := owned_set h
attribute [local go_sem] Rd_ok Rd_ownd Rd_at Rd_gt

def unP : PR (List Cls) → Except (Nat × Nat) (List Cls)
  | .ok (cs, _, _) => .ok cs
  | .error x => .error x
theorem parseS_ok {l : List UInt8} {L : List Sgn} (h : lexSigns l = .ok L) : parseS l = unP (parsesP l.length (L.length + 1) [] L 0) := by
  unfold parseS unP
  rw [h]
  simp only
  cases parsesP l.length (L.length + 1) [] L 0 <;> rfl
set_option maxHeartbeats 4000000 in
theorem Parse_S (l : List UInt8) (hl : l.length ≤ 9223372036854775000) (s : St) : SRet Try.prog 11 [.str l] s (parseV (parseS l)) s := by
  have hsig := signs_S l hl
  refine G_enterD (pre := [_, _, _]) Try.func11 rfl Try.ntmps11 rfl can19 rfl rfl (by decide) fun Q hQ hQe => ?_
  change Kp _ _ _ [.code _, .code _, .code _] _ _ _ _
  cases hL : lexSigns l with
  | error x =>
    obtain ⟨a, e⟩ := x
    have he := lexSigns_err hL
    have he' : ¬ (e : Int) = 0 := by omega
    rw [hL] at hsig
    simp only [signsV] at hsig
    (repeat' (first
      | with_reducible first | refine L_seq ?_ | refine L_blk ?_ | refine L_skip ?_ | refine L_endblk ?_ | refine L_ret ?_ | refine L_exit ?_ | refine X_code ?_ | refine X_back ?_ | refine X_blk ?_ | refine X_past (by decide) ?_ | refine L_back ?_
      | ((with_reducible refine Kof.use hK ?_); clear hK hE K E)
      | ((with_reducible refine Eof.use hE ?_); (try clear hK hE K E))
      | ((with_reducible refine Kof.use hKh ?_); clear hKh Kh)
      | ((with_reducible refine Kof.use hKb (P_next ?_)); clear hKb Kb)
      | with_reducible first | refine G_plan 3 [([0, 1, 2], 3, [[1, 2]]), ([], 4, [[], [2]]), ([], 5, [[], [], []])] [] hQe fun K E hK hE => ?_ | refine G_plan 7 [([0, 1, 2, 3, 4], 5, [[0, 1, 2, 3]]), ([], 6, [[], []])] [] hQe fun K E hK hE => ?_ | refine G_plan 8 [([0, 1, 2], 3, [[0, 1]]), ([4], 5, [[], []]), ([6], 7, [[], [], []])] [] hQe fun K E hK hE => ?_
      | ((with_reducible refine W_cond (fun h => ?_) (fun h => ?_)) <;> (try (exfalso; first | assumption | omega)))
      | ((with_reducible first | refine G_region fun K E hK hE => ?_ | refine call_ret can17 (hsig _) ?_ | refine W_if ?_ | refine W_ifS ?_ | refine P_heads fun Kh hKh => ?_ | refine P_fin fun Kh hKh => ?_ | refine P_each fun Kb hKb => ?_ | refine W_and ?_) <;> (try simp (disch := first | assumption | omega) only [go_sem, seval, *]))
      | ((with_reducible refine W_fresh (fun b hb => ?_)); (repeat (obtain ⟨_, hb⟩ := hb)); (try simp (disch := first | assumption | omega) only [go_sem, seval, *]))
      | ((with_reducible refine W_app (fun o2 ho => ?_)); (repeat (obtain ⟨_, ho⟩ := ho)); (try simp (disch := first | assumption | omega) only [go_sem, seval, *]))
      | ((with_reducible refine W_gd (fun h => ?_) (fun h => ?_)) <;> (try (exfalso; first | assumption | omega)) <;> (try simp (disch := first | assumption | omega) only [go_sem, seval, *]))))
    refine QP_ret hQ (by simp (disch := first | assumption | omega) only [res11, go_sem, seval, *] <;> rfl) ⟨_, _, ?_, ?_, rfl, rfl⟩
    · have : parseS l = .error (a, e) := by unfold parseS; rw [hL]
      rw [this]
      exact Wk_src (cs := [])
    · ((try dsimp only); (repeat (first | exact Fg.refl _ | exact Fg.own (by assumption) | (refine Fg.set ?_ _ _) | (refine Fg.setA ?_ (by first | assumption | (simp (disch := assumption) only [own_rd, St.set, if_false, if_true, *]; done))) )); done)
  | ok L =>
    obtain ⟨hG, hLl⟩ := lexSigns_good hL
    rw [hL] at hsig
    simp only [signsV] at hsig
    (repeat' (first
      | with_reducible first | refine L_seq ?_ | refine L_blk ?_ | refine L_skip ?_ | refine L_endblk ?_ | refine L_ret ?_ | refine L_exit ?_ | refine X_code ?_ | refine X_back ?_ | refine X_blk ?_ | refine X_past (by decide) ?_ | refine L_back ?_
      | ((with_reducible refine Kof.use hK ?_); clear hK hE K E)
      | ((with_reducible refine Eof.use hE ?_); (try clear hK hE K E))
      | ((with_reducible refine Kof.use hKh ?_); clear hKh Kh)
      | ((with_reducible refine Kof.use hKb (P_next ?_)); clear hKb Kb)
      | with_reducible first | refine G_plan 3 [([0, 1, 2], 3, [[1, 2]]), ([], 4, [[], [2]]), ([], 5, [[], [], []])] [] hQe fun K E hK hE => ?_ | refine G_plan 7 [([0, 1, 2, 3, 4], 5, [[0, 1, 2, 3]]), ([], 6, [[], []])] [] hQe fun K E hK hE => ?_ | refine G_plan 8 [([0, 1, 2], 3, [[0, 1]]), ([4], 5, [[], []]), ([6], 7, [[], [], []])] [] hQe fun K E hK hE => ?_
      | ((with_reducible refine W_cond (fun h => ?_) (fun h => ?_)) <;> (try (exfalso; first | assumption | omega)))
      | ((with_reducible first | refine G_region fun K E hK hE => ?_ | refine call_ret can17 (hsig _) ?_ | refine W_if ?_ | refine W_ifS ?_ | refine P_heads fun Kh hKh => ?_ | refine P_fin fun Kh hKh => ?_ | refine P_each fun Kb hKb => ?_ | refine W_and ?_) <;> (try simp (disch := first | assumption | omega) only [go_sem, seval, *]))
      | ((with_reducible refine W_fresh (fun b hb => ?_)); (repeat (obtain ⟨_, hb⟩ := hb)); (try simp (disch := first | assumption | omega) only [go_sem, seval, *]))
      | ((with_reducible refine W_app (fun o2 ho => ?_)); (repeat (obtain ⟨_, ho⟩ := ho)); (try simp (disch := first | assumption | omega) only [go_sem, seval, *]))
      | ((with_reducible refine W_gd (fun h => ?_) (fun h => ?_)) <;> (try (exfalso; first | assumption | omega)) <;> (try simp (disch := first | assumption | omega) only [go_sem, seval, *]))))
    rename_i b2 hb2 b3 q1 q2 hb3 q3 q4 q5 q6
    clear h hsig hQe
    refine QP_norm hQ fun D Q2 hQ2 hQe => ?_
    clear hQ Q
    (repeat' (first
      | with_reducible first | refine L_seq ?_ | refine L_blk ?_ | refine L_skip ?_ | refine L_endblk ?_ | refine L_ret ?_ | refine L_exit ?_ | refine X_code ?_ | refine X_back ?_ | refine X_blk ?_ | refine X_past (by decide) ?_ | refine L_back ?_
      | ((with_reducible refine Kof.use hK ?_); clear hK hE K E)
      | ((with_reducible refine Eof.use hE ?_); (try clear hK hE K E))
      | ((with_reducible refine Kof.use hKh ?_); clear hKh Kh)
      | ((with_reducible refine Kof.use hKb (P_next ?_)); clear hKb Kb)
      | with_reducible first | refine G_plan 3 [([0, 1, 2], 3, [[1, 2]]), ([], 4, [[], [2]]), ([], 5, [[], [], []])] [] hQe fun K E hK hE => ?_ | refine G_plan 7 [([0, 1, 2, 3, 4], 5, [[0, 1, 2, 3]]), ([], 6, [[], []])] [] hQe fun K E hK hE => ?_ | refine G_plan 8 [([0, 1, 2], 3, [[0, 1]]), ([4], 5, [[], []]), ([6], 7, [[], [], []])] [] hQe fun K E hK hE => ?_
      | ((with_reducible refine W_cond (fun h => ?_) (fun h => ?_)) <;> (try (exfalso; first | assumption | omega)))
      | ((with_reducible first | refine G_region fun K E hK hE => ?_ | refine W_if ?_ | refine W_ifS ?_ | refine P_heads fun Kh hKh => ?_ | refine P_fin fun Kh hKh => ?_ | refine P_each fun Kb hKb => ?_ | refine W_and ?_) <;> (try simp (disch := first | assumption | omega) only [go_sem, seval, Rd_mk, Rd_mk0, Rd_st, Rd_fr, Rd_gt, Rd_at, *]))
      | ((with_reducible refine W_fresh (fun b hb => ?_)); (repeat (obtain ⟨_, hb⟩ := hb)); (try simp (disch := first | assumption | omega) only [go_sem, seval, Rd_mk, Rd_mk0, Rd_st, Rd_fr, Rd_gt, Rd_at, *]))
      | ((with_reducible refine W_app (fun o2 ho => ?_)); (try simp (disch := assumption) only [disown_set, disown_own, ownok_o, ownok_m, List.length_map, List.length_cons, List.length_nil, Nat.zero_add, Rd_mk, Rd_mk0, Rd_st, Rd_fr, Rd_gt, Rd_at] at ho); (repeat (obtain ⟨_, ho⟩ := ho)); (try simp (disch := first | assumption | omega) only [go_sem, seval, Rd_mk, Rd_mk0, Rd_st, Rd_fr, Rd_gt, Rd_at, *]))
      | ((with_reducible refine W_gd (fun h => ?_) (fun h => ?_)) <;> (try (exfalso; first | assumption | omega)) <;> (try simp (disch := first | assumption | omega) only [go_sem, seval, Rd_mk, Rd_mk0, Rd_st, Rd_fr, Rd_gt, Rd_at, *]))))
    rename_i b4 hb4 q7 q8 q9 q10 q11 q12
    have hgo0 := parseS_ok hL
    refine L_loop (fun m env s' => ∃ (L2 : List Sgn) (n2 g : Nat) (out : List Cls) (o : Own), m = g ∧ L2.length + 1 ≤ g ∧ n2 + L2.length ≤ 10000 ∧ L2.length ≤ 4096 ∧ out.length + L2.length ≤ 5000 ∧
      parseS l = unP (parsesP l.length g out L2 n2) ∧
      s' = Rd ((((s.own o 54 3 out.length).set b2 (.obj 25 [.lst (out.map clsC) o])).set b3 (.obj 3 [.int .i64 0])).set b4 (.obj 26 [.int .i64 0])) b l.length L2 n2 ∧
      OwnOk s o out.length ∧ NotOwn o b ∧ NotOwn o b2 ∧ NotOwn o b3 ∧ NotOwn o b4 ∧ env 2 = .ptr b2 0 ∧ env 3 = .ptr b3 0 ∧ env 4 = .ptr b4 0 ∧ env 6 = .ptr b 0) (L.length + 1) ?_ ?_
    · exact ⟨L, 0, _, [], .full, rfl, by omega, by omega, by omega, by simp; omega, hgo0, rfl, rfl, trivial, trivial, trivial, trivial, by ((try simp (disch := first | assumption | omega) only [go_sem, seval, *]) <;> first | rfl | omega), by ((try simp (disch := first | assumption | omega) only [go_sem, seval, *]) <;> first | rfl | omega), by ((try simp (disch := first | assumption | omega) only [go_sem, seval, *]) <;> first | rfl | omega), by ((try simp (disch := first | assumption | omega) only [go_sem, seval, *]) <;> first | rfl | omega)⟩
    · rintro m env s' ⟨L2, n2, g, out, o, rfl, hg1, hn2, hl2, hlo, hgo, rfl, hown, hnr, hn2', hn3, hn4, z2, z3, z4, z6⟩
      clear hgo0
      obtain ⟨g, rfl⟩ : ∃ g', m = g' + 1 := ⟨m - 1, by omega⟩
      cases L2 with
      | nil =>
        (repeat' (first
          | with_reducible first | refine L_seq ?_ | refine L_blk ?_ | refine L_skip ?_ | refine L_endblk ?_ | refine L_ret ?_ | refine L_exit ?_ | refine X_code ?_ | refine X_back ?_ | refine X_blk ?_ | refine X_past (by decide) ?_ | refine L_back ?_
          | ((with_reducible refine Kof.use hK ?_); clear hK hE K E)
          | ((with_reducible refine Eof.use hE ?_); (try clear hK hE K E))
          | ((with_reducible refine Kof.use hKh ?_); clear hKh Kh)
          | ((with_reducible refine Kof.use hKb (P_next ?_)); clear hKb Kb)
          | with_reducible first | refine G_plan 3 [([0, 1, 2], 3, [[1, 2]]), ([], 4, [[], [2]]), ([], 5, [[], [], []])] [] hQe fun K E hK hE => ?_ | refine G_plan 7 [([0, 1, 2, 3, 4], 5, [[0, 1, 2, 3]]), ([], 6, [[], []])] [] hQe fun K E hK hE => ?_ | refine G_plan 8 [([0, 1, 2], 3, [[0, 1]]), ([4], 5, [[], []]), ([6], 7, [[], [], []])] [] hQe fun K E hK hE => ?_
          | ((with_reducible refine W_cond (fun h => ?_) (fun h => ?_)) <;> (try (exfalso; first | assumption | omega)))
          | ((with_reducible first | refine G_region fun K E hK hE => ?_ | refine W_if ?_ | refine W_ifS ?_ | refine P_heads fun Kh hKh => ?_ | refine P_fin fun Kh hKh => ?_ | refine P_each fun Kb hKb => ?_ | refine W_and ?_) <;> (try simp (disch := first | assumption | omega) only [go_sem, seval, Rd_mk, Rd_mk0, Rd_st, Rd_fr, Rd_gt, Rd_at, List.length_map, List.map_nil, *]))
          | ((with_reducible refine W_fresh (fun b hb => ?_)); (repeat (obtain ⟨_, hb⟩ := hb)); (try simp (disch := first | assumption | omega) only [go_sem, seval, Rd_mk, Rd_mk0, Rd_st, Rd_fr, Rd_gt, Rd_at, List.length_map, List.map_nil, *]))
          | ((with_reducible refine W_app (fun o2 ho => ?_)); (try simp (disch := assumption) only [disown_set, disown_own, ownok_o, ownok_m, List.length_map, List.length_cons, List.length_nil, Nat.zero_add, Rd_mk, Rd_mk0, Rd_st, Rd_fr, Rd_gt, Rd_at, List.length_map, List.map_nil] at ho); (repeat (obtain ⟨_, ho⟩ := ho)); (try simp (disch := first | assumption | omega) only [go_sem, seval, Rd_mk, Rd_mk0, Rd_st, Rd_fr, Rd_gt, Rd_at, List.length_map, List.map_nil, *]))
          | ((with_reducible refine W_gd (fun h => ?_) (fun h => ?_)) <;> (try (exfalso; first | assumption | omega)) <;> (try simp (disch := first | assumption | omega) only [go_sem, seval, Rd_mk, Rd_mk0, Rd_st, Rd_fr, Rd_gt, Rd_at, List.length_map, List.map_nil, *]))))
        have hfin : parseS l = .ok out := by rw [hgo]; rfl
        refine QD_ret hQ2 (rec0 _ _ _ _) (by simp (disch := first | assumption | omega) only [res11, go_sem, seval, Rd_gt, *] <;> rfl) ⟨_, _, ?_, ?_, rfl, rfl⟩
        · rw [hfin]; exact Wk_src
        · ((try dsimp only); (repeat (first | exact Fg.refl _ | exact Fg.own (by assumption) | (refine Fg.set ?_ _ _) | (refine Fg.setA ?_ (by first | assumption | (simp (disch := assumption) only [own_rd, St.set, if_false, if_true, *]; done))) )); done)
      | cons x L2 =>
        have hpos : 0 < (x :: L2).length := by simp
        generalize hX : x :: L2 = L2 at *
        clear hX
        (repeat' (first
          | with_reducible first | refine L_seq ?_ | refine L_blk ?_ | refine L_skip ?_ | refine L_endblk ?_ | refine L_ret ?_ | refine L_exit ?_ | refine X_code ?_ | refine X_back ?_ | refine X_blk ?_ | refine X_past (by decide) ?_ | refine L_back ?_
          | ((with_reducible refine Kof.use hK ?_); clear hK hE K E)
          | ((with_reducible refine Eof.use hE ?_); (try clear hK hE K E))
          | ((with_reducible refine Kof.use hKh ?_); clear hKh Kh)
          | ((with_reducible refine Kof.use hKb (P_next ?_)); clear hKb Kb)
          | with_reducible first | refine G_plan 3 [([0, 1, 2], 3, [[1, 2]]), ([], 4, [[], [2]]), ([], 5, [[], [], []])] [] hQe fun K E hK hE => ?_ | refine G_plan 7 [([0, 1, 2, 3, 4], 5, [[0, 1, 2, 3]]), ([], 6, [[], []])] [] hQe fun K E hK hE => ?_ | refine G_plan 8 [([0, 1, 2], 3, [[0, 1]]), ([4], 5, [[], []]), ([6], 7, [[], [], []])] [] hQe fun K E hK hE => ?_
          | ((with_reducible refine W_cond (fun h => ?_) (fun h => ?_)) <;> (try (exfalso; first | assumption | omega)))
          | ((with_reducible first | refine G_region fun K E hK hE => ?_ | refine call_ret can21 (is0_S _ _ _ _ _ _) ?_ | refine W_if ?_ | refine W_ifS ?_ | refine P_heads fun Kh hKh => ?_ | refine P_fin fun Kh hKh => ?_ | refine P_each fun Kb hKb => ?_ | refine W_and ?_) <;> (try simp (disch := first | assumption | omega) only [go_sem, seval, Rd_mk, Rd_mk0, Rd_st, Rd_fr, Rd_gt, Rd_at, Rd_dis, Rd_own', Rd_ok, Rd_ownd, List.length_map, clsV, clsC, vrow, *]))
          | ((with_reducible refine call_po can20 (room32_S _ _ _ _ _ _ _) (fun a Lx nx h => ?_) (fun at_ er Lx nx h => ?_)) <;> (try (obtain ⟨e1, e2⟩ := roomP_eq h; subst e1; subst e2)) <;> (try simp (disch := first | assumption | omega) only [go_sem, seval, Rd_mk, Rd_mk0, Rd_st, Rd_fr, Rd_gt, Rd_at, Rd_dis, Rd_own', Rd_ok, Rd_ownd, List.length_map, clsV, clsC, vrow, *]))
          | ((with_reducible refine call_po can22 (class_S _ _ _ _ _ (by first | assumption | omega) (by first | assumption | omega)) (fun a Lx nx h => ?_) (fun at_ er Lx nx h => ?_)) <;> (try (obtain ⟨e1, e2⟩ := roomP_eq h; subst e1; subst e2)) <;> (try simp (disch := first | assumption | omega) only [go_sem, seval, Rd_mk, Rd_mk0, Rd_st, Rd_fr, Rd_gt, Rd_at, Rd_dis, Rd_own', Rd_ok, Rd_ownd, List.length_map, clsV, clsC, vrow, *]))
          | ((with_reducible refine W_fresh (fun b hb => ?_)); (repeat (obtain ⟨_, hb⟩ := hb)); (try simp (disch := first | assumption | omega) only [go_sem, seval, Rd_mk, Rd_mk0, Rd_st, Rd_fr, Rd_gt, Rd_at, Rd_dis, Rd_own', Rd_ok, Rd_ownd, List.length_map, clsV, clsC, vrow, *]))
          | ((with_reducible refine W_app (fun o2 ho => ?_)); (try simp (disch := assumption) only [disown_set, disown_own, ownok_o, ownok_m, List.length_map, List.length_cons, List.length_nil, Nat.zero_add, Rd_mk, Rd_mk0, Rd_st, Rd_fr, Rd_gt, Rd_at, Rd_dis, Rd_own', Rd_ok, Rd_ownd, List.length_map, clsV, clsC, vrow] at ho); (repeat (obtain ⟨_, ho⟩ := ho)); (try simp (disch := first | assumption | omega) only [go_sem, seval, Rd_mk, Rd_mk0, Rd_st, Rd_fr, Rd_gt, Rd_at, Rd_dis, Rd_own', Rd_ok, Rd_ownd, List.length_map, clsV, clsC, vrow, *]))
          | ((with_reducible refine W_gd (fun h => ?_) (fun h => ?_)) <;> (try (exfalso; first | assumption | omega)) <;> (try simp (disch := first | assumption | omega) only [go_sem, seval, Rd_mk, Rd_mk0, Rd_st, Rd_fr, Rd_gt, Rd_at, Rd_dis, Rd_own', Rd_ok, Rd_ownd, List.length_map, clsV, clsC, vrow, *]))))
        all_goals
          rw [show ∀ L2 n2, parsesP l.length (g + 1) out L2 n2 = (if L2 = [] then .ok (out, L2, n2) else bnd (roomP l.length L2 n2 out.length 32 (isT L2 0 [99, 108, 97, 115, 115])) fun _ L n => bnd (classP l.length L n) fun c L n => parsesP l.length g (out ++ [c]) L n) from fun _ _ => rfl, if_neg (by rintro rfl; simp at hpos)] at hgo
          first
            | rw [(by assumption : roomP _ _ _ _ _ _ = .ok _), bnd_ok] at hgo
            | rw [(by assumption : roomP _ _ _ _ _ _ = .error _), bnd_err] at hgo
        all_goals first
          | (rw [h, bnd_ok] at hgo
             have hlen := classP_len h
             exact ⟨g, by omega, Lx, nx, g, out ++ [a], o2, rfl, by omega, by omega, by omega, by simp; omega, hgo, by simp [clsC], by simpa using ho, by assumption, by assumption, by assumption, by assumption, by ((try simp (disch := first | assumption | omega) only [go_sem, seval, *]) <;> first | rfl | omega), by ((try simp (disch := first | assumption | omega) only [go_sem, seval, *]) <;> first | rfl | omega), by ((try simp (disch := first | assumption | omega) only [go_sem, seval, *]) <;> first | rfl | omega), by ((try simp (disch := first | assumption | omega) only [go_sem, seval, *]) <;> first | rfl | omega)⟩)
          | (try rw [h, bnd_err] at hgo
             have hfin : parseS l = .error (at_, er) := hgo
             refine QD_pan hQ2 (rec1 _ b2 b3 b4 er at_ _ _ _ (by simp (disch := first | assumption | omega) only [go_sem, seval, Rd_gt, *] <;> rfl) (by simp (disch := first | assumption | omega) only [go_sem, seval, Rd_gt, *] <;> rfl) (by simp (disch := first | assumption | omega) only [go_sem, seval, Rd_gt, *] <;> rfl) rfl rfl rfl q1 q5 q3)
               (by simp (disch := first | assumption | omega) only [res11, go_sem, seval, Rd_gt, *] <;> rfl) ⟨_, _, ?_, ?_, rfl, rfl⟩
             · rw [hfin]; exact Wk_src (cs := [])
             · ((try dsimp only); (repeat (first | exact Fg.refl _ | exact Fg.own (by assumption) | (refine Fg.set ?_ _ _) | (refine Fg.setA ?_ (by first | assumption | (simp (disch := assumption) only [own_rd, St.set, if_false, if_true, *]; done))) )); done))
end Go.Proofs.Ytilpdejbldllbaa
