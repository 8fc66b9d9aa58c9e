/- What is proved: What rule.Parse hands back. Conditions: those that stand in the statements. -/
import Derived.Test.YtbfgdblebepgcaaDoorZUj
import Derived.Test.YtbfgdblebepgcaaDoorZDefer
set_option linter.unusedSimpArgs false
set_option linter.unusedVariables false
set_option maxRecDepth 100000
namespace Go.Proofs.YtbfgdblebepgcaaDoor
open Go.RowKit
attribute [local go_sem] Ru_at Ru_mk2 Ru_free Ru_set Ru_gt Ru_dis Ru_own Ru_ok Ru_ownd

def itemsU (e : Nat) : Nat → Pgm → List Sgn → PU Pgm
  | 0, _, _ => .error (0, 0)
  | f + 1, x, L => if L = [] then .ok (x, L) else bu (itemU e x L) fun x L => itemsU e f x L
def unU : PU Pgm → Except (Nat × Nat) Pgm
  | .ok (x, _) => .ok x
  | .error q => .error q
def parseR (l : List UInt8) : Except (Nat × Nat) Pgm :=
  match lexSigns l with
  | .error x => .error x
  | .ok L => unU (itemsU l.length (L.length + 1) ⟨[], [], []⟩ L)
theorem parseR_ok {l : List UInt8} {L : List Sgn} (h : lexSigns l = .ok L) : parseR l = unU (itemsU l.length (L.length + 1) ⟨[], [], []⟩ L) := by unfold parseR; rw [h]
def parseRV : Except (Nat × Nat) Pgm → VV
  | .ok x => .tup [.agg (pgC x), .int .i64 0, .int .i64 0]
  | .error (a, e) => .tup [.agg (pgC ⟨[], [], []⟩), .int .i64 a, .int .i64 e]
theorem Wk_pg0 {o1 o2 o3 : Own} {a e : Int} : Wk (.tup [.agg [.lst [] o1, .lst [] o2, .lst [] o3], .int .i64 a, .int .i64 e]) (.tup [.agg (pgC ⟨[], [], []⟩), .int .i64 a, .int .i64 e]) :=
  Wk.tup rfl fun j x y hx hy => by
    match j with
    | 0 => simp at hx hy; subst hx; subst hy; exact Wk.agg (.lst _ _ (.lst _ _ (.lst _ _ .nil)))
    | 1 => simp at hx hy; subst hx; subst hy; exact Wk.refl _
    | 2 => simp at hx hy; subst hx; subst hy; exact Wk.refl _
    | j + 3 => simp at hx
theorem ucv_nilI : cv .nilIface = .raw .nilIface := rfl
theorem urec0 (s : St) (b2 b3 b4 : Nat) : SDef Tryd.prog 24 [.ptr b2 0, .ptr b3 0, .ptr b4 0] s none s := by
  refine SDef_of (x := none) Tryd.func24 rfl Tryd.ntmps24 rfl rfl rfl rfl ?_
  (repeat (first | refine L_seq ?_ | refine L_blk ?_ | refine L_skip ?_ | refine L_endblk ?_ | refine L_ret ?_ | (refine L_exit ?_; repeat (first | refine X_code ?_ | refine X_back ?_ | refine X_blk ?_ | refine X_past (by decide) ?_)) | (refine L_cond ?_; simp only [go_sem, seval, recV, ucv_nilI]) | (refine L_region fun K E hK hE => ?_; simp only [go_sem, seval, recV, ucv_nilI]; try (refine hK _ _ ?_; clear hK hE K E))))
  exact Fg.refl s
set_option maxHeartbeats 1000000 in
theorem urec1 (s : St) (b2 b3 b4 er at_ : Nat) (rs : List (Nat × TypeId × Nat)) (v2 v3 v4 : List VV) (h2 : s b2 = .pk 26 v2 rs) (h3 : s b3 = .obj 3 v3) (h4 : s b4 = .obj 29 v4) (l2 : v2.length = 3) (l3 : v3.length = 1) (l4 : v4.length = 1)
    (n23 : ¬ b3 = b2) (n24 : ¬ b4 = b2) (n34 : ¬ b4 = b3) :
    SDef Tryd.prog 24 [.ptr b2 0, .ptr b3 0, .ptr b4 0] s (some (stopU er at_)) (((s.set b2 (.pk 26 [.lst [] .full, .lst [] .full, .lst [] .full] (keepR 0 3 rs))).set b3 (.obj 3 [.int .i64 at_])).set b4 (.obj 29 [.int .i64 er])) := by
  refine SDef_of (x := some _) Tryd.func24 rfl Tryd.ntmps24 rfl rfl rfl rfl ?_
  have hQe : EOk 22 [] (fun (x : VV) (_ : Env) (_ : St) => False) := fun _ _ _ _ _ _ h => h
  obtain ⟨x2, y2, z2, rfl⟩ : ∃ x y z, v2 = [x, y, z] := by match v2, l2 with | [x, y, z], _ => exact ⟨x, y, z, rfl⟩
  obtain ⟨x3, rfl⟩ : ∃ x, v3 = [x] := by match v3, l3 with | [x], _ => exact ⟨x, rfl⟩
  obtain ⟨x4, rfl⟩ : ∃ x, v4 = [x] := by match v4, l4 with | [x], _ => exact ⟨x, rfl⟩
  have m23 : ¬ b2 = b3 := fun e => n23 e.symm
  have m24 : ¬ b2 = b4 := fun e => n24 e.symm
  have m34 : ¬ b3 = b4 := fun e => n34 e.symm
  have f2 : s b2 ≠ .free := by rw [h2]; simp
  have f3 : s b3 ≠ .free := by rw [h3]; simp
  have f4 : s b4 ≠ .free := by rw [h4]; simp
  (repeat' (first
    | with_reducible first | refine L_seq ?_ | refine L_blk ?_ | refine L_skip ?_ | refine L_endblk ?_ | refine L_ret ?_ | refine L_exit ?_ | refine X_code ?_ | refine X_back ?_ | refine X_blk ?_ | refine X_past (by decide) ?_ | refine L_back ?_
    | ((with_reducible refine Kof.use hK ?_); clear hK hE K E)
    | ((with_reducible refine Eof.use hE ?_); (try clear hK hE K E))
    | ((with_reducible refine Kof.use hKh ?_); clear hKh Kh)
    | ((with_reducible refine Kof.use hKb (P_next ?_)); clear hKb Kb)
    | with_reducible refine G_plan 5 [([0, 1, 2, 3, 4], 5, [[1, 2, 3, 4]]), ([], 6, [[], [3, 4]]), ([], 7, [[], [], []])] [] hQe fun K E hK hE => ?_
    | ((with_reducible refine W_cond (fun h => ?_) (fun h => ?_)) <;> (try (exfalso; first | assumption | omega)))
    | ((with_reducible first | refine G_region fun K E hK hE => ?_ | refine W_if ?_ | refine W_ifS ?_ | refine P_heads fun Kh hKh => ?_ | refine P_fin fun Kh hKh => ?_ | refine P_each fun Kb hKb => ?_ | refine W_and ?_) <;> (try simp (disch := first | assumption | omega) only [go_sem, seval, recV, ucv_nilI, stopU, *]))
    | ((with_reducible refine W_fresh (fun b hb => ?_)); (repeat (obtain ⟨_, hb⟩ := hb)); (try (obtain ⟨_, _⟩ := nef hb f2; obtain ⟨_, _⟩ := nef hb f3; obtain ⟨_, _⟩ := nef hb f4)); (try simp (disch := first | assumption | omega) only [go_sem, seval, recV, ucv_nilI, stopU, *]))
    | ((with_reducible refine W_app (fun o2 ho => ?_)); (try simp (disch := assumption) only [disown_set, disown_own, ownok_o, ownok_m, List.length_map, List.length_cons, List.length_nil, Nat.zero_add, recV, ucv_nilI, stopU] at ho); (repeat (obtain ⟨_, ho⟩ := ho)); (try simp (disch := first | assumption | omega) only [go_sem, seval, recV, ucv_nilI, stopU, *]))
    | ((with_reducible refine W_gd (fun h => ?_) (fun h => ?_)) <;> (try (exfalso; first | assumption | omega)) <;> (try simp (disch := first | assumption | omega) only [go_sem, seval, recV, ucv_nilI, stopU, *]))))
  show Fg _ _
  ((try dsimp only); (repeat (first | exact Fg.refl _ | exact Fg.own (by assumption) | (refine Fg.set ?_ _ _) | (refine Fg.setA ?_ (by first | assumption | (simp (disch := assumption) only [own_rd, St.set, if_false, if_true, *]; done))) )); done)
theorem GS.pg0 {S : St} {b2 : Nat} (h : S b2 = .obj 26 [.lst [] .full, .lst [] .full, .lst [] .full]) : GS S (S.set b2 (.pk 26 (pgC ⟨[], [], []⟩) rsP)) := by
  have g1 := GS.topk h
  have hd : ∀ t : St, t.disown .full = t := fun _ => rfl
  have g2 := GS.pack (i := 0) (l := []) (o := .full) (T' := 44) (sz := 2) (rs' := [(0, 44, 2)]) (St.set_same S b2 (.pk 26 [.lst [] .full, .lst [] .full, .lst [] .full] [])) rfl rfl (by simp)
  rw [hd, St.set_set] at g2
  have g3 := GS.pack (i := 1) (l := []) (o := .full) (T' := 46) (sz := 2) (rs' := [(0, 44, 2), (1, 46, 2)]) (St.set_same S b2 (.pk 26 [.lst [] .no, .lst [] .full, .lst [] .full] [(0, 44, 2)])) rfl rfl (by simp)
  rw [hd, St.set_set] at g3
  have g4 := GS.pack (i := 2) (l := []) (o := .full) (T' := 52) (sz := 4) (rs' := rsP) (St.set_same S b2 (.pk 26 [.lst [] .no, .lst [] .no, .lst [] .full] [(0, 44, 2), (1, 46, 2)])) rfl rfl (by simp)
  rw [hd, St.set_set] at g4
  exact g1.trans (g2.trans (g3.trans g4))
theorem lexGo_errU : ∀ (f : Nat) (s : List UInt8) (at_ : Nat) (out : List Sgn) (a e : Nat), lexGo f s at_ out = .error (a, e) → e ≠ 0
  | 0, s, at_, out, a, e, h => by cases h
  | f + 1, s, at_, out, a, e, h => by
    simp only [lexGo] at h
    cases hd : s.drop (runN blankB s) with
    | nil => rw [hd] at h; cases h
    | cons c r =>
      rw [hd] at h
      simp only at h
      split at h
      · exact lexGo_errU f _ _ _ _ _ h
      · split at h
        · injection h with h; injection h with h1 h2; subst h2; decide
        · split at h
          · injection h with h; injection h with h1 h2; subst h2; decide
          · exact lexGo_errU f _ _ _ _ _ h
theorem lexSigns_errU {s : List UInt8} {a e : Nat} (h : lexSigns s = .error (a, e)) : e ≠ 0 := by
  unfold lexSigns at h
  split at h
  · injection h with h; injection h with h1 h2; subst h2; decide
  · exact lexGo_errU _ _ _ _ _ _ h
set_option maxHeartbeats 4000000 in
theorem UParse_S (l : List UInt8) (hl : l.length ≤ 9223372036854775000) (s : St) : SRet Tryd.prog 11 [.str l] s (parseRV (parseR l)) s := by
  have hsig := signs_S l hl
  refine G_enterD (pre := [_, _, _]) Tryd.func11 rfl Tryd.ntmps11 rfl can24 rfl rfl (by decide) fun Q hQ hQe => ?_
  change Kp _ _ _ [.code _, .code _, .code _] _ _ _ _
  cases hL : lexSigns l with
  | error x =>
    obtain ⟨a, e⟩ := x
    have he := lexSigns_errU hL
    have he' : ¬ (e : Int) = 0 := by omega
    rw [hL] at hsig
    simp only [signsV] at hsig
    (repeat' (first
      | with_reducible first | refine L_seq ?_ | refine L_blk ?_ | refine L_skip ?_ | refine L_endblk ?_ | refine L_ret ?_ | refine L_exit ?_ | refine X_code ?_ | refine X_back ?_ | refine X_blk ?_ | refine X_past (by decide) ?_ | refine L_back ?_
      | ((with_reducible refine Kof.use hK ?_); clear hK hE K E)
      | ((with_reducible refine Eof.use hE ?_); (try clear hK hE K E))
      | ((with_reducible refine Kof.use hKh ?_); clear hKh Kh)
      | ((with_reducible refine Kof.use hKb (P_next ?_)); clear hKb Kb)
      | with_reducible refine G_plan 3 [([0, 1, 2], 3, [[1, 2]]), ([], 4, [[], [2]]), ([], 5, [[], [], []])] [] hQe fun K E hK hE => ?_
      | ((with_reducible refine W_cond (fun h => ?_) (fun h => ?_)) <;> (try (exfalso; first | assumption | omega)))
      | ((with_reducible first | refine G_region fun K E hK hE => ?_ | refine call_ret can13 (hsig _) ?_ | refine W_if ?_ | refine W_ifS ?_ | refine P_heads fun Kh hKh => ?_ | refine P_fin fun Kh hKh => ?_ | refine P_each fun Kb hKb => ?_ | refine W_and ?_) <;> (try simp (disch := first | assumption | omega) only [go_sem, seval, *]))
      | ((with_reducible refine call_pq can25 (uitem_S _ _ _ _ _ _ (by assumption) (by first | assumption | omega) (by assumption) (by first | assumption | omega)) (fun a Lx ix h hc => ?_) (fun at_ er Lx h => ?_)) <;> (try simp (disch := first | assumption | omega) only [go_sem, seval, *]))
      | ((with_reducible refine W_fresh (fun b hb => ?_)); (repeat (obtain ⟨_, hb⟩ := hb)); (try simp (disch := first | assumption | omega) only [go_sem, seval, *]))
      | ((with_reducible refine W_app (fun o2 ho => ?_)); (repeat (obtain ⟨_, ho⟩ := ho)); (try simp (disch := first | assumption | omega) only [go_sem, seval, *]))
      | ((with_reducible refine W_gd (fun h => ?_) (fun h => ?_)) <;> (try (exfalso; first | assumption | omega)) <;> (try simp (disch := first | assumption | omega) only [go_sem, seval, *]))))
    refine QP_ret hQ (by simp (disch := first | assumption | omega) only [res11, go_sem, seval, *] <;> rfl) ⟨_, _, ?_, ?_, rfl, rfl⟩
    · have : parseR l = .error (a, e) := by unfold parseR; rw [hL]
      rw [this]
      exact Wk_pg0
    · ((try dsimp only); (repeat (first | exact Fg.refl _ | exact Fg.own (by assumption) | (refine Fg.set ?_ _ _) | (refine Fg.setA ?_ (by first | assumption | (simp (disch := assumption) only [own_rd, St.set, if_false, if_true, *]; done))) )); done)
  | ok L =>
    obtain ⟨hG, hLl⟩ := lexSigns_goodU hL
    rw [hL] at hsig
    simp only [signsV] at hsig
    (repeat' (first
      | with_reducible first | refine L_seq ?_ | refine L_blk ?_ | refine L_skip ?_ | refine L_endblk ?_ | refine L_ret ?_ | refine L_exit ?_ | refine X_code ?_ | refine X_back ?_ | refine X_blk ?_ | refine X_past (by decide) ?_ | refine L_back ?_
      | ((with_reducible refine Kof.use hK ?_); clear hK hE K E)
      | ((with_reducible refine Eof.use hE ?_); (try clear hK hE K E))
      | ((with_reducible refine Kof.use hKh ?_); clear hKh Kh)
      | ((with_reducible refine Kof.use hKb (P_next ?_)); clear hKb Kb)
      | with_reducible refine G_plan 3 [([0, 1, 2], 3, [[1, 2]]), ([], 4, [[], [2]]), ([], 5, [[], [], []])] [] hQe fun K E hK hE => ?_
      | ((with_reducible refine W_cond (fun h => ?_) (fun h => ?_)) <;> (try (exfalso; first | assumption | omega)))
      | ((with_reducible first | refine G_region fun K E hK hE => ?_ | refine call_ret can13 (hsig _) ?_ | refine W_if ?_ | refine W_ifS ?_ | refine P_heads fun Kh hKh => ?_ | refine P_fin fun Kh hKh => ?_ | refine P_each fun Kb hKb => ?_ | refine W_and ?_) <;> (try simp (disch := first | assumption | omega) only [go_sem, seval, *]))
      | ((with_reducible refine call_pq can25 (uitem_S _ _ _ _ _ _ (by assumption) (by first | assumption | omega) (by assumption) (by first | assumption | omega)) (fun a Lx ix h hc => ?_) (fun at_ er Lx h => ?_)) <;> (try simp (disch := first | assumption | omega) only [go_sem, seval, *]))
      | ((with_reducible refine W_fresh (fun b hb => ?_)); (repeat (obtain ⟨_, hb⟩ := hb)); (try simp (disch := first | assumption | omega) only [go_sem, seval, *]))
      | ((with_reducible refine W_app (fun o2 ho => ?_)); (repeat (obtain ⟨_, ho⟩ := ho)); (try simp (disch := first | assumption | omega) only [go_sem, seval, *]))
      | ((with_reducible refine W_gd (fun h => ?_) (fun h => ?_)) <;> (try (exfalso; first | assumption | omega)) <;> (try simp (disch := first | assumption | omega) only [go_sem, seval, *]))))
    rename_i b2 hb2 b3 q1 q2 hb3 q3 q4 q5 q6
    clear h hsig hQe
    refine QP_norm hQ fun D Q2 hQ2 hQe => ?_
    clear hQ Q
    (repeat' (first
      | with_reducible first | refine L_seq ?_ | refine L_blk ?_ | refine L_skip ?_ | refine L_endblk ?_ | refine L_ret ?_ | refine L_exit ?_ | refine X_code ?_ | refine X_back ?_ | refine X_blk ?_ | refine X_past (by decide) ?_ | refine L_back ?_
      | ((with_reducible refine Kof.use hK ?_); clear hK hE K E)
      | ((with_reducible refine Eof.use hE ?_); (try clear hK hE K E))
      | ((with_reducible refine Kof.use hKh ?_); clear hKh Kh)
      | ((with_reducible refine Kof.use hKb (P_next ?_)); clear hKb Kb)
      | with_reducible refine G_plan 3 [([0, 1, 2], 3, [[1, 2]]), ([], 4, [[], [2]]), ([], 5, [[], [], []])] [] hQe fun K E hK hE => ?_
      | ((with_reducible refine W_cond (fun h => ?_) (fun h => ?_)) <;> (try (exfalso; first | assumption | omega)))
      | ((with_reducible first | refine G_region fun K E hK hE => ?_ | refine W_if ?_ | refine W_ifS ?_ | refine P_heads fun Kh hKh => ?_ | refine P_fin fun Kh hKh => ?_ | refine P_each fun Kb hKb => ?_ | refine W_and ?_) <;> (try simp (disch := first | assumption | omega) only [go_sem, seval, Ru_mk, *]))
      | ((with_reducible refine call_pq can25 (uitem_S _ _ _ _ _ _ (by assumption) (by first | assumption | omega) (by assumption) (by first | assumption | omega)) (fun a Lx ix h hc => ?_) (fun at_ er Lx h => ?_)) <;> (try simp (disch := first | assumption | omega) only [go_sem, seval, Ru_mk, *]))
      | ((with_reducible refine W_fresh (fun b hb => ?_)); (repeat (obtain ⟨_, hb⟩ := hb)); (try simp (disch := first | assumption | omega) only [go_sem, seval, Ru_mk, *]))
      | ((with_reducible refine W_app (fun o2 ho => ?_)); (try simp (disch := assumption) only [disown_set, disown_own, ownok_o, ownok_m, List.length_map, List.length_cons, List.length_nil, Nat.zero_add, Ru_mk] at ho); (repeat (obtain ⟨_, ho⟩ := ho)); (try simp (disch := first | assumption | omega) only [go_sem, seval, Ru_mk, *]))
      | ((with_reducible refine W_gd (fun h => ?_) (fun h => ?_)) <;> (try (exfalso; first | assumption | omega)) <;> (try simp (disch := first | assumption | omega) only [go_sem, seval, Ru_mk, *]))))
    rename_i b4 hb4 q11 q12 q13 q14 q15 q16
    have hgo0 := parseR_ok hL
    have e2 : (Ru (((s.set b2 (.obj 26 [.lst [] .full, .lst [] .full, .lst [] .full])).set b3 (.obj 3 [.int .i64 0])).set b4 (.obj 29 [.int .i64 0])) b l.length L) b2 = .obj 26 [.lst [] .full, .lst [] .full, .lst [] .full] := by
      simp (disch := assumption) only [go_sem, seval, *]
    refine Kp_gs (GS.pg0 e2) ?_
    have e3 : (Ru (((s.set b2 (.obj 26 [.lst [] .full, .lst [] .full, .lst [] .full])).set b3 (.obj 3 [.int .i64 0])).set b4 (.obj 29 [.int .i64 0])) b l.length L).set b2 (.pk 26 (pgC ⟨[], [], []⟩) rsP) = Pg ((s.set b3 (.obj 3 [.int .i64 0])).set b4 (.obj 29 [.int .i64 0])) b2 b l.length ⟨[], [], []⟩ L := by
      rw [Ru_set (by assumption)]
      simp only [Pg]
      refine congrArg (fun t => Ru t b l.length L) (funext fun z => ?_)
      simp only [St.set]
      by_cases h1 : z = b2
      · simp [h1]
      · simp [h1]
    rw [e3]
    clear e2 e3
    have hB3 : ((s.set b3 (.obj 3 [.int .i64 0])).set b4 (.obj 29 [.int .i64 0])) b3 = .obj 3 [.int .i64 0] := by rw [St.set_other _ _ (by assumption), St.set_same]
    have hB4 : ((s.set b3 (.obj 3 [.int .i64 0])).set b4 (.obj 29 [.int .i64 0])) b4 = .obj 29 [.int .i64 0] := St.set_same _ _ _
    have hBf : Fg ((s.set b3 (.obj 3 [.int .i64 0])).set b4 (.obj 29 [.int .i64 0])) s := by ((try dsimp only); (repeat (first | exact Fg.refl _ | exact Fg.own (by assumption) | (refine Fg.set ?_ _ _) | (refine Fg.setA ?_ (by first | assumption | (simp (disch := assumption) only [own_rd, St.set, if_false, if_true, *]; done))) )); done)
    generalize ((s.set b3 (.obj 3 [.int .i64 0])).set b4 (.obj 29 [.int .i64 0])) = B at *
    have HB := Lib.hid hBf
    clear hBf
    refine L_loop (fun m env s' => ∃ (L2 : List Sgn) (x : Pgm), L2.length + 1 ≤ m ∧ L2.length ≤ 4096 ∧ GoodU L2 ∧ x.doms.length + L2.length ≤ 4096 ∧ x.decls.length + L2.length ≤ 4096 ∧ x.rules.length + L2.length ≤ 4096 ∧
      parseR l = unU (itemsU l.length m x L2) ∧ s' = Pg B b2 b l.length x L2 ∧ env 2 = .ptr b2 0 ∧ env 3 = .ptr b3 0 ∧ env 4 = .ptr b4 0 ∧ env 6 = .ptr b 0) (L.length + 1) ?_ ?_
    · exact ⟨L, ⟨[], [], []⟩, by omega, hLl, hG, by simpa using hLl, by simpa using hLl, by simpa using hLl, hgo0, rfl, by ((try simp (disch := first | assumption | omega) only [go_sem, seval, *]) <;> first | rfl | omega), by ((try simp (disch := first | assumption | omega) only [go_sem, seval, *]) <;> first | rfl | omega), by ((try simp (disch := first | assumption | omega) only [go_sem, seval, *]) <;> first | rfl | omega), by ((try simp (disch := first | assumption | omega) only [go_sem, seval, *]) <;> first | rfl | omega)⟩
    · rintro m env s' ⟨L2, x, hm, hl2, hG2, hx1, hx2, hx3, hgo, rfl, z2, z3, z4, z6⟩
      clear hgo0
      obtain ⟨g, rfl⟩ : ∃ g, m = g + 1 := ⟨m - 1, by omega⟩
      have HG := Lib.hid hgo
      clear hgo
      cases L2 with
      | nil =>
        (repeat' (first
          | with_reducible first | refine L_seq ?_ | refine L_blk ?_ | refine L_skip ?_ | refine L_endblk ?_ | refine L_ret ?_ | refine L_exit ?_ | refine X_code ?_ | refine X_back ?_ | refine X_blk ?_ | refine X_past (by decide) ?_ | refine L_back ?_
          | ((with_reducible refine Kof.use hK ?_); clear hK hE K E)
          | ((with_reducible refine Eof.use hE ?_); (try clear hK hE K E))
          | ((with_reducible refine Kof.use hKh ?_); clear hKh Kh)
          | ((with_reducible refine Kof.use hKb (P_next ?_)); clear hKb Kb)
          | with_reducible refine G_plan 3 [([0, 1, 2], 3, [[1, 2]]), ([], 4, [[], [2]]), ([], 5, [[], [], []])] [] hQe fun K E hK hE => ?_
          | ((with_reducible refine W_cond (fun h => ?_) (fun h => ?_)) <;> (try (exfalso; first | assumption | omega)))
          | ((with_reducible first | refine G_region fun K E hK hE => ?_ | refine W_if ?_ | refine W_ifS ?_ | refine P_heads fun Kh hKh => ?_ | refine P_fin fun Kh hKh => ?_ | refine P_each fun Kb hKb => ?_ | refine W_and ?_) <;> (try simp (disch := first | assumption | omega) only [go_sem, seval, Pg, pgC, List.map_nil, List.length_nil, *]))
          | ((with_reducible refine call_pq can25 (uitem_S _ _ _ _ _ _ (by assumption) (by first | assumption | omega) (by assumption) (by first | assumption | omega)) (fun a Lx ix h hc => ?_) (fun at_ er Lx h => ?_)) <;> (try simp (disch := first | assumption | omega) only [go_sem, seval, Pg, pgC, List.map_nil, List.length_nil, *]))
          | ((with_reducible refine W_fresh (fun b hb => ?_)); (repeat (obtain ⟨_, hb⟩ := hb)); (try simp (disch := first | assumption | omega) only [go_sem, seval, Pg, pgC, List.map_nil, List.length_nil, *]))
          | ((with_reducible refine W_app (fun o2 ho => ?_)); (try simp (disch := assumption) only [disown_set, disown_own, ownok_o, ownok_m, List.length_map, List.length_cons, List.length_nil, Nat.zero_add, Pg, pgC, List.map_nil, List.length_nil] at ho); (repeat (obtain ⟨_, ho⟩ := ho)); (try simp (disch := first | assumption | omega) only [go_sem, seval, Pg, pgC, List.map_nil, List.length_nil, *]))
          | ((with_reducible refine W_gd (fun h => ?_) (fun h => ?_)) <;> (try (exfalso; first | assumption | omega)) <;> (try simp (disch := first | assumption | omega) only [go_sem, seval, Pg, pgC, List.map_nil, List.length_nil, *]))))
        have hfin : parseR l = .ok x := by rw [show parseR l = _ from HG]; simp [itemsU, unU]
        refine QD_ret hQ2 (urec0 _ _ _ _) (by simp (disch := first | assumption | omega) only [res11, go_sem, seval, *] <;> rfl) ⟨_, _, ?_, ?_, rfl, rfl⟩
        · rw [hfin]; exact Wk.refl _
        · exact Fg.setA (Fg.setA (Fg.setA (Fg.setA HB hb2) hb3) hb4) hb
      | cons y L2 =>
        have hpos : 0 < (y :: L2).length := by simp
        generalize hX : y :: L2 = L3 at *
        clear hX
        have hm2 : (L3.map sgnC).length = L3.length := by simp
        (repeat' (first
          | with_reducible first | refine L_seq ?_ | refine L_blk ?_ | refine L_skip ?_ | refine L_endblk ?_ | refine L_ret ?_ | refine L_exit ?_ | refine X_code ?_ | refine X_back ?_ | refine X_blk ?_ | refine X_past (by decide) ?_ | refine L_back ?_
          | ((with_reducible refine Kof.use hK ?_); clear hK hE K E)
          | ((with_reducible refine Eof.use hE ?_); (try clear hK hE K E))
          | ((with_reducible refine Kof.use hKh ?_); clear hKh Kh)
          | ((with_reducible refine Kof.use hKb (P_next ?_)); clear hKb Kb)
          | with_reducible refine G_plan 3 [([0, 1, 2], 3, [[1, 2]]), ([], 4, [[], [2]]), ([], 5, [[], [], []])] [] hQe fun K E hK hE => ?_
          | ((with_reducible refine W_cond (fun h => ?_) (fun h => ?_)) <;> (try (exfalso; first | assumption | omega)))
          | ((with_reducible first | refine G_region fun K E hK hE => ?_ | refine W_if ?_ | refine W_ifS ?_ | refine P_heads fun Kh hKh => ?_ | refine P_fin fun Kh hKh => ?_ | refine P_each fun Kb hKb => ?_ | refine W_and ?_) <;> (try simp (disch := first | assumption | omega) only [go_sem, seval, hm2, *]))
          | ((with_reducible refine call_pq can25 (uitem_S _ _ _ _ _ _ (by assumption) (by first | assumption | omega) (by assumption) (by first | assumption | omega)) (fun a Lx ix h hc => ?_) (fun at_ er Lx h => ?_)) <;> (try simp (disch := first | assumption | omega) only [go_sem, seval, hm2, *]))
          | ((with_reducible refine W_fresh (fun b hb => ?_)); (repeat (obtain ⟨_, hb⟩ := hb)); (try simp (disch := first | assumption | omega) only [go_sem, seval, hm2, *]))
          | ((with_reducible refine W_app (fun o2 ho => ?_)); (try simp (disch := assumption) only [disown_set, disown_own, ownok_o, ownok_m, List.length_map, List.length_cons, List.length_nil, Nat.zero_add, hm2] at ho); (repeat (obtain ⟨_, ho⟩ := ho)); (try simp (disch := first | assumption | omega) only [go_sem, seval, hm2, *]))
          | ((with_reducible refine W_gd (fun h => ?_) (fun h => ?_)) <;> (try (exfalso; first | assumption | omega)) <;> (try simp (disch := first | assumption | omega) only [go_sem, seval, hm2, *]))))
        · have hL3 : L3 ≠ [] := by rintro rfl; simp at hpos
          obtain ⟨k1, k2, k3, k4, k5⟩ := itemU_sub h
          have hgo : parseR l = unU (itemsU l.length g a Lx) := by rw [show parseR l = _ from HG, itemsU, if_neg hL3, h, bu_ok]
          exact ⟨g, by omega, Lx, a, by omega, by omega, hG2.sub k2, by omega, by omega, by omega, hgo, rfl, by ((try simp (disch := first | assumption | omega) only [go_sem, seval, *]) <;> first | rfl | omega), by ((try simp (disch := first | assumption | omega) only [go_sem, seval, *]) <;> first | rfl | omega), by ((try simp (disch := first | assumption | omega) only [go_sem, seval, *]) <;> first | rfl | omega), by ((try simp (disch := first | assumption | omega) only [go_sem, seval, *]) <;> first | rfl | omega)⟩
        · have hL3 : L3 ≠ [] := by rintro rfl; simp at hpos
          have hfin : parseR l = .error (at_, er) := by rw [show parseR l = _ from HG, itemsU, if_neg hL3, h, bu_err]; rfl
          refine QD_pan hQ2 (urec1 _ b2 b3 b4 er at_ rsP (pgC Lx.1) [.int .i64 0] [.int .i64 0] (Pg_at q16) ((Ru_gt q14).trans ((St.set_other _ _ q1).trans hB3)) ((Ru_gt q12).trans ((St.set_other _ _ q5).trans hB4)) rfl rfl rfl q1 q5 q3)
            (by simp (disch := first | assumption | omega) only [res11, go_sem, seval, *] <;> rfl) ⟨_, _, ?_, ?_, rfl, rfl⟩
          · rw [hfin]; exact Wk_pg0
          · exact Fg.setA (Fg.setA (Fg.setA (Fg.setA (Fg.setA HB hb2) hb) hb2) hb3) hb4
end Go.Proofs.YtbfgdblebepgcaaDoor
