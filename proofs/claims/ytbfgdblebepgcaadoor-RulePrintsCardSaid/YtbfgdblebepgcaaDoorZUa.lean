/- What is proved: What the reader of package rule hands back. Conditions: those that stand in the statements. -/
import Derived.Test.YtbfgdblebepgcaaDoorZOoj
import Derived.Test.YtbfgdblebepgcaaDoorZLexP
import Derived.Test.YtbfgdblebepgcaaDoorZGq
set_option linter.unusedSimpArgs false
set_option linter.unusedVariables false
set_option maxRecDepth 100000
namespace Go.Proofs.YtbfgdblebepgcaaDoor
open Go.RowKit

/-- A memory in which a reader of rules stands at its signs. -/
def Ru (s : St) (r : Nat) (e : Nat) (L : List Sgn) : St := s.set r (.obj 71 [.lst (L.map sgnC) .no, .int .i64 e])
def stopU (er at_ : Nat) : VV := .iface 67 (.agg [.int .i64 er, .int .i64 at_])
/-- What a reader's method comes to: a value, and the signs that are left; or a stop. -/
abbrev PU (α : Type) := Except (Nat × Nat) (α × List Sgn)
def bu {α β : Type} (x : PU α) (k : α → List Sgn → PU β) : PU β :=
  match x with
  | .ok (a, L) => k a L
  | .error y => .error y
theorem bu_ok {α β : Type} {a : α} {L : List Sgn} {k : α → List Sgn → PU β} : bu (.ok (a, L)) k = k a L := rfl
theorem bu_err {α β : Type} {x : Nat × Nat} {k : α → List Sgn → PU β} : bu (.error x) k = .error x := rfl
theorem bu_assoc {α β γ : Type} {x : PU α} {k : α → List Sgn → PU β} {k' : β → List Sgn → PU γ} : bu (bu x k) k' = bu x fun a L => bu (k a L) k' := by
  cases x with
  | error y => rfl
  | ok v => rfl
def PW {α : Type} (enc : α → VV) (s : St) (r e : Nat) (x : PU α) : SEnd → St → Prop := fun w t =>
  match x with
  | .ok (a, L) => w = .ret (enc a) ∧ t = Ru s r e L
  | .error (at_, er) => w = .panic (stopU er at_) ∧ ∃ L, t = Ru s r e L
/-- The same, where memory changes besides. -/
def PQ {α ι κ : Type} (enc : α → VV) (F : α → List Sgn → ι → St) (C : α → List Sgn → ι → Prop) (G : κ → St) (x : PU α) : SEnd → St → Prop := fun w t =>
  match x with
  | .ok (a, L) => w = .ret (enc a) ∧ ∃ i, t = F a L i ∧ C a L i
  | .error (at_, er) => w = .panic (stopU er at_) ∧ ∃ L, t = G L
section
variable {P : Program} {N : Nat} {all rest : List Oper} {K : Env → St → Prop} {E : VV → Env → St → Prop} {d : Option Tmp} {env : Env} {f : FuncId} {xs : List VV} {α ι κ : Type} {enc : α → VV} {s s0 : St} {r e : Nat} {x : PU α}
theorem call_pw (hc : Callable P f) (h : SCalls P f xs s0 (PW enc s r e x))
    (hr : ∀ a L', x = .ok (a, L') → vops P N all K E rest (put N env d (enc a)) (Ru s r e L'))
    (hp : ∀ at_ er L', x = .error (at_, er) → E (stopU er at_) env (Ru s r e L')) :
    vcall2 P N all K E d rest env s0 f xs := by
  refine ⟨_, .inl ⟨hc, h⟩, ?_, ?_⟩
  · intro y t q
    match x, q with
    | .ok (a, L'), q => obtain ⟨e1, e2⟩ := q; injection e1 with e1; subst e1; subst e2; exact hr _ _ rfl
    | .error (at_, er), q => cases q.1
  · intro y t q
    match x, q with
    | .ok (a, L'), q => cases q.1
    | .error (at_, er), q => obtain ⟨e1, L', e2⟩ := q; injection e1 with e1; subst e1; subst e2; exact hp _ _ _ rfl
theorem call_pq {F : α → List Sgn → ι → St} {C : α → List Sgn → ι → Prop} {G : κ → St} (hc : Callable P f) (h : SCalls P f xs s0 (PQ enc F C G x))
    (hr : ∀ a L' i, x = .ok (a, L') → C a L' i → vops P N all K E rest (put N env d (enc a)) (F a L' i))
    (hp : ∀ at_ er L', x = .error (at_, er) → E (stopU er at_) env (G L')) :
    vcall2 P N all K E d rest env s0 f xs := by
  refine ⟨_, .inl ⟨hc, h⟩, ?_, ?_⟩
  · intro y t q
    match x, q with
    | .ok (a, L'), q => obtain ⟨e1, i, e2, h2⟩ := q; injection e1 with e1; subst e1; subst e2; exact hr _ _ _ rfl h2
    | .error (at_, er), q => cases q.1
  · intro y t q
    match x, q with
    | .ok (a, L'), q => cases q.1
    | .error (at_, er), q => obtain ⟨e1, L', e2⟩ := q; injection e1 with e1; subst e1; subst e2; exact hp _ _ _ rfl
end
theorem SCalls.ret {P : Program} {f : FuncId} {xs : List VV} {α : Type} {enc : α → VV} {s s0 : St} {r e : Nat} {a : α} {L : List Sgn} (h : SCalls P f xs s0 (PW enc s r e (.ok (a, L)))) : SRet P f xs s0 (enc a) (Ru s r e L) := h
theorem Ru_at {s : St} {r e : Nat} {L : List Sgn} : (Ru s r e L) r = .obj 71 [.lst (L.map sgnC) .no, .int .i64 e] := St.set_same _ _ _
theorem Ru_mk {s : St} {r e : Nat} {L : List Sgn} : s.set r (.obj 71 [.lst (L.map sgnC) .no, .int .i64 e]) = Ru s r e L := rfl
theorem Ru_gt {s : St} {r e b : Nat} {L : List Sgn} (h : ¬ b = r) : (Ru s r e L) b = s b := St.set_other _ _ h
theorem Ru_mk2 {s : St} {r e : Nat} {L L' : List Sgn} : (Ru s r e L).set r (.obj 71 [.lst (L'.map sgnC) .no, .int .i64 e]) = Ru s r e L' := St.set_set _ _ _ _
theorem Fg.ru {s s' : St} (h : Fg s s') {r e : Nat} {L : List Sgn} : Fg (Ru s r e L) (Ru s' r e L) := Fg.set h _ _
attribute [local go_sem] Ru_at Ru_mk2

theorem uis_S (s : St) (r e : Nat) (L : List Sgn) (t : List UInt8) : SRet Tryd.prog 41 [.ptr r 0, .str t] (Ru s r e L) (.bool (isT L 0 t)) (Ru s r e L) := by
  refine G_enter Tryd.func41 rfl Tryd.ntmps41 rfl fun Q hQ hQe => ?_
  cases L with
  | nil =>
    (repeat' (first
      | with_reducible first | refine L_seq ?_ | refine L_blk ?_ | refine L_skip ?_ | refine L_endblk ?_ | refine L_ret ?_ | refine L_exit ?_ | refine X_code ?_ | refine X_back ?_ | refine X_blk ?_ | refine X_past (by decide) ?_ | refine L_back ?_
      | ((with_reducible refine Kof.use hK ?_); clear hK hE K E)
      | ((with_reducible refine Eof.use hE ?_); (try clear hK hE K E))
      | ((with_reducible refine W_cond (fun h => ?_) (fun h => ?_)) <;> (try (exfalso; first | assumption | omega)))
      | ((with_reducible first | refine G_region fun K E hK hE => ?_ | refine W_if ?_ | refine W_ifS ?_ | refine W_and ?_) <;> (try simp (disch := first | assumption | omega) only [go_sem, seval, List.map_nil, *]))
      | ((with_reducible refine W_fresh (fun b hb => ?_)); (repeat (obtain ⟨_, hb⟩ := hb)); (try simp (disch := first | assumption | omega) only [go_sem, seval, List.map_nil, *]))
      | ((with_reducible refine W_app (fun o2 ho => ?_)); (try simp (disch := assumption) only [disown_set, disown_own, ownok_o, ownok_m, List.length_map, List.length_cons, List.length_nil, Nat.zero_add, List.map_nil] at ho); (repeat (obtain ⟨_, ho⟩ := ho)); (try simp (disch := first | assumption | omega) only [go_sem, seval, List.map_nil, *]))
      | ((with_reducible refine W_gd (fun h => ?_) (fun h => ?_)) <;> (try (exfalso; first | assumption | omega)) <;> (try simp (disch := first | assumption | omega) only [go_sem, seval, List.map_nil, *]))))
    all_goals (first | refine G_ret hQ (by simp (disch := first | assumption | omega) only [res41, go_sem, seval, *] <;> rfl) ?_ | refine G_norm hQ (by simp (disch := first | assumption | omega) only [res41, go_sem, seval, *] <;> rfl) ?_ | refine G_pan hQ ?_)
    all_goals (refine ⟨_, _, Wk.of_eq ?_, ?_, rfl, rfl⟩)
    all_goals first | ((try dsimp only); (repeat (first | exact Fg.refl _ | exact Fg.own (by assumption) | (refine Fg.set ?_ _ _) | (refine Fg.setA ?_ (by first | assumption | (simp (disch := assumption) only [own_rd, St.set, if_false, if_true, *]; done))) )); done) | rfl
  | cons x L =>
    have hl : (L.map sgnC).length = L.length := by simp
    (repeat' (first
      | with_reducible first | refine L_seq ?_ | refine L_blk ?_ | refine L_skip ?_ | refine L_endblk ?_ | refine L_ret ?_ | refine L_exit ?_ | refine X_code ?_ | refine X_back ?_ | refine X_blk ?_ | refine X_past (by decide) ?_ | refine L_back ?_
      | ((with_reducible refine Kof.use hK ?_); clear hK hE K E)
      | ((with_reducible refine Eof.use hE ?_); (try clear hK hE K E))
      | ((with_reducible refine W_cond (fun h => ?_) (fun h => ?_)) <;> (try (exfalso; first | assumption | omega)))
      | ((with_reducible first | refine G_region fun K E hK hE => ?_ | refine W_if ?_ | refine W_ifS ?_ | refine W_and ?_) <;> (try simp (disch := first | assumption | omega) only [go_sem, seval, List.map_cons, sgnC, hl, *]))
      | ((with_reducible refine W_fresh (fun b hb => ?_)); (repeat (obtain ⟨_, hb⟩ := hb)); (try simp (disch := first | assumption | omega) only [go_sem, seval, List.map_cons, sgnC, hl, *]))
      | ((with_reducible refine W_app (fun o2 ho => ?_)); (try simp (disch := assumption) only [disown_set, disown_own, ownok_o, ownok_m, List.length_map, List.length_cons, List.length_nil, Nat.zero_add, List.map_cons, sgnC, hl] at ho); (repeat (obtain ⟨_, ho⟩ := ho)); (try simp (disch := first | assumption | omega) only [go_sem, seval, List.map_cons, sgnC, hl, *]))
      | ((with_reducible refine W_gd (fun h => ?_) (fun h => ?_)) <;> (try (exfalso; first | assumption | omega)) <;> (try simp (disch := first | assumption | omega) only [go_sem, seval, List.map_cons, sgnC, hl, *]))))
    all_goals (first | refine G_ret hQ (by simp (disch := first | assumption | omega) only [res41, go_sem, seval, *] <;> rfl) ?_ | refine G_norm hQ (by simp (disch := first | assumption | omega) only [res41, go_sem, seval, *] <;> rfl) ?_ | refine G_pan hQ ?_)
    all_goals (refine ⟨_, _, Wk.of_eq ?_, ?_, rfl, rfl⟩)
    all_goals first | ((try dsimp only); (repeat (first | exact Fg.refl _ | exact Fg.own (by assumption) | (refine Fg.set ?_ _ _) | (refine Fg.setA ?_ (by first | assumption | (simp (disch := assumption) only [own_rd, St.set, if_false, if_true, *]; done))) )); done) | rfl
theorem uat_S (s : St) (r e : Nat) (L : List Sgn) : SRet Tryd.prog 77 [.ptr r 0] (Ru s r e L) (.int .i64 (place e L)) (Ru s r e L) := by
  refine G_enter Tryd.func77 rfl Tryd.ntmps77 rfl fun Q hQ hQe => ?_
  cases L with
  | nil =>
    (repeat' (first
      | with_reducible first | refine L_seq ?_ | refine L_blk ?_ | refine L_skip ?_ | refine L_endblk ?_ | refine L_ret ?_ | refine L_exit ?_ | refine X_code ?_ | refine X_back ?_ | refine X_blk ?_ | refine X_past (by decide) ?_ | refine L_back ?_
      | ((with_reducible refine Kof.use hK ?_); clear hK hE K E)
      | ((with_reducible refine Eof.use hE ?_); (try clear hK hE K E))
      | ((with_reducible refine W_cond (fun h => ?_) (fun h => ?_)) <;> (try (exfalso; first | assumption | omega)))
      | ((with_reducible first | refine G_region fun K E hK hE => ?_ | refine W_if ?_ | refine W_ifS ?_ | refine W_and ?_) <;> (try simp (disch := first | assumption | omega) only [go_sem, seval, List.map_nil, *]))
      | ((with_reducible refine W_fresh (fun b hb => ?_)); (repeat (obtain ⟨_, hb⟩ := hb)); (try simp (disch := first | assumption | omega) only [go_sem, seval, List.map_nil, *]))
      | ((with_reducible refine W_app (fun o2 ho => ?_)); (try simp (disch := assumption) only [disown_set, disown_own, ownok_o, ownok_m, List.length_map, List.length_cons, List.length_nil, Nat.zero_add, List.map_nil] at ho); (repeat (obtain ⟨_, ho⟩ := ho)); (try simp (disch := first | assumption | omega) only [go_sem, seval, List.map_nil, *]))
      | ((with_reducible refine W_gd (fun h => ?_) (fun h => ?_)) <;> (try (exfalso; first | assumption | omega)) <;> (try simp (disch := first | assumption | omega) only [go_sem, seval, List.map_nil, *]))))
    all_goals (first | refine G_ret hQ (by simp (disch := first | assumption | omega) only [res77, go_sem, seval, *] <;> rfl) ?_ | refine G_norm hQ (by simp (disch := first | assumption | omega) only [res77, go_sem, seval, *] <;> rfl) ?_ | refine G_pan hQ ?_)
    all_goals (refine ⟨_, _, Wk.of_eq ?_, ?_, rfl, rfl⟩)
    all_goals first | ((try dsimp only); (repeat (first | exact Fg.refl _ | exact Fg.own (by assumption) | (refine Fg.set ?_ _ _) | (refine Fg.setA ?_ (by first | assumption | (simp (disch := assumption) only [own_rd, St.set, if_false, if_true, *]; done))) )); done) | rfl
  | cons x L =>
    have hl : (L.map sgnC).length = L.length := by simp
    have hp : ¬ ((L.length + 1 : Nat) : Int) = 0 := by omega
    (repeat' (first
      | with_reducible first | refine L_seq ?_ | refine L_blk ?_ | refine L_skip ?_ | refine L_endblk ?_ | refine L_ret ?_ | refine L_exit ?_ | refine X_code ?_ | refine X_back ?_ | refine X_blk ?_ | refine X_past (by decide) ?_ | refine L_back ?_
      | ((with_reducible refine Kof.use hK ?_); clear hK hE K E)
      | ((with_reducible refine Eof.use hE ?_); (try clear hK hE K E))
      | ((with_reducible refine W_cond (fun h => ?_) (fun h => ?_)) <;> (try (exfalso; first | assumption | omega)))
      | ((with_reducible first | refine G_region fun K E hK hE => ?_ | refine W_if ?_ | refine W_ifS ?_ | refine W_and ?_) <;> (try simp (disch := first | assumption | omega) only [go_sem, seval, List.map_cons, sgnC, hl, *]))
      | ((with_reducible refine W_fresh (fun b hb => ?_)); (repeat (obtain ⟨_, hb⟩ := hb)); (try simp (disch := first | assumption | omega) only [go_sem, seval, List.map_cons, sgnC, hl, *]))
      | ((with_reducible refine W_app (fun o2 ho => ?_)); (try simp (disch := assumption) only [disown_set, disown_own, ownok_o, ownok_m, List.length_map, List.length_cons, List.length_nil, Nat.zero_add, List.map_cons, sgnC, hl] at ho); (repeat (obtain ⟨_, ho⟩ := ho)); (try simp (disch := first | assumption | omega) only [go_sem, seval, List.map_cons, sgnC, hl, *]))
      | ((with_reducible refine W_gd (fun h => ?_) (fun h => ?_)) <;> (try (exfalso; first | assumption | omega)) <;> (try simp (disch := first | assumption | omega) only [go_sem, seval, List.map_cons, sgnC, hl, *]))))
    all_goals (first | refine G_ret hQ (by simp (disch := first | assumption | omega) only [res77, go_sem, seval, *] <;> rfl) ?_ | refine G_norm hQ (by simp (disch := first | assumption | omega) only [res77, go_sem, seval, *] <;> rfl) ?_ | refine G_pan hQ ?_)
    all_goals (refine ⟨_, _, Wk.of_eq ?_, ?_, rfl, rfl⟩)
    all_goals first | ((try dsimp only); (repeat (first | exact Fg.refl _ | exact Fg.own (by assumption) | (refine Fg.set ?_ _ _) | (refine Fg.setA ?_ (by first | assumption | (simp (disch := assumption) only [own_rd, St.set, if_false, if_true, *]; done))) )); done) | rfl
theorem ufail_S (s : St) (r e : Nat) (L : List Sgn) (er : Nat) : SPan Tryd.prog 64 [.ptr r 0, .int .i64 er] (Ru s r e L) (stopU er (place e L)) (Ru s r e L) := by
  refine G_enter Tryd.func64 rfl Tryd.ntmps64 rfl fun Q hQ hQe => ?_
  (repeat' (first
    | with_reducible first | refine L_seq ?_ | refine L_blk ?_ | refine L_skip ?_ | refine L_endblk ?_ | refine L_ret ?_ | refine L_exit ?_ | refine X_code ?_ | refine X_back ?_ | refine X_blk ?_ | refine X_past (by decide) ?_ | refine L_back ?_
    | ((with_reducible refine Kof.use hK ?_); clear hK hE K E)
    | ((with_reducible refine Eof.use hE ?_); (try clear hK hE K E))
    | ((with_reducible refine W_cond (fun h => ?_) (fun h => ?_)) <;> (try (exfalso; first | assumption | omega)))
    | ((with_reducible first | refine G_region fun K E hK hE => ?_ | refine call_ret can77 (uat_S _ _ _ _) ?_ | refine W_if ?_ | refine W_ifS ?_ | refine W_and ?_) <;> (try simp (disch := first | assumption | omega) only [go_sem, seval, *]))
    | ((with_reducible refine W_fresh (fun b hb => ?_)); (repeat (obtain ⟨_, hb⟩ := hb)); (try simp (disch := first | assumption | omega) only [go_sem, seval, *]))
    | ((with_reducible refine W_app (fun o2 ho => ?_)); (repeat (obtain ⟨_, ho⟩ := ho)); (try simp (disch := first | assumption | omega) only [go_sem, seval, *]))
    | ((with_reducible refine W_gd (fun h => ?_) (fun h => ?_)) <;> (try (exfalso; first | assumption | omega)) <;> (try simp (disch := first | assumption | omega) only [go_sem, seval, *]))))
  all_goals refine G_pan hQ ?_
  all_goals exact ⟨_, Fg.refl _, rfl, rfl⟩
theorem ugiven_S (s : St) (r e : Nat) (L : List Sgn) (t : List UInt8) : SRet Tryd.prog 65 [.ptr r 0, .str t] (Ru s r e L) (.bool (isT L 0 t)) (Ru s r e (if isT L 0 t then L.tail else L)) := by
  refine G_enter Tryd.func65 rfl Tryd.ntmps65 rfl fun Q hQ hQe => ?_
  cases h0 : isT L 0 t with
  | false =>
    (repeat' (first
      | with_reducible first | refine L_seq ?_ | refine L_blk ?_ | refine L_skip ?_ | refine L_endblk ?_ | refine L_ret ?_ | refine L_exit ?_ | refine X_code ?_ | refine X_back ?_ | refine X_blk ?_ | refine X_past (by decide) ?_ | refine L_back ?_
      | ((with_reducible refine Kof.use hK ?_); clear hK hE K E)
      | ((with_reducible refine Eof.use hE ?_); (try clear hK hE K E))
      | ((with_reducible refine W_cond (fun h => ?_) (fun h => ?_)) <;> (try (exfalso; first | assumption | omega)))
      | ((with_reducible first | refine G_region fun K E hK hE => ?_ | refine call_ret can41 (uis_S _ _ _ _ _) ?_ | refine W_if ?_ | refine W_ifS ?_ | refine W_and ?_) <;> (try simp (disch := first | assumption | omega) only [go_sem, seval, *]))
      | ((with_reducible refine W_fresh (fun b hb => ?_)); (repeat (obtain ⟨_, hb⟩ := hb)); (try simp (disch := first | assumption | omega) only [go_sem, seval, *]))
      | ((with_reducible refine W_app (fun o2 ho => ?_)); (repeat (obtain ⟨_, ho⟩ := ho)); (try simp (disch := first | assumption | omega) only [go_sem, seval, *]))
      | ((with_reducible refine W_gd (fun h => ?_) (fun h => ?_)) <;> (try (exfalso; first | assumption | omega)) <;> (try simp (disch := first | assumption | omega) only [go_sem, seval, *]))))
    all_goals (first | refine G_ret hQ (by simp (disch := first | assumption | omega) only [res65, go_sem, seval, *] <;> rfl) ?_ | refine G_norm hQ (by simp (disch := first | assumption | omega) only [res65, go_sem, seval, *] <;> rfl) ?_ | refine G_pan hQ ?_)
    all_goals (refine ⟨_, _, Wk.of_eq ?_, ?_, rfl, rfl⟩)
    all_goals (try simp only [h0, Bool.false_eq_true, if_false])
    all_goals first | ((try dsimp only); (repeat (first | exact Fg.refl _ | exact Fg.own (by assumption) | (refine Fg.set ?_ _ _) | (refine Fg.setA ?_ (by first | assumption | (simp (disch := assumption) only [own_rd, St.set, if_false, if_true, *]; done))) )); done) | rfl
  | true =>
    cases L with
    | nil => simp [isT] at h0
    | cons x L =>
      have hl : (L.map sgnC).length = L.length := by simp
      have ha := sgn_all2 x L
      (repeat' (first
        | with_reducible first | refine L_seq ?_ | refine L_blk ?_ | refine L_skip ?_ | refine L_endblk ?_ | refine L_ret ?_ | refine L_exit ?_ | refine X_code ?_ | refine X_back ?_ | refine X_blk ?_ | refine X_past (by decide) ?_ | refine L_back ?_
        | ((with_reducible refine Kof.use hK ?_); clear hK hE K E)
        | ((with_reducible refine Eof.use hE ?_); (try clear hK hE K E))
        | ((with_reducible refine W_cond (fun h => ?_) (fun h => ?_)) <;> (try (exfalso; first | assumption | omega)))
        | ((with_reducible first | refine G_region fun K E hK hE => ?_ | refine call_ret can41 (uis_S _ _ _ _ _) ?_ | refine W_if ?_ | refine W_ifS ?_ | refine W_and ?_) <;> (try simp (disch := first | assumption | omega) only [go_sem, seval, List.map_cons, sgnC, hl, ha, List.drop_succ_cons, List.take_succ_cons, sgn_take, List.tail_cons, Nat.le_refl, *]))
        | ((with_reducible refine W_fresh (fun b hb => ?_)); (repeat (obtain ⟨_, hb⟩ := hb)); (try simp (disch := first | assumption | omega) only [go_sem, seval, List.map_cons, sgnC, hl, ha, List.drop_succ_cons, List.take_succ_cons, sgn_take, List.tail_cons, Nat.le_refl, *]))
        | ((with_reducible refine W_app (fun o2 ho => ?_)); (try simp (disch := assumption) only [disown_set, disown_own, ownok_o, ownok_m, List.length_map, List.length_cons, List.length_nil, Nat.zero_add, List.map_cons, sgnC, hl, ha, List.drop_succ_cons, List.take_succ_cons, sgn_take, List.tail_cons, Nat.le_refl] at ho); (repeat (obtain ⟨_, ho⟩ := ho)); (try simp (disch := first | assumption | omega) only [go_sem, seval, List.map_cons, sgnC, hl, ha, List.drop_succ_cons, List.take_succ_cons, sgn_take, List.tail_cons, Nat.le_refl, *]))
        | ((with_reducible refine W_gd (fun h => ?_) (fun h => ?_)) <;> (try (exfalso; first | assumption | omega)) <;> (try simp (disch := first | assumption | omega) only [go_sem, seval, List.map_cons, sgnC, hl, ha, List.drop_succ_cons, List.take_succ_cons, sgn_take, List.tail_cons, Nat.le_refl, *]))))
      all_goals (first | refine G_ret hQ (by simp (disch := first | assumption | omega) only [res65, go_sem, seval, *] <;> rfl) ?_ | refine G_norm hQ (by simp (disch := first | assumption | omega) only [res65, go_sem, seval, *] <;> rfl) ?_ | refine G_pan hQ ?_)
      all_goals (refine ⟨_, _, Wk.of_eq ?_, ?_, rfl, rfl⟩)
      all_goals (try simp only [h0, if_true])
      all_goals first | ((try dsimp only); (repeat (first | exact Fg.refl _ | exact Fg.own (by assumption) | (refine Fg.set ?_ _ _) | (refine Fg.setA ?_ (by first | assumption | (simp (disch := assumption) only [own_rd, St.set, if_false, if_true, *]; done))) )); done) | rfl
def mustU (e : Nat) (L : List Sgn) (t : List UInt8) : PU Unit := if isT L 0 t then .ok ((), L.tail) else .error (place e L, 110)
def roomU (e : Nat) (L : List Sgn) (hv mst : Nat) (b : Bool) : PU Unit := if mst ≤ hv ∧ b = true then .error (place e L, 2) else .ok ((), L)
def kindU (e : Nat) (L : List Sgn) (k : Nat) : PU (List UInt8) :=
  match L with
  | [] => .error (e, 110)
  | x :: L' => if x.kind = k then .ok (x.text, L') else .error (x.at_, 110)
theorem umust_S (s : St) (r e : Nat) (L : List Sgn) (t : List UInt8) : SCalls Tryd.prog 43 [.ptr r 0, .str t] (Ru s r e L) (PW unitV s r e (mustU e L t)) := by
  refine G_enter Tryd.func43 rfl Tryd.ntmps43 rfl fun Q hQ hQe => ?_
  cases h0 : isT L 0 t with
  | true =>
    (repeat' (first
      | with_reducible first | refine L_seq ?_ | refine L_blk ?_ | refine L_skip ?_ | refine L_endblk ?_ | refine L_ret ?_ | refine L_exit ?_ | refine X_code ?_ | refine X_back ?_ | refine X_blk ?_ | refine X_past (by decide) ?_ | refine L_back ?_
      | ((with_reducible refine Kof.use hK ?_); clear hK hE K E)
      | ((with_reducible refine Eof.use hE ?_); (try clear hK hE K E))
      | ((with_reducible refine W_cond (fun h => ?_) (fun h => ?_)) <;> (try (exfalso; first | assumption | omega)))
      | ((with_reducible first | refine G_region fun K E hK hE => ?_ | refine call_ret can65 (ugiven_S _ _ _ _ _) ?_ | refine W_if ?_ | refine W_ifS ?_ | refine W_and ?_) <;> (try simp (disch := first | assumption | omega) only [go_sem, seval, *]))
      | (with_reducible refine call_pan can64 (ufail_S _ _ _ _ _) ?_)
      | ((with_reducible refine W_fresh (fun b hb => ?_)); (repeat (obtain ⟨_, hb⟩ := hb)); (try simp (disch := first | assumption | omega) only [go_sem, seval, *]))
      | ((with_reducible refine W_app (fun o2 ho => ?_)); (repeat (obtain ⟨_, ho⟩ := ho)); (try simp (disch := first | assumption | omega) only [go_sem, seval, *]))
      | ((with_reducible refine W_gd (fun h => ?_) (fun h => ?_)) <;> (try (exfalso; first | assumption | omega)) <;> (try simp (disch := first | assumption | omega) only [go_sem, seval, *]))))
    all_goals (first | refine G_ret hQ (by simp (disch := first | assumption | omega) only [res43, go_sem, seval, *] <;> rfl) ?_ | refine G_norm hQ (by simp (disch := first | assumption | omega) only [res43, go_sem, seval, *] <;> rfl) ?_ | refine G_pan hQ ?_)
    all_goals exact ⟨_, _, Wk.refl _, Fg.refl _, by simp [mustU, h0, PW, unitV]⟩
  | false =>
    (repeat' (first
      | with_reducible first | refine L_seq ?_ | refine L_blk ?_ | refine L_skip ?_ | refine L_endblk ?_ | refine L_ret ?_ | refine L_exit ?_ | refine X_code ?_ | refine X_back ?_ | refine X_blk ?_ | refine X_past (by decide) ?_ | refine L_back ?_
      | ((with_reducible refine Kof.use hK ?_); clear hK hE K E)
      | ((with_reducible refine Eof.use hE ?_); (try clear hK hE K E))
      | ((with_reducible refine W_cond (fun h => ?_) (fun h => ?_)) <;> (try (exfalso; first | assumption | omega)))
      | ((with_reducible first | refine G_region fun K E hK hE => ?_ | refine call_ret can65 (ugiven_S _ _ _ _ _) ?_ | refine W_if ?_ | refine W_ifS ?_ | refine W_and ?_) <;> (try simp (disch := first | assumption | omega) only [go_sem, seval, *]))
      | (with_reducible refine call_pan can64 (ufail_S _ _ _ _ _) ?_)
      | ((with_reducible refine W_fresh (fun b hb => ?_)); (repeat (obtain ⟨_, hb⟩ := hb)); (try simp (disch := first | assumption | omega) only [go_sem, seval, *]))
      | ((with_reducible refine W_app (fun o2 ho => ?_)); (repeat (obtain ⟨_, ho⟩ := ho)); (try simp (disch := first | assumption | omega) only [go_sem, seval, *]))
      | ((with_reducible refine W_gd (fun h => ?_) (fun h => ?_)) <;> (try (exfalso; first | assumption | omega)) <;> (try simp (disch := first | assumption | omega) only [go_sem, seval, *]))))
    all_goals refine G_pan hQ ?_
    all_goals exact ⟨_, Fg.refl _, by simp only [mustU, h0, Bool.false_eq_true, if_false]; exact ⟨rfl, L, rfl⟩⟩
theorem uroom_S (s : St) (r e : Nat) (L : List Sgn) (hv mst : Nat) (b : Bool) : SCalls Tryd.prog 42 [.ptr r 0, .int .i64 hv, .int .i64 mst, .bool b] (Ru s r e L) (PW unitV s r e (roomU e L hv mst b)) := by
  refine G_enter Tryd.func42 rfl Tryd.ntmps42 rfl fun Q hQ hQe => ?_
  by_cases h : (mst : Int) ≤ (hv : Int)
  · have h' : mst ≤ hv := by omega
    cases b with
    | true =>
      (repeat' (first
        | with_reducible first | refine L_seq ?_ | refine L_blk ?_ | refine L_skip ?_ | refine L_endblk ?_ | refine L_ret ?_ | refine L_exit ?_ | refine X_code ?_ | refine X_back ?_ | refine X_blk ?_ | refine X_past (by decide) ?_ | refine L_back ?_
        | ((with_reducible refine Kof.use hK ?_); clear hK hE K E)
        | ((with_reducible refine Eof.use hE ?_); (try clear hK hE K E))
        | ((with_reducible refine W_cond (fun h => ?_) (fun h => ?_)) <;> (try (exfalso; first | assumption | omega)))
        | ((with_reducible first | refine G_region fun K E hK hE => ?_ | refine W_if ?_ | refine W_ifS ?_ | refine W_and ?_) <;> (try simp (disch := first | assumption | omega) only [go_sem, seval, *]))
        | (with_reducible refine call_pan can64 (ufail_S _ _ _ _ _) ?_)
        | ((with_reducible refine W_fresh (fun b hb => ?_)); (repeat (obtain ⟨_, hb⟩ := hb)); (try simp (disch := first | assumption | omega) only [go_sem, seval, *]))
        | ((with_reducible refine W_app (fun o2 ho => ?_)); (repeat (obtain ⟨_, ho⟩ := ho)); (try simp (disch := first | assumption | omega) only [go_sem, seval, *]))
        | ((with_reducible refine W_gd (fun h => ?_) (fun h => ?_)) <;> (try (exfalso; first | assumption | omega)) <;> (try simp (disch := first | assumption | omega) only [go_sem, seval, *]))))
      all_goals refine G_pan hQ ?_
      all_goals exact ⟨_, Fg.refl _, by simp only [roomU, h', and_self, if_true]; exact ⟨rfl, _, rfl⟩⟩
    | false =>
      (repeat' (first
        | with_reducible first | refine L_seq ?_ | refine L_blk ?_ | refine L_skip ?_ | refine L_endblk ?_ | refine L_ret ?_ | refine L_exit ?_ | refine X_code ?_ | refine X_back ?_ | refine X_blk ?_ | refine X_past (by decide) ?_ | refine L_back ?_
        | ((with_reducible refine Kof.use hK ?_); clear hK hE K E)
        | ((with_reducible refine Eof.use hE ?_); (try clear hK hE K E))
        | ((with_reducible refine W_cond (fun h => ?_) (fun h => ?_)) <;> (try (exfalso; first | assumption | omega)))
        | ((with_reducible first | refine G_region fun K E hK hE => ?_ | refine W_if ?_ | refine W_ifS ?_ | refine W_and ?_) <;> (try simp (disch := first | assumption | omega) only [go_sem, seval, *]))
        | (with_reducible refine call_pan can64 (ufail_S _ _ _ _ _) ?_)
        | ((with_reducible refine W_fresh (fun b hb => ?_)); (repeat (obtain ⟨_, hb⟩ := hb)); (try simp (disch := first | assumption | omega) only [go_sem, seval, *]))
        | ((with_reducible refine W_app (fun o2 ho => ?_)); (repeat (obtain ⟨_, ho⟩ := ho)); (try simp (disch := first | assumption | omega) only [go_sem, seval, *]))
        | ((with_reducible refine W_gd (fun h => ?_) (fun h => ?_)) <;> (try (exfalso; first | assumption | omega)) <;> (try simp (disch := first | assumption | omega) only [go_sem, seval, *]))))
      all_goals (first | refine G_ret hQ (by simp (disch := first | assumption | omega) only [res42, go_sem, seval, *] <;> rfl) ?_ | refine G_norm hQ (by simp (disch := first | assumption | omega) only [res42, go_sem, seval, *] <;> rfl) ?_ | refine G_pan hQ ?_)
      all_goals exact ⟨_, _, Wk.refl _, Fg.refl _, by simp [roomU, PW, unitV]⟩
  · have h' : ¬ mst ≤ hv := by omega
    (repeat' (first
      | with_reducible first | refine L_seq ?_ | refine L_blk ?_ | refine L_skip ?_ | refine L_endblk ?_ | refine L_ret ?_ | refine L_exit ?_ | refine X_code ?_ | refine X_back ?_ | refine X_blk ?_ | refine X_past (by decide) ?_ | refine L_back ?_
      | ((with_reducible refine Kof.use hK ?_); clear hK hE K E)
      | ((with_reducible refine Eof.use hE ?_); (try clear hK hE K E))
      | ((with_reducible refine W_cond (fun h => ?_) (fun h => ?_)) <;> (try (exfalso; first | assumption | omega)))
      | ((with_reducible first | refine G_region fun K E hK hE => ?_ | refine W_if ?_ | refine W_ifS ?_ | refine W_and ?_) <;> (try simp (disch := first | assumption | omega) only [go_sem, seval, *]))
      | (with_reducible refine call_pan can64 (ufail_S _ _ _ _ _) ?_)
      | ((with_reducible refine W_fresh (fun b hb => ?_)); (repeat (obtain ⟨_, hb⟩ := hb)); (try simp (disch := first | assumption | omega) only [go_sem, seval, *]))
      | ((with_reducible refine W_app (fun o2 ho => ?_)); (repeat (obtain ⟨_, ho⟩ := ho)); (try simp (disch := first | assumption | omega) only [go_sem, seval, *]))
      | ((with_reducible refine W_gd (fun h => ?_) (fun h => ?_)) <;> (try (exfalso; first | assumption | omega)) <;> (try simp (disch := first | assumption | omega) only [go_sem, seval, *]))))
    all_goals (first | refine G_ret hQ (by simp (disch := first | assumption | omega) only [res42, go_sem, seval, *] <;> rfl) ?_ | refine G_norm hQ (by simp (disch := first | assumption | omega) only [res42, go_sem, seval, *] <;> rfl) ?_ | refine G_pan hQ ?_)
    all_goals exact ⟨_, _, Wk.refl _, Fg.refl _, by simp [roomU, PW, unitV, h']⟩
theorem ukind_S (s : St) (r e : Nat) (L : List Sgn) (k : Nat) : SCalls Tryd.prog 66 [.ptr r 0, .int .i64 k] (Ru s r e L) (PW VV.str s r e (kindU e L k)) := by
  refine G_enter Tryd.func66 rfl Tryd.ntmps66 rfl fun Q hQ hQe => ?_
  cases L with
  | nil =>
    (repeat' (first
      | with_reducible first | refine L_seq ?_ | refine L_blk ?_ | refine L_skip ?_ | refine L_endblk ?_ | refine L_ret ?_ | refine L_exit ?_ | refine X_code ?_ | refine X_back ?_ | refine X_blk ?_ | refine X_past (by decide) ?_ | refine L_back ?_
      | ((with_reducible refine Kof.use hK ?_); clear hK hE K E)
      | ((with_reducible refine Eof.use hE ?_); (try clear hK hE K E))
      | ((with_reducible refine W_cond (fun h => ?_) (fun h => ?_)) <;> (try (exfalso; first | assumption | omega)))
      | ((with_reducible first | refine G_region fun K E hK hE => ?_ | refine W_if ?_ | refine W_ifS ?_ | refine W_and ?_) <;> (try simp (disch := first | assumption | omega) only [go_sem, seval, List.map_nil, *]))
      | (with_reducible refine call_pan can64 (ufail_S _ _ _ _ _) ?_)
      | ((with_reducible refine W_fresh (fun b hb => ?_)); (repeat (obtain ⟨_, hb⟩ := hb)); (try simp (disch := first | assumption | omega) only [go_sem, seval, List.map_nil, *]))
      | ((with_reducible refine W_app (fun o2 ho => ?_)); (try simp (disch := assumption) only [disown_set, disown_own, ownok_o, ownok_m, List.length_map, List.length_cons, List.length_nil, Nat.zero_add, List.map_nil] at ho); (repeat (obtain ⟨_, ho⟩ := ho)); (try simp (disch := first | assumption | omega) only [go_sem, seval, List.map_nil, *]))
      | ((with_reducible refine W_gd (fun h => ?_) (fun h => ?_)) <;> (try (exfalso; first | assumption | omega)) <;> (try simp (disch := first | assumption | omega) only [go_sem, seval, List.map_nil, *]))))
    all_goals refine G_pan hQ ?_
    all_goals exact ⟨_, Fg.refl _, rfl, _, rfl⟩
  | cons x L =>
    have hl : (L.map sgnC).length = L.length := by simp
    have hp : ¬ ((L.length + 1 : Nat) : Int) = 0 := by omega
    have ha := sgn_all2 x L
    by_cases hk : x.kind = k
    · subst hk
      (repeat' (first
        | with_reducible first | refine L_seq ?_ | refine L_blk ?_ | refine L_skip ?_ | refine L_endblk ?_ | refine L_ret ?_ | refine L_exit ?_ | refine X_code ?_ | refine X_back ?_ | refine X_blk ?_ | refine X_past (by decide) ?_ | refine L_back ?_
        | ((with_reducible refine Kof.use hK ?_); clear hK hE K E)
        | ((with_reducible refine Eof.use hE ?_); (try clear hK hE K E))
        | ((with_reducible refine W_cond (fun h => ?_) (fun h => ?_)) <;> (try (exfalso; first | assumption | omega)))
        | ((with_reducible first | refine G_region fun K E hK hE => ?_ | refine W_if ?_ | refine W_ifS ?_ | refine W_and ?_) <;> (try simp (disch := first | assumption | omega) only [go_sem, seval, List.map_cons, sgnC, hl, ha, List.drop_succ_cons, List.take_succ_cons, sgn_take, List.tail_cons, Nat.le_refl, *]))
        | (with_reducible refine call_pan can64 (ufail_S _ _ _ _ _) ?_)
        | ((with_reducible refine W_fresh (fun b hb => ?_)); (repeat (obtain ⟨_, hb⟩ := hb)); (try simp (disch := first | assumption | omega) only [go_sem, seval, List.map_cons, sgnC, hl, ha, List.drop_succ_cons, List.take_succ_cons, sgn_take, List.tail_cons, Nat.le_refl, *]))
        | ((with_reducible refine W_app (fun o2 ho => ?_)); (try simp (disch := assumption) only [disown_set, disown_own, ownok_o, ownok_m, List.length_map, List.length_cons, List.length_nil, Nat.zero_add, List.map_cons, sgnC, hl, ha, List.drop_succ_cons, List.take_succ_cons, sgn_take, List.tail_cons, Nat.le_refl] at ho); (repeat (obtain ⟨_, ho⟩ := ho)); (try simp (disch := first | assumption | omega) only [go_sem, seval, List.map_cons, sgnC, hl, ha, List.drop_succ_cons, List.take_succ_cons, sgn_take, List.tail_cons, Nat.le_refl, *]))
        | ((with_reducible refine W_gd (fun h => ?_) (fun h => ?_)) <;> (try (exfalso; first | assumption | omega)) <;> (try simp (disch := first | assumption | omega) only [go_sem, seval, List.map_cons, sgnC, hl, ha, List.drop_succ_cons, List.take_succ_cons, sgn_take, List.tail_cons, Nat.le_refl, *]))))
      all_goals (first | refine G_ret hQ (by simp (disch := first | assumption | omega) only [res66, go_sem, seval, *] <;> rfl) ?_ | refine G_norm hQ (by simp (disch := first | assumption | omega) only [res66, go_sem, seval, *] <;> rfl) ?_ | refine G_pan hQ ?_)
      all_goals exact ⟨_, _, Wk.refl _, Fg.refl _, by simp only [kindU, if_true]; exact ⟨rfl, rfl⟩⟩
    · have hk' : ¬ (x.kind : Int) = (k : Int) := by omega
      (repeat' (first
        | with_reducible first | refine L_seq ?_ | refine L_blk ?_ | refine L_skip ?_ | refine L_endblk ?_ | refine L_ret ?_ | refine L_exit ?_ | refine X_code ?_ | refine X_back ?_ | refine X_blk ?_ | refine X_past (by decide) ?_ | refine L_back ?_
        | ((with_reducible refine Kof.use hK ?_); clear hK hE K E)
        | ((with_reducible refine Eof.use hE ?_); (try clear hK hE K E))
        | ((with_reducible refine W_cond (fun h => ?_) (fun h => ?_)) <;> (try (exfalso; first | assumption | omega)))
        | ((with_reducible first | refine G_region fun K E hK hE => ?_ | refine W_if ?_ | refine W_ifS ?_ | refine W_and ?_) <;> (try simp (disch := first | assumption | omega) only [go_sem, seval, List.map_cons, sgnC, hl, ha, *]))
        | (with_reducible refine call_pan can64 (ufail_S _ _ _ _ _) ?_)
        | ((with_reducible refine W_fresh (fun b hb => ?_)); (repeat (obtain ⟨_, hb⟩ := hb)); (try simp (disch := first | assumption | omega) only [go_sem, seval, List.map_cons, sgnC, hl, ha, *]))
        | ((with_reducible refine W_app (fun o2 ho => ?_)); (try simp (disch := assumption) only [disown_set, disown_own, ownok_o, ownok_m, List.length_map, List.length_cons, List.length_nil, Nat.zero_add, List.map_cons, sgnC, hl, ha] at ho); (repeat (obtain ⟨_, ho⟩ := ho)); (try simp (disch := first | assumption | omega) only [go_sem, seval, List.map_cons, sgnC, hl, ha, *]))
        | ((with_reducible refine W_gd (fun h => ?_) (fun h => ?_)) <;> (try (exfalso; first | assumption | omega)) <;> (try simp (disch := first | assumption | omega) only [go_sem, seval, List.map_cons, sgnC, hl, ha, *]))))
      all_goals refine G_pan hQ ?_
      all_goals exact ⟨_, Fg.refl _, by simp only [kindU, if_neg hk]; exact ⟨rfl, _, rfl⟩⟩
def nameU (e : Nat) (L : List Sgn) : PU (List UInt8) := kindU e L 1
theorem uname_S (s : St) (r e : Nat) (L : List Sgn) : SCalls Tryd.prog 44 [.ptr r 0] (Ru s r e L) (PW VV.str s r e (nameU e L)) := by
  have h1 := ukind_S s r e L 1
  refine G_enter Tryd.func44 rfl Tryd.ntmps44 rfl fun Q hQ hQe => ?_
  (repeat' (first
    | with_reducible first | refine L_seq ?_ | refine L_blk ?_ | refine L_skip ?_ | refine L_endblk ?_ | refine L_ret ?_ | refine L_exit ?_ | refine X_code ?_ | refine X_back ?_ | refine X_blk ?_ | refine X_past (by decide) ?_ | refine L_back ?_
    | ((with_reducible refine Kof.use hK ?_); clear hK hE K E)
    | ((with_reducible refine Eof.use hE ?_); (try clear hK hE K E))
    | ((with_reducible refine W_cond (fun h => ?_) (fun h => ?_)) <;> (try (exfalso; first | assumption | omega)))
    | ((with_reducible first | refine G_region fun K E hK hE => ?_ | refine W_if ?_ | refine W_ifS ?_ | refine W_and ?_) <;> (try simp (disch := first | assumption | omega) only [go_sem, seval, *]))
    | ((with_reducible refine call_pw can66 (h1) (fun a Lx h => ?_) (fun at_ er Lx h => ?_)) <;> (try simp (disch := first | assumption | omega) only [go_sem, seval, *]))
    | ((with_reducible refine call_pw can66 (ukind_S _ _ _ _ _) (fun a Lx h => ?_) (fun at_ er Lx h => ?_)) <;> (try simp (disch := first | assumption | omega) only [go_sem, seval, *]))
    | ((with_reducible refine W_fresh (fun b hb => ?_)); (repeat (obtain ⟨_, hb⟩ := hb)); (try simp (disch := first | assumption | omega) only [go_sem, seval, *]))
    | ((with_reducible refine W_app (fun o2 ho => ?_)); (repeat (obtain ⟨_, ho⟩ := ho)); (try simp (disch := first | assumption | omega) only [go_sem, seval, *]))
    | ((with_reducible refine W_gd (fun h => ?_) (fun h => ?_)) <;> (try (exfalso; first | assumption | omega)) <;> (try simp (disch := first | assumption | omega) only [go_sem, seval, *]))))
  · (first | refine G_ret hQ (by simp (disch := first | assumption | omega) only [res44, go_sem, seval, *] <;> rfl) ?_ | refine G_norm hQ (by simp (disch := first | assumption | omega) only [res44, go_sem, seval, *] <;> rfl) ?_ | refine G_pan hQ ?_)
    exact ⟨_, _, Wk.refl _, Fg.refl _, by simp only [nameU, h]; exact ⟨rfl, rfl⟩⟩
  · refine G_pan hQ ?_
    exact ⟨_, Fg.refl _, by simp only [nameU, h]; exact ⟨rfl, _, rfl⟩⟩
end Go.Proofs.YtbfgdblebepgcaaDoor
