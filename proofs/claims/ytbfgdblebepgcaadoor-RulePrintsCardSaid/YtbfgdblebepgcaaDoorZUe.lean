/- What is proved: Rules, as they are read. Conditions: those that stand in the statements. -/
import Derived.Test.YtbfgdblebepgcaaDoorZUd
set_option linter.unusedSimpArgs false
set_option linter.unusedVariables false
set_option maxRecDepth 100000
namespace Go.Proofs.YtbfgdblebepgcaaDoor
open Go.RowKit
attribute [local go_sem] Ru_at Ru_mk2 Ru_free Ru_set Ru_gt Ru_dis Ru_own Ru_ok Ru_ownd

structure Rul where
  head : Atm
  body : List Atm
def rulC (x : Rul) : List VV := [.bool x.head.not, .str x.head.rel, .lst (x.head.ts.map trmC) .no, .lst (x.body.map atmC) .no]
def bodyGo (e : Nat) : Nat → List Atm → List Sgn → PU (List Atm)
  | 0, _, _ => .error (0, 0)
  | f + 1, out, L => bu (roomU e L out.length 8 (nextB [1] L || isT L 0 [33])) fun _ L => bu (atomU e (if isT L 0 [33] = true then L.tail else L) (isT L 0 [33])) fun a L => if isT L 0 [44] = true then bodyGo e f (out ++ [a]) L.tail else .ok (out ++ [a], L)
def ruleU (e : Nat) (L : List Sgn) : PU Rul :=
  bu (atomU e L false) fun h L => bu (if isT L 0 [58, 45] = true then bodyGo e (L.length + 1) [] L.tail else .ok ([], L)) fun b L => bu (mustU e L [46]) fun _ L => .ok (⟨h, b⟩, L)
theorem listGo_sub {α : Type} {e : Nat} {one : List Sgn → PU α} {ks : List Int} (hone : ∀ L x L', one L = .ok (x, L') → L'.length < L.length ∧ ∀ y, y ∈ L' → y ∈ L) :
    ∀ (f : Nat) (out : List α) (L : List Sgn) (xs : List α) (L' : List Sgn), listGo e one ks f out L = .ok (xs, L') → L'.length < L.length ∧ ∀ y, y ∈ L' → y ∈ L
  | 0, _, _, _, _, h => by cases h
  | f + 1, out, L, xs, L', h => by
    simp only [listGo] at h
    cases h1 : roomU e L out.length 8 (nextB ks L) with
    | error q => rw [h1] at h; cases h
    | ok q =>
      obtain ⟨u, L1⟩ := q
      obtain rfl := roomU_inv h1
      rw [h1, bu_ok] at h
      cases h2 : one L1 with
      | error q => rw [h2] at h; cases h
      | ok q =>
        obtain ⟨x, L2⟩ := q
        rw [h2, bu_ok] at h
        obtain ⟨a1, a2⟩ := hone _ _ _ h2
        split at h
        · obtain ⟨b1, b2⟩ := listGo_sub hone f _ _ _ _ h
          refine ⟨by rw [List.length_tail] at b1; omega, fun y hy => a2 y (List.mem_of_mem_tail (b2 y hy))⟩
        · injection h with h; injection h with _ h; subst h; exact ⟨a1, a2⟩
theorem listU_sub {α : Type} {e : Nat} {one : List Sgn → PU α} {ks : List Int} (hone : ∀ L x L', one L = .ok (x, L') → L'.length < L.length ∧ ∀ y, y ∈ L' → y ∈ L) {L L' : List Sgn} {xs : List α} (h : listU e one ks L = .ok (xs, L')) :
    L'.length < L.length ∧ ∀ y, y ∈ L' → y ∈ L := by
  unfold listU at h
  cases h1 : mustU e L [40] with
  | error q => rw [h1] at h; cases h
  | ok q =>
    obtain ⟨u, L1⟩ := q
    obtain ⟨rfl, _, a1⟩ := mustU_inv h1
    rw [h1, bu_ok] at h
    cases h2 : listGo e one ks (L.tail.length + 1) [] L.tail with
    | error q => rw [h2] at h; cases h
    | ok q =>
      obtain ⟨zs, L2⟩ := q
      obtain ⟨b1, b2⟩ := listGo_sub hone _ _ _ _ _ h2
      rw [h2, bu_ok] at h
      cases h3 : mustU e L2 [41] with
      | error q => rw [h3] at h; cases h
      | ok q =>
        obtain ⟨u, L3⟩ := q
        obtain ⟨rfl, _, c1⟩ := mustU_inv h3
        rw [h3, bu_ok] at h
        injection h with h; injection h with _ h; subst h
        exact ⟨by omega, fun y hy => List.mem_of_mem_tail (b2 y (List.mem_of_mem_tail hy))⟩
theorem atomU_sub {e : Nat} {L L' : List Sgn} {nt : Bool} {a : Atm} (h : atomU e L nt = .ok (a, L')) : L'.length < L.length ∧ ∀ y, y ∈ L' → y ∈ L := by
  unfold atomU at h
  cases h1 : nameU e L with
  | error q => rw [h1] at h; cases h
  | ok q =>
    obtain ⟨t, L1⟩ := q
    obtain ⟨a1, a2⟩ := nameU_sub h1
    rw [h1, bu_ok] at h
    cases h2 : listU e (termU e) [1, 2] L1 with
    | error q => rw [h2] at h; cases h
    | ok q =>
      obtain ⟨ts, L2⟩ := q
      obtain ⟨b1, b2⟩ := listU_sub (fun L x L' h => termU_sub h) h2
      rw [h2, bu_ok] at h
      injection h with h; injection h with _ h; subst h
      exact ⟨by omega, fun y hy => a2 y (b2 y hy)⟩
abbrev Rm (s : St) (b : Nat) (h : Atm) (bd : List Atm) (o : Own) : St := (s.own o 49 3 bd.length).set b (.obj 52 [.bool h.not, .str h.rel, .lst (h.ts.map trmC) .no, .lst (bd.map atmC) o])
theorem next1_S (s : St) (r e : Nat) (L : List Sgn) (o : Own) : SRet Tryd.prog 48 [.ptr r 0, .lst [[.int .i64 1]] o] (Ru s r e L) (.bool (nextB [1] L)) (Ru s r e L) := unext_S s r e L [1] o (by decide)
theorem room8_S (s : St) (r e : Nat) (L : List Sgn) (hv : Nat) (b : Bool) : SCalls Tryd.prog 42 [.ptr r 0, .int .i64 hv, .int .i64 8, .bool b] (Ru s r e L) (PW unitV s r e (roomU e L hv 8 b)) := uroom_S s r e L hv 8 b
set_option maxHeartbeats 4000000 in
theorem urule_S (s : St) (r e : Nat) (L : List Sgn) (hG : GoodU L) (hL : L.length ≤ 40000) : SCalls Tryd.prog 49 [.ptr r 0] (Ru s r e L) (PW (fun x => .agg (rulC x)) s r e (ruleU e L)) := by
  have h1 := fun s => uatom_S s r e L false hG (by omega)
  generalize hres : ruleU e L = res
  unfold ruleU at hres
  cases hr : atomU e L false with
  | error q =>
    rw [hr] at h1 hres
    have HR := Lib.hid hres
    clear hr hres
    refine G_enter Tryd.func49 rfl Tryd.ntmps49 rfl fun Q hQ hQe => ?_
    (repeat' (first
      | with_reducible first | refine L_seq ?_ | refine L_blk ?_ | refine L_skip ?_ | refine L_endblk ?_ | refine L_ret ?_ | refine L_exit ?_ | refine X_code ?_ | refine X_back ?_ | refine X_blk ?_ | refine X_past (by decide) ?_ | refine L_back ?_
      | ((with_reducible refine Kof.use hK ?_); clear hK hE K E)
      | ((with_reducible refine Eof.use hE ?_); (try clear hK hE K E))
      | ((with_reducible refine Kof.use hKh ?_); clear hKh Kh)
      | ((with_reducible refine Kof.use hKb (P_next ?_)); clear hKb Kb)
      | with_reducible first | refine G_plan 6 [([0, 1, 2, 3, 4, 5], 6, [[0, 1, 2, 3]]), ([7, 8], 9, [[], [0, 1, 2, 3]]), ([10], 11, [[], [], []])] [] hQe fun K E hK hE => ?_ | refine G_plan 7 [([0, 1, 2, 3], 4, [[0, 1, 2]]), ([], 5, [[], [0, 1]]), ([6], 7, [[], [], []]), ([8], 9, [[], [], [], []])] [] hQe fun K E hK hE => ?_
      | ((with_reducible refine W_cond (fun h => ?_) (fun h => ?_)) <;> (try (exfalso; first | assumption | omega)))
      | ((with_reducible first | refine G_region fun K E hK hE => ?_ | refine call_ret can41 (uis_S _ _ _ _ _) ?_ | refine call_ret can65 (ugiven_S _ _ _ _ _) ?_ | refine call_ret can48 (unext_S _ _ _ _ _ _ (by first | assumption | omega | decide)) ?_ | refine W_if ?_ | refine W_ifS ?_ | refine P_heads fun Kh hKh => ?_ | refine P_fin fun Kh hKh => ?_ | refine P_each fun Kb hKb => ?_ | refine W_and ?_) <;> (try simp (disch := first | assumption | omega) only [go_sem, seval, *]))
      | ((with_reducible refine call_pw can69 (h1 _) (fun a Lx h => ?_) (fun at_ er Lx h => ?_)) <;> (try simp (disch := first | assumption | omega) only [go_sem, seval, *]))
      | ((with_reducible refine call_pw can43 (umust_S _ _ _ _ _) (fun a Lx h => ?_) (fun at_ er Lx h => ?_)) <;> (try simp (disch := first | assumption | omega) only [go_sem, seval, *]))
      | ((with_reducible refine call_pw can42 (uroom_S _ _ _ _ _ _ _) (fun a Lx h => ?_) (fun at_ er Lx h => ?_)) <;> (try simp (disch := first | assumption | omega) only [go_sem, seval, *]))
      | ((with_reducible refine call_pw can69 (uatom_S _ _ _ _ _ (by assumption) (by first | assumption | omega)) (fun a Lx h => ?_) (fun at_ er Lx h => ?_)) <;> (try simp (disch := first | assumption | omega) only [go_sem, seval, *]))
      | ((with_reducible refine W_fresh (fun b hb => ?_)); (repeat (obtain ⟨_, hb⟩ := hb)); (try simp (disch := first | assumption | omega) only [go_sem, seval, *]))
      | ((with_reducible refine W_app (fun o2 ho => ?_)); (repeat (obtain ⟨_, ho⟩ := ho)); (try simp (disch := first | assumption | omega) only [go_sem, seval, *]))
      | ((with_reducible refine W_gd (fun h => ?_) (fun h => ?_)) <;> (try (exfalso; first | assumption | omega)) <;> (try simp (disch := first | assumption | omega) only [go_sem, seval, *]))))
    all_goals first
      | (cases h; done)
      | (refine G_pan hQ ?_
         cases h
         exact ⟨Ru s r e _, by ((try dsimp only); (repeat (first | exact Fg.refl _ | exact Fg.own (by assumption) | (refine Fg.set ?_ _ _) | (refine Fg.setA ?_ (by first | assumption | (simp (disch := assumption) only [own_rd, St.set, if_false, if_true, *]; done))) )); done), by rw [← show _ = res from HR]; exact ⟨rfl, _, rfl⟩⟩)
  | ok q =>
    obtain ⟨hd, L1⟩ := q
    obtain ⟨hs1, hs2⟩ := atomU_sub hr
    have hG1 : GoodU L1 := hG.sub hs2
    rw [hr] at h1 hres
    rw [bu_ok] at hres
    have h1r := fun s => (h1 s).ret
    clear h1 hr hs2
    obtain ⟨hn, hrel, hts⟩ := hd
    simp only [atmC] at h1r
    have h2 := fun s => ugiven_S s r e L1 [58, 45]
    have HR := Lib.hid hres
    cases hi : isT L1 0 [58, 45] with
    | false =>
      rw [hi] at hres h2
      simp only [Bool.false_eq_true, if_false, bu_ok] at hres h2
      have h3 := fun s => umust_S s r e L1 [46]
      have HR := Lib.hid hres
      clear hres
      refine G_enter Tryd.func49 rfl Tryd.ntmps49 rfl fun Q hQ hQe => ?_
      (repeat' (first
        | with_reducible first | refine L_seq ?_ | refine L_blk ?_ | refine L_skip ?_ | refine L_endblk ?_ | refine L_ret ?_ | refine L_exit ?_ | refine X_code ?_ | refine X_back ?_ | refine X_blk ?_ | refine X_past (by decide) ?_ | refine L_back ?_
        | ((with_reducible refine Kof.use hK ?_); clear hK hE K E)
        | ((with_reducible refine Eof.use hE ?_); (try clear hK hE K E))
        | ((with_reducible refine Kof.use hKh ?_); clear hKh Kh)
        | ((with_reducible refine Kof.use hKb (P_next ?_)); clear hKb Kb)
        | with_reducible first | refine G_plan 6 [([0, 1, 2, 3, 4, 5], 6, [[0, 1, 2, 3]]), ([7, 8], 9, [[], [0, 1, 2, 3]]), ([10], 11, [[], [], []])] [] hQe fun K E hK hE => ?_ | refine G_plan 7 [([0, 1, 2, 3], 4, [[0, 1, 2]]), ([], 5, [[], [0, 1]]), ([6], 7, [[], [], []]), ([8], 9, [[], [], [], []])] [] hQe fun K E hK hE => ?_
        | ((with_reducible refine W_cond (fun h => ?_) (fun h => ?_)) <;> (try (exfalso; first | assumption | omega)))
        | ((with_reducible first | refine G_region fun K E hK hE => ?_ | refine call_ret can69 (h1r _) ?_ | refine call_ret can65 (h2 _) ?_ | refine call_ret can41 (uis_S _ _ _ _ _) ?_ | refine call_ret can65 (ugiven_S _ _ _ _ _) ?_ | refine call_ret can48 (unext_S _ _ _ _ _ _ (by first | assumption | omega | decide)) ?_ | refine W_if ?_ | refine W_ifS ?_ | refine P_heads fun Kh hKh => ?_ | refine P_fin fun Kh hKh => ?_ | refine P_each fun Kb hKb => ?_ | refine W_and ?_) <;> (try simp (disch := first | assumption | omega) only [go_sem, seval, *]))
        | ((with_reducible refine call_pw can43 (h3 _) (fun a Lx h => ?_) (fun at_ er Lx h => ?_)) <;> (try simp (disch := first | assumption | omega) only [go_sem, seval, *]))
        | ((with_reducible refine call_pw can43 (umust_S _ _ _ _ _) (fun a Lx h => ?_) (fun at_ er Lx h => ?_)) <;> (try simp (disch := first | assumption | omega) only [go_sem, seval, *]))
        | ((with_reducible refine call_pw can42 (uroom_S _ _ _ _ _ _ _) (fun a Lx h => ?_) (fun at_ er Lx h => ?_)) <;> (try simp (disch := first | assumption | omega) only [go_sem, seval, *]))
        | ((with_reducible refine call_pw can69 (uatom_S _ _ _ _ _ (by assumption) (by first | assumption | omega)) (fun a Lx h => ?_) (fun at_ er Lx h => ?_)) <;> (try simp (disch := first | assumption | omega) only [go_sem, seval, *]))
        | ((with_reducible refine W_fresh (fun b hb => ?_)); (repeat (obtain ⟨_, hb⟩ := hb)); (try simp (disch := first | assumption | omega) only [go_sem, seval, *]))
        | ((with_reducible refine W_app (fun o2 ho => ?_)); (repeat (obtain ⟨_, ho⟩ := ho)); (try simp (disch := first | assumption | omega) only [go_sem, seval, *]))
        | ((with_reducible refine W_gd (fun h => ?_) (fun h => ?_)) <;> (try (exfalso; first | assumption | omega)) <;> (try simp (disch := first | assumption | omega) only [go_sem, seval, *]))))
      · (first | refine G_ret hQ (by simp (disch := first | assumption | omega) only [res49, go_sem, seval, *] <;> rfl) ?_ | refine G_norm hQ (by simp (disch := first | assumption | omega) only [res49, go_sem, seval, *] <;> rfl) ?_ | refine G_pan hQ ?_)
        refine ⟨.agg (rulC ⟨⟨hn, hrel, hts⟩, []⟩), Ru s r e Lx, Wk.agg ?_, ?_, by rw [← show _ = res from HR, h, bu_ok]; exact ⟨rfl, rfl⟩⟩
        · simp only [rulC, List.map_nil]; (repeat (first | exact WkL.nil | apply WkL.nostrs | apply WkL.nosts | apply WkL.same | apply WkL.lst))
        · ((try dsimp only); (repeat (first | exact Fg.refl _ | exact Fg.own (by assumption) | (refine Fg.set ?_ _ _) | (refine Fg.setA ?_ (by first | assumption | (simp (disch := assumption) only [own_rd, St.set, if_false, if_true, *]; done))) )); done)
      · refine G_pan hQ ?_
        exact ⟨Ru s r e Lx, by ((try dsimp only); (repeat (first | exact Fg.refl _ | exact Fg.own (by assumption) | (refine Fg.set ?_ _ _) | (refine Fg.setA ?_ (by first | assumption | (simp (disch := assumption) only [own_rd, St.set, if_false, if_true, *]; done))) )); done), by rw [← show _ = res from HR, h, bu_err]; exact ⟨rfl, _, rfl⟩⟩
    | true =>
      rw [hi] at hres h2
      simp only [if_true] at hres h2
      have hG2 : GoodU L1.tail := hG1.tail
      have hl2 : L1.tail.length < L1.length := by
        cases L1 with
        | nil => simp [isT] at hi
        | cons x L => simp
      have HR := Lib.hid hres
      clear hres hi
      refine G_enter Tryd.func49 rfl Tryd.ntmps49 rfl fun Q hQ hQe => ?_
      (repeat' (first
        | with_reducible first | refine L_seq ?_ | refine L_blk ?_ | refine L_skip ?_ | refine L_endblk ?_ | refine L_ret ?_ | refine L_exit ?_ | refine X_code ?_ | refine X_back ?_ | refine X_blk ?_ | refine X_past (by decide) ?_ | refine L_back ?_
        | ((with_reducible refine Kof.use hK ?_); clear hK hE K E)
        | ((with_reducible refine Eof.use hE ?_); (try clear hK hE K E))
        | ((with_reducible refine Kof.use hKh ?_); clear hKh Kh)
        | ((with_reducible refine Kof.use hKb (P_next ?_)); clear hKb Kb)
        | with_reducible first | refine G_plan 6 [([0, 1, 2, 3, 4, 5], 6, [[0, 1, 2, 3]]), ([7, 8], 9, [[], [0, 1, 2, 3]]), ([10], 11, [[], [], []])] [] hQe fun K E hK hE => ?_ | refine G_plan 7 [([0, 1, 2, 3], 4, [[0, 1, 2]]), ([], 5, [[], [0, 1]]), ([6], 7, [[], [], []]), ([8], 9, [[], [], [], []])] [] hQe fun K E hK hE => ?_
        | ((with_reducible refine W_cond (fun h => ?_) (fun h => ?_)) <;> (try (exfalso; first | assumption | omega)))
        | ((with_reducible first | refine G_region fun K E hK hE => ?_ | refine call_ret can69 (h1r _) ?_ | refine call_ret can65 (h2 _) ?_ | refine call_ret can41 (uis_S _ _ _ _ _) ?_ | refine call_ret can65 (ugiven_S _ _ _ _ _) ?_ | refine call_ret can48 (unext_S _ _ _ _ _ _ (by first | assumption | omega | decide)) ?_ | refine W_if ?_ | refine W_ifS ?_ | refine P_heads fun Kh hKh => ?_ | refine P_fin fun Kh hKh => ?_ | refine P_each fun Kb hKb => ?_ | refine W_and ?_) <;> (try simp (disch := first | assumption | omega) only [go_sem, seval, *]))
        | ((with_reducible refine call_pw can43 (umust_S _ _ _ _ _) (fun a Lx h => ?_) (fun at_ er Lx h => ?_)) <;> (try simp (disch := first | assumption | omega) only [go_sem, seval, *]))
        | ((with_reducible refine call_pw can42 (uroom_S _ _ _ _ _ _ _) (fun a Lx h => ?_) (fun at_ er Lx h => ?_)) <;> (try simp (disch := first | assumption | omega) only [go_sem, seval, *]))
        | ((with_reducible refine call_pw can69 (uatom_S _ _ _ _ _ (by assumption) (by first | assumption | omega)) (fun a Lx h => ?_) (fun at_ er Lx h => ?_)) <;> (try simp (disch := first | assumption | omega) only [go_sem, seval, *]))
        | ((with_reducible refine W_fresh (fun b hb => ?_)); (repeat (obtain ⟨_, hb⟩ := hb)); (try simp (disch := first | assumption | omega) only [go_sem, seval, *]))
        | ((with_reducible refine W_app (fun o2 ho => ?_)); (repeat (obtain ⟨_, ho⟩ := ho)); (try simp (disch := first | assumption | omega) only [go_sem, seval, *]))
        | ((with_reducible refine W_gd (fun h => ?_) (fun h => ?_)) <;> (try (exfalso; first | assumption | omega)) <;> (try simp (disch := first | assumption | omega) only [go_sem, seval, *]))))
      rename_i b2 q1 q2 hb2 q3 q4 q5 q6
      have hDb : (s.set b2 (.obj 52 [.bool false, .str [], .lst [] .full, .lst [] .full])) b = .free := by rw [St.set_other _ _ q5]; exact hb
      have hD2 := St.set_same s b2 (.obj 52 [.bool false, .str [], .lst [] .full, .lst [] .full])
      have hFD : Fg (s.set b2 (.obj 52 [.bool false, .str [], .lst [] .full, .lst [] .full])) s := Fg.of_set _ hb2
      generalize s.set b2 (.obj 52 [.bool false, .str [], .lst [] .full, .lst [] .full]) = D at *
      have HFD := Lib.hid hFD
      have hD2n : D b2 ≠ .free := by rw [hD2]; simp
      have HB2 := Lib.hid hb2
      clear hFD h2 hb hb2
      refine L_loop (fun m env s' => ∃ (bd : List Atm) (o : Own) (L2 : List Sgn) (okb : Bool), OwnOk D o bd.length ∧ NotOwn o b ∧ NotOwn o r ∧ GoodU L2 ∧ L2.length < m ∧ bd.length + L2.length ≤ 50000 ∧ s' = Ru (Rm D b ⟨hn, hrel, hts⟩ bd o) r e L2 ∧
        res = bu (if okb = true then bodyGo e m bd L2 else .ok (bd, L2)) (fun b L => bu (mustU e L [46]) fun _ L => .ok (⟨⟨hn, hrel, hts⟩, b⟩, L)) ∧ env 0 = .ptr r 0 ∧ env 2 = .ptr b2 0 ∧ env 3 = .ptr b 0 ∧ env 4 = .bool okb) (L1.length + 1)
        ⟨[], .full, L1.tail, true, rfl, trivial, trivial, hG2, by omega, by simp; omega, rfl, HR.symm, by ((try simp (disch := first | assumption | omega) only [go_sem, seval, *]) <;> first | rfl | omega), by ((try simp (disch := first | assumption | omega) only [go_sem, seval, *]) <;> first | rfl | omega), by ((try simp (disch := first | assumption | omega) only [go_sem, seval, *]) <;> first | rfl | omega), by ((try simp (disch := first | assumption | omega) only [go_sem, seval, *]) <;> first | rfl | omega)⟩ ?_
      rintro m env s' ⟨bd, o, L2, okb, hO, ho1, ho2, hG3, hm, hlen, rfl, hgo, e0, e2, e3, e4⟩
      clear HR hG2 hl2 hs1 hG1
      have ho3 := hO.not hD2n
      have hbm : (bd.map atmC).length = bd.length := by simp
      have hfg : Fg (Rm D b ⟨hn, hrel, hts⟩ bd o) s := ((Fg.of_set _ (by rw [own_rd ho1]; exact hDb)).trans (Fg.own hO)).trans HFD
      have HF := Lib.hid hfg
      clear hfg
      cases okb with
      | false =>
        rw [if_neg (by decide), bu_ok] at hgo
        have h3 := fun s => umust_S s r e L2 [46]
        have HG := Lib.hid hgo
        clear hgo
        (repeat' (first
          | with_reducible first | refine L_seq ?_ | refine L_blk ?_ | refine L_skip ?_ | refine L_endblk ?_ | refine L_ret ?_ | refine L_exit ?_ | refine X_code ?_ | refine X_back ?_ | refine X_blk ?_ | refine X_past (by decide) ?_ | refine L_back ?_
          | ((with_reducible refine Kof.use hK ?_); clear hK hE K E)
          | ((with_reducible refine Eof.use hE ?_); (try clear hK hE K E))
          | ((with_reducible refine Kof.use hKh ?_); clear hKh Kh)
          | ((with_reducible refine Kof.use hKb (P_next ?_)); clear hKb Kb)
          | with_reducible first | refine G_plan 6 [([0, 1, 2, 3, 4, 5], 6, [[0, 1, 2, 3]]), ([7, 8], 9, [[], [0, 1, 2, 3]]), ([10], 11, [[], [], []])] [] hQe fun K E hK hE => ?_ | refine G_plan 7 [([0, 1, 2, 3], 4, [[0, 1, 2]]), ([], 5, [[], [0, 1]]), ([6], 7, [[], [], []]), ([8], 9, [[], [], [], []])] [] hQe fun K E hK hE => ?_
          | ((with_reducible refine W_cond (fun h => ?_) (fun h => ?_)) <;> (try (exfalso; first | assumption | omega)))
          | ((with_reducible first | refine G_region fun K E hK hE => ?_ | refine call_ret can41 (uis_S _ _ _ _ _) ?_ | refine call_ret can65 (ugiven_S _ _ _ _ _) ?_ | refine call_ret can48 (unext_S _ _ _ _ _ _ (by first | assumption | omega | decide)) ?_ | refine W_if ?_ | refine W_ifS ?_ | refine P_heads fun Kh hKh => ?_ | refine P_fin fun Kh hKh => ?_ | refine P_each fun Kb hKb => ?_ | refine W_and ?_) <;> (try simp (disch := first | assumption | omega) only [go_sem, seval, hbm, Rm, *]))
          | ((with_reducible refine call_pw can43 (h3 _) (fun a Lx h => ?_) (fun at_ er Lx h => ?_)) <;> (try simp (disch := first | assumption | omega) only [go_sem, seval, hbm, Rm, *]))
          | ((with_reducible refine call_pw can43 (umust_S _ _ _ _ _) (fun a Lx h => ?_) (fun at_ er Lx h => ?_)) <;> (try simp (disch := first | assumption | omega) only [go_sem, seval, hbm, Rm, *]))
          | ((with_reducible refine call_pw can42 (uroom_S _ _ _ _ _ _ _) (fun a Lx h => ?_) (fun at_ er Lx h => ?_)) <;> (try simp (disch := first | assumption | omega) only [go_sem, seval, hbm, Rm, *]))
          | ((with_reducible refine call_pw can69 (uatom_S _ _ _ _ _ (by assumption) (by first | assumption | omega)) (fun a Lx h => ?_) (fun at_ er Lx h => ?_)) <;> (try simp (disch := first | assumption | omega) only [go_sem, seval, hbm, Rm, *]))
          | ((with_reducible refine W_fresh (fun b hb => ?_)); (repeat (obtain ⟨_, hb⟩ := hb)); (try simp (disch := first | assumption | omega) only [go_sem, seval, hbm, Rm, *]))
          | ((with_reducible refine W_app (fun o2 ho => ?_)); (try simp (disch := assumption) only [disown_set, disown_own, ownok_o, ownok_m, List.length_map, List.length_cons, List.length_nil, Nat.zero_add, hbm, Rm] at ho); (repeat (obtain ⟨_, ho⟩ := ho)); (try simp (disch := first | assumption | omega) only [go_sem, seval, hbm, Rm, *]))
          | ((with_reducible refine W_gd (fun h => ?_) (fun h => ?_)) <;> (try (exfalso; first | assumption | omega)) <;> (try simp (disch := first | assumption | omega) only [go_sem, seval, hbm, Rm, *]))))
        · (first | refine G_ret hQ (by simp (disch := first | assumption | omega) only [res49, go_sem, seval, *] <;> rfl) ?_ | refine G_norm hQ (by simp (disch := first | assumption | omega) only [res49, go_sem, seval, *] <;> rfl) ?_ | refine G_pan hQ ?_)
          refine ⟨.agg (rulC ⟨⟨hn, hrel, hts⟩, bd⟩), Ru s r e Lx, Wk.agg ?_, ?_, by rw [show res = _ from HG, h, bu_ok]; exact ⟨rfl, rfl⟩⟩
          · simp only [rulC]; (repeat (first | exact WkL.nil | apply WkL.nostrs | apply WkL.nosts | apply WkL.same | apply WkL.lst))
          · exact Fg.ru (Fg.setA HF HB2)
        · refine G_pan hQ ?_
          exact ⟨Ru s r e Lx, Fg.ru HF, by rw [show res = _ from HG, h, bu_err]; exact ⟨rfl, _, rfl⟩⟩
      | true =>
        obtain ⟨g, rfl⟩ : ∃ g, m = g + 1 := ⟨m - 1, by omega⟩
        rw [if_pos rfl, bodyGo, bu_assoc] at hgo
        have h7 := fun s ow => next1_S s r e L2 ow
        have h8 := fun s => uis_S s r e L2 [33]
        have h5 := fun s => ugiven_S s r e L2 [33]
        obtain ⟨nt, hnt⟩ : ∃ nt, isT L2 0 [33] = nt := ⟨_, rfl⟩
        obtain ⟨nb, hnb⟩ : ∃ nb, nextB [1] L2 = nb := ⟨_, rfl⟩
        obtain ⟨L4, hL4⟩ : ∃ L4, (if isT L2 0 [33] = true then L2.tail else L2) = L4 := ⟨_, rfl⟩
        have hG4 : GoodU L4 := by rw [← hL4]; split; exact hG3.tail; exact hG3
        have hl4 : L4.length ≤ L2.length := by rw [← hL4]; split <;> (try simp only [List.length_tail]) <;> omega
        have hl4' : L4.length ≤ 50000 := by omega
        have h4 := fun s => uatom_S s r e L4 nt hG4 hl4'
        have h3 := fun s => room8_S s r e L2 bd.length (nb || nt)
        rw [hnb, hnt] at hgo
        rw [hnb] at h7
        rw [hnt] at h8
        rw [hL4, hnt] at h5
        cases hr2 : roomU e L2 bd.length 8 (nb || nt) with
        | error q =>
          rw [hr2] at h3 hgo
          have HG := Lib.hid hgo
          clear hgo hr2 hL4 hnb hnt
          cases nb
          all_goals
            simp only [Bool.true_or, Bool.false_or] at h3
            (repeat' (first
              | with_reducible first | refine L_seq ?_ | refine L_blk ?_ | refine L_skip ?_ | refine L_endblk ?_ | refine L_ret ?_ | refine L_exit ?_ | refine X_code ?_ | refine X_back ?_ | refine X_blk ?_ | refine X_past (by decide) ?_ | refine L_back ?_
              | ((with_reducible refine Kof.use hK ?_); clear hK hE K E)
              | ((with_reducible refine Eof.use hE ?_); (try clear hK hE K E))
              | ((with_reducible refine Kof.use hKh ?_); clear hKh Kh)
              | ((with_reducible refine Kof.use hKb (P_next ?_)); clear hKb Kb)
              | with_reducible first | refine G_plan 6 [([0, 1, 2, 3, 4, 5], 6, [[0, 1, 2, 3]]), ([7, 8], 9, [[], [0, 1, 2, 3]]), ([10], 11, [[], [], []])] [] hQe fun K E hK hE => ?_ | refine G_plan 7 [([0, 1, 2, 3], 4, [[0, 1, 2]]), ([], 5, [[], [0, 1]]), ([6], 7, [[], [], []]), ([8], 9, [[], [], [], []])] [] hQe fun K E hK hE => ?_
              | ((with_reducible refine W_cond (fun h => ?_) (fun h => ?_)) <;> (try (exfalso; first | assumption | omega)))
              | ((with_reducible first | refine G_region fun K E hK hE => ?_ | refine call_ret can48 (h7 _ _) ?_ | refine call_ret can41 (h8 _) ?_ | refine W_if ?_ | refine W_ifS ?_ | refine P_heads fun Kh hKh => ?_ | refine P_fin fun Kh hKh => ?_ | refine P_each fun Kb hKb => ?_ | refine W_and ?_) <;> (try simp (disch := first | assumption | omega) only [go_sem, seval, hbm, Rm, *]))
              | ((with_reducible refine call_pw can42 (h3 _) (fun a Lx h => ?_) (fun at_ er Lx h => ?_)) <;> (try simp (disch := first | assumption | omega) only [go_sem, seval, hbm, Rm, *]))
              | ((with_reducible refine call_pw can43 (umust_S _ _ _ _ _) (fun a Lx h => ?_) (fun at_ er Lx h => ?_)) <;> (try simp (disch := first | assumption | omega) only [go_sem, seval, hbm, Rm, *]))
              | ((with_reducible refine W_fresh (fun b hb => ?_)); (repeat (obtain ⟨_, hb⟩ := hb)); (try simp (disch := first | assumption | omega) only [go_sem, seval, hbm, Rm, *]))
              | ((with_reducible refine W_app (fun o2 ho => ?_)); (try simp (disch := assumption) only [disown_set, disown_own, ownok_o, ownok_m, List.length_map, List.length_cons, List.length_nil, Nat.zero_add, hbm, Rm] at ho); (repeat (obtain ⟨_, ho⟩ := ho)); (try simp (disch := first | assumption | omega) only [go_sem, seval, hbm, Rm, *]))
              | ((with_reducible refine W_gd (fun h => ?_) (fun h => ?_)) <;> (try (exfalso; first | assumption | omega)) <;> (try simp (disch := first | assumption | omega) only [go_sem, seval, hbm, Rm, *]))))
          all_goals first
            | (cases h; done)
            | (refine G_pan hQ ?_
               cases h
               exact ⟨Ru s r e _, Fg.ru HF, by rw [show res = _ from HG]; exact ⟨rfl, _, rfl⟩⟩)
        | ok q =>
          obtain ⟨u, L3⟩ := q
          obtain rfl := roomU_inv hr2
          rw [hr2] at h3 hgo
          rw [bu_ok, bu_assoc, hL4, hnt] at hgo
          have h3r := fun s => (h3 s).ret
          clear hr2 hL4 h3 hnb hnt
          cases ha : atomU e L4 nt with
          | error q =>
            rw [ha] at h4 hgo
            have HG := Lib.hid hgo
            clear hgo ha
            cases nb
            all_goals
              simp only [Bool.true_or, Bool.false_or] at h3r
              (repeat' (first
                | with_reducible first | refine L_seq ?_ | refine L_blk ?_ | refine L_skip ?_ | refine L_endblk ?_ | refine L_ret ?_ | refine L_exit ?_ | refine X_code ?_ | refine X_back ?_ | refine X_blk ?_ | refine X_past (by decide) ?_ | refine L_back ?_
                | ((with_reducible refine Kof.use hK ?_); clear hK hE K E)
                | ((with_reducible refine Eof.use hE ?_); (try clear hK hE K E))
                | ((with_reducible refine Kof.use hKh ?_); clear hKh Kh)
                | ((with_reducible refine Kof.use hKb (P_next ?_)); clear hKb Kb)
                | with_reducible first | refine G_plan 6 [([0, 1, 2, 3, 4, 5], 6, [[0, 1, 2, 3]]), ([7, 8], 9, [[], [0, 1, 2, 3]]), ([10], 11, [[], [], []])] [] hQe fun K E hK hE => ?_ | refine G_plan 7 [([0, 1, 2, 3], 4, [[0, 1, 2]]), ([], 5, [[], [0, 1]]), ([6], 7, [[], [], []]), ([8], 9, [[], [], [], []])] [] hQe fun K E hK hE => ?_
                | ((with_reducible refine W_cond (fun h => ?_) (fun h => ?_)) <;> (try (exfalso; first | assumption | omega)))
                | ((with_reducible first | refine G_region fun K E hK hE => ?_ | refine call_ret can42 (h3r _) ?_ | refine call_ret can48 (h7 _ _) ?_ | refine call_ret can41 (h8 _) ?_ | refine call_ret can65 (h5 _) ?_ | refine W_if ?_ | refine W_ifS ?_ | refine P_heads fun Kh hKh => ?_ | refine P_fin fun Kh hKh => ?_ | refine P_each fun Kb hKb => ?_ | refine W_and ?_) <;> (try simp (disch := first | assumption | omega) only [go_sem, seval, hbm, Rm, *]))
                | ((with_reducible refine call_pw can69 (h4 _) (fun a Lx h => ?_) (fun at_ er Lx h => ?_)) <;> (try simp (disch := first | assumption | omega) only [go_sem, seval, hbm, Rm, *]))
                | ((with_reducible refine call_pw can43 (umust_S _ _ _ _ _) (fun a Lx h => ?_) (fun at_ er Lx h => ?_)) <;> (try simp (disch := first | assumption | omega) only [go_sem, seval, hbm, Rm, *]))
                | ((with_reducible refine W_fresh (fun b hb => ?_)); (repeat (obtain ⟨_, hb⟩ := hb)); (try simp (disch := first | assumption | omega) only [go_sem, seval, hbm, Rm, *]))
                | ((with_reducible refine W_app (fun o2 ho => ?_)); (try simp (disch := assumption) only [disown_set, disown_own, ownok_o, ownok_m, List.length_map, List.length_cons, List.length_nil, Nat.zero_add, hbm, Rm] at ho); (repeat (obtain ⟨_, ho⟩ := ho)); (try simp (disch := first | assumption | omega) only [go_sem, seval, hbm, Rm, *]))
                | ((with_reducible refine W_gd (fun h => ?_) (fun h => ?_)) <;> (try (exfalso; first | assumption | omega)) <;> (try simp (disch := first | assumption | omega) only [go_sem, seval, hbm, Rm, *]))))
            all_goals first
              | (cases h; done)
              | (refine G_pan hQ ?_
                 cases h
                 exact ⟨Ru s r e _, Fg.ru HF, by rw [show res = _ from HG]; exact ⟨rfl, _, rfl⟩⟩)
          | ok q =>
            obtain ⟨a, L5⟩ := q
            obtain ⟨hs5, hs6⟩ := atomU_sub ha
            have hG5 := hG4.sub hs6
            obtain ⟨an, ar, ats⟩ := a
            rw [ha] at h4 hgo
            rw [bu_ok] at hgo
            have h4r := fun s => (h4 s).ret
            simp only [atmC] at h4r
            have h6 := fun s => ugiven_S s r e L5 [44]
            have HG := Lib.hid hgo
            clear hgo ha h4 hs6
            cases nb
            all_goals
              simp only [Bool.true_or, Bool.false_or] at h3r
              (repeat' (first
                | with_reducible first | refine L_seq ?_ | refine L_blk ?_ | refine L_skip ?_ | refine L_endblk ?_ | refine L_ret ?_ | refine L_exit ?_ | refine X_code ?_ | refine X_back ?_ | refine X_blk ?_ | refine X_past (by decide) ?_ | refine L_back ?_
                | ((with_reducible refine Kof.use hK ?_); clear hK hE K E)
                | ((with_reducible refine Eof.use hE ?_); (try clear hK hE K E))
                | ((with_reducible refine Kof.use hKh ?_); clear hKh Kh)
                | ((with_reducible refine Kof.use hKb (P_next ?_)); clear hKb Kb)
                | with_reducible first | refine G_plan 6 [([0, 1, 2, 3, 4, 5], 6, [[0, 1, 2, 3]]), ([7, 8], 9, [[], [0, 1, 2, 3]]), ([10], 11, [[], [], []])] [] hQe fun K E hK hE => ?_ | refine G_plan 7 [([0, 1, 2, 3], 4, [[0, 1, 2]]), ([], 5, [[], [0, 1]]), ([6], 7, [[], [], []]), ([8], 9, [[], [], [], []])] [] hQe fun K E hK hE => ?_
                | ((with_reducible refine W_cond (fun h => ?_) (fun h => ?_)) <;> (try (exfalso; first | assumption | omega)))
                | ((with_reducible first | refine G_region fun K E hK hE => ?_ | refine call_ret can42 (h3r _) ?_ | refine call_ret can48 (h7 _ _) ?_ | refine call_ret can41 (h8 _) ?_ | refine call_ret can65 (h5 _) ?_ | refine call_ret can65 (h6 _) ?_ | refine call_ret can69 (h4r _) ?_ | refine W_if ?_ | refine W_ifS ?_ | refine P_heads fun Kh hKh => ?_ | refine P_fin fun Kh hKh => ?_ | refine P_each fun Kb hKb => ?_ | refine W_and ?_) <;> (try simp (disch := first | assumption | omega) only [go_sem, seval, hbm, Rm, Ru_ok, Ru_dis, Ru_own, Ru_ownd, *]))
                | ((with_reducible refine call_pw can43 (umust_S _ _ _ _ _) (fun a Lx h => ?_) (fun at_ er Lx h => ?_)) <;> (try simp (disch := first | assumption | omega) only [go_sem, seval, hbm, Rm, Ru_ok, Ru_dis, Ru_own, Ru_ownd, *]))
                | ((with_reducible refine W_fresh (fun b hb => ?_)); (repeat (obtain ⟨_, hb⟩ := hb)); (try simp (disch := first | assumption | omega) only [go_sem, seval, hbm, Rm, Ru_ok, Ru_dis, Ru_own, Ru_ownd, *]))
                | ((with_reducible refine W_app (fun o2 ho => ?_)); (try simp (disch := assumption) only [disown_set, disown_own, ownok_o, ownok_m, List.length_map, List.length_cons, List.length_nil, Nat.zero_add, hbm, Rm, Ru_ok, Ru_dis, Ru_own, Ru_ownd] at ho); (repeat (obtain ⟨_, ho⟩ := ho)); (try simp (disch := first | assumption | omega) only [go_sem, seval, hbm, Rm, Ru_ok, Ru_dis, Ru_own, Ru_ownd, *]))
                | ((with_reducible refine W_gd (fun h => ?_) (fun h => ?_)) <;> (try (exfalso; first | assumption | omega)) <;> (try simp (disch := first | assumption | omega) only [go_sem, seval, hbm, Rm, Ru_ok, Ru_dis, Ru_own, Ru_ownd, *]))))
            all_goals exact ⟨g, by omega, bd ++ [⟨an, ar, ats⟩], o2, if isT L5 0 [44] = true then L5.tail else L5, isT L5 0 [44], by simpa using ho, by assumption, by assumption, by (split; exact hG5.tail; exact hG5), by (split <;> (try simp only [List.length_tail]) <;> omega),
              by (simp only [List.length_append, List.length_cons, List.length_nil]; split <;> (try simp only [List.length_tail]) <;> omega), by simp [Rm, atmC], by (rw [show res = _ from HG]; cases isT L5 0 [44] <;> rfl), by ((try simp (disch := first | assumption | omega) only [go_sem, seval, *]) <;> first | rfl | omega), by ((try simp (disch := first | assumption | omega) only [go_sem, seval, *]) <;> first | rfl | omega), by ((try simp (disch := first | assumption | omega) only [go_sem, seval, *]) <;> first | rfl | omega), by ((try simp (disch := first | assumption | omega) only [go_sem, seval, *]) <;> first | rfl | omega)⟩
end Go.Proofs.YtbfgdblebepgcaaDoor
