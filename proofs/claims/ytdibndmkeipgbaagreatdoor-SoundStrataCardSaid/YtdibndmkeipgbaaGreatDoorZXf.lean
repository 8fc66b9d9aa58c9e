/- What is proved: What package osierref12's Scope hands back. Conditions: what fits a memory. Conditions: those that stand in the statements. -/
import Derived.Test.YtdibndmkeipgbaaGreatDoorZXdj
import Derived.Test.YtdibndmkeipgbaaGreatDoorZGpj
set_option linter.unusedSimpArgs false
set_option linter.unusedVariables false
set_option maxRecDepth 100000
namespace Go.Proofs.YtdibndmkeipgbaaGreatDoor
open Go.RowKit

attribute [local go_sem] owned_other disown_other disown_fl owned_fl own_fl
theorem Fg.free {B T : St} (h : Fg B T) {b : Nat} (hb : B b = .free) : T b = .free := by
  rcases h b with e | e
  · exact e
  · exact e.trans hb
theorem ScO_x {B : St} {bx : Nat} {c : Cell} {X : Scp} {p1 p2 : Own} (n1 : NotOwn p1 bx) (n2 : NotOwn p2 bx) (hW : X.ds.length = X.vs.length) : ScO (B.set bx c) p1 p2 X = ((B.own p1 9 1 X.vs.length).own p2 9 1 X.vs.length).set bx c := by
  unfold ScO; rw [own_push n1, own_push n2, hW]
theorem ScK_x {B : St} {bx : Nat} {c : Cell} {X : Scp} {p1 p2 : Own} (h1 : OwnOk B p1 X.vs.length) (h2 : OwnOk (B.own p1 9 1 X.vs.length) p2 X.vs.length) (n1 : NotOwn p1 bx) (n2 : NotOwn p2 bx) (hW : X.ds.length = X.vs.length) : ScK (B.set bx c) p1 p2 X := by
  refine ⟨?_, ?_⟩
  · cases p1 with
    | at_ b => show (B.set bx c) b = .free; rw [St.set_other _ _ (fun e => n1 e.symm)]; exact h1
    | _ => exact h1
  · rw [own_push n1, hW]
    cases p2 with
    | at_ b => show ((B.own p1 _ _ _).set bx c) b = .free; rw [St.set_other _ _ (fun e => n2 e.symm)]; exact h2
    | _ => exact h2
theorem ScO_z {B : St} {bx bz : Nat} {c z : Cell} {X : Scp} {p1 p2 : Own} (n1 : NotOwn p1 bx) (n2 : NotOwn p2 bx) (n3 : NotOwn p1 bz) (n4 : NotOwn p2 bz) (hW : X.ds.length = X.vs.length) : ScO ((B.set bx c).set bz z) p1 p2 X = (((B.own p1 9 1 X.vs.length).own p2 9 1 X.vs.length).set bx c).set bz z := by
  unfold ScO; rw [own_push n3, own_push n1, own_push n4, own_push n2, hW]
theorem ScK_z {B : St} {bx bz : Nat} {c z : Cell} {X : Scp} {p1 p2 : Own} (h1 : OwnOk B p1 X.vs.length) (h2 : OwnOk (B.own p1 9 1 X.vs.length) p2 X.vs.length) (n1 : NotOwn p1 bx) (n2 : NotOwn p2 bx) (n3 : NotOwn p1 bz) (n4 : NotOwn p2 bz) (hW : X.ds.length = X.vs.length) : ScK ((B.set bx c).set bz z) p1 p2 X := by
  have hk := ScK_x (c := c) h1 h2 n1 n2 hW
  refine ⟨?_, ?_⟩
  · cases p1 with
    | at_ b => show ((B.set bx c).set bz z) b = .free; rw [St.set_other _ _ (fun e => n3 e.symm)]; exact hk.1
    | _ => exact hk.1
  · rw [own_push n3]
    cases p2 with
    | at_ b => show (((B.set bx c).own p1 _ _ _).set bz z) b = .free; rw [St.set_other _ _ (fun e => n4 e.symm)]; exact hk.2
    | _ => exact hk.2
section
variable (x : Pgm) (a : Atm) (o0 : Own) (hx : x.doms.length ≤ 140737488355328) (hc : x.decls.length ≤ 140737488355328) (ha : a.ts.length ≤ 100000)
include hx hc ha
variable (B : St) (bx : Nat) (c : Cell) (X : Scp) (p1 p2 : Own) (h1 : OwnOk B p1 X.vs.length) (h2 : OwnOk (B.own p1 9 1 X.vs.length) p2 X.vs.length) (n1 : NotOwn p1 bx) (n2 : NotOwn p2 bx) (hW : X.ds.length = X.vs.length) (hX : X.vs.length ≤ 10000000)
include h1 h2 n1 n2 hW hX
theorem Ratom_nox {e : Int} (h : atomS x X a = .error e) : SCalls Tryz.prog 28 [.agg (pgC x), .agg [.lst (strs X.vs) p1, .lst (strs X.ds) p2], .agg [.bool a.not, .str a.rel, .lst (a.ts.map trmC) o0]] (((B.own p1 9 1 X.vs.length).own p2 9 1 X.vs.length).set bx c) fun w u =>
    ∃ q : Scp × Own × Own, w = .ret (.tup [.agg [.lst (strs q.1.vs) q.2.1, .lst (strs q.1.ds) q.2.2], .int .i64 e]) ∧ u = B.set bx c ∧ True := by
  have hk := ScK_x (c := c) h1 h2 n1 n2 hW
  have := Ratom_S (B.set bx c) x X p1 p2 o0 a hk hx hc hW ha hX
  rw [h, ScO_x n1 n2 hW] at this
  exact this.mono fun w u ⟨_, Z, p1, p2, h1, h2⟩ => ⟨(Z, p1, p2), h1, h2, trivial⟩
variable (bz : Nat) (z : Cell) (n3 : NotOwn p1 bz) (n4 : NotOwn p2 bz)
include n3 n4
theorem Ratom_noz {e : Int} (h : atomS x X a = .error e) : SCalls Tryz.prog 28 [.agg (pgC x), .agg [.lst (strs X.vs) p1, .lst (strs X.ds) p2], .agg [.bool a.not, .str a.rel, .lst (a.ts.map trmC) o0]] ((((B.own p1 9 1 X.vs.length).own p2 9 1 X.vs.length).set bx c).set bz z) fun w u =>
    ∃ q : Scp × Own × Own, w = .ret (.tup [.agg [.lst (strs q.1.vs) q.2.1, .lst (strs q.1.ds) q.2.2], .int .i64 e]) ∧ u = (B.set bx c).set bz z ∧ True := by
  have hk := ScK_z (c := c) (z := z) h1 h2 n1 n2 n3 n4 hW
  have := Ratom_S ((B.set bx c).set bz z) x X p1 p2 o0 a hk hx hc hW ha hX
  rw [h, ScO_z n1 n2 n3 n4 hW] at this
  exact this.mono fun w u ⟨_, Z, p1, p2, h1, h2⟩ => ⟨(Z, p1, p2), h1, h2, trivial⟩
end
section
variable (x : Pgm) (a : Atm) (o0 : Own) (hx : x.doms.length ≤ 140737488355328) (hc : x.decls.length ≤ 140737488355328) (ha : a.ts.length ≤ 100000)
include hx hc ha
theorem Ratom_no0 (T : St) {e : Int} (h : atomS x ⟨[], []⟩ a = .error e) : SCalls Tryz.prog 28 [.agg (pgC x), .agg [.lst [] .full, .lst [] .full], .agg [.bool a.not, .str a.rel, .lst (a.ts.map trmC) o0]] T fun w u =>
    ∃ q : Scp × Own × Own, w = .ret (.tup [.agg [.lst (strs q.1.vs) q.2.1, .lst (strs q.1.ds) q.2.2], .int .i64 e]) ∧ u = T ∧ True := by
  have := Ratom_S T x ⟨[], []⟩ .full .full o0 a ⟨ownok_nil, ownok_nil⟩ hx hc rfl ha (by simp)
  rw [h] at this
  exact this.mono fun w u ⟨_, Z, p1, p2, h1, h2⟩ => ⟨(Z, p1, p2), h1, h2, trivial⟩
theorem Ratom_ok0 (T : St) {Y : Scp} (h : atomS x ⟨[], []⟩ a = .ok Y) : SCalls Tryz.prog 28 [.agg (pgC x), .agg [.lst [] .full, .lst [] .full], .agg [.bool a.not, .str a.rel, .lst (a.ts.map trmC) o0]] T fun w u =>
    ∃ q : Own × Own, w = .ret (.tup [.agg [.lst (strs Y.vs) q.1, .lst (strs Y.ds) q.2], .int .i64 0]) ∧ u = (T.own q.1 9 1 Y.vs.length).own q.2 9 1 Y.vs.length ∧ OwnOk T q.1 Y.vs.length ∧ OwnOk (T.own q.1 9 1 Y.vs.length) q.2 Y.vs.length := by
  have := Ratom_S T x ⟨[], []⟩ .full .full o0 a ⟨ownok_nil, ownok_nil⟩ hx hc rfl ha (by simp)
  rw [h] at this
  exact this.mono fun w u ⟨p1, p2, h1, h2, h3, h4⟩ => ⟨(p1, p2), h1, by rw [h2]; unfold ScO; rw [h4], h3.1, by have := h3.2; rw [h4] at this; exact this⟩
variable (B : St) (bx : Nat) (c : Cell) (X : Scp) (p1 p2 : Own) (hbx : B bx = .free) (hf : c ≠ .free) (h1 : OwnOk B p1 X.vs.length) (h2 : OwnOk (B.own p1 9 1 X.vs.length) p2 X.vs.length) (n1 : NotOwn p1 bx) (n2 : NotOwn p2 bx) (hW : X.ds.length = X.vs.length) (hX : X.vs.length ≤ 10000000)
include hbx hf h1 h2 n1 n2 hW hX
theorem Ratom_okx {Y : Scp} (h : atomS x X a = .ok Y) : SCalls Tryz.prog 28 [.agg (pgC x), .agg [.lst (strs X.vs) p1, .lst (strs X.ds) p2], .agg [.bool a.not, .str a.rel, .lst (a.ts.map trmC) o0]] (((B.own p1 9 1 X.vs.length).own p2 9 1 X.vs.length).set bx c) fun w u =>
    ∃ q : Own × Own, w = .ret (.tup [.agg [.lst (strs Y.vs) q.1, .lst (strs Y.ds) q.2], .int .i64 0]) ∧ u = ((B.own q.1 9 1 Y.vs.length).own q.2 9 1 Y.vs.length).set bx c ∧ OwnOk B q.1 Y.vs.length ∧ OwnOk (B.own q.1 9 1 Y.vs.length) q.2 Y.vs.length ∧ NotOwn q.1 bx ∧ NotOwn q.2 bx := by
  have hk := ScK_x (c := c) h1 h2 n1 n2 hW
  have := Ratom_S (B.set bx c) x X p1 p2 o0 a hk hx hc hW ha hX
  rw [h, ScO_x n1 n2 hW] at this
  refine this.mono fun w u ⟨q1, q2, g1, g2, g3, g4⟩ => ⟨(q1, q2), g1, ?_, ?_, ?_, ?_⟩
  · have m1 : NotOwn q1 bx := g3.1.not (by rw [St.set_same]; exact hf)
    have m2 : NotOwn q2 bx := g3.2.not (by rw [own_rd m1, St.set_same]; exact hf)
    rw [g2]; unfold ScO; rw [own_push m1, own_push m2, g4]
  · exact g3.1.fg (Fg.of_set _ hbx)
  · have := g3.2; rw [g4] at this; exact this.fg (Fg.ownm (Fg.of_set _ hbx))
  · have m1 : NotOwn q1 bx := g3.1.not (by rw [St.set_same]; exact hf)
    exact ⟨m1, g3.2.not (by rw [own_rd m1, St.set_same]; exact hf)⟩
variable (bz : Nat) (z : Cell) (hbz : B bz = .free) (hzx : ¬ bz = bx) (hz : z ≠ .free) (n3 : NotOwn p1 bz) (n4 : NotOwn p2 bz)
include hbz hzx hz n3 n4
theorem Ratom_okz {Y : Scp} (h : atomS x X a = .ok Y) : SCalls Tryz.prog 28 [.agg (pgC x), .agg [.lst (strs X.vs) p1, .lst (strs X.ds) p2], .agg [.bool a.not, .str a.rel, .lst (a.ts.map trmC) o0]] ((((B.own p1 9 1 X.vs.length).own p2 9 1 X.vs.length).set bx c).set bz z) fun w u =>
    ∃ q : Own × Own, w = .ret (.tup [.agg [.lst (strs Y.vs) q.1, .lst (strs Y.ds) q.2], .int .i64 0]) ∧ u = (((B.own q.1 9 1 Y.vs.length).own q.2 9 1 Y.vs.length).set bx c).set bz z ∧ OwnOk B q.1 Y.vs.length ∧ OwnOk (B.own q.1 9 1 Y.vs.length) q.2 Y.vs.length ∧ (NotOwn q.1 bx ∧ NotOwn q.2 bx) ∧ (NotOwn q.1 bz ∧ NotOwn q.2 bz) := by
  have hk := ScK_z (c := c) (z := z) h1 h2 n1 n2 n3 n4 hW
  have := Ratom_S ((B.set bx c).set bz z) x X p1 p2 o0 a hk hx hc hW ha hX
  rw [h, ScO_z n1 n2 n3 n4 hW] at this
  refine this.mono fun w u ⟨q1, q2, g1, g2, g3, g4⟩ => ?_
  have hF : Fg ((B.set bx c).set bz z) B := (Fg.of_set _ (by rw [St.set_other _ _ hzx]; exact hbz)).trans (Fg.of_set _ hbx)
  have k2 := g3.2
  rw [g4] at k2
  have ex : ((B.set bx c).set bz z) bx = c := by rw [St.set_other _ _ (fun e => hzx e.symm), St.set_same]
  have m1 : NotOwn q1 bx := g3.1.not (by rw [ex]; exact hf)
  have m2 : NotOwn q2 bx := k2.not (by rw [own_rd m1, ex]; exact hf)
  have m3 : NotOwn q1 bz := g3.1.not (by rw [St.set_same]; exact hz)
  have m4 : NotOwn q2 bz := k2.not (by rw [own_rd m3, St.set_same]; exact hz)
  refine ⟨(q1, q2), g1, ?_, g3.1.fg hF, k2.fg (Fg.ownm hF), ⟨m1, m2⟩, m3, m4⟩
  rw [g2]; unfold ScO; rw [own_push m3, own_push m1, own_push m4, own_push m2, g4]
end
/-- An atom that is not negated is within its own rule. -/
theorem withB_pos {l : List Atm} {a : Atm} (h : a ∈ l) (hn : a.not = false) : withB l a = true := by
  unfold withB
  rw [List.all_eq_true]
  intro t ht
  cases hv : t.var with
  | false => rfl
  | true =>
    simp only [Bool.not_true, Bool.false_or]
    unfold givenB
    rw [List.any_eq_true]
    refine ⟨a, h, ?_⟩
    rw [hn, Bool.not_false, Bool.true_and, List.any_eq_true]
    exact ⟨t, ht, by simp [hv]⟩
theorem withB_neg {l : List Atm} : l.all (withB l) = l.all fun a => !a.not || withB l a := by
  rw [Bool.eq_iff_iff, List.all_eq_true, List.all_eq_true]
  constructor
  · intro h a ha; rw [h a ha]; simp
  · intro h a ha
    cases hn : a.not with
    | false => exact withB_pos ha hn
    | true => have := h a ha; rw [hn] at this; simpa using this
def scopeV (r : Except Int Scp) : VV := match r with | .ok Y => .tup [.agg [.lst (strs Y.vs) .no, .lst (strs Y.ds) .no], .int .i64 0] | .error e => .tup [.agg [.lst [] .no, .lst [] .no], .int .i64 e]
theorem wk_scE {o1 o2 : Own} {e : Int} : Wk (.tup [.agg [.lst [] o1, .lst [] o2], .int .i64 e]) (scopeV (.error e)) :=
  Wk.tup rfl fun j x y hx hy => by
    match j with
    | 0 => simp at hx hy; subst hx; subst hy; exact Wk.agg (.lst _ _ (.lst _ _ .nil))
    | 1 => simp at hx hy; subst hx; subst hy; exact Wk.refl _
    | j + 2 => simp at hx
theorem wk_scO {o1 o2 : Own} {Y : Scp} : Wk (.tup [.agg [.lst (strs Y.vs) o1, .lst (strs Y.ds) o2], .int .i64 0]) (scopeV (.ok Y)) :=
  Wk.tup rfl fun j x y hx hy => by
    match j with
    | 0 => simp at hx hy; subst hx; subst hy; exact Wk.agg (.lst _ _ (.lst _ _ .nil))
    | 1 => simp at hx hy; subst hx; subst hy; exact Wk.refl _
    | j + 2 => simp at hx
set_option maxHeartbeats 8000000 in
theorem RScope_S (T : St) (x : Pgm) (r : Rul) (hx : x.doms.length ≤ 140737488355328) (hc : x.decls.length ≤ 140737488355328) (hb : r.body.length ≤ 10) (ha : ∀ a, a = r.head ∨ a ∈ r.body → a.ts.length ≤ 100000) :
    SRet Tryz.prog 19 [.agg (pgC x), .agg (rulC r)] T (scopeV (scopeS x r)) T := by
  have s1 := fun t => Rsafe_S t r r.head .no (by omega) (Nat.le_trans (ha _ (.inl rfl)) (by omega)) (fun c hc => Nat.le_trans (ha _ (.inr hc)) (by omega))
  have s2 := fun a (h : a ∈ r.body) t => Rsafe_S t r a .no (by omega) (Nat.le_trans (ha _ (.inr h)) (by omega)) (fun c hc => Nat.le_trans (ha _ (.inr hc)) (by omega))
  have S2 := Lib.hid s2
  clear s2
  have HA := Lib.hid ha
  have hah := ha _ (.inl rfl)
  clear ha
  generalize hR : scopeS x r = R
  unfold scopeS at hR
  have h1no := fun t e (h : atomS x ⟨[], []⟩ r.head = .error e) => Ratom_no0 x r.head .no hx hc hah t h
  have h1ok := fun t Y (h : atomS x ⟨[], []⟩ r.head = .ok Y) => Ratom_ok0 x r.head .no hx hc hah t h
  have H1N := Lib.hid h1no
  have H1O := Lib.hid h1ok
  clear h1no h1ok
  have hlb : (r.body.map atmC).length = r.body.length := by simp
  obtain ⟨⟨hn, hrel, hts⟩, body⟩ := r
  simp only at hb hah hlb s1
  simp only [rulC]
  simp only [rulC] at s1 S2
  cases h1 : atomS x ⟨[], []⟩ ⟨hn, hrel, hts⟩ with
  | error e =>
    simp only [h1, eb_err] at hR
    subst hR
    have hen := atomS_err h1
    have w1 := fun t => H1N.out t e h1
    simp only [pgC] at w1 ⊢
    clear h1
    have hef : (e = 0) = False := eq_false hen
    refine G_enter Tryz.func19 rfl Tryz.ntmps19 rfl fun Q hQ hQe => ?_
    (repeat' (first | refine Ctl ?_ | ((with_reducible refine Kof.use hK ?_); clear hK hE K E) | ((with_reducible refine Eof.use hE ?_); (try clear hK hE K E)) | ((with_reducible refine Kof.use hKh ?_); clear hKh Kh) | ((with_reducible refine Kof.use hKb (P_next ?_)); clear hKb Kb) | (with_reducible first | refine G_planT 7 (.two [0, 1, 2, 3, 4, 5, 6] 7 [[]] (.one [8, 9, 10] 11 [[8, 9, 10], []] (.one [] 12 [[], [10], []] (.fin [13]))) 11 [[0, 1, 2, 3, 4, 5, 6]] (.one [] 7 [[], []] (.one [8, 9, 10] 12 [[10], [], []] (.fin [13])))) hQe fun K E hK hE => ?_ | refine G_plan 16 [([0, 1, 2, 3, 4, 5, 6, 7, 8, 9, 10, 11, 12], 13, [[]])] [14, 15] hQe fun K E hK hE => ?_) | ((with_reducible refine W_cond (fun h => ?_) (fun h => ?_)) <;> (try (exfalso; first | assumption | omega))) | ((first | (with_reducible first | refine G_region fun K E hK hE => ?_ | refine W_if ?_ | refine W_ifS ?_ | refine P_heads fun Kh hKh => ?_ | refine P_fin fun Kh hKh => ?_ | refine P_each fun Kb hKb => ?_ | refine T_heads fun Kh hKh => ?_ | refine T_fin fun Kh hKh => ?_ | refine T_two fun Kh hKh => ?_ | refine T_both (fun Kb hKb => ?_) (fun Kb hKb => ?_) | refine W_and ?_) | ((with_reducible refine call_ex can28 (w1 _) (fun a h => ?_))) | ((with_reducible refine W_fresh (fun b hb => ?_)); (repeat (obtain ⟨_, hb⟩ := hb))) | ((with_reducible refine W_gd (fun h => ?_) (fun h => ?_)) <;> (try (exfalso; first | assumption | omega)))) <;> (try simp (disch := first | assumption | omega) only [go_sem, seval, hlb, *]))))
    all_goals (first | refine W_ret res19 hQ ?_ | refine W_norm res19 hQ ?_ | refine G_pan hQ ?_)
    exact ⟨_, T, wk_scE, z_fg, rfl, rfl⟩
  | ok X =>
    simp only [h1, eb_ok] at hR
    have hWX := (atomS_wf h1 (show WfS ⟨[], []⟩ from rfl))
    simp only [List.length_nil, Nat.zero_add] at hWX
    obtain ⟨hWX, hXl⟩ := hWX
    have hWX2 : X.ds.length = X.vs.length := hWX
    have w1 := fun t => H1O.out t X h1
    simp only [pgC] at w1 ⊢
    clear h1
    refine G_enter Tryz.func19 rfl Tryz.ntmps19 rfl fun Q hQ hQe => ?_
    (repeat' (first | refine Ctl ?_ | ((with_reducible refine Kof.use hK ?_); clear hK hE K E) | ((with_reducible refine Eof.use hE ?_); (try clear hK hE K E)) | ((with_reducible refine Kof.use hKh ?_); clear hKh Kh) | ((with_reducible refine Kof.use hKb (P_next ?_)); clear hKb Kb) | (with_reducible first | refine G_planT 7 (.two [0, 1, 2, 3, 4, 5, 6] 7 [[]] (.one [8, 9, 10] 11 [[8, 9, 10], []] (.one [] 12 [[], [10], []] (.fin [13]))) 11 [[0, 1, 2, 3, 4, 5, 6]] (.one [] 7 [[], []] (.one [8, 9, 10] 12 [[10], [], []] (.fin [13])))) hQe fun K E hK hE => ?_ | refine G_plan 16 [([0, 1, 2, 3, 4, 5, 6, 7, 8, 9, 10, 11, 12], 13, [[]])] [14, 15] hQe fun K E hK hE => ?_) | ((with_reducible refine W_cond (fun h => ?_) (fun h => ?_)) <;> (try (exfalso; first | assumption | omega))) | ((first | (with_reducible first | refine G_region fun K E hK hE => ?_ | refine W_if ?_ | refine W_ifS ?_ | refine P_heads fun Kh hKh => ?_ | refine P_fin fun Kh hKh => ?_ | refine P_each fun Kb hKb => ?_ | refine T_heads fun Kh hKh => ?_ | refine T_fin fun Kh hKh => ?_ | refine T_two fun Kh hKh => ?_ | refine T_both (fun Kb hKb => ?_) (fun Kb hKb => ?_) | refine W_and ?_) | ((with_reducible refine call_ex can28 (w1 _) (fun a h => ?_))) | ((with_reducible refine W_fresh (fun b hb => ?_)); (repeat (obtain ⟨_, hb⟩ := hb)); (try (try (rw [own_fr, own_fr] at hb; obtain ⟨_, _, hb⟩ := hb)))) | ((with_reducible refine W_gd (fun h => ?_) (fun h => ?_)) <;> (try (exfalso; first | assumption | omega)))) <;> (try simp (disch := first | assumption | omega) only [go_sem, seval, hlb, *]))))
    rename_i bp hbp brl l1 l2 hbrl bres c1 c2 c3 c4 hbres hq m1 m2 d1 d2 d3 d4 d5 d6
    obtain ⟨bx, hbxe⟩ : ∃ z, z = b := ⟨_, rfl⟩
    subst hbxe
    obtain ⟨hq1, hq2⟩ := hq
    have hBp : (((T.set bp (.obj 26 [.lst (x.doms.map dmC) .no, .lst (x.decls.map dclC) .no, .lst (x.rules.map rulC) .no])).set brl (.obj 50 [.bool hn, .str hrel, .lst (hts.map trmC) .no, .lst (body.map atmC) .no])).set bres (.obj 58 [.lst [] .full, .lst [] .full])) bp = (.obj 26 [.lst (x.doms.map dmC) .no, .lst (x.decls.map dclC) .no, .lst (x.rules.map rulC) .no]) := by rw [St.set_other _ _ c4, St.set_other _ _ l2, St.set_same]
    have hBl : (((T.set bp (.obj 26 [.lst (x.doms.map dmC) .no, .lst (x.decls.map dclC) .no, .lst (x.rules.map rulC) .no])).set brl (.obj 50 [.bool hn, .str hrel, .lst (hts.map trmC) .no, .lst (body.map atmC) .no])).set bres (.obj 58 [.lst [] .full, .lst [] .full])) brl = (.obj 50 [.bool hn, .str hrel, .lst (hts.map trmC) .no, .lst (body.map atmC) .no]) := by rw [St.set_other _ _ c2, St.set_same]
    have hBr : (((T.set bp (.obj 26 [.lst (x.doms.map dmC) .no, .lst (x.decls.map dclC) .no, .lst (x.rules.map rulC) .no])).set brl (.obj 50 [.bool hn, .str hrel, .lst (hts.map trmC) .no, .lst (body.map atmC) .no])).set bres (.obj 58 [.lst [] .full, .lst [] .full])) bres = (.obj 58 [.lst [] .full, .lst [] .full]) := St.set_same _ _ _
    have hBx : (((T.set bp (.obj 26 [.lst (x.doms.map dmC) .no, .lst (x.decls.map dclC) .no, .lst (x.rules.map rulC) .no])).set brl (.obj 50 [.bool hn, .str hrel, .lst (hts.map trmC) .no, .lst (body.map atmC) .no])).set bres (.obj 58 [.lst [] .full, .lst [] .full])) bx = .free := by rw [St.set_other _ _ d1, St.set_other _ _ d3, St.set_other _ _ d5]; exact hb
    have hF : Fg (((T.set bp (.obj 26 [.lst (x.doms.map dmC) .no, .lst (x.decls.map dclC) .no, .lst (x.rules.map rulC) .no])).set brl (.obj 50 [.bool hn, .str hrel, .lst (hts.map trmC) .no, .lst (body.map atmC) .no])).set bres (.obj 58 [.lst [] .full, .lst [] .full])) T := z_fg
    generalize (((T.set bp (.obj 26 [.lst (x.doms.map dmC) .no, .lst (x.decls.map dclC) .no, .lst (x.rules.map rulC) .no])).set brl (.obj 50 [.bool hn, .str hrel, .lst (hts.map trmC) .no, .lst (body.map atmC) .no])).set bres (.obj 58 [.lst [] .full, .lst [] .full])) = B at *
    have HF := Lib.hid hF
    have HTR := Lib.hid hbres
    have HTX := Lib.hid hb
    have hBpf : B bp ≠ .free := by rw [hBp]; simp
    have hBlf : B brl ≠ .free := by rw [hBl]; simp
    have hBrf : B bres ≠ .free := by rw [hBr]; simp
    clear hF hb hbres hbrl hbp w1 H1N H1O
    generalize hR2 : atomsS x X body = R2 at hR
    refine G_loop (fun m env s' => ∃ (i : Nat) (Y : Scp) (p1 p2 : Own), i ≤ body.length ∧ m + i = body.length ∧ Y.ds.length = Y.vs.length ∧ Y.vs.length ≤ 100000 * (i + 1) ∧ Hid (atomsS x Y (body.drop i) = R2) ∧
      OwnOk B p1 Y.vs.length ∧ OwnOk (B.own p1 9 1 Y.vs.length) p2 Y.vs.length ∧ NotOwn p1 bx ∧ NotOwn p2 bx ∧
      s' = ((B.own p1 9 1 Y.vs.length).own p2 9 1 Y.vs.length).set bx (.obj 58 [.lst (strs Y.vs) p1, .lst (strs Y.ds) p2]) ∧
      env 2 = .ptr bp 0 ∧ env 3 = .ptr brl 0 ∧ env 4 = .ptr bres 0 ∧ env 6 = .ptr bx 0 ∧ env 8 = .int .i64 i) body.length ?_ ?_
    · exact ⟨_, Fg.refl _, 0, X, a.1, a.2, by omega, by omega, hWX2, by omega, Lib.hid hR2, hq1, hq2, m2, m1, rfl, z_sl, z_sl, z_sl, z_sl, z_sl⟩
    clear hR2 hWX hWX2 hq1 hq2 m1 m2 hXl
    rintro m env s' ⟨i, Y, p1, p2, hi, hm, hWY, hYl, HI, hq1, hq2, hx1, hx2, rfl, e2, e3, e4, e6, e8⟩
    have k1p := hq1.not hBpf
    have k1l := hq1.not hBlf
    have k1r := hq1.not hBrf
    have k2p := hq2.not (b := bp) (by rw [own_rd k1p]; exact hBpf)
    have k2l := hq2.not (b := brl) (by rw [own_rd k1l]; exact hBlf)
    have k2r := hq2.not (b := bres) (by rw [own_rd k1r]; exact hBrf)
    by_cases hlt : i < body.length
    · obtain ⟨c, hcb⟩ := uget hlt
      have hsx := atmC_at hcb
      have hI := HI.out
      rw [List.drop_eq_getElem_cons hlt, show body[i] = c by rw [List.getElem?_eq_getElem hlt] at hcb; injection hcb] at hI
      simp only [atomsS] at hI
      have hca := HA.out c (.inr (List.mem_of_getElem? hcb))
      clear hcb HI
      cases h1 : atomS x Y c with
      | error e =>
        rw [h1, eb_err] at hI
        subst hI
        simp only [eb_err] at hR
        subst hR
        have hen := atomS_err h1
        have hef : (e = 0) = False := eq_false hen
        have wx := Ratom_nox x c .no hx hc hca B bx (.obj 58 [.lst (strs Y.vs) p1, .lst (strs Y.ds) p2]) Y p1 p2 hq1 hq2 hx1 hx2 hWY (by omega) h1
        have wz := fun bz z n3 n4 => Ratom_noz x c .no hx hc hca B bx (.obj 58 [.lst (strs Y.vs) p1, .lst (strs Y.ds) p2]) Y p1 p2 hq1 hq2 hx1 hx2 hWY (by omega) bz z n3 n4 h1
        simp only [pgC] at wx wz
        obtain ⟨cn, cr, cts⟩ := c
        simp only at wx wz
        (repeat' (first | refine Ctl ?_ | ((with_reducible refine Kof.use hK ?_); clear hK hE K E) | ((with_reducible refine Eof.use hE ?_); (try clear hK hE K E)) | ((with_reducible refine Kof.use hKh ?_); clear hKh Kh) | ((with_reducible refine Kof.use hKb (P_next ?_)); clear hKb Kb) | (with_reducible first | refine G_planT 7 (.two [0, 1, 2, 3, 4, 5, 6] 7 [[]] (.one [8, 9, 10] 11 [[8, 9, 10], []] (.one [] 12 [[], [10], []] (.fin [13]))) 11 [[0, 1, 2, 3, 4, 5, 6]] (.one [] 7 [[], []] (.one [8, 9, 10] 12 [[10], [], []] (.fin [13])))) hQe fun K E hK hE => ?_ | refine G_plan 16 [([0, 1, 2, 3, 4, 5, 6, 7, 8, 9, 10, 11, 12], 13, [[]])] [14, 15] hQe fun K E hK hE => ?_) | ((with_reducible refine W_cond (fun h => ?_) (fun h => ?_)) <;> (try (exfalso; first | assumption | omega))) | ((first | (with_reducible first | refine G_region fun K E hK hE => ?_ | refine W_if ?_ | refine W_ifS ?_ | refine P_heads fun Kh hKh => ?_ | refine P_fin fun Kh hKh => ?_ | refine P_each fun Kb hKb => ?_ | refine T_heads fun Kh hKh => ?_ | refine T_fin fun Kh hKh => ?_ | refine T_two fun Kh hKh => ?_ | refine T_both (fun Kb hKb => ?_) (fun Kb hKb => ?_) | refine W_and ?_) | ((with_reducible refine call_ex can28 (wx) (fun a h => ?_))) | ((with_reducible refine call_ex can28 (wz _ _ (by assumption) (by assumption)) (fun a h => ?_))) | ((with_reducible refine W_fresh (fun b hb => ?_)); (repeat (obtain ⟨_, hb⟩ := hb)); (try ((try (rw [own_fr, own_fr] at hb; obtain ⟨_, _, hb⟩ := hb)); obtain ⟨_, _⟩ := nef hb hBpf; obtain ⟨_, _⟩ := nef hb hBlf; obtain ⟨_, _⟩ := nef hb hBrf))) | ((with_reducible refine W_gd (fun h => ?_) (fun h => ?_)) <;> (try (exfalso; first | assumption | omega)))) <;> (try simp (disch := first | assumption | omega) only [go_sem, seval, hlb, hsx, atmC, *]))))
        all_goals (first | refine W_ret res19 hQ ?_ | refine W_norm res19 hQ ?_ | refine G_pan hQ ?_)
        all_goals exact ⟨_, T, wk_scE, Fg.setA (Fg.setA (Fg.setA HF.out HTX.out) (HF.out.free hb)) HTR.out, rfl, rfl⟩
      | ok Z =>
        rw [h1, eb_ok] at hI
        have HI2 := Lib.hid hI
        obtain ⟨hWZ, hZl⟩ := atomS_wf h1 (show WfS Y from hWY)
        have hWZ2 : Z.ds.length = Z.vs.length := hWZ
        have wx := Ratom_okx x c .no hx hc hca B bx (.obj 58 [.lst (strs Y.vs) p1, .lst (strs Y.ds) p2]) Y p1 p2 hBx (by simp) hq1 hq2 hx1 hx2 hWY (by omega) h1
        have wz := fun bz z (hbz : B bz = .free) (hzx : ¬ bz = bx) (hz : z ≠ .free) n3 n4 => Ratom_okz x c .no hx hc hca B bx (.obj 58 [.lst (strs Y.vs) p1, .lst (strs Y.ds) p2]) Y p1 p2 hBx (by simp) hq1 hq2 hx1 hx2 hWY (by omega) bz z hbz hzx hz n3 n4 h1
        simp only [pgC] at wx wz
        clear hI h1
        obtain ⟨cn, cr, cts⟩ := c
        simp only at wx wz
        (repeat' (first | refine Ctl ?_ | ((with_reducible refine Kof.use hK ?_); clear hK hE K E) | ((with_reducible refine Eof.use hE ?_); (try clear hK hE K E)) | ((with_reducible refine Kof.use hKh ?_); clear hKh Kh) | ((with_reducible refine Kof.use hKb (P_next ?_)); clear hKb Kb) | (with_reducible first | refine G_planT 7 (.two [0, 1, 2, 3, 4, 5, 6] 7 [[]] (.one [8, 9, 10] 11 [[8, 9, 10], []] (.one [] 12 [[], [10], []] (.fin [13]))) 11 [[0, 1, 2, 3, 4, 5, 6]] (.one [] 7 [[], []] (.one [8, 9, 10] 12 [[10], [], []] (.fin [13])))) hQe fun K E hK hE => ?_ | refine G_plan 16 [([0, 1, 2, 3, 4, 5, 6, 7, 8, 9, 10, 11, 12], 13, [[]])] [14, 15] hQe fun K E hK hE => ?_) | ((with_reducible refine W_cond (fun h => ?_) (fun h => ?_)) <;> (try (exfalso; first | assumption | omega))) | ((first | (with_reducible first | refine G_region fun K E hK hE => ?_ | refine W_if ?_ | refine W_ifS ?_ | refine P_heads fun Kh hKh => ?_ | refine P_fin fun Kh hKh => ?_ | refine P_each fun Kb hKb => ?_ | refine T_heads fun Kh hKh => ?_ | refine T_fin fun Kh hKh => ?_ | refine T_two fun Kh hKh => ?_ | refine T_both (fun Kb hKb => ?_) (fun Kb hKb => ?_) | refine W_and ?_) | ((with_reducible refine call_ex can28 (wx) (fun a h => ?_)); (obtain ⟨g1, g2, g3, g4⟩ := h; (try obtain ⟨g5, g6⟩ := g4); (try obtain ⟨g3, g7⟩ := g3))) | ((with_reducible refine call_ex can28 (wz _ _ (by assumption) (by assumption) (by simp) (by assumption) (by assumption)) (fun a h => ?_)); (obtain ⟨g1, g2, g3, g4⟩ := h; (try obtain ⟨g5, g6⟩ := g4); (try obtain ⟨g3, g7⟩ := g3))) | ((with_reducible refine W_fresh (fun b hb => ?_)); (repeat (obtain ⟨_, hb⟩ := hb)); (try ((try (rw [own_fr, own_fr] at hb; obtain ⟨_, _, hb⟩ := hb)); obtain ⟨_, _⟩ := nef hb hBpf; obtain ⟨_, _⟩ := nef hb hBlf; obtain ⟨_, _⟩ := nef hb hBrf))) | ((with_reducible refine W_gd (fun h => ?_) (fun h => ?_)) <;> (try (exfalso; first | assumption | omega)))) <;> (try simp (disch := first | assumption | omega) only [go_sem, seval, hlb, hsx, atmC, *]))))
        all_goals exact ⟨_, Fg.of_set _ (by rw [St.set_other _ _ (by assumption), own_fr, own_fr]; exact ⟨by assumption, by assumption, hb⟩), m - 1, by omega, i + 1, Z, a.1, a.2, by omega, by omega, hWZ2, by omega, HI2, g1, g2, by assumption, by assumption, rfl, z_sl, z_sl, z_sl, z_sl, z_sl⟩
    · have hIe := HI.out
      rw [show i = body.length by omega, List.drop_length] at hIe
      simp only [atomsS] at hIe
      subst hIe
      rw [eb_ok] at hR
      clear HI
      have hSp : (((B.own p1 9 1 Y.vs.length).own p2 9 1 Y.vs.length).set bx (.obj 58 [.lst (strs Y.vs) p1, .lst (strs Y.ds) p2])) bp = B bp := by rw [St.set_other _ _ (nef hBx hBpf).1, own_rd k2p, own_rd k1p]
      have hSl : (((B.own p1 9 1 Y.vs.length).own p2 9 1 Y.vs.length).set bx (.obj 58 [.lst (strs Y.vs) p1, .lst (strs Y.ds) p2])) brl = B brl := by rw [St.set_other _ _ (nef hBx hBlf).1, own_rd k2l, own_rd k1l]
      have hSr : (((B.own p1 9 1 Y.vs.length).own p2 9 1 Y.vs.length).set bx (.obj 58 [.lst (strs Y.vs) p1, .lst (strs Y.ds) p2])) bres = B bres := by rw [St.set_other _ _ (nef hBx hBrf).1, own_rd k2r, own_rd k1r]
      have hSx : (((B.own p1 9 1 Y.vs.length).own p2 9 1 Y.vs.length).set bx (.obj 58 [.lst (strs Y.vs) p1, .lst (strs Y.ds) p2])) bx = (.obj 58 [.lst (strs Y.vs) p1, .lst (strs Y.ds) p2]) := St.set_same _ _ _
      rw [hBp] at hSp
      rw [hBl] at hSl
      rw [hBr] at hSr
      have hFS : Fg (((B.own p1 9 1 Y.vs.length).own p2 9 1 Y.vs.length).set bx (.obj 58 [.lst (strs Y.vs) p1, .lst (strs Y.ds) p2])) T := Fg.setA (((Fg.own hq2).trans (Fg.own hq1)).trans HF.out) HTX.out
      generalize (((B.own p1 9 1 Y.vs.length).own p2 9 1 Y.vs.length).set bx (.obj 58 [.lst (strs Y.vs) p1, .lst (strs Y.ds) p2])) = S at *
      have HFS := Lib.hid hFS
      have hlv : (strs Y.vs).length = Y.vs.length := by simp [strs]
      clear hFS hq1 hq2 k1p k1l k1r k2p k2l k2r hx1 hx2 hBp hBl hBr hBx hBpf hBlf hBrf HF HTX
      have hR3 : R = if (withB body ⟨hn, hrel, hts⟩ && body.all (fun a => !a.not || withB body a)) = false then .error 125 else if 8 < Y.vs.length then .error 2 else .ok Y := by
        rw [← hR, withB_neg]
      clear hR
      have HR3 := Lib.hid hR3
      clear hR3
      generalize hw : withB body ⟨hn, hrel, hts⟩ = W at *
      have HW := Lib.hid hw
      clear hw
      cases W
      · have hE : R = .error 125 := by rw [HR3.out]; rfl
        subst hE
        (repeat' (first | refine Ctl ?_ | ((with_reducible refine Kof.use hK ?_); clear hK hE K E) | ((with_reducible refine Eof.use hE ?_); (try clear hK hE K E)) | ((with_reducible refine Kof.use hKh ?_); clear hKh Kh) | ((with_reducible refine Kof.use hKb (P_next ?_)); clear hKb Kb) | (with_reducible first | refine G_planT 7 (.two [0, 1, 2, 3, 4, 5, 6] 7 [[]] (.one [8, 9, 10] 11 [[8, 9, 10], []] (.one [] 12 [[], [10], []] (.fin [13]))) 11 [[0, 1, 2, 3, 4, 5, 6]] (.one [] 7 [[], []] (.one [8, 9, 10] 12 [[10], [], []] (.fin [13])))) hQe fun K E hK hE => ?_ | refine G_plan 16 [([0, 1, 2, 3, 4, 5, 6, 7, 8, 9, 10, 11, 12], 13, [[]])] [14, 15] hQe fun K E hK hE => ?_) | ((with_reducible refine W_cond (fun h => ?_) (fun h => ?_)) <;> (try (exfalso; first | assumption | omega))) | ((first | (with_reducible first | refine G_region fun K E hK hE => ?_ | refine call_ret can29 (s1 _) ?_ | refine W_if ?_ | refine W_ifS ?_ | refine P_heads fun Kh hKh => ?_ | refine P_fin fun Kh hKh => ?_ | refine P_each fun Kb hKb => ?_ | refine T_heads fun Kh hKh => ?_ | refine T_fin fun Kh hKh => ?_ | refine T_two fun Kh hKh => ?_ | refine T_both (fun Kb hKb => ?_) (fun Kb hKb => ?_) | refine W_and ?_) | ((with_reducible refine W_fresh (fun b hb => ?_)); (repeat (obtain ⟨_, hb⟩ := hb))) | ((with_reducible refine W_gd (fun h => ?_) (fun h => ?_)) <;> (try (exfalso; first | assumption | omega)))) <;> (try simp (disch := first | assumption | omega) only [go_sem, seval, hlb, *]))))
        all_goals (first | refine W_ret res19 hQ ?_ | refine W_norm res19 hQ ?_ | refine G_pan hQ ?_)
        all_goals exact ⟨_, T, wk_scE, Fg.setA HFS.out HTR.out, rfl, rfl⟩
      · (repeat' (first | refine Ctl ?_ | ((with_reducible refine Kof.use hK ?_); clear hK hE K E) | ((with_reducible refine Eof.use hE ?_); (try clear hK hE K E)) | ((with_reducible refine Kof.use hKh ?_); clear hKh Kh) | ((with_reducible refine Kof.use hKb (P_next ?_)); clear hKb Kb) | (with_reducible first | refine G_planT 7 (.two [0, 1, 2, 3, 4, 5, 6] 7 [[]] (.one [8, 9, 10] 11 [[8, 9, 10], []] (.one [] 12 [[], [10], []] (.fin [13]))) 11 [[0, 1, 2, 3, 4, 5, 6]] (.one [] 7 [[], []] (.one [8, 9, 10] 12 [[10], [], []] (.fin [13])))) hQe fun K E hK hE => ?_ | refine G_plan 16 [([0, 1, 2, 3, 4, 5, 6, 7, 8, 9, 10, 11, 12], 13, [[]])] [14, 15] hQe fun K E hK hE => ?_) | ((with_reducible refine W_cond (fun h => ?_) (fun h => ?_)) <;> (try (exfalso; first | assumption | omega))) | ((first | (with_reducible first | refine G_region fun K E hK hE => ?_ | refine call_ret can29 (s1 _) ?_ | refine W_if ?_ | refine W_ifS ?_ | refine P_heads fun Kh hKh => ?_ | refine P_fin fun Kh hKh => ?_ | refine P_each fun Kb hKb => ?_ | refine T_heads fun Kh hKh => ?_ | refine T_fin fun Kh hKh => ?_ | refine T_two fun Kh hKh => ?_ | refine T_both (fun Kb hKb => ?_) (fun Kb hKb => ?_) | refine W_and ?_) | ((with_reducible refine W_fresh (fun b hb => ?_)); (repeat (obtain ⟨_, hb⟩ := hb))) | ((with_reducible refine W_gd (fun h => ?_) (fun h => ?_)) <;> (try (exfalso; first | assumption | omega)))) <;> (try simp (disch := first | assumption | omega) only [go_sem, seval, hlb, *]))))
        refine G_loop (fun m env s' => ∃ i : Nat, i ≤ body.length ∧ m + i = body.length ∧ s' = S ∧ Hid ((body.take i).all (fun a => !a.not || withB body a) = true) ∧ env 2 = .ptr bp 0 ∧ env 3 = .ptr brl 0 ∧ env 4 = .ptr bres 0 ∧ env 6 = .ptr bx 0 ∧ env 11 = .int .i64 i) body.length ?_ ?_
        · exact ⟨_, Fg.refl _, 0, by omega, by omega, rfl, Lib.hid rfl, z_sl, z_sl, z_sl, z_sl, z_sl⟩
        clear e2 e3 e4 e6 e8 env hm hi hlt hYl m i
        rintro m env s' ⟨i, hi, hm, rfl, HL, e2, e3, e4, e6, e11⟩
        by_cases hlt : i < body.length
        · obtain ⟨c, hcb⟩ := uget hlt
          have hsx := atmC_at hcb
          have HC := Lib.hid hcb
          have w5 := S2.out c (List.mem_of_getElem? hcb)
          clear hcb
          generalize hwc : withB body c = V at *
          have HWC := Lib.hid hwc
          clear hwc
          obtain ⟨cn, cr, cts⟩ := c
          simp only at w5
          cases cn
          · (repeat' (first | refine Ctl ?_ | ((with_reducible refine Kof.use hK ?_); clear hK hE K E) | ((with_reducible refine Eof.use hE ?_); (try clear hK hE K E)) | ((with_reducible refine Kof.use hKh ?_); clear hKh Kh) | ((with_reducible refine Kof.use hKb (P_next ?_)); clear hKb Kb) | (with_reducible first | refine G_planT 7 (.two [0, 1, 2, 3, 4, 5, 6] 7 [[]] (.one [8, 9, 10] 11 [[8, 9, 10], []] (.one [] 12 [[], [10], []] (.fin [13]))) 11 [[0, 1, 2, 3, 4, 5, 6]] (.one [] 7 [[], []] (.one [8, 9, 10] 12 [[10], [], []] (.fin [13])))) hQe fun K E hK hE => ?_ | refine G_plan 16 [([0, 1, 2, 3, 4, 5, 6, 7, 8, 9, 10, 11, 12], 13, [[]])] [14, 15] hQe fun K E hK hE => ?_) | ((with_reducible refine W_cond (fun h => ?_) (fun h => ?_)) <;> (try (exfalso; first | assumption | omega))) | ((first | (with_reducible first | refine G_region fun K E hK hE => ?_ | refine call_ret can29 (w5 _) ?_ | refine W_if ?_ | refine W_ifS ?_ | refine P_heads fun Kh hKh => ?_ | refine P_fin fun Kh hKh => ?_ | refine P_each fun Kb hKb => ?_ | refine T_heads fun Kh hKh => ?_ | refine T_fin fun Kh hKh => ?_ | refine T_two fun Kh hKh => ?_ | refine T_both (fun Kb hKb => ?_) (fun Kb hKb => ?_) | refine W_and ?_) | ((with_reducible refine W_fresh (fun b hb => ?_)); (repeat (obtain ⟨_, hb⟩ := hb))) | ((with_reducible refine W_gd (fun h => ?_) (fun h => ?_)) <;> (try (exfalso; first | assumption | omega)))) <;> (try simp (disch := first | assumption | omega) only [go_sem, seval, hlb, hsx, atmC, *]))))
            exact ⟨_, Fg.refl _, m - 1, by omega, i + 1, by omega, by omega, rfl, Lib.hid (uall_take HL.out HC.out rfl), z_sl, z_sl, z_sl, z_sl, z_sl⟩
          · cases V
            · have hE : R = .error 125 := by
                rw [HR3.out, if_pos]
                rw [Bool.true_and]
                exact uall_not HC.out (by rw [HWC.out]; rfl)
              subst hE
              (repeat' (first | refine Ctl ?_ | ((with_reducible refine Kof.use hK ?_); clear hK hE K E) | ((with_reducible refine Eof.use hE ?_); (try clear hK hE K E)) | ((with_reducible refine Kof.use hKh ?_); clear hKh Kh) | ((with_reducible refine Kof.use hKb (P_next ?_)); clear hKb Kb) | (with_reducible first | refine G_planT 7 (.two [0, 1, 2, 3, 4, 5, 6] 7 [[]] (.one [8, 9, 10] 11 [[8, 9, 10], []] (.one [] 12 [[], [10], []] (.fin [13]))) 11 [[0, 1, 2, 3, 4, 5, 6]] (.one [] 7 [[], []] (.one [8, 9, 10] 12 [[10], [], []] (.fin [13])))) hQe fun K E hK hE => ?_ | refine G_plan 16 [([0, 1, 2, 3, 4, 5, 6, 7, 8, 9, 10, 11, 12], 13, [[]])] [14, 15] hQe fun K E hK hE => ?_) | ((with_reducible refine W_cond (fun h => ?_) (fun h => ?_)) <;> (try (exfalso; first | assumption | omega))) | ((first | (with_reducible first | refine G_region fun K E hK hE => ?_ | refine call_ret can29 (w5 _) ?_ | refine W_if ?_ | refine W_ifS ?_ | refine P_heads fun Kh hKh => ?_ | refine P_fin fun Kh hKh => ?_ | refine P_each fun Kb hKb => ?_ | refine T_heads fun Kh hKh => ?_ | refine T_fin fun Kh hKh => ?_ | refine T_two fun Kh hKh => ?_ | refine T_both (fun Kb hKb => ?_) (fun Kb hKb => ?_) | refine W_and ?_) | ((with_reducible refine W_fresh (fun b hb => ?_)); (repeat (obtain ⟨_, hb⟩ := hb))) | ((with_reducible refine W_gd (fun h => ?_) (fun h => ?_)) <;> (try (exfalso; first | assumption | omega)))) <;> (try simp (disch := first | assumption | omega) only [go_sem, seval, hlb, hsx, atmC, *]))))
              all_goals (first | refine W_ret res19 hQ ?_ | refine W_norm res19 hQ ?_ | refine G_pan hQ ?_)
              all_goals exact ⟨_, T, wk_scE, Fg.setA HFS.out HTR.out, rfl, rfl⟩
            · (repeat' (first | refine Ctl ?_ | ((with_reducible refine Kof.use hK ?_); clear hK hE K E) | ((with_reducible refine Eof.use hE ?_); (try clear hK hE K E)) | ((with_reducible refine Kof.use hKh ?_); clear hKh Kh) | ((with_reducible refine Kof.use hKb (P_next ?_)); clear hKb Kb) | (with_reducible first | refine G_planT 7 (.two [0, 1, 2, 3, 4, 5, 6] 7 [[]] (.one [8, 9, 10] 11 [[8, 9, 10], []] (.one [] 12 [[], [10], []] (.fin [13]))) 11 [[0, 1, 2, 3, 4, 5, 6]] (.one [] 7 [[], []] (.one [8, 9, 10] 12 [[10], [], []] (.fin [13])))) hQe fun K E hK hE => ?_ | refine G_plan 16 [([0, 1, 2, 3, 4, 5, 6, 7, 8, 9, 10, 11, 12], 13, [[]])] [14, 15] hQe fun K E hK hE => ?_) | ((with_reducible refine W_cond (fun h => ?_) (fun h => ?_)) <;> (try (exfalso; first | assumption | omega))) | ((first | (with_reducible first | refine G_region fun K E hK hE => ?_ | refine call_ret can29 (w5 _) ?_ | refine W_if ?_ | refine W_ifS ?_ | refine P_heads fun Kh hKh => ?_ | refine P_fin fun Kh hKh => ?_ | refine P_each fun Kb hKb => ?_ | refine T_heads fun Kh hKh => ?_ | refine T_fin fun Kh hKh => ?_ | refine T_two fun Kh hKh => ?_ | refine T_both (fun Kb hKb => ?_) (fun Kb hKb => ?_) | refine W_and ?_) | ((with_reducible refine W_fresh (fun b hb => ?_)); (repeat (obtain ⟨_, hb⟩ := hb))) | ((with_reducible refine W_gd (fun h => ?_) (fun h => ?_)) <;> (try (exfalso; first | assumption | omega)))) <;> (try simp (disch := first | assumption | omega) only [go_sem, seval, hlb, hsx, atmC, *]))))
              exact ⟨_, Fg.refl _, m - 1, by omega, i + 1, by omega, by omega, rfl, Lib.hid (uall_take HL.out HC.out (by rw [HWC.out]; rfl)), z_sl, z_sl, z_sl, z_sl, z_sl⟩
        · have hL := HL.out
          rw [List.take_of_length_le (by omega)] at hL
          have hR4 : R = if 8 < Y.vs.length then .error 2 else .ok Y := by
            rw [HR3.out, hL]; rfl
          clear hL HL
          by_cases h8 : 8 < Y.vs.length
          · rw [if_pos h8] at hR4
            subst hR4
            (repeat' (first | refine Ctl ?_ | ((with_reducible refine Kof.use hK ?_); clear hK hE K E) | ((with_reducible refine Eof.use hE ?_); (try clear hK hE K E)) | ((with_reducible refine Kof.use hKh ?_); clear hKh Kh) | ((with_reducible refine Kof.use hKb (P_next ?_)); clear hKb Kb) | (with_reducible first | refine G_planT 7 (.two [0, 1, 2, 3, 4, 5, 6] 7 [[]] (.one [8, 9, 10] 11 [[8, 9, 10], []] (.one [] 12 [[], [10], []] (.fin [13]))) 11 [[0, 1, 2, 3, 4, 5, 6]] (.one [] 7 [[], []] (.one [8, 9, 10] 12 [[10], [], []] (.fin [13])))) hQe fun K E hK hE => ?_ | refine G_plan 16 [([0, 1, 2, 3, 4, 5, 6, 7, 8, 9, 10, 11, 12], 13, [[]])] [14, 15] hQe fun K E hK hE => ?_) | ((with_reducible refine W_cond (fun h => ?_) (fun h => ?_)) <;> (try (exfalso; first | assumption | omega))) | ((first | (with_reducible first | refine G_region fun K E hK hE => ?_ | refine W_if ?_ | refine W_ifS ?_ | refine P_heads fun Kh hKh => ?_ | refine P_fin fun Kh hKh => ?_ | refine P_each fun Kb hKb => ?_ | refine T_heads fun Kh hKh => ?_ | refine T_fin fun Kh hKh => ?_ | refine T_two fun Kh hKh => ?_ | refine T_both (fun Kb hKb => ?_) (fun Kb hKb => ?_) | refine W_and ?_) | ((with_reducible refine W_fresh (fun b hb => ?_)); (repeat (obtain ⟨_, hb⟩ := hb))) | ((with_reducible refine W_gd (fun h => ?_) (fun h => ?_)) <;> (try (exfalso; first | assumption | omega)))) <;> (try simp (disch := first | assumption | omega) only [go_sem, seval, hlb, hlv, *]))))
            all_goals (first | refine W_ret res19 hQ ?_ | refine W_norm res19 hQ ?_ | refine G_pan hQ ?_)
            all_goals exact ⟨_, T, wk_scE, Fg.setA HFS.out HTR.out, rfl, rfl⟩
          · rw [if_neg h8] at hR4
            subst hR4
            (repeat' (first | refine Ctl ?_ | ((with_reducible refine Kof.use hK ?_); clear hK hE K E) | ((with_reducible refine Eof.use hE ?_); (try clear hK hE K E)) | ((with_reducible refine Kof.use hKh ?_); clear hKh Kh) | ((with_reducible refine Kof.use hKb (P_next ?_)); clear hKb Kb) | (with_reducible first | refine G_planT 7 (.two [0, 1, 2, 3, 4, 5, 6] 7 [[]] (.one [8, 9, 10] 11 [[8, 9, 10], []] (.one [] 12 [[], [10], []] (.fin [13]))) 11 [[0, 1, 2, 3, 4, 5, 6]] (.one [] 7 [[], []] (.one [8, 9, 10] 12 [[10], [], []] (.fin [13])))) hQe fun K E hK hE => ?_ | refine G_plan 16 [([0, 1, 2, 3, 4, 5, 6, 7, 8, 9, 10, 11, 12], 13, [[]])] [14, 15] hQe fun K E hK hE => ?_) | ((with_reducible refine W_cond (fun h => ?_) (fun h => ?_)) <;> (try (exfalso; first | assumption | omega))) | ((first | (with_reducible first | refine G_region fun K E hK hE => ?_ | refine W_if ?_ | refine W_ifS ?_ | refine P_heads fun Kh hKh => ?_ | refine P_fin fun Kh hKh => ?_ | refine P_each fun Kb hKb => ?_ | refine T_heads fun Kh hKh => ?_ | refine T_fin fun Kh hKh => ?_ | refine T_two fun Kh hKh => ?_ | refine T_both (fun Kb hKb => ?_) (fun Kb hKb => ?_) | refine W_and ?_) | ((with_reducible refine W_fresh (fun b hb => ?_)); (repeat (obtain ⟨_, hb⟩ := hb))) | ((with_reducible refine W_gd (fun h => ?_) (fun h => ?_)) <;> (try (exfalso; first | assumption | omega)))) <;> (try simp (disch := first | assumption | omega) only [go_sem, seval, hlb, hlv, *]))))
            all_goals (first | refine W_ret res19 hQ ?_ | refine W_norm res19 hQ ?_ | refine G_pan hQ ?_)
            all_goals exact ⟨_, T, wk_scO, Fg.setA HFS.out HTR.out, rfl, rfl⟩
end Go.Proofs.YtdibndmkeipgbaaGreatDoor
