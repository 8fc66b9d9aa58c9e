/- What is proved: What oo's writer does: a line, and what stands deeper. Conditions: what is written has at most 2^47 bytes; What oo's writer writes of statements. Conditions: what is written has at most 2^47 bytes. Conditions: those that stand in the statements. -/
import Derived.Test.YtejlknplmfmceaaZOsj
set_option linter.unusedSimpArgs false
set_option linter.unusedVariables false
set_option maxRecDepth 100000
namespace Go.Proofs.Ytejlknplmfmceaa
open Go.RowKit

theorem own_disown {t : St} {o : Own} {T : TypeId} {sz n : Nat} (h : Owned t o T sz n) : (t.disown o).own o T sz n = t := by
  cases o with
  | no => rfl
  | full => rfl
  | at_ b =>
    funext x
    simp only [Owned] at h
    simp only [St.own, St.disown, St.set]
    by_cases hx : x = b
    · subst hx; simp [h]
    · simp [hx]
theorem ownok_disown {t : St} {o : Own} {T : TypeId} {sz n : Nat} (h : Owned t o T sz n) : OwnOk (t.disown o) o n := by
  cases o with
  | no => exact h
  | full => exact h
  | at_ b => simp [OwnOk, St.disown, St.set]
theorem Wr_out {s : St} {r b : Nat} {xs : List VV} {c : Cell} (h : ¬ b = r) : (s.set r (.obj 95 xs)).set b c = (s.set b c).set r (.obj 95 xs) := by
  funext x
  simp only [St.set]
  by_cases h1 : x = b
  · subst h1; simp [h]
  · simp [h1]
def AdOk (b : Nat) (ad : VV) : Prop := ad = .raw (.pointer none) ∨ ad = .ptr b 0
/-- What a method of the writer leaves behind: these bytes. -/
abbrev WS (t : St) (b : Nat) (o : Own) (bs' : List UInt8) (d : Int) (q : Own × VV) : St := Wr ((t.disown o).own q.1 5 1 bs'.length) b q.2 bs' q.1 d
def WO (t : St) (b : Nat) (o : Own) (bs' : List UInt8) (q : Own × VV) : Prop := OwnOk (t.disown o) q.1 bs'.length ∧ NotOwn q.1 b ∧ AdOk b q.2
def WP (t : St) (b : Nat) (o : Own) (bs' : List UInt8) (d : Int) (w : SEnd) (u : St) : Prop := ∃ q : Own × VV, w = .ret (.tup []) ∧ u = WS t b o bs' d q ∧ WO t b o bs' q

theorem Bw_S (t : St) (b : Nat) (ad : VV) (bs : List UInt8) (o : Own) (d : Int) (x : List UInt8) (had : AdOk b ad) (hO : Owned t o 5 1 bs.length) (hn : NotOwn o b) (hl : bs.length + x.length ≤ 140737488355328) :
    SCalls Try.prog 56 [.ptr b 0, .str x] (Wr t b ad bs o d) fun e u => ∃ q : Own × VV, e = .ret (.tup [.int .i64 (x.length : Int), .raw .nilIface]) ∧ u = WS t b o (bs ++ x) d q ∧ WO t b o (bs ++ x) q := by
  have := Bwrite_S (t.disown o) b ad bs o d x had (ownok_disown hO) hn hl
  rw [own_disown hO] at this
  refine this.mono ?_
  rintro e u ⟨o', h1, h2, h3, h4⟩
  exact ⟨(o', .ptr b 0), h1, h2, h3, h4, .inr rfl⟩

def lineB (d : Nat) (l : List (List UInt8)) : List UInt8 := Lib.repeatL [32, 32] d ++ Lib.join l [] ++ [10]
theorem repeatL_len (x : List UInt8) : ∀ n : Nat, (Lib.repeatL x n).length = x.length * n
  | 0 => rfl
  | n + 1 => by simp only [Lib.repeatL, List.length_append, repeatL_len x n, Nat.mul_succ]; omega
set_option maxHeartbeats 1000000 in
theorem line_S (t : St) (b : Nat) (ad : VV) (bs : List UInt8) (o : Own) (d : Nat) (l : List (List UInt8)) (o0 : Own) (had : AdOk b ad) (hO : Owned t o 5 1 bs.length) (hn : NotOwn o b) (hl : bs.length + (lineB d l).length ≤ 140737488355328) (hN : l.length ≤ 1000) (hd : d ≤ 100000) :
    SCalls Try.prog 41 [.ptr b 0, .lst (strs l) o0] (Wr t b ad bs o d) (WP t b o (bs ++ lineB d l) d) := by
  have hln : (lineB d l).length = 2 * d + (Lib.join l []).length + 1 := by simp [lineB, repeatL_len, Nat.add_assoc]
  have hj : (Lib.join l []).length ≤ 140737488355328 := by omega
  have hN2 : l.length ≤ 140737488355328 := by omega
  have hr : ([32, 32] : List UInt8).length * d ≤ 140737488355328 := by simp; omega
  have hd2 : d ≤ 9223372036854775807 := by omega
  have hs1 : (Lib.repeatL [32, 32] d).length + (Lib.join l []).length ≤ 9223372036854775807 := by rw [repeatL_len]; simp; omega
  have hs2 : (Lib.repeatL [32, 32] d ++ Lib.join l []).length + 1 ≤ 9223372036854775807 := by rw [List.length_append, repeatL_len]; simp; omega
  have hw : bs.length + (Lib.repeatL [32, 32] d ++ Lib.join l [] ++ [10]).length ≤ 140737488355328 := hl
  refine G_enter Try.func41 rfl Try.ntmps41 rfl fun Q hQ hQe => ?_
  (repeat' (first | refine Ctl ?_ | ((with_reducible refine Kof.use hK ?_); clear hK hE K E) | ((with_reducible refine Eof.use hE ?_); (try clear hK hE K E)) | ((with_reducible refine Kof.use hKh ?_); clear hKh Kh) | ((with_reducible refine Kof.use hKb (P_next ?_)); clear hKb Kb) | (with_reducible refine G_plan 0 [([0, 1, 2, 3, 4, 5, 6, 8], 7, [[0, 1, 2, 8]]), ([], 9, [[], [0, 1, 2]]), ([10, 11], 12, [[], [], []])] [] hQe fun K E hK hE => ?_) | ((with_reducible refine W_cond (fun h => ?_) (fun h => ?_)) <;> (try (exfalso; first | assumption | omega))) | ((first | (with_reducible first | refine G_region fun K E hK hE => ?_ | refine call_ret can57 (Repeat_S _ _ (by assumption) (by assumption) _) ?_ | refine call_ret can58 (Join_S _ _ _ (by assumption) (by assumption) _) ?_ | refine W_if ?_ | refine W_ifS ?_ | refine P_heads fun Kh hKh => ?_ | refine P_fin fun Kh hKh => ?_ | refine P_each fun Kb hKb => ?_ | refine W_and ?_) | ((with_reducible refine call_ex can56 (Bw_S _ _ _ _ _ _ _ (by assumption) (by assumption) (by assumption) (by assumption)) (fun a h => ?_))) | ((with_reducible refine call_ex can56 (Bwrite_S _ _ _ _ _ _ _ (by assumption) (by assumption) (by assumption) (by assumption)) (fun a h => ?_))) | ((with_reducible refine call_ex can56 (Cwrite_S _ _ _ _ _ _ (by assumption) (by assumption) (by assumption) (by assumption)) (fun a h => ?_))) | ((with_reducible refine call_ex can56 (Bw_S _ _ _ _ _ _ _ (by assumption) (by assumption) (by assumption) (by assumption)) (fun a h => ?_))) | ((with_reducible refine call_ex can56 (Cw_S _ _ _ _ _ _ (by assumption) (by assumption) (by assumption) (by first | assumption | (simp only [List.length_append, List.length_cons, List.length_nil]; omega))) (fun a h => ?_)))) <;> (try simp (disch := first | assumption | omega) only [go_sem, seval, Wr, *]))))
  all_goals (first | refine W_ret res41 hQ ?_ | refine W_norm res41 hQ ?_ | refine G_pan hQ ?_)
  exact ⟨_, _, Wk.refl _, Fg.refl _, a, rfl, rfl, h⟩

theorem within_S (t : St) (b : Nat) (ad : VV) (bs bs' : List UInt8) (o : Own) (d : Nat) (g : FuncId) (caps : List VV) (hd : d ≤ 100000) (hg : Callable Try.prog g)
    (h : SCalls Try.prog g caps (Wr t b ad bs o ((d + 1 : Nat) : Int)) (WP t b o bs' ((d + 1 : Nat) : Int))) :
    SCalls Try.prog 42 [.ptr b 0, .fn g caps] (Wr t b ad bs o d) (WP t b o bs' d) := by
  refine G_enter Try.func42 rfl Try.ntmps42 rfl fun Q hQ hQe => ?_
  unfold WP at h
  (repeat' (first | refine Ctl ?_ | ((with_reducible refine Kof.use hK ?_); clear hK hE K E) | ((with_reducible refine Eof.use hE ?_); (try clear hK hE K E)) | ((with_reducible refine W_cond (fun h => ?_) (fun h => ?_)) <;> (try (exfalso; first | assumption | omega))) | ((first | (with_reducible first | refine G_region fun K E hK hE => ?_ | refine W_if ?_ | refine W_ifS ?_ | refine W_and ?_)) <;> (try simp (disch := first | assumption | omega) only [go_sem, seval, Wr, WS, *])) | ((with_reducible refine call_ex hg h (fun a h => ?_)); (try simp (disch := first | assumption | omega) only [go_sem, seval, Wr, WS, *]))))
  all_goals (first | refine W_ret res42 hQ ?_ | refine W_norm res42 hQ ?_ | refine G_pan hQ ?_)
  exact ⟨_, _, Wk.refl _, Fg.refl _, a, rfl, rfl, by assumption⟩
end Go.Proofs.Ytejlknplmfmceaa
set_option maxRecDepth 100000
namespace Go.Proofs.Ytejlknplmfmceaa
open Go.RowKit

def dstB (d : List UInt8) : List UInt8 := if d = [] then [] else d ++ [32, 61, 32]
def argsB (ar : List (List UInt8)) : List UInt8 := [40] ++ Lib.join ar [44, 32] ++ [41, 59]
mutual
def stmB : Stm → Nat → List UInt8
  | .mk k d s c m ar o t, dp =>
    if k = 1 then lineB dp [dstB d, [110, 101, 119, 32], m, [59]]
    else if k = 2 then lineB dp [dstB d, s, [59]]
    else if k = 3 then lineB dp [dstB d, s, [46], m, [59]]
    else if k = 4 then lineB dp [d, [46], m, [32, 61, 32], s, [59]]
    else if k = 5 then lineB dp [dstB d, s, [46], m, argsB ar]
    else if k = 6 then lineB dp [dstB d, c, [58, 58], m, argsB ar]
    else if k = 7 then lineB dp [[114, 101, 116, 117, 114, 110, 32], s, [59]]
    else if k = 8 then lineB dp [[105, 102, 32, 123]] ++ blkB o (dp + 1) ++ lineB dp [[125, 32, 101, 108, 115, 101, 32, 123]] ++ blkB t (dp + 1) ++ lineB dp [[125]]
    else if k = 9 then lineB dp [[108, 111, 111, 112, 32, 123]] ++ blkB o (dp + 1) ++ lineB dp [[125]]
    else []
def blkB : List Stm → Nat → List UInt8
  | [], _ => []
  | x :: l, dp => stmB x dp ++ blkB l dp
end
theorem blkB_app (l r : List Stm) (dp : Nat) : blkB (l ++ r) dp = blkB l dp ++ blkB r dp := by
  induction l with
  | nil => simp [blkB]
  | cons x l ih => simp only [List.cons_append, blkB, ih, List.append_assoc]
theorem blkB_tk {l : List Stm} {i : Nat} {x : Stm} (h : l[i]? = some x) (dp : Nat) : blkB (l.take (i + 1)) dp = blkB (l.take i) dp ++ stmB x dp := by
  rw [take_at h, blkB_app]; simp [blkB]
theorem blkB_at {l : List Stm} {i : Nat} {x : Stm} (h : l[i]? = some x) (dp : Nat) : blkB l dp = blkB (l.take i) dp ++ stmB x dp ++ blkB (l.drop (i + 1)) dp := by
  conv => lhs; rw [split_at h, blkB_app]
  simp only [blkB, List.append_assoc]

/-- Texts out of the cells of a slice of them. -/
def unS : List (List VV) → List (List UInt8)
  | [.str x] :: r => x :: unS r
  | _ => []
theorem unS_nil : unS [] = [] := rfl
theorem unS_cons {x : List UInt8} {r : List (List VV)} : unS ([.str x] :: r) = x :: unS r := rfl
attribute [go_sem] unS_nil unS_cons
theorem lineX_S (t : St) (b : Nat) (ad : VV) (bs : List UInt8) (o : Own) (d : Nat) (xs : List (List VV)) (o0 : Own) (he : strs (unS xs) = xs) (hN : (unS xs).length ≤ 1000) (had : AdOk b ad) (hO : Owned t o 5 1 bs.length) (hn : NotOwn o b)
    (hl : bs.length + (lineB d (unS xs)).length ≤ 140737488355328) (hd : d ≤ 100000) :
    SCalls Try.prog 41 [.ptr b 0, .lst xs o0] (Wr t b ad bs o d) (fun e u => ∃ q : Own × VV, e = .ret (.tup []) ∧ u = WS t b o (bs ++ lineB d (unS xs)) d q ∧ WO t b o (bs ++ lineB d (unS xs)) q) := by
  have := line_S t b ad bs o d (unS xs) o0 had hO hn hl hN hd
  rw [he] at this
  exact this

/-- The block's own contract. -/
def BlkC (l : List Stm) (d : Nat) : Prop := ∀ (o0 : Own) (t : St) (b : Nat) (ad : VV) (bs : List UInt8) (o : Own), AdOk b ad → Owned t o 5 1 bs.length → NotOwn o b → bs.length + (blkB l d).length ≤ 140737488355328 →
  SCalls Try.prog 60 [.ptr b 0, .lst (stsC l) o0] (Wr t b ad bs o d) (fun e u => ∃ q : Own × VV, e = .ret (.tup []) ∧ u = WS t b o (bs ++ blkB l d) d q ∧ WO t b o (bs ++ blkB l d) q)

theorem clo1_S {k : Int} {dt sr c m : List UInt8} {ar : List (List UInt8)} {oo tt : List Stm} {d : Nat} (hd : d ≤ 100000) (hB : BlkC oo (d + 1)) (t : St) (b : Nat) (ad : VV) (bs : List UInt8) (o : Own) (x2 x5 : Nat) (n2 : ¬ x2 = b) (n5 : ¬ x5 = b)
    (h2 : t x2 = .obj 89 [.ptr b 0]) (h5 : t x5 = .obj 58 (stC (.mk k dt sr c m ar oo tt))) (had : AdOk b ad) (hO : Owned t o 5 1 bs.length) (hn : NotOwn o b) (hl : bs.length + (blkB oo (d + 1)).length ≤ 140737488355328) :
    SCalls Try.prog 42 [.ptr b 0, .fn 84 [.ptr x2 0, .ptr x5 0]] (Wr t b ad bs o d) (fun e u => ∃ q : Own × VV, e = .ret (.tup []) ∧ u = WS t b o (bs ++ blkB oo (d + 1)) d q ∧ WO t b o (bs ++ blkB oo (d + 1)) q) := by
  refine within_S t b ad bs _ o d _ _ hd can84 ?_
  refine G_enter Try.func84 rfl Try.ntmps84 rfl fun Q hQ hQe => ?_
  have hB2 := fun o0 => hB o0 t b ad bs o had hO hn hl
  clear hB
  simp only [stC, strsV, strs_C] at h5
  (repeat' (first | refine Ctl ?_ | ((with_reducible refine Kof.use hK ?_); clear hK hE K E) | ((with_reducible refine Eof.use hE ?_); (try clear hK hE K E)) | ((with_reducible refine W_cond (fun h => ?_) (fun h => ?_)) <;> (try (exfalso; first | assumption | omega))) | ((first | (with_reducible first | refine G_region fun K E hK hE => ?_ | refine W_if ?_ | refine W_ifS ?_ | refine W_and ?_) | ((with_reducible refine call_ex can60 (hB2 _) (fun a h => ?_)))) <;> (try simp (disch := first | assumption | omega) only [go_sem, seval, Wr, WS, *]))))
  all_goals (first | refine W_ret res84 hQ ?_ | refine W_norm res84 hQ ?_ | refine G_pan hQ ?_)
  all_goals exact ⟨_, _, Wk.refl _, Fg.refl _, a, rfl, rfl, by assumption⟩
theorem clo2_S {k : Int} {dt sr c m : List UInt8} {ar : List (List UInt8)} {oo tt : List Stm} {d : Nat} (hd : d ≤ 100000) (hB : BlkC tt (d + 1)) (t : St) (b : Nat) (ad : VV) (bs : List UInt8) (o : Own) (x2 x5 : Nat) (n2 : ¬ x2 = b) (n5 : ¬ x5 = b)
    (h2 : t x2 = .obj 89 [.ptr b 0]) (h5 : t x5 = .obj 58 (stC (.mk k dt sr c m ar oo tt))) (had : AdOk b ad) (hO : Owned t o 5 1 bs.length) (hn : NotOwn o b) (hl : bs.length + (blkB tt (d + 1)).length ≤ 140737488355328) :
    SCalls Try.prog 42 [.ptr b 0, .fn 85 [.ptr x2 0, .ptr x5 0]] (Wr t b ad bs o d) (fun e u => ∃ q : Own × VV, e = .ret (.tup []) ∧ u = WS t b o (bs ++ blkB tt (d + 1)) d q ∧ WO t b o (bs ++ blkB tt (d + 1)) q) := by
  refine within_S t b ad bs _ o d _ _ hd can85 ?_
  refine G_enter Try.func85 rfl Try.ntmps85 rfl fun Q hQ hQe => ?_
  have hB2 := fun o0 => hB o0 t b ad bs o had hO hn hl
  clear hB
  simp only [stC, strsV, strs_C] at h5
  (repeat' (first | refine Ctl ?_ | ((with_reducible refine Kof.use hK ?_); clear hK hE K E) | ((with_reducible refine Eof.use hE ?_); (try clear hK hE K E)) | ((with_reducible refine W_cond (fun h => ?_) (fun h => ?_)) <;> (try (exfalso; first | assumption | omega))) | ((first | (with_reducible first | refine G_region fun K E hK hE => ?_ | refine W_if ?_ | refine W_ifS ?_ | refine W_and ?_) | ((with_reducible refine call_ex can60 (hB2 _) (fun a h => ?_)))) <;> (try simp (disch := first | assumption | omega) only [go_sem, seval, Wr, WS, *]))))
  all_goals (first | refine W_ret res85 hQ ?_ | refine W_norm res85 hQ ?_ | refine G_pan hQ ?_)
  all_goals exact ⟨_, _, Wk.refl _, Fg.refl _, a, rfl, rfl, by assumption⟩
theorem clo3_S {k : Int} {dt sr c m : List UInt8} {ar : List (List UInt8)} {oo tt : List Stm} {d : Nat} (hd : d ≤ 100000) (hB : BlkC oo (d + 1)) (t : St) (b : Nat) (ad : VV) (bs : List UInt8) (o : Own) (x2 x5 : Nat) (n2 : ¬ x2 = b) (n5 : ¬ x5 = b)
    (h2 : t x2 = .obj 89 [.ptr b 0]) (h5 : t x5 = .obj 58 (stC (.mk k dt sr c m ar oo tt))) (had : AdOk b ad) (hO : Owned t o 5 1 bs.length) (hn : NotOwn o b) (hl : bs.length + (blkB oo (d + 1)).length ≤ 140737488355328) :
    SCalls Try.prog 42 [.ptr b 0, .fn 86 [.ptr x2 0, .ptr x5 0]] (Wr t b ad bs o d) (fun e u => ∃ q : Own × VV, e = .ret (.tup []) ∧ u = WS t b o (bs ++ blkB oo (d + 1)) d q ∧ WO t b o (bs ++ blkB oo (d + 1)) q) := by
  refine within_S t b ad bs _ o d _ _ hd can86 ?_
  refine G_enter Try.func86 rfl Try.ntmps86 rfl fun Q hQ hQe => ?_
  have hB2 := fun o0 => hB o0 t b ad bs o had hO hn hl
  clear hB
  simp only [stC, strsV, strs_C] at h5
  (repeat' (first | refine Ctl ?_ | ((with_reducible refine Kof.use hK ?_); clear hK hE K E) | ((with_reducible refine Eof.use hE ?_); (try clear hK hE K E)) | ((with_reducible refine W_cond (fun h => ?_) (fun h => ?_)) <;> (try (exfalso; first | assumption | omega))) | ((first | (with_reducible first | refine G_region fun K E hK hE => ?_ | refine W_if ?_ | refine W_ifS ?_ | refine W_and ?_) | ((with_reducible refine call_ex can60 (hB2 _) (fun a h => ?_)))) <;> (try simp (disch := first | assumption | omega) only [go_sem, seval, Wr, WS, *]))))
  all_goals (first | refine W_ret res86 hQ ?_ | refine W_norm res86 hQ ?_ | refine G_pan hQ ?_)
  all_goals exact ⟨_, _, Wk.refl _, Fg.refl _, a, rfl, rfl, by assumption⟩

theorem totL_len : ∀ l : List Stm, l.length ≤ totL l
  | [] => by simp
  | x :: l => by have := totL_len l; have := totS_pos x; simp only [totL, List.length_cons]; omega
theorem okA_get {l : List Stm} {dp : Nat} (h : okA l dp = true) {i : Nat} {x : Stm} (hx : l[i]? = some x) : okS x dp = true := by
  rw [okA_at hx] at h
  simp only [Bool.and_eq_true] at h
  exact h.1.2
/-- The texts of a statement that may be are short. -/
theorem may_args {k : Int} {d s c m : List UInt8} {ar : List (List UInt8)} {o t : List Stm} (h : mayB (.mk k d s c m ar o t) = true) : ar.length ≤ 8 ∧ ∀ x, x ∈ ar → x.length ≤ 32 := by
  have key : ar.isEmpty = true ∨ namesB ar = true := by
    simp only [mayB] at h
    repeat (split at h <;> first | (simp only [Bool.and_eq_true] at h; grind) | skip)
  rcases key with h | h
  · have : ar = [] := by simpa using h
    subst this; simp
  · simp only [namesB, Bool.and_eq_true, decide_eq_true_eq] at h
    refine ⟨h.1, fun x hx => ?_⟩
    have := List.all_eq_true.1 h.2 x hx
    simp only [isNameB, signB, Bool.and_eq_true, decide_eq_true_eq] at this
    have h2 := oneK_le32 x
    rw [this.1.2] at h2
    exact h2

/-- The same, said of the base without the builder's own bytes. -/
def BlkD (l : List Stm) (d : Nat) : Prop := ∀ (o0 : Own) (D : St) (b : Nat) (ad : VV) (bs : List UInt8) (o : Own), AdOk b ad → OwnOk D o bs.length → NotOwn o b → bs.length + (blkB l d).length ≤ 140737488355328 →
  SCalls Try.prog 60 [.ptr b 0, .lst (stsC l) o0] (Wr (D.own o 5 1 bs.length) b ad bs o d) (fun e u => ∃ q : Own × VV, e = .ret (.tup []) ∧ u = Wr (D.own q.1 5 1 (bs ++ blkB l d).length) b q.2 (bs ++ blkB l d) q.1 d ∧
    OwnOk D q.1 (bs ++ blkB l d).length ∧ NotOwn q.1 b ∧ AdOk b q.2)
theorem BlkD.c {l : List Stm} {d : Nat} (h : BlkD l d) : BlkC l d := by
  intro o0 t b ad bs o had hO hn hl
  have := h o0 (t.disown o) b ad bs o had (ownok_disown hO) hn hl
  rw [own_disown hO] at this
  exact this

set_option maxHeartbeats 8000000 in
theorem wblock_S (f : Nat) : ∀ (l : List Stm) (dp : Nat), totL l = f → okA l dp = true → StmsOk l → ∀ d, d + f ≤ 100000 → BlkD l d := by
  induction f using Nat.strongRecOn with
  | _ f ih =>
    intro l dp hf hok hl d hd o0 D bw ad bs o had hO hn hlen
    have hll : l.length ≤ 100000 := by have := totL_len l; omega
    have HOK := Lib.hid hok
    clear hok
    refine G_enter Try.func60 rfl Try.ntmps60 rfl fun Q hQ hQe => ?_
    (repeat' (first | refine Ctl ?_ | ((with_reducible refine Kof.use hK ?_); clear hK hE K E) | ((with_reducible refine Eof.use hE ?_); (try clear hK hE K E)) | ((with_reducible refine W_cond (fun h => ?_) (fun h => ?_)) <;> (try (exfalso; first | assumption | omega))) | ((first | (with_reducible first | refine G_region fun K E hK hE => ?_ | refine W_if ?_ | refine W_ifS ?_ | refine W_and ?_) | ((with_reducible refine call_ex can41 (line_S _ _ _ _ _ _ _ _ (by assumption) (by assumption) (by assumption) (by assumption) (by assumption) (by assumption)) (fun a h => ?_))) | ((with_reducible refine W_fresh (fun b hb => ?_)); (repeat (obtain ⟨_, hb⟩ := hb)); (try (simp only [own_fr] at hb; obtain ⟨hno, hb⟩ := hb)))) <;> (try simp (disch := first | assumption | omega) only [go_sem, seval, stsC_len, Wr_out, *]))))
    rename_i nb1 nb2
    obtain ⟨x2, hx2⟩ : ∃ x2, x2 = b := ⟨_, rfl⟩
    subst hx2
    refine G_loop (fun m env s' => ∃ (i : Nat) (o1 : Own) (ad1 : VV) (bs1 : List UInt8), i ≤ l.length ∧ m + i = l.length ∧ bs1 = bs ++ blkB (l.take i) d ∧ s' = Wr ((D.own o1 5 1 bs1.length).set x2 (.obj 89 [.ptr bw 0])) bw ad1 bs1 o1 d ∧
      OwnOk D o1 bs1.length ∧ NotOwn o1 bw ∧ NotOwn o1 x2 ∧ AdOk bw ad1 ∧ env 2 = .ptr x2 0 ∧ env 8 = .lst (stsC l) o0 ∧ env 9 = .int .i64 l.length ∧ env 10 = .int .i64 i) l.length ?_ ?_
    · exact ⟨_, Fg.refl _, 0, o, ad, bs, by omega, by omega, by simp [blkB], rfl, hO, hn, hno, had, z_sl, z_sl, z_sl, z_sl⟩
    · clear hO hn hno had
      rintro m env s' ⟨i, o1, ad1, bs1, hi, hm, hbs, rfl, hO, hn, hno, had, e2, e8, e9, e10⟩
      by_cases hlt : i < l.length
      · obtain ⟨x, hx⟩ := list_get hlt
        have hxo := hl.get hx
        have hsx := stsC_at hx
        have hmay := okS_may (okA_get HOK.out hx)
        have HB : bs1.length + (stmB x d).length ≤ 140737488355328 := by
          rw [blkB_at hx] at hlen
          rw [hbs]
          simp only [List.length_append] at hlen ⊢
          omega
        have HE : bs1 ++ stmB x d = bs ++ blkB (l.take (i + 1)) d := by rw [blkB_tk hx, hbs, List.append_assoc]
        have hxt := totL_at hx
        have hxk := okA_get HOK.out hx
        obtain ⟨k, dd, sr, c, mm, ar, oo, tt⟩ := x
        obtain ⟨har1, har2⟩ := may_args hmay
        have hjn : ar.length ≤ 140737488355328 := by omega
        have hjl : (Lib.join ar [44, 32]).length ≤ 140737488355328 := by
          have h1 := join_len 32 [44, 32] ar har2
          simp only [List.length_cons, List.length_nil] at h1
          have : ar.length * (32 + (0 + 1 + 1)) ≤ 8 * 34 := Nat.mul_le_mul har1 (by omega)
          omega
        simp only [StmOk] at hxo
        obtain ⟨⟨hd1, hd2, hd3, hd4⟩, _, ⟨ho1, ho2⟩, ⟨ht1, ht2⟩⟩ := hxo
        have HE0 := Lib.hid HE
        have HB0 := Lib.hid hbs
        have HX := Lib.hid hxt
        have HK := Lib.hid hxk
        clear HE hbs hx hmay har1 har2 hxt hxk hlen hl
        have hk : k = 1 ∨ k = 2 ∨ k = 3 ∨ k = 4 ∨ k = 5 ∨ k = 6 ∨ k = 7 ∨ k = 8 ∨ k = 9 := by
          have := HK.out
          simp only [okS, mayB, Bool.and_eq_true] at this
          repeat (first | omega | (split at this <;> first | omega | skip))
          all_goals simp at this
        have hB : ∀ oo2, totL oo2 < totL l → okA oo2 (dp + 1) = true → StmsOk oo2 → BlkC oo2 (d + 1) := fun oo2 h1 h2 h3 =>
          (ih (totL oo2) (by omega) oo2 (dp + 1) rfl h2 h3 (d + 1) (by omega)).c
        by_cases hk7 : k = 8 ∨ k = 9
        · have hoo : BlkC oo (d + 1) := hB oo (by
            have h1 := HX.out
            rcases hk7 with rfl | rfl <;> simp only [totS, seval, if_true, if_false] at h1 <;> omega) (by
            have h1 := HK.out
            simp only [okS, Bool.and_eq_true] at h1
            rcases hk7 with rfl | rfl <;> simp only [seval, if_true, if_false, Bool.and_eq_true] at h1 <;> first | exact h1.2.1.2 | exact h1.2.2) (by assumption)
          have w1 := fun t ad bs o x2 x5 => clo1_S (k := k) (dt := dd) (sr := sr) (c := c) (m := mm) (ar := ar) (tt := tt) (by omega) hoo t bw ad bs o x2 x5
          have w3 := fun t ad bs o x2 x5 => clo3_S (k := k) (dt := dd) (sr := sr) (c := c) (m := mm) (ar := ar) (tt := tt) (by omega) hoo t bw ad bs o x2 x5
          have htt : k = 8 → BlkC tt (d + 1) := fun h8 => hB tt (by
            have h1 := HX.out
            subst h8
            simp only [totS, seval, if_true, if_false] at h1; omega) (by
            have h1 := HK.out
            subst h8
            simp only [okS, Bool.and_eq_true, seval, if_true, if_false] at h1
            exact h1.2.2) (by assumption)
          have w2 := fun (h8 : k = 8) t ad bs o x2 x5 => clo2_S (k := k) (dt := dd) (sr := sr) (c := c) (m := mm) (ar := ar) (oo := oo) (by omega) (htt h8) t bw ad bs o x2 x5
          clear hB hoo htt
          simp only [stC, strsV, strs_C] at w1 w2 w3
          rcases hk7 with rfl | rfl
          all_goals simp only [stmB, seval, if_true, if_false] at HB
          all_goals try replace w2 := w2 rfl
          all_goals have hdd : dd = [] ∨ ¬ dd = [] := Classical.em _
          all_goals rcases hdd with rfl | hdd
          all_goals clear hk
          all_goals (repeat' (first | refine Ctl ?_ | ((with_reducible refine Kof.use hK ?_); clear hK hE K E) | ((with_reducible refine Eof.use hE ?_); (try clear hK hE K E)) | ((with_reducible refine W_cond (fun h => ?_) (fun h => ?_)) <;> (try (exfalso; first | assumption | omega))) | ((first | (with_reducible first | refine G_region fun K E hK hE => ?_ | refine call_ret can58 (Join_S _ _ _ (by assumption) (by assumption) _) ?_ | refine W_if ?_ | refine W_ifS ?_ | refine W_and ?_) | ((with_reducible refine call_ex can41 (lineX_S _ _ _ _ _ _ _ _ (by simp only [unS_nil, unS_cons, strs, List.map_cons, List.map_nil]) (by simp only [unS_nil, unS_cons, List.length_cons, List.length_nil]; omega) (by assumption) (by simp (disch := assumption) only [owned_set, owned_own]) (by assumption) (by simp only [unS_nil, unS_cons, List.length_append] at HB ⊢; omega) (by omega)) (fun a h => ?_)); (obtain ⟨o2, ad2⟩ := a; simp (disch := assumption) only [WO, disown_set, disown_own, ownok_o, unS_nil, unS_cons] at h; obtain ⟨⟨hn5, hn2, hO2⟩, hnb2, had2⟩ := h)) | ((with_reducible refine call_ex can42 (w1 _ _ _ _ _ _ (by assumption) (by assumption) (by simp (disch := first | assumption | omega) only [go_sem, seval, *]) (by simp (disch := first | assumption | omega) only [go_sem, seval, *]) (by assumption) (by simp (disch := assumption) only [owned_set, owned_own]) (by assumption) (by simp only [unS_nil, unS_cons, List.length_append] at HB ⊢; omega)) (fun a h => ?_)); (obtain ⟨o2, ad2⟩ := a; simp (disch := assumption) only [WO, disown_set, disown_own, ownok_o, unS_nil, unS_cons] at h; obtain ⟨⟨hn5, hn2, hO2⟩, hnb2, had2⟩ := h)) | ((with_reducible refine call_ex can42 (w2 _ _ _ _ _ _ (by assumption) (by assumption) (by simp (disch := first | assumption | omega) only [go_sem, seval, *]) (by simp (disch := first | assumption | omega) only [go_sem, seval, *]) (by assumption) (by simp (disch := assumption) only [owned_set, owned_own]) (by assumption) (by simp only [unS_nil, unS_cons, List.length_append] at HB ⊢; omega)) (fun a h => ?_)); (obtain ⟨o2, ad2⟩ := a; simp (disch := assumption) only [WO, disown_set, disown_own, ownok_o, unS_nil, unS_cons] at h; obtain ⟨⟨hn5, hn2, hO2⟩, hnb2, had2⟩ := h)) | ((with_reducible refine call_ex can42 (w3 _ _ _ _ _ _ (by assumption) (by assumption) (by simp (disch := first | assumption | omega) only [go_sem, seval, *]) (by simp (disch := first | assumption | omega) only [go_sem, seval, *]) (by assumption) (by simp (disch := assumption) only [owned_set, owned_own]) (by assumption) (by simp only [unS_nil, unS_cons, List.length_append] at HB ⊢; omega)) (fun a h => ?_)); (obtain ⟨o2, ad2⟩ := a; simp (disch := assumption) only [WO, disown_set, disown_own, ownok_o, unS_nil, unS_cons] at h; obtain ⟨⟨hn5, hn2, hO2⟩, hnb2, had2⟩ := h)) | ((with_reducible refine call_ex can41 (line_S _ _ _ _ _ _ _ _ (by assumption) (by assumption) (by assumption) (by assumption) (by assumption) (by assumption)) (fun a h => ?_)); (obtain ⟨o2, ad2⟩ := a; simp (disch := assumption) only [WO, disown_set, disown_own, ownok_o, unS_nil, unS_cons] at h; obtain ⟨⟨hn5, hn2, hO2⟩, hnb2, had2⟩ := h)) | ((with_reducible refine W_fresh (fun b hb => ?_)); (repeat (obtain ⟨_, hb⟩ := hb)); (try (simp only [own_fr] at hb; obtain ⟨hno5, hb⟩ := hb)))) <;> (try simp (disch := first | assumption | omega) only [go_sem, seval, stsC_len, hsx, stC, strsV, strs_C, Wr, WS, Wr_out, *]))))
          all_goals
            have hE := HE0.out
            simp only [stmB, dstB, argsB, seval, if_true, if_false, List.cons_append, List.nil_append, ← List.append_assoc, *] at hE
            exact ⟨_, (z_fg : Fg _ (Wr ((D.own o2 5 1 _).set x2 (.obj 89 [.ptr bw 0])) bw ad2 _ o2 d)), m - 1, by omega, i + 1, o2, ad2, _, by omega, by omega, hE, rfl, by assumption, by assumption, by assumption, by assumption, z_sl, z_sl, z_sl, z_sl⟩
        · clear hB
          have hdd : dd = [] ∨ ¬ dd = [] := Classical.em _
          rcases hdd with rfl | hdd
          all_goals rcases hk with rfl | rfl | rfl | rfl | rfl | rfl | rfl | rfl | rfl
          all_goals first | (exfalso; omega; done) | skip
          all_goals
            simp only [stmB, dstB, argsB, seval, if_true, if_false, List.cons_append, List.nil_append, *] at HB
          all_goals (repeat' (first | refine Ctl ?_ | ((with_reducible refine Kof.use hK ?_); clear hK hE K E) | ((with_reducible refine Eof.use hE ?_); (try clear hK hE K E)) | ((with_reducible refine W_cond (fun h => ?_) (fun h => ?_)) <;> (try (exfalso; first | assumption | omega))) | ((first | (with_reducible first | refine G_region fun K E hK hE => ?_ | refine call_ret can58 (Join_S _ _ _ (by assumption) (by assumption) _) ?_ | refine W_if ?_ | refine W_ifS ?_ | refine W_and ?_) | ((with_reducible refine call_ex can41 (lineX_S _ _ _ _ _ _ _ _ (by simp only [unS_nil, unS_cons, strs, List.map_cons, List.map_nil]) (by simp only [unS_nil, unS_cons, List.length_cons, List.length_nil]; omega) (by assumption) (by simp (disch := assumption) only [owned_set, owned_own]) (by assumption) (by simp only [unS_nil, unS_cons, List.length_append] at HB ⊢; omega) (by omega)) (fun a h => ?_)); (obtain ⟨o2, ad2⟩ := a; simp (disch := assumption) only [WO, disown_set, disown_own, ownok_o, unS_nil, unS_cons] at h; obtain ⟨⟨hn5, hn2, hO2⟩, hnb2, had2⟩ := h)) | ((with_reducible refine call_ex can41 (line_S _ _ _ _ _ _ _ _ (by assumption) (by assumption) (by assumption) (by assumption) (by assumption) (by assumption)) (fun a h => ?_)); (obtain ⟨o2, ad2⟩ := a; simp (disch := assumption) only [WO, disown_set, disown_own, ownok_o, unS_nil, unS_cons] at h; obtain ⟨⟨hn5, hn2, hO2⟩, hnb2, had2⟩ := h)) | ((with_reducible refine W_fresh (fun b hb => ?_)); (repeat (obtain ⟨_, hb⟩ := hb)); (try (simp only [own_fr] at hb; obtain ⟨hno5, hb⟩ := hb)))) <;> (try simp (disch := first | assumption | omega) only [go_sem, seval, stsC_len, hsx, stC, strsV, strs_C, Wr, WS, Wr_out, *]))))
          all_goals
            have hE := HE0.out
            simp only [stmB, dstB, argsB, seval, if_true, if_false, List.cons_append, List.nil_append, ← List.append_assoc, *] at hE
            exact ⟨_, (z_fg : Fg _ (Wr ((D.own o2 5 1 _).set x2 (.obj 89 [.ptr bw 0])) bw ad2 _ o2 d)), m - 1, by omega, i + 1, o2, ad2, _, by omega, by omega, hE, rfl, by assumption, by assumption, by assumption, by assumption, z_sl, z_sl, z_sl, z_sl⟩
      · have hiL : i = l.length := by omega
        have htk : l.take i = l := by rw [hiL]; exact List.take_length
        rw [htk] at hbs
        subst hbs
        (repeat' (first | refine Ctl ?_ | ((with_reducible refine Kof.use hK ?_); clear hK hE K E) | ((with_reducible refine Eof.use hE ?_); (try clear hK hE K E)) | ((with_reducible refine W_cond (fun h => ?_) (fun h => ?_)) <;> (try (exfalso; first | assumption | omega))) | ((first | (with_reducible first | refine G_region fun K E hK hE => ?_ | refine W_if ?_ | refine W_ifS ?_ | refine W_and ?_) | ((with_reducible refine call_ex can41 (line_S _ _ _ _ _ _ _ _ (by assumption) (by assumption) (by assumption) (by assumption) (by assumption) (by assumption)) (fun a h => ?_))) | ((with_reducible refine W_fresh (fun b hb => ?_)); (repeat (obtain ⟨_, hb⟩ := hb)))) <;> (try simp (disch := first | assumption | omega) only [go_sem, seval, Wr, Wr_out, *]))))
        all_goals (first | refine W_ret res60 hQ ?_ | refine W_norm res60 hQ ?_ | refine G_pan hQ ?_)
        all_goals exact ⟨_, _, Wk.refl _, z_fg, (o1, ad1), rfl, rfl, hO, hn, had⟩
end Go.Proofs.Ytejlknplmfmceaa
