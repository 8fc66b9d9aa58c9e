/- What is proved: What the reader of package osierref11 hands back, where it refuses nothing; What the document's reader of terms and atoms hands back, where it refuses nothing; What the document's reader of atoms hands back, where it refuses nothing. Conditions: those that stand in the statements. -/
import Derived.Test.YtdibndmkeipgbaaGreatDoorZUbj
import Derived.Test.YtdibndmkeipgbaaGreatDoorZRlj
import Derived.Test.YtdibndmkeipgbaaGreatDoorZUfj
set_option linter.unusedSimpArgs false
set_option linter.unusedVariables false
set_option maxRecDepth 100000
namespace Go.Proofs.YtdibndmkeipgbaaGreatDoor
open Go.RowKit

/-- A memory in which the document's reader of rules stands at a sign, and has refused nothing. -/
def Rw (s : St) (r e : Nat) (W : List Sgn) (i : Nat) : St := s.set r (.obj 88 [.lst (W.map sgnC) .no, .int .i64 i, .int .i64 e, .int .i64 0, .int .i64 0])
theorem Rw_at {s : St} {r e i : Nat} {W : List Sgn} : (Rw s r e W i) r = .obj 88 [.lst (W.map sgnC) .no, .int .i64 i, .int .i64 e, .int .i64 0, .int .i64 0] := St.set_same _ _ _
theorem Rw_gt {s : St} {r e b i : Nat} {W : List Sgn} (h : ¬ b = r) : (Rw s r e W i) b = s b := St.set_other _ _ h
theorem Rw_mk2 {s : St} {r e i j : Nat} {W : List Sgn} : (Rw s r e W i).set r (.obj 88 [.lst (W.map sgnC) .no, .int .i64 j, .int .i64 e, .int .i64 0, .int .i64 0]) = Rw s r e W j := St.set_set _ _ _ _
theorem Rw_free {s : St} {r e b i : Nat} {W : List Sgn} : ((Rw s r e W i) b = .free) = (¬ b = r ∧ ¬ r = b ∧ s b = .free) := set_free_o
theorem Rw_set {s : St} {r e b i : Nat} {W : List Sgn} {c : Cell} (h : ¬ b = r) : (Rw s r e W i).set b c = Rw (s.set b c) r e W i := by
  funext x
  simp only [Rw, St.set]
  by_cases h1 : x = b
  · subst h1; simp [h]
  · simp [h1]
theorem Rw_own {s : St} {r e i : Nat} {W : List Sgn} {o : Own} {T sz n : Nat} (h : NotOwn o r) : (Rw s r e W i).own o T sz n = Rw (s.own o T sz n) r e W i := own_push h
theorem Rw_dis {s : St} {r e i : Nat} {W : List Sgn} {o : Own} (h : NotOwn o r) : (Rw s r e W i).disown o = Rw (s.disown o) r e W i := disown_set h
theorem Rw_ok {s : St} {r e i n : Nat} {W : List Sgn} {o : Own} : OwnOk (Rw s r e W i) o n = (NotOwn o r ∧ OwnOk s o n) := ownok_o
theorem Rw_ownd {s : St} {r e i : Nat} {W : List Sgn} {o : Own} {T sz n : Nat} (h : NotOwn o r) : Owned (Rw s r e W i) o T sz n = Owned s o T sz n := by
  rw [Rw, owned_set h]
theorem Fg.rw {s s' : St} (h : Fg s s') {r e i : Nat} {W : List Sgn} : Fg (Rw s r e W i) (Rw s' r e W i) := Fg.set h _ _
section
attribute [local go_sem] Rw_at Rw_mk2
theorem sgnC_at {W : List Sgn} {i : Nat} {x : Sgn} (h : W[i]? = some x) : (W.map sgnC)[i]? = some [.int .i64 x.kind, .str x.text, .int .i64 x.at_] := by rw [List.getElem?_map, h]; rfl
theorem Yis_S (s : St) (r e i : Nat) (W : List Sgn) (t : List UInt8) (hi : i ≤ W.length) : SRet Tryz.prog 34 [.ptr r 0, .str t] (Rw s r e W i) (.bool (isT W i t)) (Rw s r e W i) := by
  refine G_enter Tryz.func34 rfl Tryz.ntmps34 rfl fun Q hQ hQe => ?_
  by_cases hlt : i < W.length
  · obtain ⟨x, hx⟩ : ∃ x, W[i]? = some x := ⟨_, List.getElem?_eq_getElem hlt⟩
    have hsx := sgnC_at hx
    have hres : isT W i t = decide (x.text = t) := by simp [isT, hx]
    have HR := Lib.hid hres
    clear hx hres
    (repeat' (first | refine Ctl ?_ | ((with_reducible refine Kof.use hK ?_); clear hK hE K E) | ((with_reducible refine Eof.use hE ?_); (try clear hK hE K E)) | ((with_reducible refine Kof.use hKh ?_); clear hKh Kh) | ((with_reducible refine Kof.use hKb (P_next ?_)); clear hKb Kb) | (with_reducible refine G_plan 1 [] [0, 1, 2, 3, 4, 5, 6, 7, 8, 9, 10, 11, 12, 13, 14, 15, 16, 17, 18, 19, 20, 21, 22, 23, 24, 25] hQe fun K E hK hE => ?_) | ((with_reducible refine W_cond (fun h => ?_) (fun h => ?_)) <;> (try (exfalso; first | assumption | omega))) | ((first | (with_reducible first | refine G_region fun K E hK hE => ?_ | refine W_if ?_ | refine W_ifS ?_ | refine P_heads fun Kh hKh => ?_ | refine P_fin fun Kh hKh => ?_ | refine P_each fun Kb hKb => ?_ | refine W_and ?_) | ((with_reducible refine W_gd (fun h => ?_) (fun h => ?_)) <;> (try (exfalso; first | assumption | omega)))) <;> (try simp (disch := first | assumption | omega) only [go_sem, seval, List.length_map, hsx, *]))))
    all_goals (first | refine W_ret res34 hQ ?_ | refine W_norm res34 hQ ?_ | refine G_pan hQ ?_)
    all_goals (refine ⟨_, _, Wk.of_eq ?_, ?_, rfl, rfl⟩)
    · rw [HR.out]
    · (exact z_fg)
  · have hres : isT W i t = false := by simp [isT, List.getElem?_eq_none (by omega : W.length ≤ i)]
    have HR := Lib.hid hres
    clear hres
    (repeat' (first | refine Ctl ?_ | ((with_reducible refine Kof.use hK ?_); clear hK hE K E) | ((with_reducible refine Eof.use hE ?_); (try clear hK hE K E)) | ((with_reducible refine Kof.use hKh ?_); clear hKh Kh) | ((with_reducible refine Kof.use hKb (P_next ?_)); clear hKb Kb) | (with_reducible refine G_plan 1 [] [0, 1, 2, 3, 4, 5, 6, 7, 8, 9, 10, 11, 12, 13, 14, 15, 16, 17, 18, 19, 20, 21, 22, 23, 24, 25] hQe fun K E hK hE => ?_) | ((with_reducible refine W_cond (fun h => ?_) (fun h => ?_)) <;> (try (exfalso; first | assumption | omega))) | ((first | (with_reducible first | refine G_region fun K E hK hE => ?_ | refine W_if ?_ | refine W_ifS ?_ | refine P_heads fun Kh hKh => ?_ | refine P_fin fun Kh hKh => ?_ | refine P_each fun Kb hKb => ?_ | refine W_and ?_) | ((with_reducible refine W_gd (fun h => ?_) (fun h => ?_)) <;> (try (exfalso; first | assumption | omega)))) <;> (try simp (disch := first | assumption | omega) only [go_sem, seval, List.length_map, *]))))
    all_goals (first | refine W_ret res34 hQ ?_ | refine W_norm res34 hQ ?_ | refine G_pan hQ ?_)
    all_goals (refine ⟨_, _, Wk.of_eq ?_, ?_, rfl, rfl⟩)
    · rw [HR.out]
    · (exact z_fg)
theorem Ytakes_S (s : St) (r e i : Nat) (W : List Sgn) (t : List UInt8) (hw : W.length ≤ 40000) (h : isT W i t = true) : SRet Tryz.prog 38 [.ptr r 0, .str t] (Rw s r e W i) (.tup []) (Rw s r e W (i + 1)) := by
  have hi : i < W.length := by
    rcases Nat.lt_or_ge i W.length with h1 | h1
    · exact h1
    · simp [isT, List.getElem?_eq_none h1] at h
  have h1 := fun s => Yis_S s r e i W t (by omega)
  rw [h] at h1
  clear h
  refine G_enter Tryz.func38 rfl Tryz.ntmps38 rfl fun Q hQ hQe => ?_
  (repeat' (first | refine Ctl ?_ | ((with_reducible refine Kof.use hK ?_); clear hK hE K E) | ((with_reducible refine Eof.use hE ?_); (try clear hK hE K E)) | ((with_reducible refine W_cond (fun h => ?_) (fun h => ?_)) <;> (try (exfalso; first | assumption | omega))) | ((first | (with_reducible first | refine G_region fun K E hK hE => ?_ | refine call_ret can34 (h1 _) ?_ | refine call_ret can34 (Yis_S _ _ _ _ _ _ (by assumption)) ?_ | refine W_if ?_ | refine W_ifS ?_ | refine W_and ?_)) <;> (try simp (disch := first | assumption | omega) only [go_sem, seval, *]))))
  all_goals (first | refine W_ret res38 hQ ?_ | refine W_norm res38 hQ ?_ | refine G_pan hQ ?_)
  all_goals (refine ⟨_, _, Wk.of_eq ?_, ?_, rfl, rfl⟩)
  all_goals first | rfl | (exact z_fg)
theorem Ykind_S (s : St) (r e i : Nat) (W : List Sgn) (x : Sgn) (k : Nat) (hw : W.length ≤ 40000) (hx : W[i]? = some x) (hk : x.kind = k) : SRet Tryz.prog 36 [.ptr r 0, .int .i64 k] (Rw s r e W i) (.str x.text) (Rw s r e W (i + 1)) := by
  have hi : i < W.length := (List.getElem?_eq_some_iff.1 hx).1
  have hsx := sgnC_at hx
  have hk2 : (x.kind : Int) = (k : Int) := by omega
  have hsub : ((i + 1 : Nat) : Int) - 1 = (i : Int) := by omega
  clear hx hk
  refine G_enter Tryz.func36 rfl Tryz.ntmps36 rfl fun Q hQ hQe => ?_
  (repeat' (first | refine Ctl ?_ | ((with_reducible refine Kof.use hK ?_); clear hK hE K E) | ((with_reducible refine Eof.use hE ?_); (try clear hK hE K E)) | ((with_reducible refine Kof.use hKh ?_); clear hKh Kh) | ((with_reducible refine Kof.use hKb (P_next ?_)); clear hKb Kb) | (with_reducible first | refine G_plan 1 [] [0, 1, 2, 3, 4, 5, 6, 7, 8, 9, 10, 11, 12, 13, 14, 15, 16, 17, 18, 19, 20, 21, 22, 23, 24] hQe fun K E hK hE => ?_ | refine G_plan 5 [] [0, 1, 2, 3, 4, 5, 6, 7, 8, 9, 10, 11, 12] hQe fun K E hK hE => ?_) | ((with_reducible refine W_cond (fun h => ?_) (fun h => ?_)) <;> (try (exfalso; first | assumption | omega))) | ((first | (with_reducible first | refine G_region fun K E hK hE => ?_ | refine W_if ?_ | refine W_ifS ?_ | refine P_heads fun Kh hKh => ?_ | refine P_fin fun Kh hKh => ?_ | refine P_each fun Kb hKb => ?_ | refine W_and ?_) | ((with_reducible refine W_gd (fun h => ?_) (fun h => ?_)) <;> (try (exfalso; first | assumption | omega)))) <;> (try simp (disch := first | assumption | omega) only [go_sem, seval, List.length_map, hsx, hsub, *]))))
  all_goals (first | refine W_ret res36 hQ ?_ | refine W_norm res36 hQ ?_ | refine G_pan hQ ?_)
  all_goals (refine ⟨_, _, Wk.of_eq ?_, ?_, rfl, rfl⟩)
  all_goals first | rfl | (exact z_fg)
theorem Ynext_S (s : St) (r e i : Nat) (W : List Sgn) (a b : Int) (t : List UInt8) (hi : i ≤ W.length) : SCalls Tryz.prog 40 [.ptr r 0, .int .i64 a, .int .i64 b, .str t] (Rw s r e W i) fun w u => ∃ q : Bool, w = .ret (.bool q) ∧ u = Rw s r e W i ∧ True := by
  refine G_enter Tryz.func40 rfl Tryz.ntmps40 rfl fun Q hQ hQe => ?_
  by_cases hlt : i < W.length
  · obtain ⟨x, hx⟩ : ∃ x, W[i]? = some x := ⟨_, List.getElem?_eq_getElem hlt⟩
    have hsx := sgnC_at hx
    clear hx
    (repeat' (first | refine Ctl ?_ | ((with_reducible refine Kof.use hK ?_); clear hK hE K E) | ((with_reducible refine Eof.use hE ?_); (try clear hK hE K E)) | ((with_reducible refine Kof.use hKh ?_); clear hKh Kh) | ((with_reducible refine Kof.use hKb (P_next ?_)); clear hKb Kb) | (with_reducible refine G_plan 1 [] [0, 1, 2, 3, 4, 5, 6, 7, 8, 9, 10, 11, 12, 13, 14, 15, 16, 17, 18, 19, 20, 21, 22, 23, 24, 25, 26, 27, 28, 29, 30, 31, 32, 33, 34, 35, 36, 37, 38, 39, 40, 41, 42, 43, 44, 45, 46, 47, 48, 49, 50, 51, 52, 53, 54, 55] hQe fun K E hK hE => ?_) | ((with_reducible refine W_cond (fun h => ?_) (fun h => ?_)) <;> (try (exfalso; first | assumption | omega))) | ((first | (with_reducible first | refine G_region fun K E hK hE => ?_ | refine W_if ?_ | refine W_ifS ?_ | refine P_heads fun Kh hKh => ?_ | refine P_fin fun Kh hKh => ?_ | refine P_each fun Kb hKb => ?_ | refine W_and ?_) | ((with_reducible refine W_gd (fun h => ?_) (fun h => ?_)) <;> (try (exfalso; first | assumption | omega)))) <;> (try simp (disch := first | assumption | omega) only [go_sem, seval, List.length_map, hsx, *]))))
    all_goals (first | refine W_ret res40 hQ ?_ | refine W_norm res40 hQ ?_ | refine G_pan hQ ?_)
    all_goals exact ⟨_, _, Wk.refl _, z_fg, _, rfl, rfl, trivial⟩
  · (repeat' (first | refine Ctl ?_ | ((with_reducible refine Kof.use hK ?_); clear hK hE K E) | ((with_reducible refine Eof.use hE ?_); (try clear hK hE K E)) | ((with_reducible refine Kof.use hKh ?_); clear hKh Kh) | ((with_reducible refine Kof.use hKb (P_next ?_)); clear hKb Kb) | (with_reducible refine G_plan 1 [] [0, 1, 2, 3, 4, 5, 6, 7, 8, 9, 10, 11, 12, 13, 14, 15, 16, 17, 18, 19, 20, 21, 22, 23, 24, 25, 26, 27, 28, 29, 30, 31, 32, 33, 34, 35, 36, 37, 38, 39, 40, 41, 42, 43, 44, 45, 46, 47, 48, 49, 50, 51, 52, 53, 54, 55] hQe fun K E hK hE => ?_) | ((with_reducible refine W_cond (fun h => ?_) (fun h => ?_)) <;> (try (exfalso; first | assumption | omega))) | ((first | (with_reducible first | refine G_region fun K E hK hE => ?_ | refine W_if ?_ | refine W_ifS ?_ | refine P_heads fun Kh hKh => ?_ | refine P_fin fun Kh hKh => ?_ | refine P_each fun Kb hKb => ?_ | refine W_and ?_) | ((with_reducible refine W_gd (fun h => ?_) (fun h => ?_)) <;> (try (exfalso; first | assumption | omega)))) <;> (try simp (disch := first | assumption | omega) only [go_sem, seval, List.length_map, *]))))
    all_goals (first | refine W_ret res40 hQ ?_ | refine W_norm res40 hQ ?_ | refine G_pan hQ ?_)
    all_goals exact ⟨_, _, Wk.refl _, z_fg, _, rfl, rfl, trivial⟩
theorem Yroom_S (s : St) (r e i : Nat) (W : List Sgn) (hv mst : Int) (b : Bool) (h : hv < mst) : SRet Tryz.prog 35 [.ptr r 0, .int .i64 hv, .int .i64 mst, .bool b] (Rw s r e W i) (.tup []) (Rw s r e W i) := by
  have h2 : ¬ mst ≤ hv := by omega
  refine G_enter Tryz.func35 rfl Tryz.ntmps35 rfl fun Q hQ hQe => ?_
  (repeat' (first | refine Ctl ?_ | ((with_reducible refine Kof.use hK ?_); clear hK hE K E) | ((with_reducible refine Eof.use hE ?_); (try clear hK hE K E)) | ((with_reducible refine W_cond (fun h => ?_) (fun h => ?_)) <;> (try (exfalso; first | assumption | omega))) | ((first | (with_reducible first | refine G_region fun K E hK hE => ?_ | refine W_if ?_ | refine W_ifS ?_ | refine W_and ?_) | ((with_reducible refine W_gd (fun h => ?_) (fun h => ?_)) <;> (try (exfalso; first | assumption | omega)))) <;> (try simp (disch := first | assumption | omega) only [go_sem, seval, *]))))
  all_goals (first | refine W_ret res35 hQ ?_ | refine W_norm res35 hQ ?_ | refine G_pan hQ ?_)
  all_goals (refine ⟨_, _, Wk.of_eq ?_, ?_, rfl, rfl⟩)
  all_goals first | rfl | (exact z_fg)
theorem Ymore1_S (s : St) (r e i : Nat) (W : List Sgn) (hw : W.length ≤ 40000) (hi : i ≤ W.length) (hc : isT W i [44] = true) : SRet Tryz.prog 52 [.ptr r 0] (Rw s r e W i) (.bool true) (Rw s r e W (i + 1)) := by
  have h1 := fun s => Yis_S s r e i W [44] hi
  rw [hc] at h1
  clear hc
  refine G_enter Tryz.func52 rfl Tryz.ntmps52 rfl fun Q hQ hQe => ?_
  (repeat' (first | refine Ctl ?_ | ((with_reducible refine Kof.use hK ?_); clear hK hE K E) | ((with_reducible refine Eof.use hE ?_); (try clear hK hE K E)) | ((with_reducible refine W_cond (fun h => ?_) (fun h => ?_)) <;> (try (exfalso; first | assumption | omega))) | ((first | (with_reducible first | refine G_region fun K E hK hE => ?_ | refine call_ret can34 (h1 _) ?_ | refine call_ret can34 (Yis_S _ _ _ _ _ _ (by assumption)) ?_ | refine W_if ?_ | refine W_ifS ?_ | refine W_and ?_) | ((with_reducible refine W_gd (fun h => ?_) (fun h => ?_)) <;> (try (exfalso; first | assumption | omega)))) <;> (try simp (disch := first | assumption | omega) only [go_sem, seval, *]))))
  all_goals (first | refine W_ret res52 hQ ?_ | refine W_norm res52 hQ ?_ | refine G_pan hQ ?_)
  all_goals (refine ⟨_, _, Wk.of_eq ?_, ?_, rfl, rfl⟩)
  all_goals first | rfl | (exact z_fg)
theorem Ymore0_S (s : St) (r e i : Nat) (W : List Sgn) (hi : i ≤ W.length) (hc : isT W i [44] = false) : SRet Tryz.prog 52 [.ptr r 0] (Rw s r e W i) (.bool false) (Rw s r e W i) := by
  have h1 := fun s => Yis_S s r e i W [44] hi
  rw [hc] at h1
  clear hc
  refine G_enter Tryz.func52 rfl Tryz.ntmps52 rfl fun Q hQ hQe => ?_
  (repeat' (first | refine Ctl ?_ | ((with_reducible refine Kof.use hK ?_); clear hK hE K E) | ((with_reducible refine Eof.use hE ?_); (try clear hK hE K E)) | ((with_reducible refine W_cond (fun h => ?_) (fun h => ?_)) <;> (try (exfalso; first | assumption | omega))) | ((first | (with_reducible first | refine G_region fun K E hK hE => ?_ | refine call_ret can34 (h1 _) ?_ | refine call_ret can34 (Yis_S _ _ _ _ _ _ (by assumption)) ?_ | refine W_if ?_ | refine W_ifS ?_ | refine W_and ?_) | ((with_reducible refine W_gd (fun h => ?_) (fun h => ?_)) <;> (try (exfalso; first | assumption | omega)))) <;> (try simp (disch := first | assumption | omega) only [go_sem, seval, *]))))
  all_goals (first | refine W_ret res52 hQ ?_ | refine W_norm res52 hQ ?_ | refine G_pan hQ ?_)
  all_goals (refine ⟨_, _, Wk.of_eq ?_, ?_, rfl, rfl⟩)
  all_goals first | rfl | (exact z_fg)
end
end Go.Proofs.YtdibndmkeipgbaaGreatDoor
set_option maxRecDepth 100000
namespace Go.Proofs.YtdibndmkeipgbaaGreatDoor
open Go.RowKit
attribute [local go_sem] Rw_at Rw_mk2 Rw_free Rw_set Rw_gt Rw_dis Rw_own Rw_ok Rw_ownd

def Sfx (W : List Sgn) (i : Nat) (L : List Sgn) : Prop := i ≤ W.length ∧ W.drop i = L
theorem Sfx.cons {W L : List Sgn} {i : Nat} {x : Sgn} (h : Sfx W i (x :: L)) : W[i]? = some x ∧ Sfx W (i + 1) L ∧ i < W.length := by
  obtain ⟨h1, h2⟩ := h
  have h3 : W[i]? = some x := by
    have := List.getElem?_drop (xs := W) (i := i) (j := 0)
    rw [h2] at this
    simpa using this.symm
  have h4 := (List.getElem?_eq_some_iff.1 h3).1
  refine ⟨h3, ⟨h4, ?_⟩, h4⟩
  rw [← List.drop_drop, h2]; rfl
theorem Sfx.isT {W L : List Sgn} {i : Nat} {t : List UInt8} (h : Sfx W i L) : isT W i t = isT L 0 t := by
  obtain ⟨_, rfl⟩ := h
  simp [Proofs.YtdibndmkeipgbaaGreatDoor.isT]
theorem Sfx.nil {W : List Sgn} {i : Nat} (h : Sfx W i []) : i = W.length := by
  obtain ⟨h1, h2⟩ := h
  have := List.drop_eq_nil_iff.1 h2
  omega
theorem Sfx.tail {W L : List Sgn} {i : Nat} {t : List UInt8} (h : Sfx W i L) (ht : Proofs.YtdibndmkeipgbaaGreatDoor.isT L 0 t = true) : Sfx W (i + 1) L.tail := by
  cases L with
  | nil => simp [Proofs.YtdibndmkeipgbaaGreatDoor.isT] at ht
  | cons x L => exact h.cons.2.1
theorem kindU_ok {e k : Nat} {L L' : List Sgn} {t : List UInt8} (h : kindU e L k = .ok (t, L')) : ∃ x, L = x :: L' ∧ x.kind = k ∧ x.text = t := by
  cases L with
  | nil => cases h
  | cons x L =>
    simp only [kindU] at h
    split at h
    · rename_i hk
      injection h with h; injection h with h1 h2
      exact ⟨x, by rw [h2], hk, h1⟩
    · cases h
theorem mustU_ok {e : Nat} {L L' : List Sgn} {t : List UInt8} {u : Unit} (h : mustU e L t = .ok (u, L')) : isT L 0 t = true ∧ L' = L.tail := by
  obtain ⟨h1, h2, _⟩ := mustU_inv h
  exact ⟨h2, h1⟩
set_option maxHeartbeats 2000000 in
theorem Yterm_S (s : St) (r e i j : Nat) (W L L' : List Sgn) (t : Trm) (hw : W.length ≤ 40000) (hG : GoodU L) (hi : Sfx W i L) (h : termU e L = .ok (t, L')) (hj : Sfx W j L') : SRet Tryz.prog 66 [.ptr r 0] (Rw s r e W i) (.agg (trmC t)) (Rw s r e W j) := by
  have hx : ∃ x, L = x :: L' ∧ ((x.kind = 2 ∧ t = ⟨false, [], (numN x.text : Nat)⟩) ∨ (x.kind = 1 ∧ t = ⟨true, x.text, 0⟩)) := by
    unfold termU at h
    split at h
    · cases hk : numU e L with
      | error q => rw [hk] at h; cases h
      | ok q =>
        obtain ⟨n, L1⟩ := q
        rw [hk, bu_ok] at h
        injection h with h; injection h with h1 h2
        subst h1; subst h2
        unfold numU at hk
        cases hq : kindU e L 2 with
        | error q => rw [hq] at hk; cases hk
        | ok q =>
          obtain ⟨tx, L2⟩ := q
          rw [hq, bu_ok] at hk
          injection hk with hk; injection hk with h1 h2
          subst h1; subst h2
          obtain ⟨x, rfl, hk, ht⟩ := kindU_ok hq
          exact ⟨x, rfl, .inl ⟨hk, by rw [ht]⟩⟩
    · cases hq : nameU e L with
      | error q => rw [hq] at h; cases h
      | ok q =>
        obtain ⟨tx, L2⟩ := q
        rw [hq, bu_ok] at h
        injection h with h; injection h with h1 h2
        subst h1; subst h2
        obtain ⟨x, rfl, hk, ht⟩ := kindU_ok hq
        exact ⟨x, rfl, .inr ⟨hk, by rw [ht]⟩⟩
  obtain ⟨x, rfl, hx⟩ := hx
  obtain ⟨h1, h2, h3⟩ := hi.cons
  have hij : j = i + 1 := by
    have e1 := congrArg List.length h2.2
    have e2 := congrArg List.length hj.2
    rw [List.length_drop] at e1 e2
    have := h2.1; have := hj.1
    omega
  subst hij
  have hsx := sgnC_at h1
  have hwl : (W.map sgnC).length = W.length := List.length_map _
  rcases hx with ⟨hk, rfl⟩ | ⟨hk, rfl⟩
  · have w1 := fun s => Ykind_S s r e i W x 2 hw h1 hk
    obtain ⟨n, hn, hl⟩ := hG x (by simp) hk
    have hk2 : (x.kind : Int) = 2 := by omega
    have hnn : numN x.text = n := by simp [numN, hn]
    rw [hnn]
    have w2 := fun s => Atoi_S x.text n hl hn s
    clear h hi hj h2 h1 hG hk hnn hn hl
    refine G_enter Tryz.func66 rfl Tryz.ntmps66 rfl fun Q hQ hQe => ?_
    (repeat' (first | refine Ctl ?_ | ((with_reducible refine Kof.use hK ?_); clear hK hE K E) | ((with_reducible refine Eof.use hE ?_); (try clear hK hE K E)) | ((with_reducible refine Kof.use hKh ?_); clear hKh Kh) | ((with_reducible refine Kof.use hKb (P_next ?_)); clear hKb Kb) | (with_reducible refine G_plan 1 [] [0, 1, 2, 3, 4, 5, 6, 7, 8, 9, 10, 11, 12, 13, 14, 15, 16, 17, 18, 19, 20, 21, 22, 23] hQe fun K E hK hE => ?_) | ((with_reducible refine W_cond (fun h => ?_) (fun h => ?_)) <;> (try (exfalso; first | assumption | omega))) | ((first | (with_reducible first | refine G_region fun K E hK hE => ?_ | refine call_ret can36 (w1 _) ?_ | refine call_ret can37 (w2 _) ?_ | refine call_ret can37 (Atoi_S _ _ (by first | assumption | omega) (by assumption) _) ?_ | refine call_ret can36 (Ykind_S _ _ _ _ _ _ _ (by assumption) (by assumption) (by assumption)) ?_ | refine W_if ?_ | refine W_ifS ?_ | refine P_heads fun Kh hKh => ?_ | refine P_fin fun Kh hKh => ?_ | refine P_each fun Kb hKb => ?_ | refine W_and ?_) | ((with_reducible refine W_fresh (fun b hb => ?_)); (repeat (obtain ⟨_, hb⟩ := hb))) | ((with_reducible refine W_gd (fun h => ?_) (fun h => ?_)) <;> (try (exfalso; first | assumption | omega)))) <;> (try simp (disch := first | assumption | omega) only [go_sem, seval, hwl, hsx, *]))))
    all_goals (first | refine W_ret res66 hQ ?_ | refine W_norm res66 hQ ?_ | refine G_pan hQ ?_)
    all_goals (refine ⟨_, _, Wk.of_eq ?_, ?_, rfl, rfl⟩)
    all_goals first | rfl | (exact z_fg)
  · have w1 := fun s => Ykind_S s r e i W x 1 hw h1 hk
    have hk2 : ¬ (x.kind : Int) = 2 := by omega
    clear h hi hj h2 h1 hG hk
    refine G_enter Tryz.func66 rfl Tryz.ntmps66 rfl fun Q hQ hQe => ?_
    (repeat' (first | refine Ctl ?_ | ((with_reducible refine Kof.use hK ?_); clear hK hE K E) | ((with_reducible refine Eof.use hE ?_); (try clear hK hE K E)) | ((with_reducible refine Kof.use hKh ?_); clear hKh Kh) | ((with_reducible refine Kof.use hKb (P_next ?_)); clear hKb Kb) | (with_reducible refine G_plan 1 [] [0, 1, 2, 3, 4, 5, 6, 7, 8, 9, 10, 11, 12, 13, 14, 15, 16, 17, 18, 19, 20, 21, 22, 23] hQe fun K E hK hE => ?_) | ((with_reducible refine W_cond (fun h => ?_) (fun h => ?_)) <;> (try (exfalso; first | assumption | omega))) | ((first | (with_reducible first | refine G_region fun K E hK hE => ?_ | refine call_ret can36 (w1 _) ?_ | refine call_ret can37 (Atoi_S _ _ (by first | assumption | omega) (by assumption) _) ?_ | refine call_ret can36 (Ykind_S _ _ _ _ _ _ _ (by assumption) (by assumption) (by assumption)) ?_ | refine W_if ?_ | refine W_ifS ?_ | refine P_heads fun Kh hKh => ?_ | refine P_fin fun Kh hKh => ?_ | refine P_each fun Kb hKb => ?_ | refine W_and ?_) | ((with_reducible refine W_fresh (fun b hb => ?_)); (repeat (obtain ⟨_, hb⟩ := hb))) | ((with_reducible refine W_gd (fun h => ?_) (fun h => ?_)) <;> (try (exfalso; first | assumption | omega)))) <;> (try simp (disch := first | assumption | omega) only [go_sem, seval, hwl, hsx, *]))))
    all_goals (first | refine W_ret res66 hQ ?_ | refine W_norm res66 hQ ?_ | refine G_pan hQ ?_)
    all_goals (refine ⟨_, _, Wk.of_eq ?_, ?_, rfl, rfl⟩)
    all_goals first | rfl | (exact z_fg)
end Go.Proofs.YtdibndmkeipgbaaGreatDoor
set_option maxRecDepth 100000
namespace Go.Proofs.YtdibndmkeipgbaaGreatDoor
open Go.RowKit
attribute [local go_sem] Rw_at Rw_mk2 Rw_free Rw_set Rw_gt Rw_dis Rw_own Rw_ok Rw_ownd

theorem disown_fl {s : St} : s.disown .full = s := rfl
theorem owned_fl {s : St} {T sz n : Nat} : Owned s .full T sz n = (n = 0) := rfl
theorem own_fl {s : St} {T sz n : Nat} : s.own .full T sz n = s := rfl
attribute [local go_sem] disown_fl owned_fl own_fl
theorem roomU_okY {e hv m : Nat} {L L' : List Sgn} {b : Bool} {u : Unit} (h : roomU e L hv m b = .ok (u, L')) : L' = L := by
  unfold roomU at h
  split at h
  · cases h
  · injection h with h; injection h with _ h; exact h.symm
theorem listGo_step {α : Type} {e f : Nat} {one : List Sgn → PU α} {ks : List Int} {out xs : List α} {L Lend : List Sgn} (h : listGo e one ks (f + 1) out L = .ok (xs, Lend)) :
    ∃ x L1, one L = .ok (x, L1) ∧ ((isT L1 0 [44] = true ∧ listGo e one ks f (out ++ [x]) L1.tail = .ok (xs, Lend)) ∨ (isT L1 0 [44] = false ∧ xs = out ++ [x] ∧ Lend = L1)) := by
  simp only [listGo] at h
  cases hr : roomU e L out.length 8 (nextB ks L) with
  | error q => rw [hr] at h; cases h
  | ok q =>
    obtain ⟨u, L0⟩ := q
    have e0 := roomU_okY hr
    subst e0
    rw [hr, bu_ok] at h
    cases h1 : one L0 with
    | error q => rw [h1] at h; cases h
    | ok q =>
      obtain ⟨x, L1⟩ := q
      rw [h1, bu_ok] at h
      refine ⟨x, L1, rfl, ?_⟩
      split at h
      · rename_i hc; exact .inl ⟨hc, h⟩
      · rename_i hc
        injection h with h; injection h with h2 h3
        exact .inr ⟨by simpa using hc, h2.symm, h3.symm⟩
theorem listGo_more {α : Type} {e : Nat} {one : List Sgn → PU α} {ks : List Int} : ∀ (f : Nat) {out xs : List α} {L Lend : List Sgn}, listGo e one ks f out L = .ok (xs, Lend) → out.length < xs.length
  | 0, out, xs, L, Lend, h => by cases h
  | f + 1, out, xs, L, Lend, h => by
    obtain ⟨x, L1, _, ⟨_, h2⟩ | ⟨_, h2, _⟩⟩ := listGo_step h
    · have := listGo_more f h2
      rw [List.length_append] at this
      simp only [List.length_cons, List.length_nil] at this; omega
    · rw [h2]; simp
theorem termU_cons {e : Nat} {L L' : List Sgn} {t : Trm} (h : termU e L = .ok (t, L')) : ∃ x, L = x :: L' := by
  unfold termU at h
  split at h
  · unfold numU at h
    cases hq : kindU e L 2 with
    | error q => rw [hq] at h; cases h
    | ok q =>
      obtain ⟨tx, L2⟩ := q
      rw [hq, bu_ok, bu_ok] at h
      injection h with h; injection h with h1 h2
      subst h2
      obtain ⟨x, hx, _⟩ := kindU_ok hq
      exact ⟨x, hx⟩
  · cases hq : nameU e L with
    | error q => rw [hq] at h; cases h
    | ok q =>
      obtain ⟨tx, L2⟩ := q
      rw [hq, bu_ok] at h
      injection h with h; injection h with h1 h2
      subst h2
      obtain ⟨x, hx, _⟩ := kindU_ok hq
      exact ⟨x, hx⟩
theorem atomU_ok {e : Nat} {L L' : List Sgn} {nt : Bool} {a : Atm} (h : atomU e L nt = .ok (a, L')) : ∃ x L1 L3, L = x :: L1 ∧ x.kind = 1 ∧ a.rel = x.text ∧ a.not = nt ∧ isT L1 0 [40] = true ∧
    listGo e (termU e) [1, 2] (L1.tail.length + 1) [] L1.tail = .ok (a.ts, L3) ∧ isT L3 0 [41] = true ∧ L' = L3.tail := by
  unfold atomU at h
  cases h1 : nameU e L with
  | error q => rw [h1] at h; cases h
  | ok q =>
    obtain ⟨rel, L1⟩ := q
    rw [h1, bu_ok] at h
    obtain ⟨x, rfl, hk, ht⟩ := kindU_ok h1
    cases h2 : listU e (termU e) [1, 2] L1 with
    | error q => rw [h2] at h; cases h
    | ok q =>
      obtain ⟨ts, L4⟩ := q
      rw [h2, bu_ok] at h
      injection h with h; injection h with e1 e2
      subst e1; subst e2
      unfold listU at h2
      cases h3 : mustU e L1 [40] with
      | error q => rw [h3] at h2; cases h2
      | ok q =>
        obtain ⟨u, L2⟩ := q
        obtain ⟨c1, rfl⟩ := mustU_ok h3
        rw [h3, bu_ok] at h2
        cases h4 : listGo e (termU e) [1, 2] (L1.tail.length + 1) [] L1.tail with
        | error q => rw [h4] at h2; cases h2
        | ok q =>
          obtain ⟨xs, L3⟩ := q
          rw [h4, bu_ok] at h2
          cases h5 : mustU e L3 [41] with
          | error q => rw [h5] at h2; cases h2
          | ok q =>
            obtain ⟨u, L5⟩ := q
            obtain ⟨c2, rfl⟩ := mustU_ok h5
            rw [h5, bu_ok] at h2
            injection h2 with h2; injection h2 with e1 e2
            subst e1
            exact ⟨x, L1, L3, rfl, hk, ht.symm, rfl, c1, h4, c2, e2.symm⟩
set_option maxHeartbeats 4000000 in
theorem Yatom_S (s : St) (r e i j : Nat) (W L L' : List Sgn) (a : Atm) (hw : W.length ≤ 40000) (hG : GoodU L) (hi : Sfx W i L) (h : atomU e L false = .ok (a, L')) (hj : Sfx W j L') (h8 : a.ts.length ≤ 8) : SRet Tryz.prog 53 [.ptr r 0] (Rw s r e W i) (.agg (atmC a)) (Rw s r e W j) := by
  obtain ⟨x, L1, L3, rfl, hk, hrel, hnt, c1, hgo, c2, rfl⟩ := atomU_ok h
  clear h
  obtain ⟨an, ar, ats⟩ := a
  simp only at hrel hnt hgo h8
  subst hnt
  obtain ⟨g1, g2, g3⟩ := hi.cons
  have w1 := fun s => Ykind_S s r e i W x 1 hw g1 hk
  rw [← hrel] at w1
  have hc1 : isT W (i + 1) [40] = true := by rw [g2.isT]; exact c1
  have w2 := fun s => Ytakes_S s r e (i + 1) W [40] hw hc1
  have g4 := g2.tail c1
  have hG2 : GoodU L1.tail := fun y hy => hG y (List.mem_cons_of_mem _ (List.mem_of_mem_tail hy))
  obtain ⟨t0, L4, ht0, hrest⟩ := listGo_step hgo
  obtain ⟨x4, hx4⟩ := termU_cons ht0
  rw [hx4] at g4 hG2 ht0
  obtain ⟨g5, g6, g7⟩ := g4.cons
  have w3 := fun s => Yterm_S s r e (i + 1 + 1) (i + 1 + 1 + 1) W _ L4 t0 hw hG2 g4 ht0 g6
  have hG4 : GoodU L4 := fun y hy => hG2 y (List.mem_cons_of_mem _ hy)
  clear g1 g2 g3 g4 g5 g7 c1 hc1 ht0 hx4 hk hG hG2 hgo
  rw [List.nil_append] at hrest
  have HRest := Lib.hid hrest
  have HG4 := Lib.hid hG4
  have HS6 := Lib.hid g6
  clear hrest hG4 g6
  refine G_enter Tryz.func53 rfl Tryz.ntmps53 rfl fun Q hQ hQe => ?_
  (repeat' (first | refine Ctl ?_ | ((with_reducible refine Kof.use hK ?_); clear hK hE K E) | ((with_reducible refine Eof.use hE ?_); (try clear hK hE K E)) | ((with_reducible refine Kof.use hKh ?_); clear hKh Kh) | ((with_reducible refine Kof.use hKb (P_next ?_)); clear hKb Kb) | (with_reducible first | refine G_plan 3 [([0, 1, 2], 3, [[0, 1]]), ([4], 5, [[], []]), ([6], 7, [[], [], []])] [] hQe fun K E hK hE => ?_ | refine G_plan 5 [([0, 1, 2, 3, 4], 5, [[0, 1, 2, 3]]), ([], 6, [[], []])] [] hQe fun K E hK hE => ?_ | refine G_plan 6 [([0, 1, 2], 3, [[0, 1]]), ([4], 5, [[], []]), ([6], 7, [[], [], []])] [] hQe fun K E hK hE => ?_) | ((with_reducible refine W_cond (fun h => ?_) (fun h => ?_)) <;> (try (exfalso; first | assumption | omega))) | ((first | (with_reducible first | refine G_region fun K E hK hE => ?_ | refine call_ret can36 (w1 _) ?_ | refine call_ret can38 (w2 _) ?_ | refine call_ret can66 (w3 _) ?_ | refine call_ret can38 (Ytakes_S _ _ _ _ _ _ (by assumption) (by assumption)) ?_ | refine call_ret can36 (Ykind_S _ _ _ _ _ _ _ (by assumption) (by assumption) (by assumption)) ?_ | refine call_ret can35 (Yroom_S _ _ _ _ _ _ _ _ (by first | assumption | omega)) ?_ | refine W_if ?_ | refine W_ifS ?_ | refine P_heads fun Kh hKh => ?_ | refine P_fin fun Kh hKh => ?_ | refine P_each fun Kb hKb => ?_ | refine W_and ?_) | ((with_reducible refine call_ex can40 (Ynext_S _ _ _ _ _ _ _ _ (by assumption)) (fun a h => ?_))) | ((with_reducible refine W_fresh (fun b hb => ?_)); (repeat (obtain ⟨_, hb⟩ := hb))) | ((with_reducible refine W_app (fun o2 ho => ?_)); (try simp (disch := assumption) only [disown_set, disown_own, ownok_o, ownok_m, List.length_map, List.length_cons, List.length_nil, Nat.zero_add, trmC, Rw_ok, Rw_dis, Rw_own, Rw_ownd, disown_fl, owned_fl] at ho); (repeat (obtain ⟨_, ho⟩ := ho)))) <;> (try simp (disch := first | assumption | omega) only [go_sem, seval, trmC, Rw_ok, Rw_dis, Rw_own, Rw_ownd, disown_fl, owned_fl, *]))))
  rename_i bz z1 z2 hbz z3 z4 z5 z6 q7 q8 q9
  obtain ⟨bA, hbA⟩ : ∃ x, x = b := ⟨_, rfl⟩
  subst hbA
  subst hrel
  refine G_loop (fun m env t => ∃ (p : Nat) (ts : List Trm) (o : Own) (Lp : List Sgn), Sfx W p Lp ∧ GoodU Lp ∧ m = Lp.length ∧ ((isT Lp 0 [44] = true ∧ ∃ f, listGo e (termU e) [1, 2] f ts Lp.tail = .ok (ats, L3)) ∨ (isT Lp 0 [44] = false ∧ ats = ts ∧ L3 = Lp)) ∧
    t = Rw (((s.own o 70 3 ts.length).set bz (.obj 47 [.bool false, .str [], .lst [] .full])).set bA (.obj 47 [.bool false, .str x.text, .lst (ts.map trmC) o])) r e W p ∧ OwnOk s o ts.length ∧ NotOwn o r ∧ NotOwn o bA ∧ NotOwn o bz ∧
    env 0 = .ptr r 0 ∧ env 2 = .ptr bz 0 ∧ env 3 = .ptr bA 0) L4.length ?_ ?_
  · refine ⟨_, Fg.refl _, i + 1 + 1 + 1, [t0], o2, L4, HS6.out, HG4.out, rfl, ?_, rfl, ho, by assumption, by assumption, by assumption, z_sl, z_sl, z_sl⟩
    rcases HRest.out with ⟨k1, k2⟩ | k
    · exact .inl ⟨k1, _, k2⟩
    · exact .inr k
  · clear w1 w2 w3 HRest HG4 HS6 hi ho q7 q8 q9 o2 t0 x4
    rintro m env t ⟨p, ts, o, Lp, hS, hGp, rfl, hrest, rfl, hO, hor, hoA, hoz, e0, e2, e3⟩
    have hpl := hS.1
    rcases hrest with ⟨hc, f, hf⟩ | ⟨hc, hts, hL⟩
    · have hlt := listGo_more f hf
      cases f with
      | zero => cases hf
      | succ f =>
        obtain ⟨t1, L5, ht1, hrest⟩ := listGo_step hf
        obtain ⟨x5, hx5⟩ := termU_cons ht1
        have g1 := hS.tail hc
        have hG5 : GoodU Lp.tail := fun y hy => hGp y (List.mem_of_mem_tail hy)
        have hWc : isT W p [44] = true := by rw [hS.isT]; exact hc
        have hlp : L5.length < Lp.length := by
          have := congrArg List.length hx5
          rw [List.length_tail] at this
          simp only [List.length_cons] at this; omega
        rw [hx5] at g1 hG5 ht1
        obtain ⟨g5, g6, g7⟩ := g1.cons
        have hp1 := g1.1
        have v1 := fun s => Ymore1_S s r e p W hw hpl hWc
        have v2 := fun s a b t => Ynext_S s r e (p + 1) W a b t hp1
        have v3 := fun s b => Yroom_S s r e (p + 1) W (ts.length : Int) 8 b (by omega)
        have v4 := fun s => Yterm_S s r e (p + 1) (p + 1 + 1) W _ L5 t1 hw hG5 g1 ht1 g6
        have hGL : GoodU L5 := fun y hy => hG5 y (List.mem_cons_of_mem _ hy)
        have HR := Lib.hid hrest
        have HGL := Lib.hid hGL
        have HS := Lib.hid g6
        have HM := Lib.hid hlp
        have hml : (ts.map trmC).length = ts.length := List.length_map _
        have hml8 : ts.length < 8 := by omega
        clear hrest hGL g6 hlp ht1 hf hx5 hc hWc hS hGp g1 hG5 g5 g7 hlt
        (repeat' (first | refine Ctl ?_ | ((with_reducible refine Kof.use hK ?_); clear hK hE K E) | ((with_reducible refine Eof.use hE ?_); (try clear hK hE K E)) | ((with_reducible refine Kof.use hKh ?_); clear hKh Kh) | ((with_reducible refine Kof.use hKb (P_next ?_)); clear hKb Kb) | (with_reducible first | refine G_plan 3 [([0, 1, 2], 3, [[0, 1]]), ([4], 5, [[], []]), ([6], 7, [[], [], []])] [] hQe fun K E hK hE => ?_ | refine G_plan 5 [([0, 1, 2, 3, 4], 5, [[0, 1, 2, 3]]), ([], 6, [[], []])] [] hQe fun K E hK hE => ?_ | refine G_plan 6 [([0, 1, 2], 3, [[0, 1]]), ([4], 5, [[], []]), ([6], 7, [[], [], []])] [] hQe fun K E hK hE => ?_) | ((with_reducible refine W_cond (fun h => ?_) (fun h => ?_)) <;> (try (exfalso; first | assumption | omega))) | ((first | (with_reducible first | refine G_region fun K E hK hE => ?_ | refine call_ret can52 (v1 _) ?_ | refine call_ret can35 (v3 _ _) ?_ | refine call_ret can66 (v4 _) ?_ | refine call_ret can38 (Ytakes_S _ _ _ _ _ _ (by assumption) (by assumption)) ?_ | refine call_ret can36 (Ykind_S _ _ _ _ _ _ _ (by assumption) (by assumption) (by assumption)) ?_ | refine call_ret can35 (Yroom_S _ _ _ _ _ _ _ _ (by first | assumption | omega)) ?_ | refine W_if ?_ | refine W_ifS ?_ | refine P_heads fun Kh hKh => ?_ | refine P_fin fun Kh hKh => ?_ | refine P_each fun Kb hKb => ?_ | refine W_and ?_) | ((with_reducible refine call_ex can40 (v2 _ _ _ _) (fun a h => ?_))) | ((with_reducible refine call_ex can40 (Ynext_S _ _ _ _ _ _ _ _ (by assumption)) (fun a h => ?_))) | ((with_reducible refine W_fresh (fun b hb => ?_)); (repeat (obtain ⟨_, hb⟩ := hb))) | ((with_reducible refine W_app (fun o2 ho => ?_)); (try simp (disch := assumption) only [disown_set, disown_own, ownok_o, ownok_m, List.length_map, List.length_cons, List.length_nil, Nat.zero_add, trmC, Rw_ok, Rw_dis, Rw_own, Rw_ownd, disown_fl, owned_fl, hml] at ho); (repeat (obtain ⟨_, ho⟩ := ho)))) <;> (try simp (disch := first | assumption | omega) only [go_sem, seval, trmC, Rw_ok, Rw_dis, Rw_own, Rw_ownd, disown_fl, owned_fl, hml, *]))))
        refine ⟨Rw (((s.own o2 70 3 (ts ++ [t1]).length).set bz (.obj 47 [.bool false, .str [], .lst [] .full])).set bA (.obj 47 [.bool false, .str x.text, .lst ((ts ++ [t1]).map trmC) o2])) r e W (p + 1 + 1), ?_, L5.length, HM.out, p + 1 + 1, ts ++ [t1], o2, L5, HS.out, HGL.out, rfl, ?_, rfl, ?_, by assumption, by assumption, by assumption, z_sl, z_sl, z_sl⟩
        · simp only [List.map_append, List.map_cons, List.map_nil, trmC, List.length_append, List.length_cons, List.length_nil]
          exact Fg.refl _
        · rcases HR.out with ⟨k1, k2⟩ | k
          · exact .inl ⟨k1, _, k2⟩
          · exact .inr k
        · simpa only [List.length_append, List.length_cons, List.length_nil] using ho
    · subst hts
      subst hL
      have hWc : isT W p [44] = false := by rw [hS.isT]; exact hc
      have hWd : isT W p [41] = true := by rw [hS.isT]; exact c2
      have hjp : j = p + 1 := by
        have g := hS.tail c2
        have e1 := congrArg List.length g.2
        have e2 := congrArg List.length hj.2
        rw [List.length_drop] at e1 e2
        have := g.1; have := hj.1
        omega
      have v1 := fun s => Ymore0_S s r e p W hpl hWc
      have v2 := fun s => Ytakes_S s r e p W [41] hw hWd
      subst hjp
      clear hc hWc hWd c2 hj hS hGp
      (repeat' (first | refine Ctl ?_ | ((with_reducible refine Kof.use hK ?_); clear hK hE K E) | ((with_reducible refine Eof.use hE ?_); (try clear hK hE K E)) | ((with_reducible refine Kof.use hKh ?_); clear hKh Kh) | ((with_reducible refine Kof.use hKb (P_next ?_)); clear hKb Kb) | (with_reducible first | refine G_plan 3 [([0, 1, 2], 3, [[0, 1]]), ([4], 5, [[], []]), ([6], 7, [[], [], []])] [] hQe fun K E hK hE => ?_ | refine G_plan 5 [([0, 1, 2, 3, 4], 5, [[0, 1, 2, 3]]), ([], 6, [[], []])] [] hQe fun K E hK hE => ?_ | refine G_plan 6 [([0, 1, 2], 3, [[0, 1]]), ([4], 5, [[], []]), ([6], 7, [[], [], []])] [] hQe fun K E hK hE => ?_) | ((with_reducible refine W_cond (fun h => ?_) (fun h => ?_)) <;> (try (exfalso; first | assumption | omega))) | ((first | (with_reducible first | refine G_region fun K E hK hE => ?_ | refine call_ret can52 (v1 _) ?_ | refine call_ret can38 (v2 _) ?_ | refine call_ret can38 (Ytakes_S _ _ _ _ _ _ (by assumption) (by assumption)) ?_ | refine call_ret can36 (Ykind_S _ _ _ _ _ _ _ (by assumption) (by assumption) (by assumption)) ?_ | refine call_ret can35 (Yroom_S _ _ _ _ _ _ _ _ (by first | assumption | omega)) ?_ | refine W_if ?_ | refine W_ifS ?_ | refine P_heads fun Kh hKh => ?_ | refine P_fin fun Kh hKh => ?_ | refine P_each fun Kb hKb => ?_ | refine W_and ?_) | ((with_reducible refine call_ex can40 (Ynext_S _ _ _ _ _ _ _ _ (by assumption)) (fun a h => ?_))) | ((with_reducible refine W_fresh (fun b hb => ?_)); (repeat (obtain ⟨_, hb⟩ := hb))) | ((with_reducible refine W_app (fun o2 ho => ?_)); (try simp (disch := assumption) only [disown_set, disown_own, ownok_o, ownok_m, List.length_map, List.length_cons, List.length_nil, Nat.zero_add, trmC, Rw_ok, Rw_dis, Rw_own, Rw_ownd, disown_fl, owned_fl] at ho); (repeat (obtain ⟨_, ho⟩ := ho)))) <;> (try simp (disch := first | assumption | omega) only [go_sem, seval, trmC, Rw_ok, Rw_dis, Rw_own, Rw_ownd, disown_fl, owned_fl, *]))))
      all_goals (first | refine W_ret res53 hQ ?_ | refine W_norm res53 hQ ?_ | refine G_pan hQ ?_)
      refine ⟨_, Rw s r e W (p + 1), Wk.agg ?_, ?_, rfl, rfl⟩
      · simp only [atmC]; (repeat (first | exact WkL.nil | apply WkL.nostrs | apply WkL.nosts | apply WkL.same | apply WkL.lst))
      · refine Fg.rw ?_
        (exact z_fg)
end Go.Proofs.YtdibndmkeipgbaaGreatDoor
