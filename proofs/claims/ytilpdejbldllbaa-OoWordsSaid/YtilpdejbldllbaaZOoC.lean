/- What is proved: What the reader of package oo hands back, on. Conditions: those that stand in the statements. -/
import Derived.Test.YtilpdejbldllbaaZOoB
set_option linter.unusedSimpArgs false
set_option linter.unusedVariables false
namespace Go.Proofs.Ytilpdejbldllbaa
open Go.RowKit

inductive WkL : List VV → List VV → Prop
  | nil : WkL [] []
  | same (x : VV) {xs ys : List VV} (h : WkL xs ys) : WkL (x :: xs) (x :: ys)
  | lst (l : List (List VV)) (o : Own) {xs ys : List VV} (h : WkL xs ys) : WkL (.lst l o :: xs) (.lst l .no :: ys)
theorem WkL.len {xs ys : List VV} (h : WkL xs ys) : xs.length = ys.length := by
  induction h with
  | nil => rfl
  | same x h ih => simp [ih]
  | lst l o h ih => simp [ih]
theorem WkL.get {xs ys : List VV} (h : WkL xs ys) : ∀ (j : Nat) (y : VV), ys[j]? = some y → ∃ x, xs[j]? = some x ∧ Wk x y ∧ (x.one = true → y.one = true) := by
  induction h with
  | nil => intro j y hy; simp at hy
  | same x h ih =>
    intro j y hy
    cases j with
    | zero => simp at hy; subst hy; exact ⟨x, rfl, Wk.refl _, id⟩
    | succ j => simpa using ih j y (by simpa using hy)
  | lst l o h ih =>
    intro j y hy
    cases j with
    | zero => simp at hy; subst hy; exact ⟨_, rfl, Wk.lst _ _, id⟩
    | succ j => simpa using ih j y (by simpa using hy)
theorem Wk.agg {xs ys : List VV} (h : WkL xs ys) : Wk (.agg xs) (.agg ys) := by
  intro G v hv
  cases hv with
  | agg vs xs hs h1 hR =>
    refine .agg vs ys (hs.trans h.len) (fun y hy => ?_) fun j v y hv hy => ?_
    · obtain ⟨j, hj, e⟩ := List.mem_iff_getElem.1 hy
      obtain ⟨x, hx, _, hw⟩ := h.get j y (by rw [← e]; exact List.getElem?_eq_getElem hj)
      exact hw (h1 x (List.mem_of_getElem? hx))
    · obtain ⟨x, hx, hw, _⟩ := h.get j y hy
      exact hw G v (hR j v x hv hx)

/-- A statement. -/
inductive Stm where
  | mk (kind : Int) (dst src cls nm : List UInt8) (args : List (List UInt8)) (one two : List Stm)
mutual
def stC : Stm → List VV
  | .mk k d s c m ar o t => [.int .i64 k, .str d, .str s, .str c, .str m, strsV ar, .lst (stsC o) .no, .lst (stsC t) .no]
def stsC : List Stm → List (List VV)
  | [] => []
  | x :: l => stC x :: stsC l
end
theorem stsC_map : ∀ l : List Stm, stsC l = l.map stC
  | [] => rfl
  | x :: l => by simp [stsC, stsC_map l]
def stV (x : Stm) : VV := .agg (stC x)

theorem Rd_free {s : St} {r e : Nat} {L : List Sgn} {n b : Nat} (h : Rd s r e L n b = .free) : (b = r) = False ∧ s b = .free := by
  simp only [Rd, St.set] at h
  split at h
  · cases h
  · rename_i hb; exact ⟨eq_false hb, h⟩
theorem Rd_get {s : St} {r e : Nat} {L : List Sgn} {n b : Nat} (h : (b = r) = False) : Rd s r e L n b = s b := by simp only [Rd, St.set, h, if_false]
theorem Rd_set {s : St} {r e : Nat} {L : List Sgn} {n b : Nat} {c : Cell} (h : (b = r) = False) : (Rd s r e L n).set b c = Rd (s.set b c) r e L n := by
  funext x
  simp only [Rd, St.set]
  by_cases h1 : x = b
  · subst h1; simp [h]
  · simp [h1]
theorem set_free {s : St} {b x : Nat} {T : TypeId} {xs : List VV} (h : (s.set b (.obj T xs)) x = .free) : (x = b) = False ∧ (b = x) = False ∧ s x = .free := by
  simp only [St.set] at h
  split at h
  · cases h
  · rename_i hb; exact ⟨eq_false hb, eq_false (Ne.symm hb), h⟩
theorem Fg.set_any {s1 s : St} (h : Fg s1 s) {b : Nat} {c : Cell} (hb : s b = .free) : Fg (s1.set b c) s := fun x => by
  by_cases hx : x = b
  · subst hx; exact .inl hb
  · rw [St.set_other _ _ hx]; exact h x
theorem Fg.set1 {s : St} {b : Nat} {c : Cell} (h : s b = .free) : Fg (s.set b c) s := Fg.of_set c h

theorem wk_st {xs : List VV} {k : Nat} {d s c m : List UInt8} {ar : List (List UInt8)} {o t : List Stm} (h : WkL xs [.int .i64 k, .str d, .str s, .str c, .str m, strsV ar, .lst (stsC o) .no, .lst (stsC t) .no]) :
    Wk (.agg xs) (stV (.mk k d s c m ar o t)) := by
  unfold stV stC
  exact Wk.agg h

def callP (e : Nat) (dst nm : List UInt8) (load : Bool) (L : List Sgn) (n : Nat) : PR Stm :=
  if isT L 0 [58, 58] then bnd (nameP e L.tail n) fun x L n => bnd (namesP e L n) fun ar L n => .ok (.mk 6 dst [] nm x ar [] [], L, n)
  else bnd (mustP e L n [46]) fun _ L n => bnd (nameP e L n) fun x L n =>
    if load = true ∧ isT L 0 [40] = false then .ok (.mk 3 dst nm [] x [] [] [], L, n)
    else bnd (namesP e L n) fun ar L n => .ok (.mk 5 dst nm [] x ar [] [], L, n)

theorem call_S (s : St) (r e : Nat) (L : List Sgn) (hL : L.length ≤ 4096) (n : Nat) (dst nm : List UInt8) (load : Bool) :
    SCalls Try.prog 107 [.ptr r 0, .str dst, .str nm, .bool load] (Rd s r e L n) (PO stV s r e (callP e dst nm load L n)) := by
  refine S_enter Try.func107 rfl Try.ntmps107 rfl ?_
  generalize hres : callP e dst nm load L n = res
  unfold callP at hres
  (repeat (first | refine L_seq ?_ | refine L_blk ?_ | refine L_skip ?_ | refine L_endblk ?_ | refine L_ret ?_ | (refine L_exit ?_; repeat (first | refine X_code ?_ | refine X_back ?_ | refine X_blk ?_ | refine X_past (by decide) ?_)) | (refine L_cond ?_; simp only [go_sem, seval]) | (refine L_region fun K E hK hE => ?_; simp only [go_sem, seval]; try (refine hK _ _ ?_; clear hK hE K E))))
  intro b hb
  obtain ⟨hbr, hbf⟩ := Rd_free hb
  refine hK _ _ ?_
  clear hK hE K E
  rw [Rd_set hbr]
  (repeat (first | refine L_seq ?_ | refine L_blk ?_ | refine L_skip ?_ | refine L_endblk ?_ | refine L_ret ?_ | (refine L_exit ?_; repeat (first | refine X_code ?_ | refine X_back ?_ | refine X_blk ?_ | refine X_past (by decide) ?_)) | (refine L_cond ?_; simp only [go_sem, seval]) | (refine L_region fun K E hK hE => ?_; simp only [go_sem, seval]; try (refine hK _ _ ?_; clear hK hE K E))))
  (refine call_ret can49 (given_S _ r e L n _) ?_; simp only [go_sem, seval]; try (refine hK _ _ ?_; clear hK hE K E))
  cases hg : isT L 0 [58, 58] with
  | true =>
    rw [hg, if_pos rfl] at hres
    (repeat (first | refine L_seq ?_ | refine L_blk ?_ | refine L_skip ?_ | refine L_endblk ?_ | refine L_ret ?_ | (refine L_exit ?_; repeat (first | refine X_code ?_ | refine X_back ?_ | refine X_blk ?_ | refine X_past (by decide) ?_)) | (refine L_cond ?_; simp only [go_sem, seval, hg]) | (refine L_region fun K E hK hE => ?_; simp only [go_sem, seval, hg]; try (refine hK _ _ ?_; clear hK hE K E))))
    refine call_po can48 (name_S _ r e _ _) (fun x L5 n5 h5 => ?_) (fun at_ er Lx nx hx => ?_)
    rotate_left
    · rw [hx, bnd_err] at hres
      exact hE _ _ _ (fin_panR hres.symm (Fg.set1 hbf))
    rw [h5, bnd_ok] at hres
    (simp only [go_sem, seval]; try (refine hK _ _ ?_; clear hK hE K E))
    intro b2 hb2
    obtain ⟨hb2r, hb2f⟩ := Rd_free hb2
    obtain ⟨hn1, hn2, hb2f⟩ := set_free hb2f
    refine hK _ _ ?_
    clear hK hE K E
    rw [Rd_set hb2r, Rd_set hb2r, St.set_set]
    have hl5 : L5.length ≤ 4096 := by have := nameP_len h5; simp at this; omega
    (repeat (first | refine L_seq ?_ | refine L_blk ?_ | refine L_skip ?_ | refine L_endblk ?_ | refine L_ret ?_ | (refine L_exit ?_; repeat (first | refine X_code ?_ | refine X_back ?_ | refine X_blk ?_ | refine X_past (by decide) ?_)) | (refine L_cond ?_; simp only [go_sem, seval]) | (refine L_region fun K E hK hE => ?_; simp only [go_sem, seval]; try (refine hK _ _ ?_; clear hK hE K E))))
    refine call_po can51 (names_S _ r e _ hl5 _) (fun ar L6 n6 h6 => ?_) (fun at_ er Lx nx hx => ?_)
    rotate_left
    · rw [hx, bnd_err] at hres
      exact hE _ _ _ (fin_panR hres.symm (.set_any (.set1 hbf) hb2f))
    rw [h6, bnd_ok] at hres
    (simp only [go_sem, seval, Rd_get hb2r, Rd_set hb2r, St.set_set, strsV]; try (refine hK _ _ ?_; clear hK hE K E))
    (repeat (first | refine L_seq ?_ | refine L_blk ?_ | refine L_skip ?_ | refine L_endblk ?_ | refine L_ret ?_ | (refine L_exit ?_; repeat (first | refine X_code ?_ | refine X_back ?_ | refine X_blk ?_ | refine X_past (by decide) ?_)) | (refine L_cond ?_; simp only [go_sem, seval, strsV, Rd_get hb2r, Rd_get hbr, Rd_set hb2r, Rd_set hbr, St.set_set, hn1, hn2]) | (refine L_region fun K E hK hE => ?_; simp only [go_sem, seval, strsV, Rd_get hb2r, Rd_get hbr, Rd_set hb2r, Rd_set hbr, St.set_set, hn1, hn2]; try (refine hK _ _ ?_; clear hK hE K E))))
    refine fin_retR (v := .agg [.int .i64 6, .str dst, .str [], .str nm, .str x, strsV ar, .lst [] .full, .lst [] .full]) ?_ ?_ hres.symm ?_
    · simp only [go_sem, seval, res107, Rd_get hbr, strsV]
    · exact wk_st (by repeat (first | exact WkL.nil | apply WkL.same | apply WkL.lst))
    · exact .set_any (.set_any (.set1 hbf) hb2f) hbf
  | false =>
    rw [hg, if_neg (by decide)] at hres
    (repeat (first | refine L_seq ?_ | refine L_blk ?_ | refine L_skip ?_ | refine L_endblk ?_ | refine L_ret ?_ | (refine L_exit ?_; repeat (first | refine X_code ?_ | refine X_back ?_ | refine X_blk ?_ | refine X_past (by decide) ?_)) | (refine L_cond ?_; simp only [go_sem, seval, hg]) | (refine L_region fun K E hK hE => ?_; simp only [go_sem, seval, hg]; try (refine hK _ _ ?_; clear hK hE K E))))
    refine call_po can47 (must_S _ r e L n _) (fun a L4 n4 h4 => ?_) (fun at_ er Lx nx hx => ?_)
    rotate_left
    · rw [hx, bnd_err] at hres
      exact hE _ _ _ (fin_panR hres.symm (Fg.set1 hbf))
    rw [h4, bnd_ok] at hres
    (simp only [go_sem, seval]; try (refine hK _ _ ?_; clear hK hE K E))
    (repeat (first | refine L_seq ?_ | refine L_blk ?_ | refine L_skip ?_ | refine L_endblk ?_ | refine L_ret ?_ | (refine L_exit ?_; repeat (first | refine X_code ?_ | refine X_back ?_ | refine X_blk ?_ | refine X_past (by decide) ?_)) | (refine L_cond ?_; simp only [go_sem, seval]) | (refine L_region fun K E hK hE => ?_; simp only [go_sem, seval]; try (refine hK _ _ ?_; clear hK hE K E))))
    refine call_po can48 (name_S _ r e _ _) (fun x L5 n5 h5 => ?_) (fun at_ er Lx nx hx => ?_)
    rotate_left
    · rw [hx, bnd_err] at hres
      exact hE _ _ _ (fin_panR hres.symm (Fg.set1 hbf))
    rw [h5, bnd_ok] at hres
    (simp only [go_sem, seval]; try (refine hK _ _ ?_; clear hK hE K E))
    intro b2 hb2
    obtain ⟨hb2r, hb2f⟩ := Rd_free hb2
    obtain ⟨hn1, hn2, hb2f⟩ := set_free hb2f
    refine hK _ _ ?_
    clear hK hE K E
    rw [Rd_set hb2r, Rd_set hb2r, St.set_set]
    have hl5 : L5.length ≤ 4096 := by have := nameP_len h5; have := mustP_len h4; omega
    cases load with
    | true =>
      (repeat (first | refine L_seq ?_ | refine L_blk ?_ | refine L_skip ?_ | refine L_endblk ?_ | refine L_ret ?_ | (refine L_exit ?_; repeat (first | refine X_code ?_ | refine X_back ?_ | refine X_blk ?_ | refine X_past (by decide) ?_)) | (refine L_cond ?_; simp only [go_sem, seval]) | (refine L_region fun K E hK hE => ?_; simp only [go_sem, seval]; try (refine hK _ _ ?_; clear hK hE K E))))
      (refine call_ret can21 (is_S _ r e L5 n5 0 _) ?_; simp only [go_sem, seval]; try (refine hK _ _ ?_; clear hK hE K E))
      cases hp : isT L5 0 [40] with
      | true =>
        rw [hp, if_neg (by simp)] at hres
        (repeat (first | refine L_seq ?_ | refine L_blk ?_ | refine L_skip ?_ | refine L_endblk ?_ | refine L_ret ?_ | (refine L_exit ?_; repeat (first | refine X_code ?_ | refine X_back ?_ | refine X_blk ?_ | refine X_past (by decide) ?_)) | (refine L_cond ?_; simp only [go_sem, seval, hp]) | (refine L_region fun K E hK hE => ?_; simp only [go_sem, seval, hp]; try (refine hK _ _ ?_; clear hK hE K E))))
        refine call_po can51 (names_S _ r e _ hl5 _) (fun ar L6 n6 h6 => ?_) (fun at_ er Lx nx hx => ?_)
        rotate_left
        · rw [hx, bnd_err] at hres
          exact hE _ _ _ (fin_panR hres.symm (.set_any (.set1 hbf) hb2f))
        rw [h6, bnd_ok] at hres
        (simp only [go_sem, seval, Rd_get hb2r, Rd_set hb2r, St.set_set, strsV]; try (refine hK _ _ ?_; clear hK hE K E))
        (repeat (first | refine L_seq ?_ | refine L_blk ?_ | refine L_skip ?_ | refine L_endblk ?_ | refine L_ret ?_ | (refine L_exit ?_; repeat (first | refine X_code ?_ | refine X_back ?_ | refine X_blk ?_ | refine X_past (by decide) ?_)) | (refine L_cond ?_; simp only [go_sem, seval, strsV, Rd_get hb2r, Rd_get hbr, Rd_set hb2r, Rd_set hbr, St.set_set, hn1, hn2]) | (refine L_region fun K E hK hE => ?_; simp only [go_sem, seval, strsV, Rd_get hb2r, Rd_get hbr, Rd_set hb2r, Rd_set hbr, St.set_set, hn1, hn2]; try (refine hK _ _ ?_; clear hK hE K E))))
        refine fin_retR (v := .agg [.int .i64 5, .str dst, .str nm, .str [], .str x, strsV ar, .lst [] .full, .lst [] .full]) ?_ ?_ hres.symm ?_
        · simp only [go_sem, seval, res107, Rd_get hbr, strsV]
        · exact wk_st (by repeat (first | exact WkL.nil | apply WkL.same | apply WkL.lst))
        · exact .set_any (.set_any (.set1 hbf) hb2f) hbf

      | false =>
        rw [hp, if_pos (by simp)] at hres
        (repeat (first | refine L_seq ?_ | refine L_blk ?_ | refine L_skip ?_ | refine L_endblk ?_ | refine L_ret ?_ | (refine L_exit ?_; repeat (first | refine X_code ?_ | refine X_back ?_ | refine X_blk ?_ | refine X_past (by decide) ?_)) | (refine L_cond ?_; simp only [go_sem, seval, hp, Rd_get hb2r, Rd_get hbr, Rd_set hb2r, Rd_set hbr, St.set_set, hn1, hn2]) | (refine L_region fun K E hK hE => ?_; simp only [go_sem, seval, hp, Rd_get hb2r, Rd_get hbr, Rd_set hb2r, Rd_set hbr, St.set_set, hn1, hn2]; try (refine hK _ _ ?_; clear hK hE K E))))
        refine fin_retR (v := .agg [.int .i64 3, .str dst, .str nm, .str [], .str x, .lst [] .full, .lst [] .full, .lst [] .full]) ?_ ?_ hres.symm ?_
        · simp only [go_sem, seval, res107, Rd_get hbr]
        · exact wk_st (by repeat (first | exact WkL.nil | apply WkL.same | apply WkL.lst))
        · exact .set_any (.set_any (.set1 hbf) hb2f) hbf
    | false =>
      rw [if_neg (by simp)] at hres
      (repeat (first | refine L_seq ?_ | refine L_blk ?_ | refine L_skip ?_ | refine L_endblk ?_ | refine L_ret ?_ | (refine L_exit ?_; repeat (first | refine X_code ?_ | refine X_back ?_ | refine X_blk ?_ | refine X_past (by decide) ?_)) | (refine L_cond ?_; simp only [go_sem, seval]) | (refine L_region fun K E hK hE => ?_; simp only [go_sem, seval]; try (refine hK _ _ ?_; clear hK hE K E))))
      refine call_po can51 (names_S _ r e _ hl5 _) (fun ar L6 n6 h6 => ?_) (fun at_ er Lx nx hx => ?_)
      rotate_left
      · rw [hx, bnd_err] at hres
        exact hE _ _ _ (fin_panR hres.symm (.set_any (.set1 hbf) hb2f))
      rw [h6, bnd_ok] at hres
      (simp only [go_sem, seval, Rd_get hb2r, Rd_set hb2r, St.set_set, strsV]; try (refine hK _ _ ?_; clear hK hE K E))
      (repeat (first | refine L_seq ?_ | refine L_blk ?_ | refine L_skip ?_ | refine L_endblk ?_ | refine L_ret ?_ | (refine L_exit ?_; repeat (first | refine X_code ?_ | refine X_back ?_ | refine X_blk ?_ | refine X_past (by decide) ?_)) | (refine L_cond ?_; simp only [go_sem, seval, strsV, Rd_get hb2r, Rd_get hbr, Rd_set hb2r, Rd_set hbr, St.set_set, hn1, hn2]) | (refine L_region fun K E hK hE => ?_; simp only [go_sem, seval, strsV, Rd_get hb2r, Rd_get hbr, Rd_set hb2r, Rd_set hbr, St.set_set, hn1, hn2]; try (refine hK _ _ ?_; clear hK hE K E))))
      refine fin_retR (v := .agg [.int .i64 5, .str dst, .str nm, .str [], .str x, strsV ar, .lst [] .full, .lst [] .full]) ?_ ?_ hres.symm ?_
      · simp only [go_sem, seval, res107, Rd_get hbr, strsV]
      · exact wk_st (by repeat (first | exact WkL.nil | apply WkL.same | apply WkL.lst))
      · exact .set_any (.set_any (.set1 hbf) hb2f) hbf

end Go.Proofs.Ytilpdejbldllbaa
