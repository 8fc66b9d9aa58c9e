/- What is proved: What the reader of package oo hands back, on. Conditions: those that stand in the statements. -/
import Derived.Test.YtilpdejbldllbaaZOoC
set_option linter.unusedSimpArgs false
set_option linter.unusedVariables false
namespace Go.Proofs.Ytilpdejbldllbaa
open Go.RowKit

def plainP (e : Nat) (L : List Sgn) (n : Nat) : PR Stm :=
  bnd (nameP e L n) fun first L n =>
  if isT L 0 [61] then
    if isT L.tail 0 [110, 101, 119] then bnd (nameP e L.tail.tail n) fun x L n => .ok (.mk 1 first [] [] x [] [] [], L, n)
    else bnd (nameP e L.tail n) fun src L n =>
      if isT L 0 [46] = true ∨ isT L 0 [58, 58] = true then bnd (callP e first src true L n) fun y L n => .ok (y, L, n)
      else .ok (.mk 2 first src [] [] [] [] [], L, n)
  else if isT L 0 [46] = true ∧ isT L 2 [61] = true then
    bnd (mustP e L n [46]) fun _ L n => bnd (nameP e L n) fun x L n => bnd (mustP e L n [61]) fun _ L n => bnd (nameP e L n) fun src L n =>
      .ok (.mk 4 first src [] x [] [] [], L, n)
  else bnd (callP e [] first false L n) fun y L n => .ok (y, L, n)

theorem stC_len (x : Stm) : (stC x).length = 8 := by cases x; unfold stC; rfl
theorem stC_all (x : Stm) : (stC x).all VV.one = true := by cases x; unfold stC; rfl
theorem stC_take (x : Stm) : (stC x).take 8 = stC x := by cases x; unfold stC; rfl
attribute [go_sem] stC_len stC_all stC_take

theorem plain_S (s : St) (r e : Nat) (L : List Sgn) (hL : L.length ≤ 4096) (n : Nat) :
    SCalls Try.prog 97 [.ptr r 0] (Rd s r e L n) (PO stV s r e (plainP e L n)) := by
  refine S_enter Try.func97 rfl Try.ntmps97 rfl ?_
  generalize hres : plainP e L n = res
  unfold plainP at hres
  (repeat (first | refine L_seq ?_ | refine L_blk ?_ | refine L_skip ?_ | refine L_endblk ?_ | refine L_ret ?_ | (refine L_exit ?_; repeat (first | refine X_code ?_ | refine X_back ?_ | refine X_blk ?_ | refine X_past (by decide) ?_)) | (refine L_cond ?_; simp only [go_sem, seval]) | (refine L_region fun K E hK hE => ?_; simp only [go_sem, seval]; try (refine hK _ _ ?_; clear hK hE K E))))
  intro b hb
  obtain ⟨hbr, hbf⟩ := Rd_free hb
  refine hK _ _ ?_
  clear hK hE K E
  rw [Rd_set hbr]
  (repeat (first | refine L_seq ?_ | refine L_blk ?_ | refine L_skip ?_ | refine L_endblk ?_ | refine L_ret ?_ | (refine L_exit ?_; repeat (first | refine X_code ?_ | refine X_back ?_ | refine X_blk ?_ | refine X_past (by decide) ?_)) | (refine L_cond ?_; simp only [go_sem, seval]) | (refine L_region fun K E hK hE => ?_; simp only [go_sem, seval]; try (refine hK _ _ ?_; clear hK hE K E))))
  (refine call_po can48 (name_S _ r e _ _) (fun first L1 n1 h1 => ?_) (fun at_ er Lx nx hx => ?_); rotate_left; (· rw [hx, bnd_err] at hres; exact hE _ _ _ (fin_panR hres.symm (.set1 hbf))); rw [h1, bnd_ok] at hres; simp only [go_sem, seval]; try (refine hK _ _ ?_; clear hK hE K E))
  have hl1 := nameP_len h1
  (repeat (first | refine L_seq ?_ | refine L_blk ?_ | refine L_skip ?_ | refine L_endblk ?_ | refine L_ret ?_ | (refine L_exit ?_; repeat (first | refine X_code ?_ | refine X_back ?_ | refine X_blk ?_ | refine X_past (by decide) ?_)) | (refine L_cond ?_; simp only [go_sem, seval]) | (refine L_region fun K E hK hE => ?_; simp only [go_sem, seval]; try (refine hK _ _ ?_; clear hK hE K E))))
  (refine call_ret can49 (given_S _ r e _ _ _) ?_; simp only [go_sem, seval]; try (refine hK _ _ ?_; clear hK hE K E))
  cases hg : isT L1 0 [61] with
  | true =>
    rw [hg, if_pos rfl] at hres
    (repeat (first | refine L_seq ?_ | refine L_blk ?_ | refine L_skip ?_ | refine L_endblk ?_ | refine L_ret ?_ | (refine L_exit ?_; repeat (first | refine X_code ?_ | refine X_back ?_ | refine X_blk ?_ | refine X_past (by decide) ?_)) | (refine L_cond ?_; simp only [go_sem, seval, hg]) | (refine L_region fun K E hK hE => ?_; simp only [go_sem, seval, hg]; try (refine hK _ _ ?_; clear hK hE K E))))
    (refine call_ret can49 (given_S _ r e _ _ _) ?_; simp only [go_sem, seval]; try (refine hK _ _ ?_; clear hK hE K E))
    cases hg2 : isT L1.tail 0 [110, 101, 119] with
    | true =>
      rw [hg2, if_pos rfl] at hres
      (repeat (first | refine L_seq ?_ | refine L_blk ?_ | refine L_skip ?_ | refine L_endblk ?_ | refine L_ret ?_ | (refine L_exit ?_; repeat (first | refine X_code ?_ | refine X_back ?_ | refine X_blk ?_ | refine X_past (by decide) ?_)) | (refine L_cond ?_; simp only [go_sem, seval, hg2]) | (refine L_region fun K E hK hE => ?_; simp only [go_sem, seval, hg2]; try (refine hK _ _ ?_; clear hK hE K E))))
      (refine call_po can48 (name_S _ r e _ _) (fun x L2 n2 h2 => ?_) (fun at_ er Lx nx hx => ?_); rotate_left; (· rw [hx, bnd_err] at hres; exact hE _ _ _ (fin_panR hres.symm (.set1 hbf))); rw [h2, bnd_ok] at hres; simp only [go_sem, seval, Rd_get hbr, Rd_set hbr, St.set_set]; try (refine hK _ _ ?_; clear hK hE K E))
      (repeat (first | refine L_seq ?_ | refine L_blk ?_ | refine L_skip ?_ | refine L_endblk ?_ | refine L_ret ?_ | (refine L_exit ?_; repeat (first | refine X_code ?_ | refine X_back ?_ | refine X_blk ?_ | refine X_past (by decide) ?_)) | (refine L_cond ?_; simp only [go_sem, seval, Rd_get hbr, Rd_set hbr, St.set_set]) | (refine L_region fun K E hK hE => ?_; simp only [go_sem, seval, Rd_get hbr, Rd_set hbr, St.set_set]; try (refine hK _ _ ?_; clear hK hE K E))))
      refine fin_retR (v := .agg [.int .i64 1, .str first, .str [], .str [], .str x, .lst [] .full, .lst [] .full, .lst [] .full]) ?_ ?_ hres.symm ?_
      · simp only [go_sem, seval, res97, Rd_get hbr]
      · exact wk_st (by repeat (first | exact WkL.nil | apply WkL.same | apply WkL.lst))
      · exact .set1 hbf

    | false =>
      rw [hg2, if_neg (by decide)] at hres
      (repeat (first | refine L_seq ?_ | refine L_blk ?_ | refine L_skip ?_ | refine L_endblk ?_ | refine L_ret ?_ | (refine L_exit ?_; repeat (first | refine X_code ?_ | refine X_back ?_ | refine X_blk ?_ | refine X_past (by decide) ?_)) | (refine L_cond ?_; simp only [go_sem, seval, hg2]) | (refine L_region fun K E hK hE => ?_; simp only [go_sem, seval, hg2]; try (refine hK _ _ ?_; clear hK hE K E))))
      (refine call_po can48 (name_S _ r e _ _) (fun src L2 n2 h2 => ?_) (fun at_ er Lx nx hx => ?_); rotate_left; (· rw [hx, bnd_err] at hres; exact hE _ _ _ (fin_panR hres.symm (.set1 hbf))); rw [h2, bnd_ok] at hres; simp only [go_sem, seval]; try (refine hK _ _ ?_; clear hK hE K E))
      have hl5 : L2.length ≤ 4096 := by have := nameP_len h2; simp at this; omega
      (repeat (first | refine L_seq ?_ | refine L_blk ?_ | refine L_skip ?_ | refine L_endblk ?_ | refine L_ret ?_ | (refine L_exit ?_; repeat (first | refine X_code ?_ | refine X_back ?_ | refine X_blk ?_ | refine X_past (by decide) ?_)) | (refine L_cond ?_; simp only [go_sem, seval]) | (refine L_region fun K E hK hE => ?_; simp only [go_sem, seval]; try (refine hK _ _ ?_; clear hK hE K E))))
      (refine call_ret can21 (is_S _ r e L2 n2 0 _) ?_; simp only [go_sem, seval]; try (refine hK _ _ ?_; clear hK hE K E))
      by_cases hor : isT L2 0 [46] = true ∨ isT L2 0 [58, 58] = true
      · rw [if_pos hor] at hres
        cases hd : isT L2 0 [46] with
        | true =>
          (simp only [go_sem, seval, hd]; try (refine hK _ _ ?_; clear hK hE K E))
          (repeat (first | refine L_seq ?_ | refine L_blk ?_ | refine L_skip ?_ | refine L_endblk ?_ | refine L_ret ?_ | (refine L_exit ?_; repeat (first | refine X_code ?_ | refine X_back ?_ | refine X_blk ?_ | refine X_past (by decide) ?_)) | (refine L_cond ?_; simp only [go_sem, seval, hd]) | (refine L_region fun K E hK hE => ?_; simp only [go_sem, seval, hd]; try (refine hK _ _ ?_; clear hK hE K E))))
          (refine call_po can107 (call_S _ r e _ hl5 _ _ _ _) (fun y L6 n6 h6 => ?_) (fun at_ er Lx nx hx => ?_); rotate_left; (· rw [hx, bnd_err] at hres; exact hE _ _ _ (fin_panR hres.symm (.set1 hbf))); rw [h6, bnd_ok] at hres; simp only [go_sem, seval, Rd_get hbr, Rd_set hbr, St.set_set, stV, stC_len, stC_all, stC_take]; try (refine hK _ _ ?_; clear hK hE K E))
          (repeat (first | refine L_seq ?_ | refine L_blk ?_ | refine L_skip ?_ | refine L_endblk ?_ | refine L_ret ?_ | (refine L_exit ?_; repeat (first | refine X_code ?_ | refine X_back ?_ | refine X_blk ?_ | refine X_past (by decide) ?_)) | (refine L_cond ?_; simp only [go_sem, seval, Rd_get hbr, Rd_set hbr, St.set_set]) | (refine L_region fun K E hK hE => ?_; simp only [go_sem, seval, Rd_get hbr, Rd_set hbr, St.set_set]; try (refine hK _ _ ?_; clear hK hE K E))))
          refine fin_retR (v := .agg (stC y)) ?_ (Wk.refl _) hres.symm ?_
          · simp only [go_sem, seval, res97, Rd_get hbr, stC_len, stC_all, stC_take, Nat.le_refl]
          · exact .set1 hbf

        | false =>
          have hc : isT L2 0 [58, 58] = true := by rcases hor with h | h; rw [hd] at h; cases h; exact h
          (simp only [go_sem, seval, hd]; try (refine hK _ _ ?_; clear hK hE K E))
          (refine call_ret can21 (is_S _ r e L2 n2 0 _) ?_; simp only [go_sem, seval, hc]; try (refine hK _ _ ?_; clear hK hE K E))
          (repeat (first | refine L_seq ?_ | refine L_blk ?_ | refine L_skip ?_ | refine L_endblk ?_ | refine L_ret ?_ | (refine L_exit ?_; repeat (first | refine X_code ?_ | refine X_back ?_ | refine X_blk ?_ | refine X_past (by decide) ?_)) | (refine L_cond ?_; simp only [go_sem, seval, hc]) | (refine L_region fun K E hK hE => ?_; simp only [go_sem, seval, hc]; try (refine hK _ _ ?_; clear hK hE K E))))
          (refine call_po can107 (call_S _ r e _ hl5 _ _ _ _) (fun y L6 n6 h6 => ?_) (fun at_ er Lx nx hx => ?_); rotate_left; (· rw [hx, bnd_err] at hres; exact hE _ _ _ (fin_panR hres.symm (.set1 hbf))); rw [h6, bnd_ok] at hres; simp only [go_sem, seval, Rd_get hbr, Rd_set hbr, St.set_set, stV, stC_len, stC_all, stC_take]; try (refine hK _ _ ?_; clear hK hE K E))
          (repeat (first | refine L_seq ?_ | refine L_blk ?_ | refine L_skip ?_ | refine L_endblk ?_ | refine L_ret ?_ | (refine L_exit ?_; repeat (first | refine X_code ?_ | refine X_back ?_ | refine X_blk ?_ | refine X_past (by decide) ?_)) | (refine L_cond ?_; simp only [go_sem, seval, Rd_get hbr, Rd_set hbr, St.set_set]) | (refine L_region fun K E hK hE => ?_; simp only [go_sem, seval, Rd_get hbr, Rd_set hbr, St.set_set]; try (refine hK _ _ ?_; clear hK hE K E))))
          refine fin_retR (v := .agg (stC y)) ?_ (Wk.refl _) hres.symm ?_
          · simp only [go_sem, seval, res97, Rd_get hbr, stC_len, stC_all, stC_take, Nat.le_refl]
          · exact .set1 hbf

      · rw [if_neg hor] at hres
        have hd : isT L2 0 [46] = false := by cases h : isT L2 0 [46] with | true => exact absurd (.inl h) hor | false => rfl
        have hc : isT L2 0 [58, 58] = false := by cases h : isT L2 0 [58, 58] with | true => exact absurd (.inr h) hor | false => rfl
        (simp only [go_sem, seval, hd]; try (refine hK _ _ ?_; clear hK hE K E))
        (refine call_ret can21 (is_S _ r e L2 n2 0 _) ?_; simp only [go_sem, seval, hc]; try (refine hK _ _ ?_; clear hK hE K E))
        (repeat (first | refine L_seq ?_ | refine L_blk ?_ | refine L_skip ?_ | refine L_endblk ?_ | refine L_ret ?_ | (refine L_exit ?_; repeat (first | refine X_code ?_ | refine X_back ?_ | refine X_blk ?_ | refine X_past (by decide) ?_)) | (refine L_cond ?_; simp only [go_sem, seval, hc, Rd_get hbr, Rd_set hbr, St.set_set]) | (refine L_region fun K E hK hE => ?_; simp only [go_sem, seval, hc, Rd_get hbr, Rd_set hbr, St.set_set]; try (refine hK _ _ ?_; clear hK hE K E))))
        refine fin_retR (v := .agg [.int .i64 2, .str first, .str src, .str [], .str [], .lst [] .full, .lst [] .full, .lst [] .full]) ?_ ?_ hres.symm ?_
        · simp only [go_sem, seval, res97, Rd_get hbr]
        · exact wk_st (by repeat (first | exact WkL.nil | apply WkL.same | apply WkL.lst))
        · exact .set1 hbf

  | false =>
    rw [hg, if_neg (by decide)] at hres
    have hl5 : L1.length ≤ 4096 := by omega
    (repeat (first | refine L_seq ?_ | refine L_blk ?_ | refine L_skip ?_ | refine L_endblk ?_ | refine L_ret ?_ | (refine L_exit ?_; repeat (first | refine X_code ?_ | refine X_back ?_ | refine X_blk ?_ | refine X_past (by decide) ?_)) | (refine L_cond ?_; simp only [go_sem, seval, hg]) | (refine L_region fun K E hK hE => ?_; simp only [go_sem, seval, hg]; try (refine hK _ _ ?_; clear hK hE K E))))
    (refine call_ret can21 (is_S _ r e L1 n1 0 _) ?_; simp only [go_sem, seval]; try (refine hK _ _ ?_; clear hK hE K E))
    by_cases hand : isT L1 0 [46] = true ∧ isT L1 2 [61] = true
    · rw [if_pos hand] at hres
      (simp only [go_sem, seval, hand.1]; try (refine hK _ _ ?_; clear hK hE K E))
      (refine call_ret can21 (is_S _ r e L1 n1 2 _) ?_; simp only [go_sem, seval, hand.2]; try (refine hK _ _ ?_; clear hK hE K E))
      (repeat (first | refine L_seq ?_ | refine L_blk ?_ | refine L_skip ?_ | refine L_endblk ?_ | refine L_ret ?_ | (refine L_exit ?_; repeat (first | refine X_code ?_ | refine X_back ?_ | refine X_blk ?_ | refine X_past (by decide) ?_)) | (refine L_cond ?_; simp only [go_sem, seval, hand.2]) | (refine L_region fun K E hK hE => ?_; simp only [go_sem, seval, hand.2]; try (refine hK _ _ ?_; clear hK hE K E))))
      (refine call_po can47 (must_S _ r e _ _ _) (fun a L2 n2 h2 => ?_) (fun at_ er Lx nx hx => ?_); rotate_left; (· rw [hx, bnd_err] at hres; exact hE _ _ _ (fin_panR hres.symm (.set1 hbf))); rw [h2, bnd_ok] at hres; simp only [go_sem, seval]; try (refine hK _ _ ?_; clear hK hE K E))
      (repeat (first | refine L_seq ?_ | refine L_blk ?_ | refine L_skip ?_ | refine L_endblk ?_ | refine L_ret ?_ | (refine L_exit ?_; repeat (first | refine X_code ?_ | refine X_back ?_ | refine X_blk ?_ | refine X_past (by decide) ?_)) | (refine L_cond ?_; simp only [go_sem, seval]) | (refine L_region fun K E hK hE => ?_; simp only [go_sem, seval]; try (refine hK _ _ ?_; clear hK hE K E))))
      (refine call_po can48 (name_S _ r e _ _) (fun x L3 n3 h3 => ?_) (fun at_ er Lx nx hx => ?_); rotate_left; (· rw [hx, bnd_err] at hres; exact hE _ _ _ (fin_panR hres.symm (.set1 hbf))); rw [h3, bnd_ok] at hres; simp only [go_sem, seval]; try (refine hK _ _ ?_; clear hK hE K E))
      intro b2 hb2
      obtain ⟨hb2r, hb2f⟩ := Rd_free hb2
      obtain ⟨hn1, hn2, hb2f⟩ := set_free hb2f
      refine hK _ _ ?_
      clear hK hE K E
      rw [Rd_set hb2r, Rd_set hb2r, St.set_set]
      (repeat (first | refine L_seq ?_ | refine L_blk ?_ | refine L_skip ?_ | refine L_endblk ?_ | refine L_ret ?_ | (refine L_exit ?_; repeat (first | refine X_code ?_ | refine X_back ?_ | refine X_blk ?_ | refine X_past (by decide) ?_)) | (refine L_cond ?_; simp only [go_sem, seval]) | (refine L_region fun K E hK hE => ?_; simp only [go_sem, seval]; try (refine hK _ _ ?_; clear hK hE K E))))
      (refine call_po can47 (must_S _ r e _ _ _) (fun a4 L4 n4 h4 => ?_) (fun at_ er Lx nx hx => ?_); rotate_left; (· rw [hx, bnd_err] at hres; exact hE _ _ _ (fin_panR hres.symm (.set_any (.set1 hbf) hb2f))); rw [h4, bnd_ok] at hres; simp only [go_sem, seval]; try (refine hK _ _ ?_; clear hK hE K E))
      (repeat (first | refine L_seq ?_ | refine L_blk ?_ | refine L_skip ?_ | refine L_endblk ?_ | refine L_ret ?_ | (refine L_exit ?_; repeat (first | refine X_code ?_ | refine X_back ?_ | refine X_blk ?_ | refine X_past (by decide) ?_)) | (refine L_cond ?_; simp only [go_sem, seval]) | (refine L_region fun K E hK hE => ?_; simp only [go_sem, seval]; try (refine hK _ _ ?_; clear hK hE K E))))
      (refine call_po can48 (name_S _ r e _ _) (fun src L5 n5 h5 => ?_) (fun at_ er Lx nx hx => ?_); rotate_left; (· rw [hx, bnd_err] at hres; exact hE _ _ _ (fin_panR hres.symm (.set_any (.set1 hbf) hb2f))); rw [h5, bnd_ok] at hres; simp only [go_sem, seval, Rd_get hb2r, Rd_set hb2r, St.set_set]; try (refine hK _ _ ?_; clear hK hE K E))
      (repeat (first | refine L_seq ?_ | refine L_blk ?_ | refine L_skip ?_ | refine L_endblk ?_ | refine L_ret ?_ | (refine L_exit ?_; repeat (first | refine X_code ?_ | refine X_back ?_ | refine X_blk ?_ | refine X_past (by decide) ?_)) | (refine L_cond ?_; simp only [go_sem, seval, Rd_get hb2r, Rd_get hbr, Rd_set hb2r, Rd_set hbr, St.set_set, hn1, hn2]) | (refine L_region fun K E hK hE => ?_; simp only [go_sem, seval, Rd_get hb2r, Rd_get hbr, Rd_set hb2r, Rd_set hbr, St.set_set, hn1, hn2]; try (refine hK _ _ ?_; clear hK hE K E))))
      refine fin_retR (v := .agg [.int .i64 4, .str first, .str src, .str [], .str x, .lst [] .full, .lst [] .full, .lst [] .full]) ?_ ?_ hres.symm ?_
      · simp only [go_sem, seval, res97, Rd_get hbr]
      · exact wk_st (by repeat (first | exact WkL.nil | apply WkL.same | apply WkL.lst))
      · exact .set_any (.set_any (.set1 hbf) hb2f) hbf

    · rw [if_neg hand] at hres
      cases hd : isT L1 0 [46] with
      | true =>
        have hc : isT L1 2 [61] = false := by cases h : isT L1 2 [61] with | true => exact absurd ⟨hd, h⟩ hand | false => rfl
        (simp only [go_sem, seval, hd]; try (refine hK _ _ ?_; clear hK hE K E))
        (refine call_ret can21 (is_S _ r e L1 n1 2 _) ?_; simp only [go_sem, seval, hc]; try (refine hK _ _ ?_; clear hK hE K E))
        (repeat (first | refine L_seq ?_ | refine L_blk ?_ | refine L_skip ?_ | refine L_endblk ?_ | refine L_ret ?_ | (refine L_exit ?_; repeat (first | refine X_code ?_ | refine X_back ?_ | refine X_blk ?_ | refine X_past (by decide) ?_)) | (refine L_cond ?_; simp only [go_sem, seval, hc]) | (refine L_region fun K E hK hE => ?_; simp only [go_sem, seval, hc]; try (refine hK _ _ ?_; clear hK hE K E))))
        (refine call_po can107 (call_S _ r e _ hl5 _ _ _ _) (fun y L6 n6 h6 => ?_) (fun at_ er Lx nx hx => ?_); rotate_left; (· rw [hx, bnd_err] at hres; exact hE _ _ _ (fin_panR hres.symm (.set1 hbf))); rw [h6, bnd_ok] at hres; simp only [go_sem, seval, Rd_get hbr, Rd_set hbr, St.set_set, stV, stC_len, stC_all, stC_take]; try (refine hK _ _ ?_; clear hK hE K E))
        (repeat (first | refine L_seq ?_ | refine L_blk ?_ | refine L_skip ?_ | refine L_endblk ?_ | refine L_ret ?_ | (refine L_exit ?_; repeat (first | refine X_code ?_ | refine X_back ?_ | refine X_blk ?_ | refine X_past (by decide) ?_)) | (refine L_cond ?_; simp only [go_sem, seval, Rd_get hbr, Rd_set hbr, St.set_set]) | (refine L_region fun K E hK hE => ?_; simp only [go_sem, seval, Rd_get hbr, Rd_set hbr, St.set_set]; try (refine hK _ _ ?_; clear hK hE K E))))
        refine fin_retR (v := .agg (stC y)) ?_ (Wk.refl _) hres.symm ?_
        · simp only [go_sem, seval, res97, Rd_get hbr, stC_len, stC_all, stC_take, Nat.le_refl]
        · exact .set1 hbf

      | false =>
        (simp only [go_sem, seval, hd]; try (refine hK _ _ ?_; clear hK hE K E))
        (repeat (first | refine L_seq ?_ | refine L_blk ?_ | refine L_skip ?_ | refine L_endblk ?_ | refine L_ret ?_ | (refine L_exit ?_; repeat (first | refine X_code ?_ | refine X_back ?_ | refine X_blk ?_ | refine X_past (by decide) ?_)) | (refine L_cond ?_; simp only [go_sem, seval, hd]) | (refine L_region fun K E hK hE => ?_; simp only [go_sem, seval, hd]; try (refine hK _ _ ?_; clear hK hE K E))))
        (refine call_po can107 (call_S _ r e _ hl5 _ _ _ _) (fun y L6 n6 h6 => ?_) (fun at_ er Lx nx hx => ?_); rotate_left; (· rw [hx, bnd_err] at hres; exact hE _ _ _ (fin_panR hres.symm (.set1 hbf))); rw [h6, bnd_ok] at hres; simp only [go_sem, seval, Rd_get hbr, Rd_set hbr, St.set_set, stV, stC_len, stC_all, stC_take]; try (refine hK _ _ ?_; clear hK hE K E))
        (repeat (first | refine L_seq ?_ | refine L_blk ?_ | refine L_skip ?_ | refine L_endblk ?_ | refine L_ret ?_ | (refine L_exit ?_; repeat (first | refine X_code ?_ | refine X_back ?_ | refine X_blk ?_ | refine X_past (by decide) ?_)) | (refine L_cond ?_; simp only [go_sem, seval, Rd_get hbr, Rd_set hbr, St.set_set]) | (refine L_region fun K E hK hE => ?_; simp only [go_sem, seval, Rd_get hbr, Rd_set hbr, St.set_set]; try (refine hK _ _ ?_; clear hK hE K E))))
        refine fin_retR (v := .agg (stC y)) ?_ (Wk.refl _) hres.symm ?_
        · simp only [go_sem, seval, res97, Rd_get hbr, stC_len, stC_all, stC_take, Nat.le_refl]
        · exact .set1 hbf

end Go.Proofs.Ytilpdejbldllbaa
