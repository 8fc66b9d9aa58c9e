/- What is proved: What the reader of package oo hands back: statements and blocks; What the reader of package oo hands back: blocks. Conditions: those that stand in the statements. -/
import Derived.Test.YtilpdejbldllbaaZOoE
set_option linter.unusedSimpArgs false
set_option linter.unusedVariables false
namespace Go.Proofs.Ytilpdejbldllbaa
open Go.RowKit

def stsV (l : List Stm) : VV := .lst (stsC l) .no
/-- What a statement's contract is, with so much fuel. -/
def StmtOk (f : Nat) : Prop := ∀ (s : St) (r e : Nat) (L : List Sgn) (deep n : Nat), L.length ≤ 4096 → n + L.length ≤ 10000 → deep ≤ 8 → 3 * L.length + 1 ≤ f →
  SCalls Try.prog 76 [.ptr r 0, .int .i64 deep] (Rd s r e L n) (PO stV s r e (stmtP e f deep L n))
def BlockOk (f : Nat) : Prop := ∀ (s : St) (r e : Nat) (L : List Sgn) (deep n : Nat), L.length ≤ 4096 → n + L.length ≤ 10000 → deep ≤ 8 → 3 * L.length + 3 ≤ f →
  SCalls Try.prog 52 [.ptr r 0, .int .i64 deep] (Rd s r e L n) (PO stsV s r e (blockP e f deep L n))

theorem stmt_S (f : Nat) (ih : BlockOk f) : StmtOk (f + 1) := by
  intro s r e L deep n hL hn hd hf
  refine S_enter Try.func76 rfl Try.ntmps76 rfl ?_
  generalize hres : stmtP e (f + 1) deep L n = res
  simp only [stmtP] at hres
  (repeat (first | refine L_seq ?_ | refine L_blk ?_ | refine L_skip ?_ | refine L_endblk ?_ | refine L_ret ?_ | (refine L_exit ?_; repeat (first | refine X_code ?_ | refine X_back ?_ | refine X_blk ?_ | refine X_past (by decide) ?_)) | (refine L_cond ?_; simp only [go_sem, seval]) | (refine L_region fun K E hK hE => ?_; simp only [go_sem, seval]; try (refine hK _ _ ?_; clear hK hE K E))))
  intro b hb
  obtain ⟨hbr, hbf⟩ := Rd_free hb
  refine hK _ _ ?_
  clear hK hE K E
  rw [Rd_set hbr]
  refine L_seq ?_
  (refine L_drawT 19 rfl (by decide +kernel) fun K E hK hE Lk hLk => ?_; simp only [List.take_succ_cons, List.take_zero, List.drop_succ_cons, List.drop_zero])
  (repeat (apply vst_val; (· intro Kv hv; simp only [go_sem, seval, Rd]; exact hv); simp only [p_put_some, p_put_none, ↓reduceIte, Nat.reduceLT]))
  (apply vst_val; (· intro Kv hv; simp only [go_sem, seval]; exact call_ret can50 (named_S _ r e L n) (by simp only [go_sem, seval]; exact hv)); simp only [p_put_some, p_put_none, ↓reduceIte, Nat.reduceLT])
  (repeat (apply vst_val; (· intro Kv hv; simp only [go_sem, seval]; exact hv); simp only [p_put_some, p_put_none, ↓reduceIte, Nat.reduceLT]))
  refine vst_val (y := if namedB L = true then .tup [] else .ptr r 0) (fun Kv hv => ?_) ?_
  · cases hB : namedB L <;> simp only [hB, if_true, Bool.false_eq_true, if_false] at hv <;> simp only [go_sem, seval, hB] <;> exact hv
  simp only [p_put_some, p_put_none, ↓reduceIte, Nat.reduceLT]
  refine vst_val (y := if namedB L = true then .tup [] else .bool (isT L 0 [105, 102])) (fun Kv hv => ?_) ?_
  · cases hB : namedB L with
    | true =>
      simp only [hB, if_true] at hv
      simp only [go_sem, seval, hB]
      exact hv
    | false =>
      simp only [hB, Bool.false_eq_true, if_false] at hv
      simp only [go_sem, seval, hB]
      exact call_ret can21 (is_S _ r e L n 0 _) (by simp only [go_sem, seval]; exact hv)
  simp only [p_put_some, p_put_none, ↓reduceIte, Nat.reduceLT]
  refine vst_val (y := .bool (namedB L || isT L 0 [105, 102])) (fun Kv hv => ?_) ?_
  · cases hB : namedB L <;> simp only [hB, Bool.true_or, Bool.false_or] at hv <;> simp only [go_sem, seval, hB] <;> exact hv
  simp only [p_put_some, p_put_none, ↓reduceIte, Nat.reduceLT]
  (repeat (apply vst_val; (· intro Kv hv; simp only [go_sem, seval]; exact hv); simp only [p_put_some, p_put_none, ↓reduceIte, Nat.reduceLT]))
  refine vst_val (y := if (namedB L || isT L 0 [105, 102]) = true then .tup [] else .ptr r 0) (fun Kv hv => ?_) ?_
  · cases hB : (namedB L || isT L 0 [105, 102]) <;> simp only [hB, if_true, Bool.false_eq_true, if_false] at hv <;> simp only [go_sem, seval, hB] <;> exact hv
  simp only [p_put_some, p_put_none, ↓reduceIte, Nat.reduceLT]
  refine vst_val (y := if (namedB L || isT L 0 [105, 102]) = true then .tup [] else .bool (isT L 0 [108, 111, 111, 112])) (fun Kv hv => ?_) ?_
  · cases hB : (namedB L || isT L 0 [105, 102]) with
    | true =>
      simp only [hB, if_true] at hv
      simp only [go_sem, seval, hB]
      exact hv
    | false =>
      simp only [hB, Bool.false_eq_true, if_false] at hv
      simp only [go_sem, seval, hB]
      exact call_ret can21 (is_S _ r e L n 0 _) (by simp only [go_sem, seval]; exact hv)
  simp only [p_put_some, p_put_none, ↓reduceIte, Nat.reduceLT]
  refine vst_val (y := .bool ((namedB L || isT L 0 [105, 102]) || isT L 0 [108, 111, 111, 112])) (fun Kv hv => ?_) ?_
  · cases hB : (namedB L || isT L 0 [105, 102]) <;> simp only [hB, Bool.true_or, Bool.false_or] at hv <;> simp only [go_sem, seval, hB] <;> exact hv
  simp only [p_put_some, p_put_none, ↓reduceIte, Nat.reduceLT]
  (repeat (apply vst_val; (· intro Kv hv; simp only [go_sem, seval]; exact hv); simp only [p_put_some, p_put_none, ↓reduceIte, Nat.reduceLT]))
  refine vst_val (y := if (namedB L || isT L 0 [105, 102] || isT L 0 [108, 111, 111, 112]) = true then .tup [] else .ptr r 0) (fun Kv hv => ?_) ?_
  · cases hB : (namedB L || isT L 0 [105, 102] || isT L 0 [108, 111, 111, 112]) <;> simp only [hB, if_true, Bool.false_eq_true, if_false] at hv <;> simp only [go_sem, seval, hB] <;> exact hv
  simp only [p_put_some, p_put_none, ↓reduceIte, Nat.reduceLT]
  refine vst_val (y := if (namedB L || isT L 0 [105, 102] || isT L 0 [108, 111, 111, 112]) = true then .tup [] else .bool (isT L 0 [114, 101, 116, 117, 114, 110])) (fun Kv hv => ?_) ?_
  · cases hB : (namedB L || isT L 0 [105, 102] || isT L 0 [108, 111, 111, 112]) with
    | true =>
      simp only [hB, if_true] at hv
      simp only [go_sem, seval, hB]
      exact hv
    | false =>
      simp only [hB, Bool.false_eq_true, if_false] at hv
      simp only [go_sem, seval, hB]
      exact call_ret can21 (is_S _ r e L n 0 _) (by simp only [go_sem, seval]; exact hv)
  simp only [p_put_some, p_put_none, ↓reduceIte, Nat.reduceLT]
  refine vst_val (y := .bool ((namedB L || isT L 0 [105, 102] || isT L 0 [108, 111, 111, 112]) || isT L 0 [114, 101, 116, 117, 114, 110])) (fun Kv hv => ?_) ?_
  · cases hB : (namedB L || isT L 0 [105, 102] || isT L 0 [108, 111, 111, 112]) <;> simp only [hB, Bool.true_or, Bool.false_or] at hv <;> simp only [go_sem, seval, hB] <;> exact hv
  simp only [p_put_some, p_put_none, ↓reduceIte, Nat.reduceLT]
  (repeat (apply vst_val; (· intro Kv hv; simp only [go_sem, seval]; exact hv); simp only [p_put_some, p_put_none, ↓reduceIte, Nat.reduceLT]))

  (refine vst_nil (hLk _ ?_); clear hLk Lk; simp only [go_sem, seval]; try (refine hK _ _ ?_; clear hK hE K E))
  (refine call_po can20 (room_S _ r e L n n 1024 (begB L)) (fun a1 L1 n1 h1 => ?_) (fun at_ er Lx nx hx => ?_); rotate_left; (· rw [hx, bnd_err] at hres; exact hE _ _ _ (fin_panR hres.symm (.set1 hbf))); rw [h1, bnd_ok] at hres; simp only [go_sem, seval]; try (refine hK _ _ ?_; clear hK hE K E))
  obtain ⟨e1, e2⟩ := roomP_eq h1
  subst e1
  subst e2
  have hw : IntKind.i64.wrap ((n1 : Int) + 1) = ((n1 + 1 : Nat) : Int) := by rw [wrap_i64 (by omega) (by omega)]; omega
  (repeat (first | refine L_seq ?_ | refine L_blk ?_ | refine L_skip ?_ | refine L_endblk ?_ | refine L_ret ?_ | (refine L_exit ?_; repeat (first | refine X_code ?_ | refine X_back ?_ | refine X_blk ?_ | refine X_past (by decide) ?_)) | (refine L_cond ?_; simp only [go_sem, seval, Rd, hw, St.set_set]) | (refine L_region fun K E hK hE => ?_; simp only [go_sem, seval, Rd, hw, St.set_set]; try (refine hK _ _ ?_; clear hK hE K E))))
  rw [show ((s.set b (.obj 93 [.int .i64 0, .str [], .str [], .str [], .str [], .lst [] .full, .lst [] .full, .lst [] .full])).set r (.obj 49 [.lst (L1.map sgnC) .no, .int .i64 e, .int .i64 ((n1 + 1 : Nat) : Int)])) =
    Rd (s.set b (.obj 93 [.int .i64 0, .str [], .str [], .str [], .str [], .lst [] .full, .lst [] .full, .lst [] .full])) r e L1 (n1 + 1) from rfl]
  have ht1 : L1.tail.length ≤ L1.length := by simp
  (refine call_ret can49 (given_S _ r e L1 (n1 + 1) _) ?_; simp only [go_sem, seval]; try (refine hK _ _ ?_; clear hK hE K E))
  cases hi : isT L1 0 [105, 102] with
  | true =>
    rw [hi, if_pos rfl] at hres
    have hti := tail_len hi
    (repeat (first | refine L_seq ?_ | refine L_blk ?_ | refine L_skip ?_ | refine L_endblk ?_ | refine L_ret ?_ | (refine L_exit ?_; repeat (first | refine X_code ?_ | refine X_back ?_ | refine X_blk ?_ | refine X_past (by decide) ?_)) | (refine L_cond ?_; simp only [go_sem, seval, hi]) | (refine L_region fun K E hK hE => ?_; simp only [go_sem, seval, hi]; try (refine hK _ _ ?_; clear hK hE K E))))
    (refine call_po can52 (ih _ r e L1.tail deep (n1 + 1) (by omega) (by omega) hd (by omega)) (fun one L2 n2 h2 => ?_) (fun at_ er Lx nx hx => ?_); rotate_left; (· rw [hx, bnd_err] at hres; exact hE _ _ _ (fin_panR hres.symm (.set1 hbf))); rw [h2, bnd_ok] at hres; simp only [go_sem, seval, stsV]; try (refine hK _ _ ?_; clear hK hE K E))
    have l2 := (parse_len e f).2.1 _ _ _ _ _ _ h2
    intro b2 hb2
    obtain ⟨hb2r, hb2f⟩ := Rd_free hb2
    obtain ⟨hn1, hn2, hb2f⟩ := set_free hb2f
    refine hK _ _ ?_
    clear hK hE K E
    rw [Rd_set hb2r, Rd_set hb2r, St.set_set]
    (repeat (first | refine L_seq ?_ | refine L_blk ?_ | refine L_skip ?_ | refine L_endblk ?_ | refine L_ret ?_ | (refine L_exit ?_; repeat (first | refine X_code ?_ | refine X_back ?_ | refine X_blk ?_ | refine X_past (by decide) ?_)) | (refine L_cond ?_; simp only [go_sem, seval]) | (refine L_region fun K E hK hE => ?_; simp only [go_sem, seval]; try (refine hK _ _ ?_; clear hK hE K E))))
    (refine call_po can47 (must_S _ r e _ _ _) (fun a3 L3 n3 h3 => ?_) (fun at_ er Lx nx hx => ?_); rotate_left; (· rw [hx, bnd_err] at hres; exact hE _ _ _ (fin_panR hres.symm (.set_any (.set1 hbf) hb2f))); rw [h3, bnd_ok] at hres; simp only [go_sem, seval]; try (refine hK _ _ ?_; clear hK hE K E))
    have l3 := mustP_len h3
    (repeat (first | refine L_seq ?_ | refine L_blk ?_ | refine L_skip ?_ | refine L_endblk ?_ | refine L_ret ?_ | (refine L_exit ?_; repeat (first | refine X_code ?_ | refine X_back ?_ | refine X_blk ?_ | refine X_past (by decide) ?_)) | (refine L_cond ?_; simp only [go_sem, seval]) | (refine L_region fun K E hK hE => ?_; simp only [go_sem, seval]; try (refine hK _ _ ?_; clear hK hE K E))))
    (refine call_po can52 (ih _ r e L3 deep n3 (by omega) (by omega) hd (by omega)) (fun two L4 n4 h4 => ?_) (fun at_ er Lx nx hx => ?_); rotate_left; (· rw [hx, bnd_err] at hres; exact hE _ _ _ (fin_panR hres.symm (.set_any (.set1 hbf) hb2f))); rw [h4, bnd_ok] at hres; simp only [go_sem, seval, stsV, Rd_get hb2r, Rd_set hb2r, St.set_set]; try (refine hK _ _ ?_; clear hK hE K E))
    (repeat (first | refine L_seq ?_ | refine L_blk ?_ | refine L_skip ?_ | refine L_endblk ?_ | refine L_ret ?_ | (refine L_exit ?_; repeat (first | refine X_code ?_ | refine X_back ?_ | refine X_blk ?_ | refine X_past (by decide) ?_)) | (refine L_cond ?_; simp only [go_sem, seval, stsV, Rd_get hb2r, Rd_get hbr, Rd_set hb2r, Rd_set hbr, St.set_set, hn1, hn2]) | (refine L_region fun K E hK hE => ?_; simp only [go_sem, seval, stsV, Rd_get hb2r, Rd_get hbr, Rd_set hb2r, Rd_set hbr, St.set_set, hn1, hn2]; try (refine hK _ _ ?_; clear hK hE K E))))
    refine fin_retR (v := .agg [.int .i64 8, .str [], .str [], .str [], .str [], .lst [] .full, .lst (stsC one) .no, .lst (stsC two) .no]) ?_ ?_ hres.symm ?_
    · simp only [go_sem, seval, res76, Rd_get hbr]
    · exact wk_st (by repeat (first | exact WkL.nil | apply WkL.same | apply WkL.lst))
    · exact .set_any (.set_any (.set1 hbf) hb2f) hbf
  | false =>
    rw [hi, if_neg (by decide)] at hres
    (repeat (first | refine L_seq ?_ | refine L_blk ?_ | refine L_skip ?_ | refine L_endblk ?_ | refine L_ret ?_ | (refine L_exit ?_; repeat (first | refine X_code ?_ | refine X_back ?_ | refine X_blk ?_ | refine X_past (by decide) ?_)) | (refine L_cond ?_; simp only [go_sem, seval, hi]) | (refine L_region fun K E hK hE => ?_; simp only [go_sem, seval, hi]; try (refine hK _ _ ?_; clear hK hE K E))))
    (refine call_ret can49 (given_S _ r e L1 (n1 + 1) _) ?_; simp only [go_sem, seval]; try (refine hK _ _ ?_; clear hK hE K E))
    cases hl : isT L1 0 [108, 111, 111, 112] with
    | true =>
      rw [hl, if_pos rfl] at hres
      have hti := tail_len hl
      (repeat (first | refine L_seq ?_ | refine L_blk ?_ | refine L_skip ?_ | refine L_endblk ?_ | refine L_ret ?_ | (refine L_exit ?_; repeat (first | refine X_code ?_ | refine X_back ?_ | refine X_blk ?_ | refine X_past (by decide) ?_)) | (refine L_cond ?_; simp only [go_sem, seval, hl]) | (refine L_region fun K E hK hE => ?_; simp only [go_sem, seval, hl]; try (refine hK _ _ ?_; clear hK hE K E))))
      (refine call_po can52 (ih _ r e L1.tail deep (n1 + 1) (by omega) (by omega) hd (by omega)) (fun one L2 n2 h2 => ?_) (fun at_ er Lx nx hx => ?_); rotate_left; (· rw [hx, bnd_err] at hres; exact hE _ _ _ (fin_panR hres.symm (.set1 hbf))); rw [h2, bnd_ok] at hres; simp only [go_sem, seval, stsV, Rd_get hbr, Rd_set hbr, St.set_set]; try (refine hK _ _ ?_; clear hK hE K E))
      (repeat (first | refine L_seq ?_ | refine L_blk ?_ | refine L_skip ?_ | refine L_endblk ?_ | refine L_ret ?_ | (refine L_exit ?_; repeat (first | refine X_code ?_ | refine X_back ?_ | refine X_blk ?_ | refine X_past (by decide) ?_)) | (refine L_cond ?_; simp only [go_sem, seval]) | (refine L_region fun K E hK hE => ?_; simp only [go_sem, seval]; try (refine hK _ _ ?_; clear hK hE K E))))
      refine fin_retR (v := .agg [.int .i64 9, .str [], .str [], .str [], .str [], .lst [] .full, .lst (stsC one) .no, .lst [] .full]) ?_ ?_ hres.symm ?_
      · simp only [go_sem, seval, res76, Rd_get hbr]
      · exact wk_st (by repeat (first | exact WkL.nil | apply WkL.same | apply WkL.lst))
      · exact .set1 hbf
    | false =>
      rw [hl, if_neg (by decide)] at hres
      (repeat (first | refine L_seq ?_ | refine L_blk ?_ | refine L_skip ?_ | refine L_endblk ?_ | refine L_ret ?_ | (refine L_exit ?_; repeat (first | refine X_code ?_ | refine X_back ?_ | refine X_blk ?_ | refine X_past (by decide) ?_)) | (refine L_cond ?_; simp only [go_sem, seval, hl]) | (refine L_region fun K E hK hE => ?_; simp only [go_sem, seval, hl]; try (refine hK _ _ ?_; clear hK hE K E))))
      intro b2 hb2
      obtain ⟨hb2r, hb2f⟩ := Rd_free hb2
      obtain ⟨hn1, hn2, hb2f⟩ := set_free hb2f
      refine hK _ _ ?_
      clear hK hE K E
      rw [Rd_set hb2r, Rd_set hb2r, St.set_set]
      (repeat (first | refine L_seq ?_ | refine L_blk ?_ | refine L_skip ?_ | refine L_endblk ?_ | refine L_ret ?_ | (refine L_exit ?_; repeat (first | refine X_code ?_ | refine X_back ?_ | refine X_blk ?_ | refine X_past (by decide) ?_)) | (refine L_cond ?_; simp only [go_sem, seval]) | (refine L_region fun K E hK hE => ?_; simp only [go_sem, seval]; try (refine hK _ _ ?_; clear hK hE K E))))
      (refine call_ret can49 (given_S _ r e L1 (n1 + 1) _) ?_; simp only [go_sem, seval]; try (refine hK _ _ ?_; clear hK hE K E))
      cases hr : isT L1 0 [114, 101, 116, 117, 114, 110] with
      | true =>
        rw [hr, if_pos rfl] at hres
        (repeat (first | refine L_seq ?_ | refine L_blk ?_ | refine L_skip ?_ | refine L_endblk ?_ | refine L_ret ?_ | (refine L_exit ?_; repeat (first | refine X_code ?_ | refine X_back ?_ | refine X_blk ?_ | refine X_past (by decide) ?_)) | (refine L_cond ?_; simp only [go_sem, seval, hr]) | (refine L_region fun K E hK hE => ?_; simp only [go_sem, seval, hr]; try (refine hK _ _ ?_; clear hK hE K E))))
        (refine call_po can48 (name_S _ r e _ _) (fun x L2 n2 h2 => ?_) (fun at_ er Lx nx hx => ?_); rotate_left; (· rw [hx, bnd_err] at hres; exact hE _ _ _ (fin_panR hres.symm (.set_any (.set1 hbf) hb2f))); rw [h2, bnd_ok] at hres; simp only [go_sem, seval, Rd_get hb2r, Rd_set hb2r, St.set_set]; try (refine hK _ _ ?_; clear hK hE K E))
        (repeat (first | refine L_seq ?_ | refine L_blk ?_ | refine L_skip ?_ | refine L_endblk ?_ | refine L_ret ?_ | (refine L_exit ?_; repeat (first | refine X_code ?_ | refine X_back ?_ | refine X_blk ?_ | refine X_past (by decide) ?_)) | (refine L_cond ?_; simp only [go_sem, seval]) | (refine L_region fun K E hK hE => ?_; simp only [go_sem, seval]; try (refine hK _ _ ?_; clear hK hE K E))))
        (refine call_po can47 (must_S _ r e _ _ _) (fun a3 L3 n3 h3 => ?_) (fun at_ er Lx nx hx => ?_); rotate_left; (· rw [hx, bnd_err] at hres; exact hE _ _ _ (fin_panR hres.symm (.set_any (.set1 hbf) hb2f))); rw [h3, bnd_ok] at hres; simp only [go_sem, seval]; try (refine hK _ _ ?_; clear hK hE K E))
        (repeat (first | refine L_seq ?_ | refine L_blk ?_ | refine L_skip ?_ | refine L_endblk ?_ | refine L_ret ?_ | (refine L_exit ?_; repeat (first | refine X_code ?_ | refine X_back ?_ | refine X_blk ?_ | refine X_past (by decide) ?_)) | (refine L_cond ?_; simp only [go_sem, seval, Rd_get hb2r, Rd_get hbr, Rd_set hb2r, Rd_set hbr, St.set_set, hn1, hn2]) | (refine L_region fun K E hK hE => ?_; simp only [go_sem, seval, Rd_get hb2r, Rd_get hbr, Rd_set hb2r, Rd_set hbr, St.set_set, hn1, hn2]; try (refine hK _ _ ?_; clear hK hE K E))))
        refine fin_retR (v := .agg [.int .i64 7, .str [], .str x, .str [], .str [], .lst [] .full, .lst [] .full, .lst [] .full]) ?_ ?_ hres.symm ?_
        · simp only [go_sem, seval, res76, Rd_get hbr]
        · exact wk_st (by repeat (first | exact WkL.nil | apply WkL.same | apply WkL.lst))
        · exact .set_any (.set_any (.set1 hbf) hb2f) hbf
      | false =>
        rw [hr, if_neg (by decide)] at hres
        (repeat (first | refine L_seq ?_ | refine L_blk ?_ | refine L_skip ?_ | refine L_endblk ?_ | refine L_ret ?_ | (refine L_exit ?_; repeat (first | refine X_code ?_ | refine X_back ?_ | refine X_blk ?_ | refine X_past (by decide) ?_)) | (refine L_cond ?_; simp only [go_sem, seval, hr]) | (refine L_region fun K E hK hE => ?_; simp only [go_sem, seval, hr]; try (refine hK _ _ ?_; clear hK hE K E))))
        (refine call_po can97 (plain_S _ r e _ hL _) (fun y L2 n2 h2 => ?_) (fun at_ er Lx nx hx => ?_); rotate_left; (· rw [hx, bnd_err] at hres; exact hE _ _ _ (fin_panR hres.symm (.set_any (.set1 hbf) hb2f))); rw [h2, bnd_ok] at hres; simp only [go_sem, seval, Rd_get hb2r, Rd_set hb2r, St.set_set, stV, stC_len, stC_all, stC_take]; try (refine hK _ _ ?_; clear hK hE K E))
        (repeat (first | refine L_seq ?_ | refine L_blk ?_ | refine L_skip ?_ | refine L_endblk ?_ | refine L_ret ?_ | (refine L_exit ?_; repeat (first | refine X_code ?_ | refine X_back ?_ | refine X_blk ?_ | refine X_past (by decide) ?_)) | (refine L_cond ?_; simp only [go_sem, seval]) | (refine L_region fun K E hK hE => ?_; simp only [go_sem, seval]; try (refine hK _ _ ?_; clear hK hE K E))))
        (refine call_po can47 (must_S _ r e _ _ _) (fun a3 L3 n3 h3 => ?_) (fun at_ er Lx nx hx => ?_); rotate_left; (· rw [hx, bnd_err] at hres; exact hE _ _ _ (fin_panR hres.symm (.set_any (.set1 hbf) hb2f))); rw [h3, bnd_ok] at hres; simp only [go_sem, seval]; try (refine hK _ _ ?_; clear hK hE K E))
        (repeat (first | refine L_seq ?_ | refine L_blk ?_ | refine L_skip ?_ | refine L_endblk ?_ | refine L_ret ?_ | (refine L_exit ?_; repeat (first | refine X_code ?_ | refine X_back ?_ | refine X_blk ?_ | refine X_past (by decide) ?_)) | (refine L_cond ?_; simp only [go_sem, seval, Rd_get hb2r, Rd_get hbr, Rd_set hb2r, Rd_set hbr, St.set_set, hn1, hn2, stC_len, stC_all, stC_take, Nat.le_refl]) | (refine L_region fun K E hK hE => ?_; simp only [go_sem, seval, Rd_get hb2r, Rd_get hbr, Rd_set hb2r, Rd_set hbr, St.set_set, hn1, hn2, stC_len, stC_all, stC_take, Nat.le_refl]; try (refine hK _ _ ?_; clear hK hE K E))))
        refine fin_retR (v := .agg (stC y)) ?_ (Wk.refl _) hres.symm ?_
        · simp only [go_sem, seval, res76, Rd_get hbr, stC_len, stC_all, stC_take, Nat.le_refl]
        · exact .set_any (.set_any (.set1 hbf) hb2f) hbf
end Go.Proofs.Ytilpdejbldllbaa
namespace Go.Proofs.Ytilpdejbldllbaa
open Go.RowKit

theorem stsC_app (l : List Stm) (x : Stm) : stsC (l ++ [x]) = stsC l ++ [stC x] := by simp [stsC_map]
theorem stsC_len (l : List Stm) : (stsC l).length = l.length := by simp [stsC_map]
attribute [go_sem] stsC_len

theorem block_S (f : Nat) (ih : ∀ g, g ≤ f → StmtOk g) : BlockOk (f + 1) := by
  intro s r e L deep n hL hn hd hf
  refine S_enter Try.func52 rfl Try.ntmps52 rfl ?_
  generalize hres : blockP e (f + 1) deep L n = res
  simp only [blockP] at hres
  (repeat (first | refine L_seq ?_ | refine L_blk ?_ | refine L_skip ?_ | refine L_endblk ?_ | refine L_ret ?_ | (refine L_exit ?_; repeat (first | refine X_code ?_ | refine X_back ?_ | refine X_blk ?_ | refine X_past (by decide) ?_)) | (refine L_cond ?_; simp only [go_sem, seval]) | (refine L_region fun K E hK hE => ?_; simp only [go_sem, seval]; try (refine hK _ _ ?_; clear hK hE K E))))
  (refine call_ret can21 (is_S _ r e L n 0 _) ?_; simp only [go_sem, seval]; try (refine hK _ _ ?_; clear hK hE K E))
  (refine call_po can20 (room_S _ r e L n deep 8 _) (fun a1 L1 n1 h1 => ?_) (fun at_ er Lx nx hx => ?_); rotate_left; (· rw [hx, bnd_err] at hres; exact hE _ _ _ (fin_panR hres.symm (Fg.refl _))); rw [h1, bnd_ok] at hres; simp only [go_sem, seval]; try (refine hK _ _ ?_; clear hK hE K E))
  have hroom := h1
  obtain ⟨e1, e2⟩ := roomP_eq h1
  subst e1
  subst e2
  (repeat (first | refine L_seq ?_ | refine L_blk ?_ | refine L_skip ?_ | refine L_endblk ?_ | refine L_ret ?_ | (refine L_exit ?_; repeat (first | refine X_code ?_ | refine X_back ?_ | refine X_blk ?_ | refine X_past (by decide) ?_)) | (refine L_cond ?_; simp only [go_sem, seval]) | (refine L_region fun K E hK hE => ?_; simp only [go_sem, seval]; try (refine hK _ _ ?_; clear hK hE K E))))
  (refine call_po can47 (must_S _ r e _ _ _) (fun a2 L2 n2 h2 => ?_) (fun at_ er Lx nx hx => ?_); rotate_left; (· rw [hx, bnd_err] at hres; exact hE _ _ _ (fin_panR hres.symm (Fg.refl _))); rw [h2, bnd_ok] at hres; simp only [go_sem, seval]; try (refine hK _ _ ?_; clear hK hE K E))
  have l2 := mustP_len h2
  have hd7 : deep ≤ 7 := by
    have ht : isT L1 0 [123] = true := by
      unfold mustP at h2
      split at h2
      · assumption
      · cases h2
    rcases Nat.lt_or_ge deep 8 with h | h
    · omega
    · unfold roomP at hroom
      rw [if_pos ⟨h, ht⟩] at hroom
      cases hroom
  have hw : IntKind.i64.wrap ((deep : Int) + 1) = ((deep + 1 : Nat) : Int) := by rw [wrap_i64 (by omega) (by omega)]; omega
  (repeat (first | refine L_seq ?_ | refine L_blk ?_ | refine L_skip ?_ | refine L_endblk ?_ | refine L_ret ?_ | (refine L_exit ?_; repeat (first | refine X_code ?_ | refine X_back ?_ | refine X_blk ?_ | refine X_past (by decide) ?_)) | (refine L_cond ?_; simp only [go_sem, seval]) | (refine L_region fun K E hK hE => ?_; simp only [go_sem, seval]; try (refine hK _ _ ?_; clear hK hE K E))))
  refine L_loop (fun k env s' => ∃ (L3 : List Sgn) (n3 : Nat) (out : List Stm) (o : Own), k ≤ f ∧ 3 * L3.length + 2 ≤ k ∧ L3.length ≤ 4096 ∧ n3 + L3.length ≤ 10000 ∧ out.length + L3.length ≤ 4096 ∧ stmtsP e k deep out L3 n3 = res ∧
    s' = Rd (s.own o 93 8 out.length) r e L3 n3 ∧ OwnOk (Rd s r e L1 n1) o out.length ∧ env 0 = .ptr r 0 ∧ env 1 = .int .i64 deep ∧ env 5 = .lst (stsC out) o) f ?_ ?_
  · exact ⟨L2, n2, [], .full, Nat.le_refl _, by omega, by omega, by omega, by simp; omega, hres, rfl, rfl, rfl, rfl, rfl⟩
  · rintro k env s' ⟨L3, n3, out, o, hkf, hk, hl3, hn3, hlen, hgo, rfl, hown, e0, e1, e5⟩
    obtain ⟨m, rfl⟩ : ∃ m, k = m + 1 := ⟨k - 1, by omega⟩
    simp only [stmtsP] at hgo
    (repeat (first | refine L_seq ?_ | refine L_blk ?_ | refine L_skip ?_ | refine L_endblk ?_ | refine L_ret ?_ | (refine L_exit ?_; repeat (first | refine X_code ?_ | refine X_back ?_ | refine X_blk ?_ | refine X_past (by decide) ?_)) | (refine L_cond ?_; simp only [go_sem, seval, e0, e1, e5]) | (refine L_region fun K E hK hE => ?_; simp only [go_sem, seval, e0, e1, e5]; try (refine hK _ _ ?_; clear hK hE K E))))
    (refine call_ret can49 (given_S _ r e L3 n3 _) ?_; simp only [go_sem, seval, e0, e1, e5]; try (refine hK _ _ ?_; clear hK hE K E))
    cases hg : isT L3 0 [125] with
    | true =>
      rw [hg, if_pos rfl] at hgo
      (repeat (first | refine L_seq ?_ | refine L_blk ?_ | refine L_skip ?_ | refine L_endblk ?_ | refine L_ret ?_ | (refine L_exit ?_; repeat (first | refine X_code ?_ | refine X_back ?_ | refine X_blk ?_ | refine X_past (by decide) ?_)) | (refine L_cond ?_; simp only [go_sem, seval, hg, e0, e5]) | (refine L_region fun K E hK hE => ?_; simp only [go_sem, seval, hg, e0, e5]; try (refine hK _ _ ?_; clear hK hE K E))))
      refine fin_retR (v := .lst (stsC out) o) (a := out) ?_ ?_ hgo.symm (Fg.own hown.rd')
      · simp only [go_sem, seval, res52]
      · exact Wk.lst _ _
    | false =>
      rw [hg, if_neg (by decide)] at hgo
      (repeat (first | refine L_seq ?_ | refine L_blk ?_ | refine L_skip ?_ | refine L_endblk ?_ | refine L_ret ?_ | (refine L_exit ?_; repeat (first | refine X_code ?_ | refine X_back ?_ | refine X_blk ?_ | refine X_past (by decide) ?_)) | (refine L_cond ?_; simp only [go_sem, seval, hg, e0, e1, e5, hw]) | (refine L_region fun K E hK hE => ?_; simp only [go_sem, seval, hg, e0, e1, e5, hw]; try (refine hK _ _ ?_; clear hK hE K E))))
      (refine call_po can76 (ih m (by omega) _ r e L3 (deep + 1) n3 (by omega) (by omega) (by omega) (by omega)) (fun x L4 n4 h4 => ?_) (fun at_ er Lx nx hx => ?_); rotate_left; (· rw [hx, bnd_err] at hgo; exact hE _ _ _ (fin_panR hgo.symm (Fg.own hown.rd'))); rw [h4, bnd_ok] at hgo; simp only [go_sem, seval, stV, vrow, stC_len, stC_all, e0, e1, e5]; try (refine hK _ _ ?_; clear hK hE K E))
      have l4 := (parse_len e m).1 _ _ _ _ _ _ h4
      refine append_rd (n := out.length) (sz := 8) (by simp [stsC_len]) rfl hown.rd (by simp only; omega) (by omega) (stC_len x) rfl fun o' ho' => ?_
      refine hK _ _ ?_
      clear hK hE K E
      (repeat (first | refine L_seq ?_ | refine L_blk ?_ | refine L_skip ?_ | refine L_endblk ?_ | refine L_ret ?_ | (refine L_exit ?_; repeat (first | refine X_code ?_ | refine X_back ?_ | refine X_blk ?_ | refine X_past (by decide) ?_)) | (refine L_cond ?_; simp only [go_sem, seval, e0, e1, e5]) | (refine L_region fun K E hK hE => ?_; simp only [go_sem, seval, e0, e1, e5]; try (refine hK _ _ ?_; clear hK hE K E))))
      refine ⟨m, Nat.lt_succ_self m, L4, n4, out ++ [x], o', by omega, by omega, by omega, by omega, by simp; omega, hgo, by simp, by simpa using ho'.rd, ?_, ?_, ?_⟩
      · simp only [go_sem, seval, e0]
      · simp only [go_sem, seval, e1]
      · simp only [go_sem, seval, stsC_app]

theorem parse_ok : ∀ f, StmtOk f ∧ BlockOk f := by
  intro f
  induction f using Nat.strongRecOn with
  | _ f ih =>
    cases f with
    | zero => exact ⟨fun s r e L deep n _ _ _ h => absurd h (by omega), fun s r e L deep n _ _ _ h => absurd h (by omega)⟩
    | succ f => exact ⟨stmt_S f (ih f (by omega)).2, block_S f fun g hg => (ih g (by omega)).1⟩
end Go.Proofs.Ytilpdejbldllbaa
