/- What is proved: What the reader of package oo hands back: classes. Conditions: those that stand in the statements. -/
import Derived.Test.YtilpdejbldllbaaZOoFj
set_option linter.unusedSimpArgs false
set_option linter.unusedVariables false
namespace Go.Proofs.Ytilpdejbldllbaa
open Go.RowKit

/-- The own list's place is not this one. -/
def Own.off (o : Own) (x : Nat) : Prop := ∀ b, o = .at_ b → b ≠ x
theorem own_get {S : St} {o : Own} {T sz m x : Nat} (h : o.off x) : S.own o T sz m x = S x := by
  cases o with
  | at_ b => exact St.set_other _ _ (Ne.symm (h b rfl))
  | _ => rfl
theorem own_set {S : St} {o : Own} {T sz m x : Nat} {C : Cell} (h : o.off x) : (S.own o T sz m).set x C = (S.set x C).own o T sz m := by
  cases o with
  | at_ b =>
    have := h b rfl
    funext y
    simp only [St.own, St.set]
    by_cases h1 : y = x
    · subst h1; simp [Ne.symm this]
    · simp [h1]
  | _ => rfl
theorem OwnOk.off {S : St} {o : Own} {k x : Nat} (h : OwnOk S o k) (hx : S x ≠ .free) : o.off x := by
  intro b hb e
  subst hb; subst e
  exact hx h
theorem OwnOk.off' {S : St} {o : Own} {T sz m x : Nat} (hx : S.own o T sz m x = .free) : o.off x := by
  intro b hb e
  subst hb; subst e
  simp only [St.own, St.set_same] at hx
  cases hx
theorem OwnOk.set {S : St} {o : Own} {k x : Nat} {C : Cell} (h : OwnOk S o k) (hx : o.off x) : OwnOk (S.set x C) o k := by
  cases o with
  | at_ b => exact (St.set_other _ _ (hx b rfl)).trans h
  | _ => exact h
theorem OwnOk.unset {S : St} {o : Own} {k x T : Nat} {xs : List VV} (h : OwnOk (S.set x (.obj T xs)) o k) : o.off x ∧ OwnOk S o k := by
  have h1 : o.off x := h.off (by rw [St.set_same]; exact fun e => by cases e)
  refine ⟨h1, ?_⟩
  cases o with
  | at_ b => exact (St.set_other _ _ (h1 b rfl)).symm.trans h
  | _ => exact h
theorem set_comm {S : St} {x y : Nat} {A B : Cell} (h : (x = y) = False) : (S.set x A).set y B = (S.set y B).set x A := by
  funext z
  simp only [St.set]
  by_cases h1 : z = x
  · subst h1; simp [h]
  · simp [h1]

structure Mth where
  stat : Bool
  nm : List UInt8
  pars : List (List UInt8)
  body : List Stm
structure Cls where
  nm : List UInt8
  par : List UInt8
  mths : List Mth
def mthC (m : Mth) : List VV := [.bool m.stat, .str m.nm, strsV m.pars, stsV m.body]
def clsC (c : Cls) : List VV := [.str c.nm, .str c.par, .lst (c.mths.map mthC) .no]
def clsV (c : Cls) : VV := .agg (clsC c)

def mthsP (e : Nat) : Nat → List Mth → List Sgn → Nat → PR (List Mth)
  | 0, _, _, _ => .error (0, 0)
  | f + 1, out, L, n =>
    if isT L 0 [125] then .ok (out, L.tail, n)
    else bnd (roomP e L n out.length 32 (namedB L || isT L 0 [115, 116, 97, 116, 105, 99])) fun _ L n =>
      bnd (nameP e (if isT L 0 [115, 116, 97, 116, 105, 99] then L.tail else L) n) fun x L' n => bnd (namesP e L' n) fun ps L' n =>
      bnd (blockP e (3 * L'.length + 3) 0 L' n) fun b L' n => mthsP e f (out ++ [⟨isT L 0 [115, 116, 97, 116, 105, 99], x, ps, b⟩]) L' n
def classP (e : Nat) (L : List Sgn) (n : Nat) : PR Cls :=
  bnd (mustP e L n [99, 108, 97, 115, 115]) fun _ L n => bnd (nameP e L n) fun x L n =>
  bnd (if isT L 0 [101, 120, 116, 101, 110, 100, 115] then bnd (nameP e L.tail n) fun y L n => .ok (y, L, n) else .ok ([], L, n)) fun y L n =>
  bnd (mustP e L n [123]) fun _ L n => bnd (mthsP e (L.length + 1) [] L n) fun ms L n => .ok (⟨x, y, ms⟩, L, n)

theorem class_S (s : St) (r e : Nat) (L : List Sgn) (n : Nat) (hL : L.length ≤ 4096) (hn : n + L.length ≤ 10000) :
    SCalls Try.prog 22 [.ptr r 0] (Rd s r e L n) (PO clsV s r e (classP e L n)) := by
  refine S_enter Try.func22 rfl Try.ntmps22 rfl ?_
  generalize hres : classP e L n = res
  unfold classP at hres
  (repeat (first | refine L_seq ?_ | refine L_blk ?_ | refine L_skip ?_ | refine L_endblk ?_ | refine L_ret ?_ | (refine L_exit ?_; repeat (first | refine X_code ?_ | refine X_back ?_ | refine X_blk ?_ | refine X_past (by decide) ?_)) | (refine L_cond ?_; simp only [go_sem, seval]) | (refine L_region fun K E hK hE => ?_; simp only [go_sem, seval]; try (refine hK _ _ ?_; clear hK hE K E))))
  intro b hb
  obtain ⟨hbr, hbf⟩ := Rd_free hb
  refine hK _ _ ?_
  clear hK hE K E
  rw [Rd_set hbr]
  (repeat (first | refine L_seq ?_ | refine L_blk ?_ | refine L_skip ?_ | refine L_endblk ?_ | refine L_ret ?_ | (refine L_exit ?_; repeat (first | refine X_code ?_ | refine X_back ?_ | refine X_blk ?_ | refine X_past (by decide) ?_)) | (refine L_cond ?_; simp only [go_sem, seval]) | (refine L_region fun K E hK hE => ?_; simp only [go_sem, seval]; try (refine hK _ _ ?_; clear hK hE K E))))
  (refine call_po can47 (must_S _ r e _ _ _) (fun a1 L1 n1 h1 => ?_) (fun at_ er Lx nx hx => ?_); rotate_left; (· rw [hx, bnd_err] at hres; exact hE _ _ _ (fin_panR hres.symm (.set1 hbf))); rw [h1, bnd_ok] at hres; simp only [go_sem, seval]; try (refine hK _ _ ?_; clear hK hE K E))
  have l1 := mustP_len h1
  (repeat (first | refine L_seq ?_ | refine L_blk ?_ | refine L_skip ?_ | refine L_endblk ?_ | refine L_ret ?_ | (refine L_exit ?_; repeat (first | refine X_code ?_ | refine X_back ?_ | refine X_blk ?_ | refine X_past (by decide) ?_)) | (refine L_cond ?_; simp only [go_sem, seval]) | (refine L_region fun K E hK hE => ?_; simp only [go_sem, seval]; try (refine hK _ _ ?_; clear hK hE K E))))
  (refine call_po can48 (name_S _ r e _ _) (fun x L2 n2 h2 => ?_) (fun at_ er Lx nx hx => ?_); rotate_left; (· rw [hx, bnd_err] at hres; exact hE _ _ _ (fin_panR hres.symm (.set1 hbf))); rw [h2, bnd_ok] at hres; simp only [go_sem, seval]; try (refine hK _ _ ?_; clear hK hE K E))
  have l2 := nameP_len h2
  intro b3 hb3
  obtain ⟨hb3r, hb3f⟩ := Rd_free hb3
  obtain ⟨hn1, hn2, hb3f⟩ := set_free hb3f
  refine hK _ _ ?_
  clear hK hE K E
  rw [Rd_set hb3r, Rd_set hb3r, St.set_set]
  (repeat (first | refine L_seq ?_ | refine L_blk ?_ | refine L_skip ?_ | refine L_endblk ?_ | refine L_ret ?_ | (refine L_exit ?_; repeat (first | refine X_code ?_ | refine X_back ?_ | refine X_blk ?_ | refine X_past (by decide) ?_)) | (refine L_cond ?_; simp only [go_sem, seval]) | (refine L_region fun K E hK hE => ?_; simp only [go_sem, seval]; try (refine hK _ _ ?_; clear hK hE K E))))
  (refine call_ret can49 (given_S _ r e _ _ _) ?_; simp only [go_sem, seval]; try (refine hK _ _ ?_; clear hK hE K E))
  rcases Bool.eq_false_or_eq_true (isT L2 0 [101, 120, 116, 101, 110, 100, 115]) with hg | hg
  case' inl =>
    rw [hg, if_pos rfl] at hres
    have := tail_len hg
    (repeat (first | refine L_seq ?_ | refine L_blk ?_ | refine L_skip ?_ | refine L_endblk ?_ | refine L_ret ?_ | (refine L_exit ?_; repeat (first | refine X_code ?_ | refine X_back ?_ | refine X_blk ?_ | refine X_past (by decide) ?_)) | (refine L_cond ?_; simp only [go_sem, seval, hg]) | (refine L_region fun K E hK hE => ?_; simp only [go_sem, seval, hg]; try (refine hK _ _ ?_; clear hK hE K E))))
    (refine call_po can48 (name_S _ r e _ _) (fun y L3 n3 h3 => ?_) (fun at_ er Lx nx hx => ?_); rotate_left; (· rw [hx, bnd_err] at hres; exact hE _ _ _ (fin_panR hres.symm (.set_any (.set1 hbf) hb3f))); rw [h3, bnd_ok] at hres; simp only [go_sem, seval, Rd_get hb3r, Rd_set hb3r, St.set_set]; try (refine hK _ _ ?_; clear hK hE K E))
    have l3 := nameP_len h3
    have lx : L3.length ≤ L.length ∧ n3 + L3.length ≤ 10000 := by omega
    (repeat (first | refine L_seq ?_ | refine L_blk ?_ | refine L_skip ?_ | refine L_endblk ?_ | refine L_ret ?_ | (refine L_exit ?_; repeat (first | refine X_code ?_ | refine X_back ?_ | refine X_blk ?_ | refine X_past (by decide) ?_)) | (refine L_cond ?_; simp only [go_sem, seval]) | (refine L_region fun K E hK hE => ?_; simp only [go_sem, seval]; try (refine hK _ _ ?_; clear hK hE K E))))
  case' inr =>
    rw [hg, if_neg (by decide)] at hres
    have lx : L2.length ≤ L.length ∧ n2 + L2.length ≤ 10000 := by omega
    (repeat (first | refine L_seq ?_ | refine L_blk ?_ | refine L_skip ?_ | refine L_endblk ?_ | refine L_ret ?_ | (refine L_exit ?_; repeat (first | refine X_code ?_ | refine X_back ?_ | refine X_blk ?_ | refine X_past (by decide) ?_)) | (refine L_cond ?_; simp only [go_sem, seval, hg]) | (refine L_region fun K E hK hE => ?_; simp only [go_sem, seval, hg]; try (refine hK _ _ ?_; clear hK hE K E))))
  all_goals
    rw [bnd_ok] at hres
    (refine call_po can47 (must_S _ r e _ _ _) (fun a4 L4 n4 h4 => ?_) (fun at_ er Lx nx hx => ?_); rotate_left; (· rw [hx, bnd_err] at hres; exact hE _ _ _ (fin_panR hres.symm (.set_any (.set1 hbf) hb3f))); rw [h4, bnd_ok] at hres; simp only [go_sem, seval]; try (refine hK _ _ ?_; clear hK hE K E))
    have l4 := mustP_len h4
    (repeat (first | refine L_seq ?_ | refine L_blk ?_ | refine L_skip ?_ | refine L_endblk ?_ | refine L_ret ?_ | (refine L_exit ?_; repeat (first | refine X_code ?_ | refine X_back ?_ | refine X_blk ?_ | refine X_past (by decide) ?_)) | (refine L_cond ?_; simp only [go_sem, seval]) | (refine L_region fun K E hK hE => ?_; simp only [go_sem, seval]; try (refine hK _ _ ?_; clear hK hE K E))))
    refine L_loop (fun k env s' => ∃ (pa : List UInt8) (ms : List Mth) (o : Own) (L5 : List Sgn) (n5 : Nat), L5.length + 1 ≤ k ∧ L5.length ≤ 4096 ∧ n5 + L5.length ≤ 10000 ∧ ms.length + L5.length ≤ 4096 ∧
      bnd (mthsP e k ms L5 n5) (fun ms L n => .ok (⟨x, pa, ms⟩, L, n)) = res ∧
      Fg s' (Rd (((s.set b (.obj 54 [.str [], .str [], .lst [] .full])).set b3 (.obj 54 [.str x, .str pa, .lst (ms.map mthC) o])).own o 62 4 ms.length) r e L5 n5) ∧ OwnOk (Rd ((s.set b (.obj 54 [.str [], .str [], .lst [] .full])).set b3 (.obj 0 [])) r e [] 0) o ms.length ∧
      env 0 = .ptr r 0 ∧ env 2 = .ptr b 0 ∧ env 3 = .ptr b3 0) (L4.length + 1) ?_ ?_
    · exact ⟨_, [], .full, L4, n4, Nat.le_refl _, by omega, by omega, by simp; omega, hres, Fg.refl _, rfl, rfl, rfl, rfl⟩
    · rintro k env s' ⟨pa, ms, o, L5, n5, hk, hl5, hn5, hlen, hgo, hfg, hown, e0, e2, e3⟩
      refine Kp_forget hfg ?_
      clear hfg hres
      obtain ⟨m, rfl⟩ : ∃ m, k = m + 1 := ⟨k - 1, by omega⟩
      simp only [mthsP] at hgo
      have ho3 : o.off b3 := hown.rd'.unset.1
      have hob : o.off b := hown.rd'.unset.2.unset.1
      have hos : OwnOk s o ms.length := hown.rd'.unset.2.unset.2
      have hfin : Fg (((s.set b (.obj 54 [.str [], .str [], .lst [] .full])).set b3 (.obj 54 [.str x, .str pa, .lst (ms.map mthC) o])).own o 62 4 ms.length) s := by
        rw [← own_set ho3, ← own_set hob]
        exact .set_any (.set_any (Fg.own hos) hbf) hb3f
      have hget : ((s.set b (.obj 54 [.str [], .str [], .lst [] .full])).set b3 (.obj 54 [.str x, .str pa, .lst (ms.map mthC) o])).own o 62 4 ms.length b3 = (.obj 54 [.str x, .str pa, .lst (ms.map mthC) o]) := by
        rw [own_get ho3, St.set_same]
      have hget2 : ((s.set b (.obj 54 [.str [], .str [], .lst [] .full])).set b3 (.obj 54 [.str x, .str pa, .lst (ms.map mthC) o])).own o 62 4 ms.length b = (.obj 54 [.str [], .str [], .lst [] .full]) := by
        rw [own_get hob]
        simp only [St.set, hn2, if_false, if_true]
      (repeat (first | refine L_seq ?_ | refine L_blk ?_ | refine L_skip ?_ | refine L_endblk ?_ | refine L_ret ?_ | (refine L_exit ?_; repeat (first | refine X_code ?_ | refine X_back ?_ | refine X_blk ?_ | refine X_past (by decide) ?_)) | (refine L_cond ?_; simp only [go_sem, seval, e0, e2, e3]) | (refine L_region fun K E hK hE => ?_; simp only [go_sem, seval, e0, e2, e3]; try (refine hK _ _ ?_; clear hK hE K E))))
      (refine call_ret can49 (given_S _ r e L5 n5 _) ?_; simp only [go_sem, seval, e0, e2, e3]; try (refine hK _ _ ?_; clear hK hE K E))
      cases hg2 : isT L5 0 [125] with
      | true =>
        rw [hg2, if_pos rfl, bnd_ok] at hgo
        (repeat (first | refine L_seq ?_ | refine L_blk ?_ | refine L_skip ?_ | refine L_endblk ?_ | refine L_ret ?_ | (refine L_exit ?_; repeat (first | refine X_code ?_ | refine X_back ?_ | refine X_blk ?_ | refine X_past (by decide) ?_)) | (refine L_cond ?_; simp only [go_sem, seval, hg2, e0, e2, e3, Rd_get hb3r, Rd_set hbr, Rd_get hbr, hn1, hn2, hget, hget2]) | (refine L_region fun K E hK hE => ?_; simp only [go_sem, seval, hg2, e0, e2, e3, Rd_get hb3r, Rd_set hbr, Rd_get hbr, hn1, hn2, hget, hget2]; try (refine hK _ _ ?_; clear hK hE K E))))
        refine fin_retR (v := .agg [.str x, .str pa, .lst (ms.map mthC) o]) ?_ ?_ hgo.symm ?_
        · simp only [go_sem, seval, res22, Rd_get hbr, e2]
        · exact Wk.agg (by repeat (first | exact WkL.nil | apply WkL.same | apply WkL.lst))
        · exact .set_any hfin hbf
      | false =>
        rw [hg2, if_neg (by decide)] at hgo
        simp only [bnd_assoc] at hgo
        (repeat (first | refine L_seq ?_ | refine L_blk ?_ | refine L_skip ?_ | refine L_endblk ?_ | refine L_ret ?_ | (refine L_exit ?_; repeat (first | refine X_code ?_ | refine X_back ?_ | refine X_blk ?_ | refine X_past (by decide) ?_)) | (refine L_cond ?_; simp only [go_sem, seval, hg2, e0, e2, e3]) | (refine L_region fun K E hK hE => ?_; simp only [go_sem, seval, hg2, e0, e2, e3]; try (refine hK _ _ ?_; clear hK hE K E))))
        try refine L_seq ?_
        (refine L_drawT 10 rfl (by decide +kernel) fun K E hK hE Lk hLk => ?_; simp only [List.take_succ_cons, List.take_zero, List.drop_succ_cons, List.drop_zero])
        (repeat (apply vst_val; (· intro Kv hv; simp only [go_sem, seval, e0, e2, e3, Rd_get hb3r, hget, List.length_map]; exact hv); simp only [p_put_some, p_put_none, ↓reduceIte, Nat.reduceLT]))
        (apply vst_val; (· intro Kv hv; simp only [go_sem, seval]; exact call_ret can50 (named_S _ r e L5 n5) (by simp only [go_sem, seval]; exact hv)); simp only [p_put_some, p_put_none, ↓reduceIte, Nat.reduceLT])
        (repeat (apply vst_val; (· intro Kv hv; simp only [go_sem, seval]; exact hv); simp only [p_put_some, p_put_none, ↓reduceIte, Nat.reduceLT]))
        refine vst_val (y := if namedB L5 = true then .tup [] else .ptr r 0) (fun Kv hv => ?_) ?_
        · cases hB : namedB L5 <;> simp only [hB, if_true, Bool.false_eq_true, if_false] at hv <;> simp only [go_sem, seval, hB, e0] <;> exact hv
        simp only [p_put_some, p_put_none, ↓reduceIte, Nat.reduceLT]
        refine vst_val (y := if namedB L5 = true then .tup [] else .bool (isT L5 0 [115, 116, 97, 116, 105, 99])) (fun Kv hv => ?_) ?_
        · cases hB : namedB L5 with
          | true =>
            simp only [hB, if_true] at hv
            simp only [go_sem, seval, hB, e0]
            exact hv
          | false =>
            simp only [hB, Bool.false_eq_true, if_false] at hv
            simp only [go_sem, seval, hB, e0]
            exact call_ret can21 (is_S _ r e L5 n5 0 _) (by simp only [go_sem, seval]; exact hv)
        simp only [p_put_some, p_put_none, ↓reduceIte, Nat.reduceLT]
        refine vst_val (y := .bool (namedB L5 || isT L5 0 [115, 116, 97, 116, 105, 99])) (fun Kv hv => ?_) ?_
        · cases hB : namedB L5 <;> simp only [hB, Bool.true_or, Bool.false_or] at hv <;> simp only [go_sem, seval, hB, e0] <;> exact hv
        simp only [p_put_some, p_put_none, ↓reduceIte, Nat.reduceLT]
        (repeat (apply vst_val; (· intro Kv hv; simp only [go_sem, seval]; exact hv); simp only [p_put_some, p_put_none, ↓reduceIte, Nat.reduceLT]))

        (refine vst_nil (hLk _ ?_); clear hLk Lk; simp only [go_sem, seval, e0]; try (refine hK _ _ ?_; clear hK hE K E))
        (refine call_po can20 (room_S _ r e L5 n5 ms.length 32 _) (fun a6 L6 n6 h6 => ?_) (fun at_ er Lx nx hx => ?_); rotate_left; (· rw [hx, bnd_err] at hgo; exact hE _ _ _ (fin_panR hgo.symm (hfin))); rw [h6, bnd_ok] at hgo; simp only [go_sem, seval, e0, e3]; try (refine hK _ _ ?_; clear hK hE K E))
        obtain ⟨q1, q2⟩ := roomP_eq h6
        subst q1
        subst q2
        have hite : (if isT L6 0 [115, 116, 97, 116, 105, 99] = true then L6.tail else L6).length ≤ L6.length := by split <;> simp
        (repeat (first | refine L_seq ?_ | refine L_blk ?_ | refine L_skip ?_ | refine L_endblk ?_ | refine L_ret ?_ | (refine L_exit ?_; repeat (first | refine X_code ?_ | refine X_back ?_ | refine X_blk ?_ | refine X_past (by decide) ?_)) | (refine L_cond ?_; simp only [go_sem, seval, e0, e2, e3]) | (refine L_region fun K E hK hE => ?_; simp only [go_sem, seval, e0, e2, e3]; try (refine hK _ _ ?_; clear hK hE K E))))
        (refine call_ret can49 (given_S _ r e L6 n6 _) ?_; simp only [go_sem, seval, e0, e3]; try (refine hK _ _ ?_; clear hK hE K E))
        (refine call_po can48 (name_S _ r e _ _) (fun nm L7 n7 h7 => ?_) (fun at_ er Lx nx hx => ?_); rotate_left; (· rw [hx, bnd_err] at hgo; exact hE _ _ _ (fin_panR hgo.symm (hfin))); rw [h7, bnd_ok] at hgo; simp only [go_sem, seval, e0, e3]; try (refine hK _ _ ?_; clear hK hE K E))
        have l7 := nameP_len h7
        have hl7 : L7.length ≤ 4096 := by omega
        (refine call_po can51 (names_S _ r e _ hl7 _) (fun ps L8 n8 h8 => ?_) (fun at_ er Lx nx hx => ?_); rotate_left; (· rw [hx, bnd_err] at hgo; exact hE _ _ _ (fin_panR hgo.symm (hfin))); rw [h8, bnd_ok] at hgo; simp only [go_sem, seval, e0, e3, strsV]; try (refine hK _ _ ?_; clear hK hE K E))
        have l8 := namesP_len h8
        intro b4 hb4
        obtain ⟨hb4r, hb4f⟩ := Rd_free hb4
        have ho4 := OwnOk.off' hb4f
        rw [own_get ho4] at hb4f
        obtain ⟨hn43, hn34, hb4f⟩ := set_free hb4f
        obtain ⟨hn4b, hnb4, hb4f⟩ := set_free hb4f
        refine hK _ _ ?_
        clear hK hE K E
        rw [Rd_set hb4r, Rd_set hb4r, St.set_set, own_set ho4]
        (repeat (first | refine L_seq ?_ | refine L_blk ?_ | refine L_skip ?_ | refine L_endblk ?_ | refine L_ret ?_ | (refine L_exit ?_; repeat (first | refine X_code ?_ | refine X_back ?_ | refine X_blk ?_ | refine X_past (by decide) ?_)) | (refine L_cond ?_; simp only [go_sem, seval, e0, e2, e3]) | (refine L_region fun K E hK hE => ?_; simp only [go_sem, seval, e0, e2, e3]; try (refine hK _ _ ?_; clear hK hE K E))))
        (refine call_po can52 ((parse_ok _).2 _ r e L8 0 n8 (by omega) (by omega) (by omega) (Nat.le_refl _)) (fun bd L9 n9 h9 => ?_) (fun at_ er Lx nx hx => ?_); rotate_left; (· rw [hx, bnd_err] at hgo; exact hE _ _ _ (fin_panR hgo.symm ((own_set (C := _) ho4) ▸ .set_any hfin hb4f))); rw [h9, bnd_ok] at hgo; simp only [go_sem, seval, e0, e3, stsV, Rd_get hb4r, Rd_set hb4r, own_get ho4, own_set ho4, St.set_set]; try (refine hK _ _ ?_; clear hK hE K E))
        have l9 := (parse_len e _).2.1 _ _ _ _ _ _ h9
        (repeat (first | refine L_seq ?_ | refine L_blk ?_ | refine L_skip ?_ | refine L_endblk ?_ | refine L_ret ?_ | (refine L_exit ?_; repeat (first | refine X_code ?_ | refine X_back ?_ | refine X_blk ?_ | refine X_past (by decide) ?_)) | (refine L_cond ?_; simp only [go_sem, seval, e0, e2, e3, Rd_get hb3r, Rd_get hb4r, own_get ho3, own_get ho4, hn43, hn34, vrow]) | (refine L_region fun K E hK hE => ?_; simp only [go_sem, seval, e0, e2, e3, Rd_get hb3r, Rd_get hb4r, own_get ho3, own_get ho4, hn43, hn34, vrow]; try (refine hK _ _ ?_; clear hK hE K E))))
        have hownA : OwnOk (Rd ((((s.set b (.obj 54 [.str [], .str [], .lst [] .full])).set b3 (.obj 54 [.str x, .str pa, .lst (ms.map mthC) o])).set b4 (.obj 62 [.bool (isT L6 0 [115, 116, 97, 116, 105, 99]), .str nm, .lst (ps.map strC) .no, .lst (stsC bd) .no]))) r e L9 n9) o ms.length := by
          cases o with
          | no => exact hos.elim
          | full => exact hos
          | at_ bo =>
            have q0 := hown
            simp only [OwnOk, Rd, St.set] at q0 ⊢
            have q4 := ho4 bo rfl
            have q3 := ho3 bo rfl
            have qb := hob bo rfl
            have qr : bo ≠ r := by intro e; subst e; simp at q0
            simp [q4, q3, qb, qr]
            exact hos
        refine append_rd (n := ms.length) (sz := 4) (by simp) rfl hownA (by simp only; omega) (by omega) rfl rfl fun o' ho' => ?_
        have ho3' : o'.off b3 := ho'.rd'.off (by simp only [St.set, hn34, if_false, if_true]; exact fun e => by cases e)
        have ho4' : o'.off b4 := ho'.rd'.off (by simp only [St.set, if_true]; exact fun e => by cases e)
        have hob' : o'.off b := ho'.rd'.off (by simp only [St.set, hnb4, hn2, if_false, if_true]; exact fun e => by cases e)
        (simp only [go_sem, seval, e0, e2, e3, Rd_get hb3r, Rd_set hb3r, own_get ho3', own_set ho3', hn34, hn43]; try (refine hK _ _ ?_; clear hK hE K E))
        (repeat (first | refine L_seq ?_ | refine L_blk ?_ | refine L_skip ?_ | refine L_endblk ?_ | refine L_ret ?_ | (refine L_exit ?_; repeat (first | refine X_code ?_ | refine X_back ?_ | refine X_blk ?_ | refine X_past (by decide) ?_)) | (refine L_cond ?_; simp only [go_sem, seval, e0, e2, e3]) | (refine L_region fun K E hK hE => ?_; simp only [go_sem, seval, e0, e2, e3]; try (refine hK _ _ ?_; clear hK hE K E))))
        refine ⟨m, Nat.lt_succ_self m, pa, ms ++ [⟨isT L6 0 [115, 116, 97, 116, 105, 99], nm, ps, bd⟩], o', L9, n9, by omega, by omega, by omega, by simp; omega, hgo, ?_, ?_, ?_, ?_, ?_⟩
        · refine Fg.rd ?_
          rw [set_comm hn43, St.set_set, ← own_set ho4']
          simp only [List.length_append, List.length_cons, List.length_nil, List.map_append, List.map_cons, List.map_nil, Nat.zero_add]
          refine Fg.of_set _ ?_
          rw [own_get ho4']
          simp only [St.set, hn43, hn4b, if_false]
          exact hb4f
        · rw [List.length_append]
          have q := ho'
          cases o' with
          | no => exact q.elim
          | full => exact q
          | at_ bo =>
            simp only [OwnOk, Rd, St.set] at q ⊢
            have q4 := ho4' bo rfl
            have q3 := ho3' bo rfl
            have qb := hob' bo rfl
            have qr : bo ≠ r := by intro e; subst e; simp at q
            simp [q4, q3, qb, qr] at q ⊢
            exact q
        · simp only [go_sem, seval, e0]
        · simp only [go_sem, seval, e2]
        · simp only [go_sem, seval, e3]
end Go.Proofs.Ytilpdejbldllbaa
