/- What is proved: What the reader of package oo hands back, on. Conditions: those that stand in the statements. -/
import Derived.Test.YtilpdejbldllbaaZOo
set_option linter.unusedSimpArgs false
set_option linter.unusedVariables false
namespace Go.Proofs.Ytilpdejbldllbaa
open Go.RowKit

def bnd {α β : Type} (x : PR α) (k : α → List Sgn → Nat → PR β) : PR β :=
  match x with
  | .ok (a, L, n) => k a L n
  | .error y => .error y
theorem bnd_ok {α β : Type} {a : α} {L : List Sgn} {n : Nat} {k : α → List Sgn → Nat → PR β} : bnd (.ok (a, L, n)) k = k a L n := rfl
theorem bnd_err {α β : Type} {x : Nat × Nat} {k : α → List Sgn → Nat → PR β} : bnd (.error x) k = .error x := rfl

theorem bnd_assoc {α β γ : Type} {x : PR α} {k : α → List Sgn → Nat → PR β} {k' : β → List Sgn → Nat → PR γ} : bnd (bnd x k) k' = bnd x fun a L n => bnd (k a L n) k' := by
  cases x with
  | error y => rfl
  | ok v => rfl
theorem OwnOk.rd {s : St} {r e : Nat} {L L' : List Sgn} {n n' k : Nat} {o : Own} (h : OwnOk (Rd s r e L n) o k) : OwnOk (Rd s r e L' n') o k := by
  cases o with
  | no => exact h
  | full => exact h
  | at_ b =>
    simp only [OwnOk, Rd, St.set] at h ⊢
    split at h
    · cases h
    · rename_i hb; rw [if_neg hb]; exact h
theorem OwnOk.rd' {s : St} {r e : Nat} {L : List Sgn} {n k : Nat} {o : Own} (h : OwnOk (Rd s r e L n) o k) : OwnOk s o k := by
  cases o with
  | no => exact h
  | full => exact h
  | at_ b =>
    simp only [OwnOk, Rd, St.set] at h ⊢
    split at h
    · cases h
    · exact h
theorem Rd_own {s : St} {r e : Nat} {L L' : List Sgn} {n n' k T sz m : Nat} {o : Own} (h : OwnOk (Rd s r e L n) o k) : (Rd s r e L' n').own o T sz m = Rd (s.own o T sz m) r e L' n' := by
  cases o with
  | no => rfl
  | full => rfl
  | at_ b =>
    simp only [OwnOk, Rd, St.set] at h
    split at h
    · cases h
    · rename_i hb
      funext x
      simp only [St.own, Rd, St.set]
      by_cases h1 : x = b
      · subst h1; simp [hb]
      · simp [h1]
theorem Fg.rd {s s' : St} (h : Fg s s') {r e : Nat} {L : List Sgn} {n : Nat} : Fg (Rd s r e L n) (Rd s' r e L n) := Fg.set h _ _
theorem fin_panR {P : Program} {env : Env} {s s1 : St} {rs : List ResultVar} {α : Type} {enc : α → VV} {r e at_ er : Nat} {L : List Sgn} {n : Nat} {res : PR α} (h : res = .error (at_, er)) (hf : Fg s1 s) :
    Qf P rs (PO enc s r e res) (.panic (stopV er at_)) env (Rd s1 r e L n) := by
  subst h
  exact ⟨_, hf.rd, rfl, _, _, rfl⟩
theorem fin_retR {P : Program} {env : Env} {s s1 : St} {rs : List ResultVar} {α : Type} {enc : α → VV} {r e : Nat} {L : List Sgn} {n : Nat} {res : PR α} {v : VV} {a : α} (hv : vres P env (Rd s1 r e L n) rs = some v) (hw : Wk v (enc a)) (h : res = .ok (a, L, n)) (hf : Fg s1 s) :
    Qf P rs (PO enc s r e res) .ret env (Rd s1 r e L n) := by
  subst h
  exact ⟨v, hv, _, _, hw, hf.rd, rfl, rfl⟩

theorem append_rd {k : VV → St → Prop} {T : TypeId} {q : QI} {xs : List (List VV)} {y : List VV} {o : Own} {s : St} {r e n' n sz : Nat} {L : List Sgn} (hn : xs.length = n) (hsz : q.sz = sz) (ho : OwnOk (Rd s r e L n') o n)
    (hb : (n + 1) * q.bt ≤ 140737488355328) (hm : n + 1 ≤ 9223372036854775807) (hy : y.length = sz) (hz : q.zok = true)
    (h : ∀ o', OwnOk (Rd s r e L n') o' (n + 1) → k (.lst (xs ++ [y]) o') (Rd (s.own o' T sz (n + 1)) r e L n')) : vappend k T q xs [y] o (Rd (s.own o T sz n) r e L n') := by
  rw [← Rd_own (L' := L) (n' := n') ho]
  refine append_own hn hsz rfl ho hb hm (fun z hz => by simp at hz; subst hz; exact hy) hz fun o' ho' => ?_
  rw [Rd_own ho']
  exact h o' ho'
def strC (x : List UInt8) : List VV := [.str x]
def strsV (l : List (List UInt8)) : VV := .lst (l.map strC) .no

def namesGo (e : Nat) : Nat → List (List UInt8) → List Sgn → Nat → PR (List (List UInt8))
  | 0, out, L, n => .ok (out, L, n)
  | f + 1, out, L, n =>
    if isT L 0 [41] then .ok (out, L.tail, n)
    else bnd (if 0 < out.length then mustP e L n [44] else .ok ((), L, n)) fun _ L n =>
      bnd (roomP e L n out.length 8 (namedB L)) fun _ L n =>
      bnd (nameP e L n) fun x L n => namesGo e f (out ++ [x]) L n
def namesP (e : Nat) (L : List Sgn) (n : Nat) : PR (List (List UInt8)) := bnd (mustP e L n [40]) fun _ L n => namesGo e (L.length + 1) [] L n

theorem mustP_len {e : Nat} {L L' : List Sgn} {n n' : Nat} {t : List UInt8} (h : mustP e L n t = .ok ((), L', n')) : L'.length + 1 = L.length ∧ n' = n := by
  unfold mustP at h
  split at h
  · injection h with h; injection h with h1 h2; injection h2 with h2 h3
    subst h2; subst h3
    cases L with
    | nil => rename_i h; simp [isT] at h
    | cons x L => simp
  · cases h
theorem nameP_len {e : Nat} {L L' : List Sgn} {n n' : Nat} {x : List UInt8} (h : nameP e L n = .ok (x, L', n')) : L'.length + 1 = L.length ∧ n' = n := by
  unfold nameP at h
  split at h
  · cases h
  · split at h
    · injection h with h; injection h with h1 h2; injection h2 with h2 h3
      subst h2; subst h3; simp
    · cases h
theorem roomP_eq {e : Nat} {L L' : List Sgn} {n n' a b : Nat} {t : Bool} (h : roomP e L n a b t = .ok ((), L', n')) : L' = L ∧ n' = n := by
  unfold roomP at h
  split at h
  · cases h
  · injection h with h; injection h with h1 h2; injection h2 with h2 h3
    exact ⟨h2.symm, h3.symm⟩

theorem names_S (s : St) (r e : Nat) (L : List Sgn) (hL : L.length ≤ 4096) (n : Nat) :
    SCalls Try.prog 51 [.ptr r 0] (Rd s r e L n) (PO strsV s r e (namesP e L n)) := by
  refine S_enter Try.func51 rfl Try.ntmps51 rfl ?_
  generalize hres : namesP e L n = res
  unfold namesP at hres
  (repeat (first | refine L_seq ?_ | refine L_blk ?_ | refine L_skip ?_ | refine L_endblk ?_ | refine L_ret ?_ | (refine L_exit ?_; repeat (first | refine X_code ?_ | refine X_back ?_ | refine X_blk ?_ | refine X_past (by decide) ?_)) | (refine L_cond ?_; simp only [go_sem, seval]) | (refine L_region fun K E hK hE => ?_; simp only [go_sem, seval]; try (refine hK _ _ ?_; clear hK hE K E))))
  refine call_po can47 (must_S s r e L n _) (fun a L1 n1 h1 => ?_) (fun at_ er Lx nx hx => ?_)
  rotate_left
  · rw [hx, bnd_err] at hres
    exact hE _ _ _ (fin_panR hres.symm (Fg.refl _))
  rw [h1, bnd_ok] at hres
  (simp only [go_sem, seval]; try (refine hK _ _ ?_; clear hK hE K E))
  have hL1 := mustP_len h1
  (repeat (first | refine L_seq ?_ | refine L_blk ?_ | refine L_skip ?_ | refine L_endblk ?_ | refine L_ret ?_ | (refine L_exit ?_; repeat (first | refine X_code ?_ | refine X_back ?_ | refine X_blk ?_ | refine X_past (by decide) ?_)) | (refine L_cond ?_; simp only [go_sem, seval]) | (refine L_region fun K E hK hE => ?_; simp only [go_sem, seval]; try (refine hK _ _ ?_; clear hK hE K E))))
  refine L_loop (fun k env s' => ∃ (L2 : List Sgn) (n2 : Nat) (out : List (List UInt8)) (o : Own), L2.length + 1 ≤ k ∧ out.length + L2.length ≤ 4096 ∧ res = namesGo e k out L2 n2 ∧ s' = Rd (s.own o 9 1 out.length) r e L2 n2 ∧ OwnOk (Rd s r e L n) o out.length ∧
      env 0 = .ptr r 0 ∧ env 3 = .lst (out.map strC) o) (L1.length + 1) ?_ ?_
  · exact ⟨L1, n1, [], .full, Nat.le_refl _, by simp; omega, hres.symm, rfl, rfl, rfl, rfl⟩
  · rintro k env s' ⟨L2, n2, out, o, hk, hlen, hgo, rfl, hown, e0, e3⟩
    obtain ⟨m, rfl⟩ : ∃ m, k = m + 1 := ⟨k - 1, by omega⟩
    simp only [namesGo] at hgo
    (repeat (first | refine L_seq ?_ | refine L_blk ?_ | refine L_skip ?_ | refine L_endblk ?_ | refine L_ret ?_ | (refine L_exit ?_; repeat (first | refine X_code ?_ | refine X_back ?_ | refine X_blk ?_ | refine X_past (by decide) ?_)) | (refine L_cond ?_; simp only [go_sem, seval, e0, e3]) | (refine L_region fun K E hK hE => ?_; simp only [go_sem, seval, e0, e3]; try (refine hK _ _ ?_; clear hK hE K E))))
    (refine call_ret can49 (given_S _ r e L2 n2 _) ?_; simp only [go_sem, seval, e0, e3]; try (refine hK _ _ ?_; clear hK hE K E))
    cases hg : isT L2 0 [41] with
    | true =>
      rw [hg] at hgo
      (repeat (first | refine L_seq ?_ | refine L_blk ?_ | refine L_skip ?_ | refine L_endblk ?_ | refine L_ret ?_ | (refine L_exit ?_; repeat (first | refine X_code ?_ | refine X_back ?_ | refine X_blk ?_ | refine X_past (by decide) ?_)) | (refine L_cond ?_; simp only [go_sem, seval, hg, e0, e3]) | (refine L_region fun K E hK hE => ?_; simp only [go_sem, seval, hg, e0, e3]; try (refine hK _ _ ?_; clear hK hE K E))))
      refine fin_retR (v := .lst (out.map strC) o) (a := out) ?_ ?_ hgo (Fg.own hown.rd')
      · simp only [go_sem, seval, res51]
      · exact Wk.lst _ _
    | false =>
      rw [hg] at hgo
      simp only [Bool.false_eq_true, if_false] at hgo
      by_cases h0 : (0 : Int) < (out.length : Int)
      case' pos =>
        have h0' : 0 < out.length := by omega
        rw [if_pos h0'] at hgo
        (repeat (first | refine L_seq ?_ | refine L_blk ?_ | refine L_skip ?_ | refine L_endblk ?_ | refine L_ret ?_ | (refine L_exit ?_; repeat (first | refine X_code ?_ | refine X_back ?_ | refine X_blk ?_ | refine X_past (by decide) ?_)) | (refine L_cond ?_; simp only [go_sem, seval, hg, e0, e3, h0, List.length_map]) | (refine L_region fun K E hK hE => ?_; simp only [go_sem, seval, hg, e0, e3, h0, List.length_map]; try (refine hK _ _ ?_; clear hK hE K E))))
        refine call_po can47 (must_S _ r e L2 n2 _) (fun a2 L3 n3 h3 => ?_) (fun at_ er Lx nx hx => ?_)
        rotate_left
        · rw [hx, bnd_err] at hgo
          exact hE _ _ _ (fin_panR hgo (Fg.own hown.rd'))
        rw [h3, bnd_ok] at hgo
        have hl3 : L3.length ≤ L2.length := by have := mustP_len h3; omega
        (simp only [go_sem, seval]; try (refine hK _ _ ?_; clear hK hE K E))
      case' neg =>
        have h0' : ¬ 0 < out.length := by omega
        rw [if_neg h0', bnd_ok] at hgo
        have hl3 : L2.length ≤ L2.length := Nat.le_refl _
        (repeat (first | refine L_seq ?_ | refine L_blk ?_ | refine L_skip ?_ | refine L_endblk ?_ | refine L_ret ?_ | (refine L_exit ?_; repeat (first | refine X_code ?_ | refine X_back ?_ | refine X_blk ?_ | refine X_past (by decide) ?_)) | (refine L_cond ?_; simp only [go_sem, seval, hg, e0, e3, h0, List.length_map]) | (refine L_region fun K E hK hE => ?_; simp only [go_sem, seval, hg, e0, e3, h0, List.length_map]; try (refine hK _ _ ?_; clear hK hE K E))))
      all_goals
        (repeat (first | refine L_seq ?_ | refine L_blk ?_ | refine L_skip ?_ | refine L_endblk ?_ | refine L_ret ?_ | (refine L_exit ?_; repeat (first | refine X_code ?_ | refine X_back ?_ | refine X_blk ?_ | refine X_past (by decide) ?_)) | (refine L_cond ?_; simp only [go_sem, seval, hg, e0, e3, h0, List.length_map]) | (refine L_region fun K E hK hE => ?_; simp only [go_sem, seval, hg, e0, e3, h0, List.length_map]; try (refine hK _ _ ?_; clear hK hE K E))))
        (refine call_ret can50 (named_S _ r e _ _) ?_; simp only [go_sem, seval, e0, e3, List.length_map]; try (refine hK _ _ ?_; clear hK hE K E))
        refine call_po can20 (room_S _ r e _ _ out.length 8 _) (fun a4 L4 n4 h4 => ?_) (fun at_ er Lx nx hx => ?_)
        rotate_left
        · rw [hx, bnd_err] at hgo
          exact hE _ _ _ (fin_panR hgo (Fg.own hown.rd'))
        rw [h4, bnd_ok] at hgo
        obtain ⟨rfl, rfl⟩ := roomP_eq h4
        (simp only [go_sem, seval]; try (refine hK _ _ ?_; clear hK hE K E))
        (repeat (first | refine L_seq ?_ | refine L_blk ?_ | refine L_skip ?_ | refine L_endblk ?_ | refine L_ret ?_ | (refine L_exit ?_; repeat (first | refine X_code ?_ | refine X_back ?_ | refine X_blk ?_ | refine X_past (by decide) ?_)) | (refine L_cond ?_; simp only [go_sem, seval, e0, e3]) | (refine L_region fun K E hK hE => ?_; simp only [go_sem, seval, e0, e3]; try (refine hK _ _ ?_; clear hK hE K E))))
        refine call_po can48 (name_S _ r e _ _) (fun x L5 n5 h5 => ?_) (fun at_ er Lx nx hx => ?_)
        rotate_left
        · rw [hx, bnd_err] at hgo
          exact hE _ _ _ (fin_panR hgo (Fg.own hown.rd'))
        rw [h5, bnd_ok] at hgo
        have hl5 := nameP_len h5
        (simp only [go_sem, seval, vrow, e0, e3]; try (refine hK _ _ ?_; clear hK hE K E))
        refine append_rd (n := out.length) (sz := 1) (by simp) rfl hown.rd (by simp only; omega) (by omega) rfl rfl fun o' ho' => ?_
        refine hK _ _ ?_
        clear hK hE K E
        (repeat (first | refine L_seq ?_ | refine L_blk ?_ | refine L_skip ?_ | refine L_endblk ?_ | refine L_ret ?_ | (refine L_exit ?_; repeat (first | refine X_code ?_ | refine X_back ?_ | refine X_blk ?_ | refine X_past (by decide) ?_)) | (refine L_cond ?_; simp only [go_sem, seval, e0, e3]) | (refine L_region fun K E hK hE => ?_; simp only [go_sem, seval, e0, e3]; try (refine hK _ _ ?_; clear hK hE K E))))
        refine ⟨m, Nat.lt_succ_self m, L5, n5, out ++ [x], o', by omega, by simp; omega, hgo, by simp, by simpa using ho'.rd, ?_, ?_⟩
        · simp only [go_sem, seval, e0]
        · simp only [go_sem, seval, List.map_append, strC]
end Go.Proofs.Ytilpdejbldllbaa
