/- What is proved: What the reader of package oo hands back. Conditions: those that stand in the statements. -/
import Derived.Test.YtilpdejbldllbaaZLexj
set_option linter.unusedSimpArgs false
set_option linter.unusedVariables false
namespace Go.Proofs.Ytilpdejbldllbaa
open Go.RowKit

def kwB (t : List UInt8) : Bool :=
  decide (t = [99, 108, 97, 115, 115]) || decide (t = [101, 120, 116, 101, 110, 100, 115]) || decide (t = [115, 116, 97, 116, 105, 99]) || decide (t = [110, 101, 119]) || decide (t = [114, 101, 116, 117, 114, 110]) || decide (t = [105, 102]) || decide (t = [101, 108, 115, 101]) || decide (t = [108, 111, 111, 112])

theorem keyword_S (t : List UInt8) (s : St) : SRet Try.prog 75 [.str t] s (.bool (kwB t)) s := by
  refine S_enter Try.func75 rfl Try.ntmps75 rfl ?_
  by_cases h1 : t = [99, 108, 97, 115, 115]
  · have e1 := eq_true h1
    (repeat (first | refine L_seq ?_ | refine L_blk ?_ | refine L_skip ?_ | refine L_endblk ?_ | refine L_ret ?_ | (refine L_exit ?_; repeat (first | refine X_code ?_ | refine X_back ?_ | refine X_blk ?_ | refine X_past (by decide) ?_)) | (refine L_cond ?_; simp only [go_sem, seval, e1]) | (refine L_region fun K E hK hE => ?_; simp only [go_sem, seval, e1]; try (refine hK _ _ ?_; clear hK hE K E))))
    (refine fin_ret ?_ (Fg.refl _); simp only [go_sem, seval, res75])
    exact sb (by subst h1; decide)
  have e1 := eq_false h1
  by_cases h2 : t = [101, 120, 116, 101, 110, 100, 115]
  · have e2 := eq_true h2
    (repeat (first | refine L_seq ?_ | refine L_blk ?_ | refine L_skip ?_ | refine L_endblk ?_ | refine L_ret ?_ | (refine L_exit ?_; repeat (first | refine X_code ?_ | refine X_back ?_ | refine X_blk ?_ | refine X_past (by decide) ?_)) | (refine L_cond ?_; simp only [go_sem, seval, e1, e2]) | (refine L_region fun K E hK hE => ?_; simp only [go_sem, seval, e1, e2]; try (refine hK _ _ ?_; clear hK hE K E))))
    (refine fin_ret ?_ (Fg.refl _); simp only [go_sem, seval, res75])
    exact sb (by subst h2; decide)
  have e2 := eq_false h2
  by_cases h3 : t = [115, 116, 97, 116, 105, 99]
  · have e3 := eq_true h3
    (repeat (first | refine L_seq ?_ | refine L_blk ?_ | refine L_skip ?_ | refine L_endblk ?_ | refine L_ret ?_ | (refine L_exit ?_; repeat (first | refine X_code ?_ | refine X_back ?_ | refine X_blk ?_ | refine X_past (by decide) ?_)) | (refine L_cond ?_; simp only [go_sem, seval, e1, e2, e3]) | (refine L_region fun K E hK hE => ?_; simp only [go_sem, seval, e1, e2, e3]; try (refine hK _ _ ?_; clear hK hE K E))))
    (refine fin_ret ?_ (Fg.refl _); simp only [go_sem, seval, res75])
    exact sb (by subst h3; decide)
  have e3 := eq_false h3
  by_cases h4 : t = [110, 101, 119]
  · have e4 := eq_true h4
    (repeat (first | refine L_seq ?_ | refine L_blk ?_ | refine L_skip ?_ | refine L_endblk ?_ | refine L_ret ?_ | (refine L_exit ?_; repeat (first | refine X_code ?_ | refine X_back ?_ | refine X_blk ?_ | refine X_past (by decide) ?_)) | (refine L_cond ?_; simp only [go_sem, seval, e1, e2, e3, e4]) | (refine L_region fun K E hK hE => ?_; simp only [go_sem, seval, e1, e2, e3, e4]; try (refine hK _ _ ?_; clear hK hE K E))))
    (refine fin_ret ?_ (Fg.refl _); simp only [go_sem, seval, res75])
    exact sb (by subst h4; decide)
  have e4 := eq_false h4
  by_cases h5 : t = [114, 101, 116, 117, 114, 110]
  · have e5 := eq_true h5
    (repeat (first | refine L_seq ?_ | refine L_blk ?_ | refine L_skip ?_ | refine L_endblk ?_ | refine L_ret ?_ | (refine L_exit ?_; repeat (first | refine X_code ?_ | refine X_back ?_ | refine X_blk ?_ | refine X_past (by decide) ?_)) | (refine L_cond ?_; simp only [go_sem, seval, e1, e2, e3, e4, e5]) | (refine L_region fun K E hK hE => ?_; simp only [go_sem, seval, e1, e2, e3, e4, e5]; try (refine hK _ _ ?_; clear hK hE K E))))
    (refine fin_ret ?_ (Fg.refl _); simp only [go_sem, seval, res75])
    exact sb (by subst h5; decide)
  have e5 := eq_false h5
  by_cases h6 : t = [105, 102]
  · have e6 := eq_true h6
    (repeat (first | refine L_seq ?_ | refine L_blk ?_ | refine L_skip ?_ | refine L_endblk ?_ | refine L_ret ?_ | (refine L_exit ?_; repeat (first | refine X_code ?_ | refine X_back ?_ | refine X_blk ?_ | refine X_past (by decide) ?_)) | (refine L_cond ?_; simp only [go_sem, seval, e1, e2, e3, e4, e5, e6]) | (refine L_region fun K E hK hE => ?_; simp only [go_sem, seval, e1, e2, e3, e4, e5, e6]; try (refine hK _ _ ?_; clear hK hE K E))))
    (refine fin_ret ?_ (Fg.refl _); simp only [go_sem, seval, res75])
    exact sb (by subst h6; decide)
  have e6 := eq_false h6
  by_cases h7 : t = [101, 108, 115, 101]
  · have e7 := eq_true h7
    (repeat (first | refine L_seq ?_ | refine L_blk ?_ | refine L_skip ?_ | refine L_endblk ?_ | refine L_ret ?_ | (refine L_exit ?_; repeat (first | refine X_code ?_ | refine X_back ?_ | refine X_blk ?_ | refine X_past (by decide) ?_)) | (refine L_cond ?_; simp only [go_sem, seval, e1, e2, e3, e4, e5, e6, e7]) | (refine L_region fun K E hK hE => ?_; simp only [go_sem, seval, e1, e2, e3, e4, e5, e6, e7]; try (refine hK _ _ ?_; clear hK hE K E))))
    (refine fin_ret ?_ (Fg.refl _); simp only [go_sem, seval, res75])
    exact sb (by subst h7; decide)
  have e7 := eq_false h7
  by_cases h8 : t = [108, 111, 111, 112]
  · have e8 := eq_true h8
    (repeat (first | refine L_seq ?_ | refine L_blk ?_ | refine L_skip ?_ | refine L_endblk ?_ | refine L_ret ?_ | (refine L_exit ?_; repeat (first | refine X_code ?_ | refine X_back ?_ | refine X_blk ?_ | refine X_past (by decide) ?_)) | (refine L_cond ?_; simp only [go_sem, seval, e1, e2, e3, e4, e5, e6, e7, e8]) | (refine L_region fun K E hK hE => ?_; simp only [go_sem, seval, e1, e2, e3, e4, e5, e6, e7, e8]; try (refine hK _ _ ?_; clear hK hE K E))))
    (refine fin_ret ?_ (Fg.refl _); simp only [go_sem, seval, res75])
    exact sb (by subst h8; decide)
  have e8 := eq_false h8
  (repeat (first | refine L_seq ?_ | refine L_blk ?_ | refine L_skip ?_ | refine L_endblk ?_ | refine L_ret ?_ | (refine L_exit ?_; repeat (first | refine X_code ?_ | refine X_back ?_ | refine X_blk ?_ | refine X_past (by decide) ?_)) | (refine L_cond ?_; simp only [go_sem, seval, e1, e2, e3, e4, e5, e6, e7, e8]) | (refine L_region fun K E hK hE => ?_; simp only [go_sem, seval, e1, e2, e3, e4, e5, e6, e7, e8]; try (refine hK _ _ ?_; clear hK hE K E))))
  (refine fin_ret ?_ (Fg.refl _); simp only [go_sem, seval, res75])
  exact sb (by simp only [kwB, e1, e2, e3, e4, e5, e6, e7, e8]; rfl)

/-- A memory in which a reader stands at its signs. -/
def Rd (s : St) (r : Nat) (e : Nat) (L : List Sgn) (n : Nat) : St := s.set r (.obj 49 [.lst (L.map sgnC) .no, .int .i64 e, .int .i64 n])
def isT (L : List Sgn) (a : Nat) (t : List UInt8) : Bool := match L[a]? with | some x => decide (x.text = t) | none => false
def place (e : Nat) : List Sgn → Nat
  | [] => e
  | x :: _ => x.at_
def stopV (er at_ : Nat) : VV := .iface 45 (.agg [.int .i64 er, .int .i64 at_])

theorem sgn_get {L : List Sgn} {a : Nat} {x : Sgn} (h : L[a]? = some x) : (L.map sgnC)[a]? = some [.int .i64 x.kind, .str x.text, .int .i64 x.at_] := by
  rw [List.getElem?_map, h]; rfl
theorem sgn_all (L : List Sgn) (x : List VV) : (x ∈ L.map sgnC → x.length = 3) = True := by
  apply eq_true
  intro h
  obtain ⟨y, _, rfl⟩ := List.mem_map.1 h
  rfl
theorem sgn_all2 (x : Sgn) (L : List Sgn) : (∀ y, y ∈ [VV.int .i64 x.kind, VV.str x.text, VV.int .i64 x.at_] :: L.map sgnC → y.length = 3) = True := by
  apply eq_true
  intro y h
  rcases List.mem_cons.1 h with rfl | h
  · rfl
  · obtain ⟨y, _, rfl⟩ := List.mem_map.1 h; rfl
theorem sgn_take (L : List Sgn) : (L.map sgnC).take L.length = L.map sgnC := List.take_of_length_le (by simp)

theorem is_S (s : St) (r e : Nat) (L : List Sgn) (n a : Nat) (t : List UInt8) :
    SRet Try.prog 21 [.ptr r 0, .int .i64 a, .str t] (Rd s r e L n) (.bool (isT L a t)) (Rd s r e L n) := by
  refine S_enter Try.func21 rfl Try.ntmps21 rfl ?_
  have ha : (0 : Int) ≤ (a : Int) := by omega
  cases hx : L[a]? with
  | none =>
    have h1 : ¬ ((a : Int) < (L.length : Int)) := by have := List.getElem?_eq_none_iff.1 hx; omega
    (repeat (first | refine L_seq ?_ | refine L_blk ?_ | refine L_skip ?_ | refine L_endblk ?_ | refine L_ret ?_ | (refine L_exit ?_; repeat (first | refine X_code ?_ | refine X_back ?_ | refine X_blk ?_ | refine X_past (by decide) ?_)) | (refine L_cond ?_; simp only [go_sem, seval, Rd, h1, List.length_map]) | (refine L_region fun K E hK hE => ?_; simp only [go_sem, seval, Rd, h1, List.length_map]; try (refine hK _ _ ?_; clear hK hE K E))))
    (refine fin_ret ?_ (Fg.refl _); simp only [go_sem, seval, res21])
    exact sb (by simp [isT, hx])
  | some x =>
    have h1 : ((a : Int) < (L.length : Int)) := by have := (List.getElem?_eq_some_iff.1 hx).1; omega
    have hg := sgn_get hx
    (repeat (first | refine L_seq ?_ | refine L_blk ?_ | refine L_skip ?_ | refine L_endblk ?_ | refine L_ret ?_ | (refine L_exit ?_; repeat (first | refine X_code ?_ | refine X_back ?_ | refine X_blk ?_ | refine X_past (by decide) ?_)) | (refine L_cond ?_; simp only [go_sem, seval, Rd, h1, List.length_map, hg, ha]) | (refine L_region fun K E hK hE => ?_; simp only [go_sem, seval, Rd, h1, List.length_map, hg, ha]; try (refine hK _ _ ?_; clear hK hE K E))))
    (refine fin_ret ?_ (Fg.refl _); simp only [go_sem, seval, res21])
    exact sb (by simp [isT, hx])

theorem fail_S (s : St) (r e : Nat) (L : List Sgn) (n er : Nat) :
    SPan Try.prog 46 [.ptr r 0, .int .i64 er] (Rd s r e L n) (stopV er (place e L)) (Rd s r e L n) := by
  refine S_enter Try.func46 rfl Try.ntmps46 rfl ?_
  cases L with
  | nil =>
    (repeat (first | refine L_seq ?_ | refine L_blk ?_ | refine L_skip ?_ | refine L_endblk ?_ | refine L_ret ?_ | (refine L_exit ?_; repeat (first | refine X_code ?_ | refine X_back ?_ | refine X_blk ?_ | refine X_past (by decide) ?_)) | (refine L_cond ?_; simp only [go_sem, seval, Rd]) | (refine L_region fun K E hK hE => ?_; simp only [go_sem, seval, Rd]; try (refine hK _ _ ?_; clear hK hE K E))))
    (refine hE _ _ _ ?_; exact ⟨_, Fg.refl _, rfl, rfl⟩)
  | cons x L =>
    have h1 : (0 : Int) < ((L.length + 1 : Nat) : Int) := by omega
    (repeat (first | refine L_seq ?_ | refine L_blk ?_ | refine L_skip ?_ | refine L_endblk ?_ | refine L_ret ?_ | (refine L_exit ?_; repeat (first | refine X_code ?_ | refine X_back ?_ | refine X_blk ?_ | refine X_past (by decide) ?_)) | (refine L_cond ?_; simp only [go_sem, seval, Rd, h1, List.length_map, sgnC]) | (refine L_region fun K E hK hE => ?_; simp only [go_sem, seval, Rd, h1, List.length_map, sgnC]; try (refine hK _ _ ?_; clear hK hE K E))))
    (refine hE _ _ _ ?_; exact ⟨_, Fg.refl _, rfl, rfl⟩)

theorem given_S (s : St) (r e : Nat) (L : List Sgn) (n : Nat) (t : List UInt8) :
    SRet Try.prog 49 [.ptr r 0, .str t] (Rd s r e L n) (.bool (isT L 0 t)) (Rd s r e (if isT L 0 t then L.tail else L) n) := by
  refine S_enter Try.func49 rfl Try.ntmps49 rfl ?_
  (repeat (first | refine L_seq ?_ | refine L_blk ?_ | refine L_skip ?_ | refine L_endblk ?_ | refine L_ret ?_ | (refine L_exit ?_; repeat (first | refine X_code ?_ | refine X_back ?_ | refine X_blk ?_ | refine X_past (by decide) ?_)) | (refine L_cond ?_; simp only [go_sem, seval]) | (refine L_region fun K E hK hE => ?_; simp only [go_sem, seval]; try (refine hK _ _ ?_; clear hK hE K E))))
  (refine call_ret can21 (is_S s r e L n 0 t) ?_; simp only [go_sem, seval]; try (refine hK _ _ ?_; clear hK hE K E))
  cases L with
  | nil =>
    (repeat (first | refine L_seq ?_ | refine L_blk ?_ | refine L_skip ?_ | refine L_endblk ?_ | refine L_ret ?_ | (refine L_exit ?_; repeat (first | refine X_code ?_ | refine X_back ?_ | refine X_blk ?_ | refine X_past (by decide) ?_)) | (refine L_cond ?_; simp only [go_sem, seval, isT, List.getElem?_nil]) | (refine L_region fun K E hK hE => ?_; simp only [go_sem, seval, isT, List.getElem?_nil]; try (refine hK _ _ ?_; clear hK hE K E))))
    (refine fin_ret ?_ (Fg.refl _); simp only [go_sem, seval, res49])
  | cons x L =>
    have h1 : 1 ≤ L.length + 1 := by omega
    have ha := sgn_all2 x L
    by_cases hx : x.text = t
    · have e1 : isT (x :: L) 0 t = true := by simp [isT, hx]
      (repeat (first | refine L_seq ?_ | refine L_blk ?_ | refine L_skip ?_ | refine L_endblk ?_ | refine L_ret ?_ | (refine L_exit ?_; repeat (first | refine X_code ?_ | refine X_back ?_ | refine X_blk ?_ | refine X_past (by decide) ?_)) | (refine L_cond ?_; simp only [go_sem, seval, Rd, h1, List.length_map, e1, ha, sgnC, Nat.le_refl, sgn_take, List.tail_cons, St.set_set]) | (refine L_region fun K E hK hE => ?_; simp only [go_sem, seval, Rd, h1, List.length_map, e1, ha, sgnC, Nat.le_refl, sgn_take, List.tail_cons, St.set_set]; try (refine hK _ _ ?_; clear hK hE K E))))
      (refine fin_ret ?_ (Fg.refl _); simp only [go_sem, seval, res49])
    · have e1 : isT (x :: L) 0 t = false := by simp [isT, hx]
      (repeat (first | refine L_seq ?_ | refine L_blk ?_ | refine L_skip ?_ | refine L_endblk ?_ | refine L_ret ?_ | (refine L_exit ?_; repeat (first | refine X_code ?_ | refine X_back ?_ | refine X_blk ?_ | refine X_past (by decide) ?_)) | (refine L_cond ?_; simp only [go_sem, seval, e1]) | (refine L_region fun K E hK hE => ?_; simp only [go_sem, seval, e1]; try (refine hK _ _ ?_; clear hK hE K E))))
      (refine fin_ret ?_ (Fg.refl _); simp only [go_sem, seval, res49])

/-- What a reader's method comes to: a value, and the signs that are left; or a stop. -/
abbrev PR (α : Type) := Except (Nat × Nat) (α × List Sgn × Nat)
def PO {α : Type} (enc : α → VV) (s : St) (r e : Nat) (x : PR α) : SEnd → St → Prop := fun w t =>
  match x with
  | .ok (a, L, n) => w = .ret (enc a) ∧ t = Rd s r e L n
  | .error (at_, er) => w = .panic (stopV er at_) ∧ ∃ L n, t = Rd s r e L n
theorem call_po {P : Program} {N : Nat} {all rest : List Oper} {K : Env → St → Prop} {E : VV → Env → St → Prop} {d : Option Tmp} {env : Env} {f : FuncId} {xs : List VV} {α : Type} {enc : α → VV} {s : St} {r e : Nat} {L : List Sgn} {n : Nat} {x : PR α}
    (hc : Callable P f) (h : SCalls P f xs (Rd s r e L n) (PO enc s r e x))
    (hr : ∀ a L' n', x = .ok (a, L', n') → vops P N all K E rest (put N env d (enc a)) (Rd s r e L' n'))
    (hp : ∀ at_ er L' n', x = .error (at_, er) → E (stopV er at_) env (Rd s r e L' n')) :
    vcall2 P N all K E d rest env (Rd s r e L n) f xs := by
  refine ⟨_, .inl ⟨hc, h⟩, ?_, ?_⟩
  · intro y t q
    match x, q with
    | .ok (a, L', n'), q => obtain ⟨e1, e2⟩ := q; injection e1 with e1; subst e1; subst e2; exact hr _ _ _ rfl
    | .error (at_, er), q => cases q.1
  · intro y t q
    match x, q with
    | .ok (a, L', n'), q => cases q.1
    | .error (at_, er), q => obtain ⟨e1, L', n', e2⟩ := q; injection e1 with e1; subst e1; subst e2; exact hp _ _ _ _ rfl
theorem fin_normP {P : Program} {env : Env} {s : St} {v : VV} {rs : List ResultVar} {Q : SEnd → St → Prop} (h : vres P env s rs = some v) (hq : Q (.ret v) s) : Qf P rs Q .norm env s := ⟨v, h, v, s, Wk.refl v, Fg.refl s, hq⟩
theorem fin_retP {P : Program} {env : Env} {s : St} {v : VV} {rs : List ResultVar} {Q : SEnd → St → Prop} (h : vres P env s rs = some v) (hq : Q (.ret v) s) : Qf P rs Q .ret env s := ⟨v, h, v, s, Wk.refl v, Fg.refl s, hq⟩
theorem fin_panP {P : Program} {env : Env} {s : St} {v : VV} {rs : List ResultVar} {Q : SEnd → St → Prop} (hq : Q (.panic v) s) : Qf P rs Q (.panic v) env s := ⟨s, Fg.refl s, hq⟩
def unitV (_ : Unit) : VV := .tup []

def mustP (e : Nat) (L : List Sgn) (n : Nat) (t : List UInt8) : PR Unit := if isT L 0 t then .ok ((), L.tail, n) else .error (place e L, 150)
theorem must_S (s : St) (r e : Nat) (L : List Sgn) (n : Nat) (t : List UInt8) :
    SCalls Try.prog 47 [.ptr r 0, .str t] (Rd s r e L n) (PO unitV s r e (mustP e L n t)) := by
  refine S_enter Try.func47 rfl Try.ntmps47 rfl ?_
  (repeat (first | refine L_seq ?_ | refine L_blk ?_ | refine L_skip ?_ | refine L_endblk ?_ | refine L_ret ?_ | (refine L_exit ?_; repeat (first | refine X_code ?_ | refine X_back ?_ | refine X_blk ?_ | refine X_past (by decide) ?_)) | (refine L_cond ?_; simp only [go_sem, seval]) | (refine L_region fun K E hK hE => ?_; simp only [go_sem, seval]; try (refine hK _ _ ?_; clear hK hE K E))))
  (refine call_ret can49 (given_S s r e L n t) ?_; simp only [go_sem, seval]; try (refine hK _ _ ?_; clear hK hE K E))
  cases h : isT L 0 t with
  | true =>
    (repeat (first | refine L_seq ?_ | refine L_blk ?_ | refine L_skip ?_ | refine L_endblk ?_ | refine L_ret ?_ | (refine L_exit ?_; repeat (first | refine X_code ?_ | refine X_back ?_ | refine X_blk ?_ | refine X_past (by decide) ?_)) | (refine L_cond ?_; simp only [go_sem, seval, h]) | (refine L_region fun K E hK hE => ?_; simp only [go_sem, seval, h]; try (refine hK _ _ ?_; clear hK hE K E))))
    exact fin_normP (v := .tup []) rfl (by simp [mustP, h, PO, unitV])
  | false =>
    (repeat (first | refine L_seq ?_ | refine L_blk ?_ | refine L_skip ?_ | refine L_endblk ?_ | refine L_ret ?_ | (refine L_exit ?_; repeat (first | refine X_code ?_ | refine X_back ?_ | refine X_blk ?_ | refine X_past (by decide) ?_)) | (refine L_cond ?_; simp only [go_sem, seval, h]) | (refine L_region fun K E hK hE => ?_; simp only [go_sem, seval, h]; try (refine hK _ _ ?_; clear hK hE K E))))
    refine call_pan can46 (fail_S s r e L n 150) ?_
    exact hE _ _ _ (fin_panP (by simp only [mustP, h, Bool.false_eq_true, if_false]; exact ⟨rfl, _, _, rfl⟩))

def namedB : List Sgn → Bool
  | [] => false
  | x :: _ => decide (x.kind = 1) && !kwB x.text
theorem named_S (s : St) (r e : Nat) (L : List Sgn) (n : Nat) :
    SRet Try.prog 50 [.ptr r 0] (Rd s r e L n) (.bool (namedB L)) (Rd s r e L n) := by
  refine S_enter Try.func50 rfl Try.ntmps50 rfl ?_
  cases L with
  | nil =>
    (repeat (first | refine L_seq ?_ | refine L_blk ?_ | refine L_skip ?_ | refine L_endblk ?_ | refine L_ret ?_ | (refine L_exit ?_; repeat (first | refine X_code ?_ | refine X_back ?_ | refine X_blk ?_ | refine X_past (by decide) ?_)) | (refine L_cond ?_; simp only [go_sem, seval, Rd]) | (refine L_region fun K E hK hE => ?_; simp only [go_sem, seval, Rd]; try (refine hK _ _ ?_; clear hK hE K E))))
    (refine fin_ret ?_ (Fg.refl _); simp only [go_sem, seval, res50])
    exact sb rfl
  | cons x L =>
    have h1 : (0 : Int) < ((L.length + 1 : Nat) : Int) := by omega
    by_cases hk : (x.kind : Int) = 1
    · have hk' : x.kind = 1 := by omega
      have ek := eq_true hk
      (repeat (first | refine L_seq ?_ | refine L_blk ?_ | refine L_skip ?_ | refine L_endblk ?_ | refine L_ret ?_ | (refine L_exit ?_; repeat (first | refine X_code ?_ | refine X_back ?_ | refine X_blk ?_ | refine X_past (by decide) ?_)) | (refine L_cond ?_; simp only [go_sem, seval, Rd, h1, List.length_map, sgnC, ek]) | (refine L_region fun K E hK hE => ?_; simp only [go_sem, seval, Rd, h1, List.length_map, sgnC, ek]; try (refine hK _ _ ?_; clear hK hE K E))))
      (refine call_ret can75 (keyword_S x.text _) ?_; simp only [go_sem, seval]; try (refine hK _ _ ?_; clear hK hE K E))
      (repeat (first | refine L_seq ?_ | refine L_blk ?_ | refine L_skip ?_ | refine L_endblk ?_ | refine L_ret ?_ | (refine L_exit ?_; repeat (first | refine X_code ?_ | refine X_back ?_ | refine X_blk ?_ | refine X_past (by decide) ?_)) | (refine L_cond ?_; simp only [go_sem, seval]) | (refine L_region fun K E hK hE => ?_; simp only [go_sem, seval]; try (refine hK _ _ ?_; clear hK hE K E))))
      (refine fin_ret ?_ (Fg.refl _); simp only [go_sem, seval, res50])
      exact sb (by simp [namedB, hk'])
    · have hk' : ¬ x.kind = 1 := by omega
      have ek := eq_false hk
      (repeat (first | refine L_seq ?_ | refine L_blk ?_ | refine L_skip ?_ | refine L_endblk ?_ | refine L_ret ?_ | (refine L_exit ?_; repeat (first | refine X_code ?_ | refine X_back ?_ | refine X_blk ?_ | refine X_past (by decide) ?_)) | (refine L_cond ?_; simp only [go_sem, seval, Rd, h1, List.length_map, sgnC, ek]) | (refine L_region fun K E hK hE => ?_; simp only [go_sem, seval, Rd, h1, List.length_map, sgnC, ek]; try (refine hK _ _ ?_; clear hK hE K E))))
      (refine fin_ret ?_ (Fg.refl _); simp only [go_sem, seval, res50])
      exact sb (by simp [namedB, hk'])

def nameP (e : Nat) (L : List Sgn) (n : Nat) : PR (List UInt8) :=
  match L with
  | [] => .error (e, 150)
  | x :: L' => if namedB (x :: L') then .ok (x.text, L', n) else .error (x.at_, 150)
theorem name_S (s : St) (r e : Nat) (L : List Sgn) (n : Nat) :
    SCalls Try.prog 48 [.ptr r 0] (Rd s r e L n) (PO VV.str s r e (nameP e L n)) := by
  refine S_enter Try.func48 rfl Try.ntmps48 rfl ?_
  (repeat (first | refine L_seq ?_ | refine L_blk ?_ | refine L_skip ?_ | refine L_endblk ?_ | refine L_ret ?_ | (refine L_exit ?_; repeat (first | refine X_code ?_ | refine X_back ?_ | refine X_blk ?_ | refine X_past (by decide) ?_)) | (refine L_cond ?_; simp only [go_sem, seval]) | (refine L_region fun K E hK hE => ?_; simp only [go_sem, seval]; try (refine hK _ _ ?_; clear hK hE K E))))
  (refine call_ret can50 (named_S s r e L n) ?_; simp only [go_sem, seval]; try (refine hK _ _ ?_; clear hK hE K E))
  cases h : namedB L with
  | false =>
    (repeat (first | refine L_seq ?_ | refine L_blk ?_ | refine L_skip ?_ | refine L_endblk ?_ | refine L_ret ?_ | (refine L_exit ?_; repeat (first | refine X_code ?_ | refine X_back ?_ | refine X_blk ?_ | refine X_past (by decide) ?_)) | (refine L_cond ?_; simp only [go_sem, seval, h]) | (refine L_region fun K E hK hE => ?_; simp only [go_sem, seval, h]; try (refine hK _ _ ?_; clear hK hE K E))))
    refine call_pan can46 (fail_S s r e L n 150) ?_
    refine hE _ _ _ (fin_panP ?_)
    cases L with
    | nil => exact ⟨rfl, _, _, rfl⟩
    | cons x L => simp only [nameP, h, Bool.false_eq_true, if_false]; exact ⟨rfl, _, _, rfl⟩
  | true =>
    cases L with
    | nil => cases h
    | cons x L =>
      have h1 : 1 ≤ L.length + 1 := by omega
      have ha := sgn_all2 x L
      (repeat (first | refine L_seq ?_ | refine L_blk ?_ | refine L_skip ?_ | refine L_endblk ?_ | refine L_ret ?_ | (refine L_exit ?_; repeat (first | refine X_code ?_ | refine X_back ?_ | refine X_blk ?_ | refine X_past (by decide) ?_)) | (refine L_cond ?_; simp only [go_sem, seval, h, Rd, h1, List.length_map, ha, sgnC, Nat.le_refl, sgn_take, St.set_set]) | (refine L_region fun K E hK hE => ?_; simp only [go_sem, seval, h, Rd, h1, List.length_map, ha, sgnC, Nat.le_refl, sgn_take, St.set_set]; try (refine hK _ _ ?_; clear hK hE K E))))
      refine fin_normP (v := .str x.text) ?_ ?_
      · simp only [go_sem, seval, res48]
      · simp only [nameP, h, if_true]; exact ⟨rfl, rfl⟩

def roomP (e : Nat) (L : List Sgn) (n : Nat) (hv mst : Nat) (b : Bool) : PR Unit := if mst ≤ hv ∧ b = true then .error (place e L, 2) else .ok ((), L, n)
theorem room_S (s : St) (r e : Nat) (L : List Sgn) (n hv mst : Nat) (b : Bool) :
    SCalls Try.prog 20 [.ptr r 0, .int .i64 hv, .int .i64 mst, .bool b] (Rd s r e L n) (PO unitV s r e (roomP e L n hv mst b)) := by
  refine S_enter Try.func20 rfl Try.ntmps20 rfl ?_
  by_cases h : (mst : Int) ≤ (hv : Int)
  · have h' : mst ≤ hv := by omega
    cases b with
    | true =>
      (repeat (first | refine L_seq ?_ | refine L_blk ?_ | refine L_skip ?_ | refine L_endblk ?_ | refine L_ret ?_ | (refine L_exit ?_; repeat (first | refine X_code ?_ | refine X_back ?_ | refine X_blk ?_ | refine X_past (by decide) ?_)) | (refine L_cond ?_; simp only [go_sem, seval, h]) | (refine L_region fun K E hK hE => ?_; simp only [go_sem, seval, h]; try (refine hK _ _ ?_; clear hK hE K E))))
      refine call_pan can46 (fail_S s r e L n 2) ?_
      exact hE _ _ _ (fin_panP (by simp only [roomP, h', and_self, if_true]; exact ⟨rfl, _, _, rfl⟩))
    | false =>
      (repeat (first | refine L_seq ?_ | refine L_blk ?_ | refine L_skip ?_ | refine L_endblk ?_ | refine L_ret ?_ | (refine L_exit ?_; repeat (first | refine X_code ?_ | refine X_back ?_ | refine X_blk ?_ | refine X_past (by decide) ?_)) | (refine L_cond ?_; simp only [go_sem, seval, h]) | (refine L_region fun K E hK hE => ?_; simp only [go_sem, seval, h]; try (refine hK _ _ ?_; clear hK hE K E))))
      exact fin_normP (v := .tup []) rfl (by simp [roomP, PO, unitV])
  · have h' : ¬ mst ≤ hv := by omega
    (repeat (first | refine L_seq ?_ | refine L_blk ?_ | refine L_skip ?_ | refine L_endblk ?_ | refine L_ret ?_ | (refine L_exit ?_; repeat (first | refine X_code ?_ | refine X_back ?_ | refine X_blk ?_ | refine X_past (by decide) ?_)) | (refine L_cond ?_; simp only [go_sem, seval, h]) | (refine L_region fun K E hK hE => ?_; simp only [go_sem, seval, h]; try (refine hK _ _ ?_; clear hK hE K E))))
    exact fin_normP (v := .tup []) rfl (by simp [roomP, h', PO, unitV])
end Go.Proofs.Ytilpdejbldllbaa
