/- What is proved: What the reader of package oo hands back; What the reader of package oo hands back, on; What the reader of package oo hands back, on. Conditions: those that stand in the statements. -/
import Derived.Test.YtejlknplmfmceaaZLexj
set_option linter.unusedSimpArgs false
set_option linter.unusedVariables false
namespace Go.Proofs.Ytejlknplmfmceaa
open Go.RowKit

def kwB (t : List UInt8) : Bool :=
  decide (t = [99, 108, 97, 115, 115]) || decide (t = [101, 120, 116, 101, 110, 100, 115]) || decide (t = [115, 116, 97, 116, 105, 99]) || decide (t = [110, 101, 119]) || decide (t = [114, 101, 116, 117, 114, 110]) || decide (t = [105, 102]) || decide (t = [101, 108, 115, 101]) || decide (t = [108, 111, 111, 112])

theorem keyword_S (t : List UInt8) (s : St) : SRet Try.prog 75 [.str t] s (.bool (kwB t)) s := by
  refine S_enter Try.func75 rfl Try.ntmps75 rfl ?_
  by_cases h1 : t = [99, 108, 97, 115, 115]
  · have e1 := eq_true h1
    (repeat (first | refine L_seq ?_ | refine L_blk ?_ | refine L_skip ?_ | refine L_endblk ?_ | refine L_ret ?_ | (refine L_exit ?_; repeat (first | refine X_code ?_ | refine X_back ?_ | refine X_blk ?_ | refine X_past (by decide) ?_)) | (refine L_cond ?_; simp only [go_sem, seval, e1]) | (refine L_region fun K E hK hE => ?_; simp only [go_sem, seval, e1]; try (refine hK _ _ ?_; clear hK hE K E))))
    (refine fin_ret ?_ (Fg.refl _); simp only [go_sem, seval, res75])
    exact sb (by subst h1; decide)
  have e1 := eq_false h1
  by_cases h2 : t = [101, 120, 116, 101, 110, 100, 115]
  · have e2 := eq_true h2
    (repeat (first | refine L_seq ?_ | refine L_blk ?_ | refine L_skip ?_ | refine L_endblk ?_ | refine L_ret ?_ | (refine L_exit ?_; repeat (first | refine X_code ?_ | refine X_back ?_ | refine X_blk ?_ | refine X_past (by decide) ?_)) | (refine L_cond ?_; simp only [go_sem, seval, e1, e2]) | (refine L_region fun K E hK hE => ?_; simp only [go_sem, seval, e1, e2]; try (refine hK _ _ ?_; clear hK hE K E))))
    (refine fin_ret ?_ (Fg.refl _); simp only [go_sem, seval, res75])
    exact sb (by subst h2; decide)
  have e2 := eq_false h2
  by_cases h3 : t = [115, 116, 97, 116, 105, 99]
  · have e3 := eq_true h3
    (repeat (first | refine L_seq ?_ | refine L_blk ?_ | refine L_skip ?_ | refine L_endblk ?_ | refine L_ret ?_ | (refine L_exit ?_; repeat (first | refine X_code ?_ | refine X_back ?_ | refine X_blk ?_ | refine X_past (by decide) ?_)) | (refine L_cond ?_; simp only [go_sem, seval, e1, e2, e3]) | (refine L_region fun K E hK hE => ?_; simp only [go_sem, seval, e1, e2, e3]; try (refine hK _ _ ?_; clear hK hE K E))))
    (refine fin_ret ?_ (Fg.refl _); simp only [go_sem, seval, res75])
    exact sb (by subst h3; decide)
  have e3 := eq_false h3
  by_cases h4 : t = [110, 101, 119]
  · have e4 := eq_true h4
    (repeat (first | refine L_seq ?_ | refine L_blk ?_ | refine L_skip ?_ | refine L_endblk ?_ | refine L_ret ?_ | (refine L_exit ?_; repeat (first | refine X_code ?_ | refine X_back ?_ | refine X_blk ?_ | refine X_past (by decide) ?_)) | (refine L_cond ?_; simp only [go_sem, seval, e1, e2, e3, e4]) | (refine L_region fun K E hK hE => ?_; simp only [go_sem, seval, e1, e2, e3, e4]; try (refine hK _ _ ?_; clear hK hE K E))))
    (refine fin_ret ?_ (Fg.refl _); simp only [go_sem, seval, res75])
    exact sb (by subst h4; decide)
  have e4 := eq_false h4
  by_cases h5 : t = [114, 101, 116, 117, 114, 110]
  · have e5 := eq_true h5
    (repeat (first | refine L_seq ?_ | refine L_blk ?_ | refine L_skip ?_ | refine L_endblk ?_ | refine L_ret ?_ | (refine L_exit ?_; repeat (first | refine X_code ?_ | refine X_back ?_ | refine X_blk ?_ | refine X_past (by decide) ?_)) | (refine L_cond ?_; simp only [go_sem, seval, e1, e2, e3, e4, e5]) | (refine L_region fun K E hK hE => ?_; simp only [go_sem, seval, e1, e2, e3, e4, e5]; try (refine hK _ _ ?_; clear hK hE K E))))
    (refine fin_ret ?_ (Fg.refl _); simp only [go_sem, seval, res75])
    exact sb (by subst h5; decide)
  have e5 := eq_false h5
  by_cases h6 : t = [105, 102]
  · have e6 := eq_true h6
    (repeat (first | refine L_seq ?_ | refine L_blk ?_ | refine L_skip ?_ | refine L_endblk ?_ | refine L_ret ?_ | (refine L_exit ?_; repeat (first | refine X_code ?_ | refine X_back ?_ | refine X_blk ?_ | refine X_past (by decide) ?_)) | (refine L_cond ?_; simp only [go_sem, seval, e1, e2, e3, e4, e5, e6]) | (refine L_region fun K E hK hE => ?_; simp only [go_sem, seval, e1, e2, e3, e4, e5, e6]; try (refine hK _ _ ?_; clear hK hE K E))))
    (refine fin_ret ?_ (Fg.refl _); simp only [go_sem, seval, res75])
    exact sb (by subst h6; decide)
  have e6 := eq_false h6
  by_cases h7 : t = [101, 108, 115, 101]
  · have e7 := eq_true h7
    (repeat (first | refine L_seq ?_ | refine L_blk ?_ | refine L_skip ?_ | refine L_endblk ?_ | refine L_ret ?_ | (refine L_exit ?_; repeat (first | refine X_code ?_ | refine X_back ?_ | refine X_blk ?_ | refine X_past (by decide) ?_)) | (refine L_cond ?_; simp only [go_sem, seval, e1, e2, e3, e4, e5, e6, e7]) | (refine L_region fun K E hK hE => ?_; simp only [go_sem, seval, e1, e2, e3, e4, e5, e6, e7]; try (refine hK _ _ ?_; clear hK hE K E))))
    (refine fin_ret ?_ (Fg.refl _); simp only [go_sem, seval, res75])
    exact sb (by subst h7; decide)
  have e7 := eq_false h7
  by_cases h8 : t = [108, 111, 111, 112]
  · have e8 := eq_true h8
    (repeat (first | refine L_seq ?_ | refine L_blk ?_ | refine L_skip ?_ | refine L_endblk ?_ | refine L_ret ?_ | (refine L_exit ?_; repeat (first | refine X_code ?_ | refine X_back ?_ | refine X_blk ?_ | refine X_past (by decide) ?_)) | (refine L_cond ?_; simp only [go_sem, seval, e1, e2, e3, e4, e5, e6, e7, e8]) | (refine L_region fun K E hK hE => ?_; simp only [go_sem, seval, e1, e2, e3, e4, e5, e6, e7, e8]; try (refine hK _ _ ?_; clear hK hE K E))))
    (refine fin_ret ?_ (Fg.refl _); simp only [go_sem, seval, res75])
    exact sb (by subst h8; decide)
  have e8 := eq_false h8
  (repeat (first | refine L_seq ?_ | refine L_blk ?_ | refine L_skip ?_ | refine L_endblk ?_ | refine L_ret ?_ | (refine L_exit ?_; repeat (first | refine X_code ?_ | refine X_back ?_ | refine X_blk ?_ | refine X_past (by decide) ?_)) | (refine L_cond ?_; simp only [go_sem, seval, e1, e2, e3, e4, e5, e6, e7, e8]) | (refine L_region fun K E hK hE => ?_; simp only [go_sem, seval, e1, e2, e3, e4, e5, e6, e7, e8]; try (refine hK _ _ ?_; clear hK hE K E))))
  (refine fin_ret ?_ (Fg.refl _); simp only [go_sem, seval, res75])
  exact sb (by simp only [kwB, e1, e2, e3, e4, e5, e6, e7, e8]; rfl)

def isT (L : List Sgn) (a : Nat) (t : List UInt8) : Bool := match L[a]? with | some x => decide (x.text = t) | none => false
def place (e : Nat) : List Sgn → Nat
  | [] => e
  | x :: _ => x.at_
/-- What a reader's method comes to: a value, and the signs that are left; or a stop. -/
abbrev PR (α : Type) := Except (Nat × Nat) (α × List Sgn × Nat)
def mustP (e : Nat) (L : List Sgn) (n : Nat) (t : List UInt8) : PR Unit := if isT L 0 t then .ok ((), L.tail, n) else .error (place e L, 150)
def namedB : List Sgn → Bool
  | [] => false
  | x :: _ => decide (x.kind = 1) && !kwB x.text
def nameP (e : Nat) (L : List Sgn) (n : Nat) : PR (List UInt8) :=
  match L with
  | [] => .error (e, 150)
  | x :: L' => if namedB (x :: L') then .ok (x.text, L', n) else .error (x.at_, 150)
def roomP (e : Nat) (L : List Sgn) (n : Nat) (hv mst : Nat) (b : Bool) : PR Unit := if mst ≤ hv ∧ b = true then .error (place e L, 2) else .ok ((), L, n)
end Go.Proofs.Ytejlknplmfmceaa
namespace Go.Proofs.Ytejlknplmfmceaa
open Go.RowKit

def bnd {α β : Type} (x : PR α) (k : α → List Sgn → Nat → PR β) : PR β :=
  match x with
  | .ok (a, L, n) => k a L n
  | .error y => .error y
theorem bnd_ok {α β : Type} {a : α} {L : List Sgn} {n : Nat} {k : α → List Sgn → Nat → PR β} : bnd (.ok (a, L, n)) k = k a L n := rfl
theorem bnd_err {α β : Type} {x : Nat × Nat} {k : α → List Sgn → Nat → PR β} : bnd (.error x) k = .error x := rfl

theorem bnd_assoc {α β γ : Type} {x : PR α} {k : α → List Sgn → Nat → PR β} {k' : β → List Sgn → Nat → PR γ} : bnd (bnd x k) k' = bnd x fun a L n => bnd (k a L n) k' := by
  cases x with
  | error y => rfl
  | ok v => rfl
def strC (x : List UInt8) : List VV := [.str x]
def strsV (l : List (List UInt8)) : VV := .lst (l.map strC) .no

def namesGo (e : Nat) : Nat → List (List UInt8) → List Sgn → Nat → PR (List (List UInt8))
  | 0, out, L, n => .ok (out, L, n)
  | f + 1, out, L, n =>
    if isT L 0 [41] then .ok (out, L.tail, n)
    else bnd (if 0 < out.length then mustP e L n [44] else .ok ((), L, n)) fun _ L n =>
      bnd (roomP e L n out.length 8 (namedB L)) fun _ L n =>
      bnd (nameP e L n) fun x L n => namesGo e f (out ++ [x]) L n
def namesP (e : Nat) (L : List Sgn) (n : Nat) : PR (List (List UInt8)) := bnd (mustP e L n [40]) fun _ L n => namesGo e (L.length + 1) [] L n

theorem mustP_len {e : Nat} {L L' : List Sgn} {n n' : Nat} {t : List UInt8} (h : mustP e L n t = .ok ((), L', n')) : L'.length + 1 = L.length ∧ n' = n := by
  unfold mustP at h
  split at h
  · injection h with h; injection h with h1 h2; injection h2 with h2 h3
    subst h2; subst h3
    cases L with
    | nil => rename_i h; simp [isT] at h
    | cons x L => simp
  · cases h
theorem nameP_len {e : Nat} {L L' : List Sgn} {n n' : Nat} {x : List UInt8} (h : nameP e L n = .ok (x, L', n')) : L'.length + 1 = L.length ∧ n' = n := by
  unfold nameP at h
  split at h
  · cases h
  · split at h
    · injection h with h; injection h with h1 h2; injection h2 with h2 h3
      subst h2; subst h3; simp
    · cases h
theorem roomP_eq {e : Nat} {L L' : List Sgn} {n n' a b : Nat} {t : Bool} (h : roomP e L n a b t = .ok ((), L', n')) : L' = L ∧ n' = n := by
  unfold roomP at h
  split at h
  · cases h
  · injection h with h; injection h with h1 h2; injection h2 with h2 h3
    exact ⟨h2.symm, h3.symm⟩

end Go.Proofs.Ytejlknplmfmceaa
namespace Go.Proofs.Ytejlknplmfmceaa
open Go.RowKit

inductive WkL : List VV → List VV → Prop
  | nil : WkL [] []
  | same (x : VV) {xs ys : List VV} (h : WkL xs ys) : WkL (x :: xs) (x :: ys)
  | lst (l : List (List VV)) (o : Own) {xs ys : List VV} (h : WkL xs ys) : WkL (.lst l o :: xs) (.lst l .no :: ys)
theorem WkL.len {xs ys : List VV} (h : WkL xs ys) : xs.length = ys.length := by
  induction h with
  | nil => rfl
  | same x h ih => simp [ih]
  | lst l o h ih => simp [ih]
theorem WkL.get {xs ys : List VV} (h : WkL xs ys) : ∀ (j : Nat) (y : VV), ys[j]? = some y → ∃ x, xs[j]? = some x ∧ Wk x y ∧ (x.one = true → y.one = true) := by
  induction h with
  | nil => intro j y hy; simp at hy
  | same x h ih =>
    intro j y hy
    cases j with
    | zero => simp at hy; subst hy; exact ⟨x, rfl, Wk.refl _, id⟩
    | succ j => simpa using ih j y (by simpa using hy)
  | lst l o h ih =>
    intro j y hy
    cases j with
    | zero => simp at hy; subst hy; exact ⟨_, rfl, Wk.lst _ _, id⟩
    | succ j => simpa using ih j y (by simpa using hy)
theorem Wk.agg {xs ys : List VV} (h : WkL xs ys) : Wk (.agg xs) (.agg ys) := by
  intro G v hv
  cases hv with
  | agg vs xs hs h1 hR =>
    refine .agg vs ys (hs.trans h.len) (fun y hy => ?_) fun j v y hv hy => ?_
    · obtain ⟨j, hj, e⟩ := List.mem_iff_getElem.1 hy
      obtain ⟨x, hx, _, hw⟩ := h.get j y (by rw [← e]; exact List.getElem?_eq_getElem hj)
      exact hw (h1 x (List.mem_of_getElem? hx))
    · obtain ⟨x, hx, hw, _⟩ := h.get j y hy
      exact hw G v (hR j v x hv hx)

/-- A statement. -/
inductive Stm where
  | mk (kind : Int) (dst src cls nm : List UInt8) (args : List (List UInt8)) (one two : List Stm)
mutual
def stC : Stm → List VV
  | .mk k d s c m ar o t => [.int .i64 k, .str d, .str s, .str c, .str m, strsV ar, .lst (stsC o) .no, .lst (stsC t) .no]
def stsC : List Stm → List (List VV)
  | [] => []
  | x :: l => stC x :: stsC l
end
theorem stsC_map : ∀ l : List Stm, stsC l = l.map stC
  | [] => rfl
  | x :: l => by simp [stsC, stsC_map l]
def stV (x : Stm) : VV := .agg (stC x)

theorem set_free {s : St} {b x : Nat} {T : TypeId} {xs : List VV} (h : (s.set b (.obj T xs)) x = .free) : (x = b) = False ∧ (b = x) = False ∧ s x = .free := by
  simp only [St.set] at h
  split at h
  · cases h
  · rename_i hb; exact ⟨eq_false hb, eq_false (Ne.symm hb), h⟩
theorem wk_st {xs : List VV} {k : Nat} {d s c m : List UInt8} {ar : List (List UInt8)} {o t : List Stm} (h : WkL xs [.int .i64 k, .str d, .str s, .str c, .str m, strsV ar, .lst (stsC o) .no, .lst (stsC t) .no]) :
    Wk (.agg xs) (stV (.mk k d s c m ar o t)) := by
  unfold stV stC
  exact Wk.agg h

def callP (e : Nat) (dst nm : List UInt8) (load : Bool) (L : List Sgn) (n : Nat) : PR Stm :=
  if isT L 0 [58, 58] then bnd (nameP e L.tail n) fun x L n => bnd (namesP e L n) fun ar L n => .ok (.mk 6 dst [] nm x ar [] [], L, n)
  else bnd (mustP e L n [46]) fun _ L n => bnd (nameP e L n) fun x L n =>
    if load = true ∧ isT L 0 [40] = false then .ok (.mk 3 dst nm [] x [] [] [], L, n)
    else bnd (namesP e L n) fun ar L n => .ok (.mk 5 dst nm [] x ar [] [], L, n)

end Go.Proofs.Ytejlknplmfmceaa
