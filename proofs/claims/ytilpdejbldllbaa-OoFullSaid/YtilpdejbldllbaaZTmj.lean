/- What is proved: As many of each as may be, and one more: plain facts; As many statements as may be, and one more: plain facts. Conditions: those that stand in the statements. -/
import Derived.Test.YtilpdejbldllbaaZRg
import Derived.KernelRfl
set_option linter.unusedSimpArgs false
set_option linter.unusedVariables false
set_option maxRecDepth 100000
namespace Go.Proofs.Ytilpdejbldllbaa
open Go.RowKit

def repT (x : List UInt8) : Nat → List UInt8
  | 0 => []
  | n + 1 => x ++ repT x n
theorem repT_succ (x : List UInt8) : ∀ n, repT x (n + 1) = repT x n ++ x
  | 0 => by simp [repT]
  | n + 1 => by
    have := repT_succ x n
    simp only [repT] at this ⊢
    rw [List.append_assoc, ← this]
theorem repT_len (x : List UInt8) : ∀ n, (repT x n).length = n * x.length
  | 0 => by simp [repT]
  | n + 1 => by simp only [repT, List.length_append, repT_len x n, Nat.succ_mul]; omega
def fullH (w : Nat) : List UInt8 := match w with
  | 0 => []
  | 1 => [99, 108, 97, 115, 115, 32, 65, 32, 123, 32]
  | 2 => [99, 108, 97, 115, 115, 32, 65, 32, 123, 32, 109, 40]
  | 3 => [99, 108, 97, 115, 115, 32, 65, 32, 123, 32, 109, 40, 41, 32, 123, 32, 65, 58, 58, 109, 40]
  | 4 => [99, 108, 97, 115, 115, 32, 65, 32, 123, 32, 109, 40, 41, 32, 123, 32]
  | _ => [99, 108, 97, 115, 115, 32, 65, 32, 123, 32, 109, 40, 41, 32]
def fullO (w : Nat) : List UInt8 := match w with
  | 0 => [99, 108, 97, 115, 115, 32, 65, 32, 123, 32, 125, 32]
  | 1 => [109, 40, 41, 32, 123, 32, 125, 32]
  | 2 => [120, 44]
  | 3 => [120, 44]
  | 4 => [108, 111, 111, 112, 123, 125, 32]
  | _ => [123, 32, 108, 111, 111, 112, 32]
def fullL (w : Nat) : List UInt8 := match w with
  | 0 => [99, 108, 97, 115, 115, 32, 65, 32, 123, 32, 125, 32]
  | 1 => [109, 40, 41, 32, 123, 32, 125, 32, 125]
  | 2 => [120, 41, 32, 123, 32, 125, 32, 125]
  | 3 => [120, 41, 59, 32, 125, 32, 125]
  | 4 => [108, 111, 111, 112, 123, 125, 32, 125, 32, 125]
  | _ => [123, 32]
def fullM (w : Nat) : Nat := match w with
  | 0 => 32
  | 1 => 32
  | 2 => 8
  | 3 => 8
  | 4 => 1024
  | _ => 8
def fullS (w k : Nat) : List UInt8 := fullH w ++ repT (fullO w) (fullM w + k - 1)
def fullT (w k : Nat) : List UInt8 := fullS w k ++ fullL w ++ (if w = 5 then repT [125, 32] (fullM w + k + 1) else [])
def isSome0 : Except (Nat × Nat) (List Cls) → Bool
  | .ok (_ :: _) => true
  | _ => false
def isFull (n : Nat) : Except (Nat × Nat) (List Cls) → Bool
  | .error (a, e) => a == n && e == 2
  | _ => false
theorem full0 : isSome0 (parseS (fullT 0 0)) = true := by kernel_rfl
theorem full1 : isSome0 (parseS (fullT 1 0)) = true := by kernel_rfl
theorem full2 : isSome0 (parseS (fullT 2 0)) = true := by kernel_rfl
theorem full3 : isSome0 (parseS (fullT 3 0)) = true := by kernel_rfl
theorem full5 : isSome0 (parseS (fullT 5 0)) = true := by kernel_rfl
theorem more0 : isFull (fullS 0 1).length (parseS (fullT 0 1)) = true := by kernel_rfl
theorem more1 : isFull (fullS 1 1).length (parseS (fullT 1 1)) = true := by kernel_rfl
theorem more2 : isFull (fullS 2 1).length (parseS (fullT 2 1)) = true := by kernel_rfl
theorem more3 : isFull (fullS 3 1).length (parseS (fullT 3 1)) = true := by kernel_rfl
theorem more5 : isFull (fullS 5 1).length (parseS (fullT 5 1)) = true := by kernel_rfl
end Go.Proofs.Ytilpdejbldllbaa
set_option maxRecDepth 100000
namespace Go.Proofs.Ytilpdejbldllbaa
open Go.RowKit

def LT (a : Nat) : Nat → List Sgn
  | 0 => []
  | n + 1 => ⟨1, [108, 111, 111, 112], a⟩ :: ⟨3, [123], a + 4⟩ :: ⟨3, [125], a + 5⟩ :: LT (a + 7) n
theorem LT_len : ∀ (n a : Nat), (LT a n).length = 3 * n
  | 0, _ => rfl
  | n + 1, a => by simp only [LT, List.length_cons, LT_len n]; omega
theorem LT_app : ∀ (n m a : Nat), LT a (n + m) = LT a n ++ LT (a + 7 * n) m
  | 0, m, a => by simp [LT]
  | n + 1, m, a => by
    rw [show n + 1 + m = n + m + 1 by omega]
    simp only [LT, List.cons_append, LT_app n m (a + 7)]
    rw [show a + 7 + 7 * n = a + 7 * (n + 1) by omega]
theorem lexR_at {c : UInt8} {r : List UInt8} {k n a : Nat} {out : List Sgn} (ho : oneK (c :: r) = (k, n)) (hb : blankB c = false) (h35 : ¬ c.toNat = 35) (hn : n ≠ 0) (hl : out.length < 4096) :
    lexR (c :: r) a out = lexR ((c :: r).drop n) (a + n) (out ++ [⟨k, (c :: r).take n, a⟩]) := by
  rw [lexR_sign hb h35, ho]
  simp only
  rw [if_neg hn, if_neg (by omega)]
theorem lexLoop (r : List UInt8) (a : Nat) (out : List Sgn) (h : out.length + 3 ≤ 4096) : lexR (fullO 4 ++ r) a out = lexR r (a + 7) (out ++ LT a 1) := by
  simp only [fullO, List.cons_append, List.nil_append, LT]
  rw [lexR_at (k := 1) (n := 4) rfl (by decide) (by decide) (by decide) (by omega)]
  simp only [List.drop_succ_cons, List.drop_zero, List.take_succ_cons, List.take_zero]
  rw [lexR_at (k := 3) (n := 1) rfl (by decide) (by decide) (by decide) (by simp; omega)]
  simp only [List.drop_succ_cons, List.drop_zero, List.take_succ_cons, List.take_zero]
  rw [lexR_at (k := 3) (n := 1) rfl (by decide) (by decide) (by decide) (by simp; omega)]
  simp only [List.drop_succ_cons, List.drop_zero, List.take_succ_cons, List.take_zero]
  rw [lexR_blank (by decide)]
  simp [Nat.add_assoc]
theorem lexLoops : ∀ (n : Nat) (r : List UInt8) (a : Nat) (out : List Sgn), out.length + 3 * n ≤ 4096 → lexR (repT (fullO 4) n ++ r) a out = lexR r (a + 7 * n) (out ++ LT a n)
  | 0, r, a, out, _ => by simp [repT, LT]
  | n + 1, r, a, out, h => by
    simp only [repT, List.append_assoc]
    rw [lexLoop _ _ _ (by omega), lexLoops n _ _ _ (by rw [List.length_append, LT_len]; omega), show n + 1 = 1 + n by omega, LT_app, List.append_assoc, show a + 7 * (1 + n) = a + 7 + 7 * n by omega]
def headT : List Sgn := [⟨1, [99, 108, 97, 115, 115], 0⟩, ⟨1, [65], 6⟩, ⟨3, [123], 8⟩, ⟨1, [109], 10⟩, ⟨3, [40], 11⟩, ⟨3, [41], 12⟩, ⟨3, [123], 14⟩]
theorem lexHead (r : List UInt8) : lexR (fullH 4 ++ r) 0 [] = lexR r 16 headT := by
  simp only [fullH, List.cons_append, List.nil_append]
  iterate 7
    (repeat rw [lexR_blank (by decide)])
    first
      | rw [lexR_at (k := 1) (n := 5) rfl (by decide) (by decide) (by decide) (by simp)]
      | rw [lexR_at (k := 1) (n := 1) rfl (by decide) (by decide) (by decide) (by simp)]
      | rw [lexR_at (k := 3) (n := 1) rfl (by decide) (by decide) (by decide) (by simp)]
    simp only [List.drop_succ_cons, List.drop_zero, List.take_succ_cons, List.take_zero, List.nil_append, List.cons_append]
  rw [lexR_blank (by decide)]
  rfl
def loopsT (n : Nat) : List UInt8 := fullH 4 ++ (repT (fullO 4) n ++ [125, 32, 125])
theorem loopsT_len (n : Nat) : (loopsT n).length = 7 * n + 19 := by simp [loopsT, repT_len, fullH, fullO]; omega
theorem lexLoopsT (n p : Nat) (hp : p = 16 + 7 * n) (hn : n ≤ 1030) : lexSigns (loopsT n) = .ok (headT ++ (LT 16 n ++ [⟨3, [125], p⟩, ⟨3, [125], p + 2⟩])) := by
  have hl := loopsT_len n
  unfold lexSigns
  rw [if_neg (by omega)]
  show lexR (loopsT n) 0 [] = _
  rw [loopsT, lexHead, lexLoops _ _ _ _ (by simp [headT]; omega), ← hp]
  have hh : (headT ++ LT 16 n).length ≤ 4000 := by rw [List.length_append, LT_len]; simp [headT]; omega
  rw [← List.append_assoc headT]
  generalize headT ++ LT 16 n = out at hh
  rw [lexR_at (k := 3) (n := 1) rfl (by decide) (by decide) (by decide) (by omega)]
  simp only [List.drop_succ_cons, List.drop_zero, List.take_succ_cons, List.take_zero]
  rw [lexR_blank (by decide), lexR_at (k := 3) (n := 1) rfl (by decide) (by decide) (by decide) (by simp; omega)]
  simp only [List.drop_succ_cons, List.drop_zero, List.take_succ_cons, List.take_zero]
  rw [lexR_nil]
  simp [Nat.add_assoc]
theorem isT0 {x : Sgn} {L : List Sgn} {t : List UInt8} : isT (x :: L) 0 t = decide (x.text = t) := rfl
def lp : Stm := .mk 9 [] [] [] [] [] [] []
theorem room_ok1 {L : List Sgn} {e n hv mst : Nat} {b : Bool} (h : hv < mst) : roomP e L n hv mst b = .ok ((), L, n) := by
  unfold roomP; rw [if_neg (by omega)]
theorem stmts_loop (e : Nat) : ∀ (n f : Nat) (out : List Stm) (a m : Nat) (R : List Sgn), m + n ≤ 1024 → n + 5 ≤ f → stmtsP e f 0 out (LT a n ++ R) m = stmtsP e (f - n) 0 (out ++ List.replicate n lp) R (m + n)
  | 0, f, out, a, m, R, _, _ => by simp [LT]
  | n + 1, f, out, a, m, R, hm, hf => by
    obtain ⟨g, rfl⟩ : ∃ g, f = g + 4 := ⟨f - 4, by omega⟩
    have e1 : stmtP e (g + 3) 1 (LT a (n + 1) ++ R) m = .ok (lp, LT (a + 7) n ++ R, m + 1) := by
      simp only [LT, List.cons_append, stmtP]
      rw [room_ok1 (by omega), bnd_ok]
      simp only [blockP, List.tail_cons]
      simp [bnd_ok, lp, isT0, roomP, mustP, stmtsP]
    rw [show g + 4 = (g + 3) + 1 by omega]
    rw [stmtsP, e1, bnd_ok, stmts_loop e n (g + 3) _ _ _ _ (by omega) (by omega)]
    rw [if_neg (by simp [LT, isT0])]
    rw [show g + 3 + 1 - (n + 1) = g + 3 - n by omega, show m + 1 + n = m + (n + 1) by omega, List.append_assoc, List.replicate_succ]
    rfl
theorem parseFull (e : Nat) (X : List Sgn) : parsesP e (X.length + 8) [] (headT ++ X) 0 = bnd (bnd (bnd (blockP e (3 * (X.length + 1) + 3) 0 (⟨3, [123], 14⟩ :: X) 0) fun b L n =>
    mthsP e (X.length + 4) [⟨false, [109], [], b⟩] L n) fun ms L n => .ok (⟨[65], [], ms⟩, L, n)) fun c L n => parsesP e (X.length + 7) [c] L n := by
  simp only [headT, List.cons_append, List.nil_append]
  rw [parsesP, if_neg (by simp), room_ok1 (by simp), bnd_ok]
  congr 1
def endT (p q : Nat) : List Sgn := [⟨3, [125], p⟩, ⟨3, [125], q⟩]
theorem parse_loops (e n p q : Nat) (hn : n ≤ 1024) : parsesP e ((headT ++ (LT 16 n ++ endT p q)).length + 1) [] (headT ++ (LT 16 n ++ endT p q)) 0 =
    .ok ([⟨[65], [], [⟨false, [109], [], List.replicate n lp⟩]⟩], [], n) := by
  unfold endT
  generalize hX : (LT 16 n ++ [⟨3, [125], p⟩, ⟨3, [125], q⟩]) = X
  have hXl : X.length = 3 * n + 2 := by rw [← hX, List.length_append, LT_len]; rfl
  rw [show (headT ++ X).length + 1 = X.length + 8 by simp [headT]]
  rw [parseFull, show 3 * (X.length + 1) + 3 = (3 * X.length + 5) + 1 by omega, blockP, room_ok1 (by omega), bnd_ok]
  have h1 : ∀ e n, mustP e (⟨3, [123], 14⟩ :: X) n [123] = .ok ((), X, n) := fun e n => by simp [mustP, isT0]
  rw [h1, bnd_ok]
  obtain ⟨g, hg⟩ : ∃ g, 3 * X.length + 5 = g + 1 + n := ⟨3 * X.length + 4 - n, by omega⟩
  rw [hg]
  have h2 := stmts_loop e n (g + 1 + n) [] 16 0 [⟨3, [125], p⟩, ⟨3, [125], q⟩] (by omega) (by omega)
  rw [hX, Nat.add_sub_cancel, List.nil_append, Nat.zero_add] at h2
  rw [h2]
  generalize List.replicate n lp = B
  rw [stmtsP, show X.length + 4 = (X.length + 3) + 1 by omega]
  simp only [isT0, List.tail_cons]
  rw [if_pos (by decide), bnd_ok, mthsP]
  simp only [isT0, List.tail_cons]
  rw [if_pos (by decide), bnd_ok, bnd_ok, show X.length + 7 = (X.length + 6) + 1 by omega, parsesP, if_pos rfl]
theorem parse_more (e n p q : Nat) (hn : n = 1024) : parsesP e ((headT ++ (LT 16 (n + 1) ++ endT p q)).length + 1) [] (headT ++ (LT 16 (n + 1) ++ endT p q)) 0 = .error (16 + 7 * n, 2) := by
  unfold endT
  generalize hX : (LT 16 (n + 1) ++ [⟨3, [125], p⟩, ⟨3, [125], q⟩]) = X
  have hXl : X.length = 3 * n + 5 := by rw [← hX, List.length_append, LT_len]; simp; omega
  rw [show (headT ++ X).length + 1 = X.length + 8 by simp [headT]]
  rw [parseFull, show 3 * (X.length + 1) + 3 = (3 * X.length + 5) + 1 by omega, blockP, room_ok1 (by omega), bnd_ok]
  have h1 : ∀ e n, mustP e (⟨3, [123], 14⟩ :: X) n [123] = .ok ((), X, n) := fun e n => by simp [mustP, isT0]
  rw [h1, bnd_ok]
  obtain ⟨g, hg⟩ : ∃ g, 3 * X.length + 5 = g + 2 + n := ⟨3 * X.length + 3 - n, by omega⟩
  rw [hg]
  have h2 := stmts_loop e n (g + 2 + n) [] 16 0 (LT (16 + 7 * n) 1 ++ [⟨3, [125], p⟩, ⟨3, [125], q⟩]) (by omega) (by omega)
  rw [← List.append_assoc, ← LT_app, hX, Nat.add_sub_cancel, List.nil_append, Nat.zero_add] at h2
  rw [h2]
  generalize List.replicate n lp = B
  have h3 : ∀ (L : List Sgn) (a : Nat), roomP e (⟨1, [108, 111, 111, 112], a⟩ :: L) n n 1024 (begB (⟨1, [108, 111, 111, 112], a⟩ :: L)) = .error (a, 2) := fun L a => by
    simp [roomP, begB, isT0, place, hn]
  have h4 : ∀ L : List Sgn, stmtsP e (g + 2) 0 B (⟨1, [108, 111, 111, 112], 16 + 7 * n⟩ :: L) n = .error (16 + 7 * n, 2) := fun L => by
    simp [stmtsP, stmtP, isT0, h3, bnd_err]
  simp only [LT, List.cons_append, List.nil_append]
  rw [h4]
  rfl
theorem loops_ok (n : Nat) (hn : n ≤ 1024) : parseS (loopsT n) = .ok [⟨[65], [], [⟨false, [109], [], List.replicate n lp⟩]⟩] := by
  unfold parseS
  rw [lexLoopsT n _ rfl (by omega)]
  simp only
  have h := parse_loops (loopsT n).length n (16 + 7 * n) (16 + 7 * n + 2) hn
  unfold endT at h
  rw [h]
theorem loops_more (n : Nat) (hn : n = 1024) : parseS (loopsT (n + 1)) = .error (16 + 7 * n, 2) := by
  unfold parseS
  rw [lexLoopsT (n + 1) _ rfl (by omega)]
  simp only
  have h := parse_more (loopsT (n + 1)).length n (16 + 7 * (n + 1)) (16 + 7 * (n + 1) + 2) hn
  unfold endT at h
  rw [h]
theorem loopsT_eq (n k : Nat) (h : n + k = fullM 4 + k) (h1 : 1 ≤ n) : fullT 4 k = loopsT (n + k) := by
  have e : repT (fullO 4) (n + k) = repT (fullO 4) (n + k - 1) ++ fullO 4 := by
    rw [show n + k = (n + k - 1) + 1 by omega, repT_succ]; simp
  unfold fullT fullS loopsT
  rw [← h, e]
  simp [fullL, fullO]
/-- As many as may be. -/
theorem full_ok (w : Nat) (hw : w < 6) : ∃ c x, parseS (fullT w 0) = .ok (c :: x) := by
  have h : isSome0 (parseS (fullT w 0)) = true := by
    match w, hw with
    | 0, _ => exact full0
    | 1, _ => exact full1
    | 2, _ => exact full2
    | 3, _ => exact full3
    | 4, _ => rw [loopsT_eq 1024 0 rfl (by omega), loops_ok _ (by omega)]; rfl
    | 5, _ => exact full5
    | w + 6, h => omega
  unfold isSome0 at h
  split at h
  · rename_i h1; exact ⟨_, _, h1⟩
  · cases h
/-- One more. -/
theorem full_more (w : Nat) (hw : w < 6) : parseS (fullT w 1) = .error ((fullS w 1).length, 2) := by
  have h : isFull (fullS w 1).length (parseS (fullT w 1)) = true := by
    match w, hw with
    | 0, _ => exact more0
    | 1, _ => exact more1
    | 2, _ => exact more2
    | 3, _ => exact more3
    | 4, _ =>
      have hs : (fullS 4 1).length = 16 + 7 * 1024 := by simp [fullS, repT_len, fullH, fullO, fullM]
      rw [loopsT_eq 1024 1 rfl (by omega), loops_more _ rfl, hs]; rfl
    | 5, _ => exact more5
    | w + 6, h => omega
  unfold isFull at h
  split at h
  · rename_i h1
    simp only [Bool.and_eq_true, beq_iff_eq] at h
    rw [h1, h.1, h.2]
  · cases h
theorem fullT_len (w k : Nat) (hk : k ≤ 1) : (fullT w k).length ≤ 9000 := by
  match w with
  | 0 => simp [fullT, fullS, fullH, fullO, fullL, fullM, repT_len]; omega
  | 1 => simp [fullT, fullS, fullH, fullO, fullL, fullM, repT_len]; omega
  | 2 => simp [fullT, fullS, fullH, fullO, fullL, fullM, repT_len]; omega
  | 3 => simp [fullT, fullS, fullH, fullO, fullL, fullM, repT_len]; omega
  | 4 => simp [fullT, fullS, fullH, fullO, fullL, fullM, repT_len]; omega
  | 5 => simp [fullT, fullS, fullH, fullO, fullL, fullM, repT_len]; omega
  | w + 6 => simp [fullT, fullS, fullH, fullO, fullL, fullM, repT_len]; omega
end Go.Proofs.Ytilpdejbldllbaa
