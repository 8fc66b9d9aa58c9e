/- What is proved: What the functions of package lex hand back; What lex.one and lex.Signs hand back. Conditions: those that stand in the statements. -/
import Derived.Test.YtejlknplmfmceaaZFacts
import Derived.Lib.Bytealg
set_option linter.unusedSimpArgs false
set_option linter.unusedVariables false
namespace Go.Proofs.Ytejlknplmfmceaa
open Go.RowKit

theorem sb {a b : Bool} (h : a = b) : some (VV.bool a) = some (VV.bool b) := by rw [h]
theorem Wk.tup {xs ys : List VV} (hl : xs.length = ys.length) (h : ∀ (j : Nat) (x y : VV), xs[j]? = some x → ys[j]? = some y → Wk x y) : Wk (.tup xs) (.tup ys) := by
  intro G v hv
  cases hv with
  | tup vs xs hs hR =>
    refine .tup vs ys (hs.trans hl) fun j v y hv hy => ?_
    have hlt : j < xs.length := by rw [hl]; exact (List.getElem?_eq_some_iff.1 hy).1
    exact h j _ y (List.getElem?_eq_getElem hlt) hy G v (hR j v _ hv (List.getElem?_eq_getElem hlt))

theorem fin_retw {P : Program} {env : Env} {s s' : St} {v v' : VV} {rs : List ResultVar} (h : vres P env s rs = some v) (hw : Wk v v') (hf : Fg s s') : Qf P rs (fun e t => e = .ret v' ∧ t = s') .ret env s :=
  ⟨v, h, v', s', hw, hf, rfl, rfl⟩

def digB (c : UInt8) : Bool := decide (48 ≤ c.toNat) && decide (c.toNat ≤ 57)
def partB (c : UInt8) : Bool := (decide (97 ≤ c.toNat) && decide (c.toNat ≤ 122)) || (decide (65 ≤ c.toNat) && decide (c.toNat ≤ 90)) || decide (c.toNat = 95) || digB c

theorem digit_S (c : UInt8) (s : St) : SRet Try.prog 88 [.int .u8 c.toNat] s (.bool (digB c)) s := by
  refine S_enter Try.func88 rfl Try.ntmps88 rfl ?_
  by_cases h : (48 : Int) ≤ c.toNat
  all_goals
    (repeat (first | refine L_seq ?_ | refine L_blk ?_ | refine L_skip ?_ | refine L_endblk ?_ | refine L_ret ?_ | (refine L_exit ?_; repeat (first | refine X_code ?_ | refine X_back ?_ | refine X_blk ?_ | refine X_past (by decide) ?_)) | (refine L_cond ?_; simp only [go_sem, seval, h]) | (refine L_region fun K E hK hE => ?_; simp only [go_sem, seval, h]; try (refine hK _ _ ?_; clear hK hE K E))))
    (refine fin_ret ?_ (Fg.refl _); simp only [go_sem, seval, res88, h])
    refine sb ?_
    rw [Bool.eq_iff_iff]
    simp [digB]
    omega

theorem part_S (c : UInt8) (s : St) : SRet Try.prog 89 [.int .u8 c.toNat] s (.bool (partB c)) s := by
  refine S_enter Try.func89 rfl Try.ntmps89 rfl ?_
  have e : ((c.toNat : Int) = 95) = (c.toNat = 95) := by apply propext; omega
  by_cases h : (97 : Int) ≤ c.toNat
  · by_cases h2 : (c.toNat : Int) ≤ 122
    · (repeat (first | refine L_seq ?_ | refine L_blk ?_ | refine L_skip ?_ | refine L_endblk ?_ | refine L_ret ?_ | (refine L_exit ?_; repeat (first | refine X_code ?_ | refine X_back ?_ | refine X_blk ?_ | refine X_past (by decide) ?_)) | (refine L_cond ?_; simp only [go_sem, seval, h, h2]) | (refine L_region fun K E hK hE => ?_; simp only [go_sem, seval, h, h2]; try (refine hK _ _ ?_; clear hK hE K E))))
      (refine fin_ret ?_ (Fg.refl _); simp only [go_sem, seval, res89, h, h2])
      refine sb ?_
      simp [partB]; omega
    · by_cases h5 : (c.toNat : Int) = 95
      · omega
      · have h3 : (65 : Int) ≤ c.toNat := by omega
        have h4 : ¬ (c.toNat : Int) ≤ 90 := by omega
        (repeat (first | refine L_seq ?_ | refine L_blk ?_ | refine L_skip ?_ | refine L_endblk ?_ | refine L_ret ?_ | (refine L_exit ?_; repeat (first | refine X_code ?_ | refine X_back ?_ | refine X_blk ?_ | refine X_past (by decide) ?_)) | (refine L_cond ?_; simp only [go_sem, seval, h, h2, h3, h4, h5]) | (refine L_region fun K E hK hE => ?_; simp only [go_sem, seval, h, h2, h3, h4, h5]; try (refine hK _ _ ?_; clear hK hE K E))))
        (refine call_ret can88 (digit_S _ _) ?_; simp only [go_sem, seval, h, h2, h3, h4, h5]; try (refine hK _ _ ?_; clear hK hE K E))
        (repeat (first | refine L_seq ?_ | refine L_blk ?_ | refine L_skip ?_ | refine L_endblk ?_ | refine L_ret ?_ | (refine L_exit ?_; repeat (first | refine X_code ?_ | refine X_back ?_ | refine X_blk ?_ | refine X_past (by decide) ?_)) | (refine L_cond ?_; simp only [go_sem, seval, h, h2, h3, h4, h5]) | (refine L_region fun K E hK hE => ?_; simp only [go_sem, seval, h, h2, h3, h4, h5]; try (refine hK _ _ ?_; clear hK hE K E))))
        (refine fin_ret ?_ (Fg.refl _); simp only [go_sem, seval, res89, h, h2, h3, h4, h5])
        refine sb ?_
        have : ¬ c.toNat ≤ 122 := by omega
        have : ¬ c.toNat ≤ 90 := by omega
        have : ¬ c.toNat = 95 := by omega
        simp [partB, *]
  · by_cases h3 : (65 : Int) ≤ c.toNat
    · by_cases h4 : (c.toNat : Int) ≤ 90
      · (repeat (first | refine L_seq ?_ | refine L_blk ?_ | refine L_skip ?_ | refine L_endblk ?_ | refine L_ret ?_ | (refine L_exit ?_; repeat (first | refine X_code ?_ | refine X_back ?_ | refine X_blk ?_ | refine X_past (by decide) ?_)) | (refine L_cond ?_; simp only [go_sem, seval, h, h3, h4]) | (refine L_region fun K E hK hE => ?_; simp only [go_sem, seval, h, h3, h4]; try (refine hK _ _ ?_; clear hK hE K E))))
        (refine fin_ret ?_ (Fg.refl _); simp only [go_sem, seval, res89, h, h3, h4])
        refine sb ?_
        simp [partB]; omega
      · by_cases h5 : (c.toNat : Int) = 95
        · (repeat (first | refine L_seq ?_ | refine L_blk ?_ | refine L_skip ?_ | refine L_endblk ?_ | refine L_ret ?_ | (refine L_exit ?_; repeat (first | refine X_code ?_ | refine X_back ?_ | refine X_blk ?_ | refine X_past (by decide) ?_)) | (refine L_cond ?_; simp only [go_sem, seval, h, h3, h4, h5]) | (refine L_region fun K E hK hE => ?_; simp only [go_sem, seval, h, h3, h4, h5]; try (refine hK _ _ ?_; clear hK hE K E))))
          (refine fin_ret ?_ (Fg.refl _); simp only [go_sem, seval, res89, h, h3, h4, h5])
          refine sb ?_
          have : c.toNat = 95 := by omega
          simp [partB, this]
        · (repeat (first | refine L_seq ?_ | refine L_blk ?_ | refine L_skip ?_ | refine L_endblk ?_ | refine L_ret ?_ | (refine L_exit ?_; repeat (first | refine X_code ?_ | refine X_back ?_ | refine X_blk ?_ | refine X_past (by decide) ?_)) | (refine L_cond ?_; simp only [go_sem, seval, h, h3, h4, h5]) | (refine L_region fun K E hK hE => ?_; simp only [go_sem, seval, h, h3, h4, h5]; try (refine hK _ _ ?_; clear hK hE K E))))
          (refine call_ret can88 (digit_S _ _) ?_; simp only [go_sem, seval, h, h3, h4, h5]; try (refine hK _ _ ?_; clear hK hE K E))
          (repeat (first | refine L_seq ?_ | refine L_blk ?_ | refine L_skip ?_ | refine L_endblk ?_ | refine L_ret ?_ | (refine L_exit ?_; repeat (first | refine X_code ?_ | refine X_back ?_ | refine X_blk ?_ | refine X_past (by decide) ?_)) | (refine L_cond ?_; simp only [go_sem, seval, h, h3, h4, h5]) | (refine L_region fun K E hK hE => ?_; simp only [go_sem, seval, h, h3, h4, h5]; try (refine hK _ _ ?_; clear hK hE K E))))
          (refine fin_ret ?_ (Fg.refl _); simp only [go_sem, seval, res89, h, h3, h4, h5])
          refine sb ?_
          have : ¬ 97 ≤ c.toNat := by omega
          have : ¬ c.toNat ≤ 90 := by omega
          have : ¬ c.toNat = 95 := by omega
          simp [partB, *]
    · have h5 : ¬ (c.toNat : Int) = 95 := by omega
      (repeat (first | refine L_seq ?_ | refine L_blk ?_ | refine L_skip ?_ | refine L_endblk ?_ | refine L_ret ?_ | (refine L_exit ?_; repeat (first | refine X_code ?_ | refine X_back ?_ | refine X_blk ?_ | refine X_past (by decide) ?_)) | (refine L_cond ?_; simp only [go_sem, seval, h, h3, h5]) | (refine L_region fun K E hK hE => ?_; simp only [go_sem, seval, h, h3, h5]; try (refine hK _ _ ?_; clear hK hE K E))))
      (refine call_ret can88 (digit_S _ _) ?_; simp only [go_sem, seval, h, h3, h5]; try (refine hK _ _ ?_; clear hK hE K E))
      (repeat (first | refine L_seq ?_ | refine L_blk ?_ | refine L_skip ?_ | refine L_endblk ?_ | refine L_ret ?_ | (refine L_exit ?_; repeat (first | refine X_code ?_ | refine X_back ?_ | refine X_blk ?_ | refine X_past (by decide) ?_)) | (refine L_cond ?_; simp only [go_sem, seval, h, h3, h5]) | (refine L_region fun K E hK hE => ?_; simp only [go_sem, seval, h, h3, h5]; try (refine hK _ _ ?_; clear hK hE K E))))
      (refine fin_ret ?_ (Fg.refl _); simp only [go_sem, seval, res89, h, h3, h5])
      refine sb ?_
      have : ¬ 97 ≤ c.toNat := by omega
      have : ¬ 65 ≤ c.toNat := by omega
      have : ¬ c.toNat = 95 := by omega
      simp [partB, *]

def runN (p : UInt8 → Bool) (l : List UInt8) : Nat := (l.takeWhile p).length
theorem runN_le (p : UInt8 → Bool) (l : List UInt8) : runN p l ≤ l.length := by
  unfold runN
  exact (List.takeWhile_prefix p).length_le
theorem runN_cons (p : UInt8 → Bool) (c : UInt8) (l : List UInt8) : runN p (c :: l) = if p c then runN p l + 1 else 0 := by
  unfold runN
  rw [List.takeWhile_cons]
  split <;> simp
theorem runN_at (p : UInt8 → Bool) : ∀ (l : List UInt8) (k : Nat), k ≤ runN p l → (∀ c, l[k]? = some c → p c = true → k + 1 ≤ runN p l) ∧ (∀ c, l[k]? = some c → p c = false → runN p l = k) ∧ (l[k]? = none → runN p l = k)
  | [], k, h => by simp [runN] at h ⊢; omega
  | c :: l, 0, h => by
    rw [runN_cons] at h ⊢
    refine ⟨fun c' e hp => ?_, fun c' e hp => ?_, fun e => ?_⟩
    · simp at e; subst e; rw [if_pos hp]; omega
    · simp at e; subst e; rw [hp]; rfl
    · simp at e
  | c :: l, k + 1, h => by
    rw [runN_cons] at h ⊢
    split at h
    · rename_i hc
      rw [if_pos hc]
      obtain ⟨h1, h2, h3⟩ := runN_at p l k (by omega)
      exact ⟨fun c' e hp => by have := h1 c' (by simpa using e) hp; omega, fun c' e hp => by have := h2 c' (by simpa using e) hp; omega, fun e => by have := h3 (by simpa using e); omega⟩
    · omega

theorem run_S (g : FuncId) (p : UInt8 → Bool) (hcan : Callable Try.prog g) (hg : ∀ (c : UInt8) (s : St), SRet Try.prog g [.int .u8 c.toNat] s (.bool (p c)) s)
    (l : List UInt8) (hl : l.length ≤ 9223372036854775000) (s : St) : SRet Try.prog 61 [.str l, .fn g []] s (.int .i64 (runN p l)) s := by
  refine S_enter Try.func61 rfl Try.ntmps61 rfl ?_
  (repeat (first | refine L_seq ?_ | refine L_blk ?_ | refine L_skip ?_ | refine L_endblk ?_ | refine L_ret ?_ | (refine L_exit ?_; repeat (first | refine X_code ?_ | refine X_back ?_ | refine X_blk ?_ | refine X_past (by decide) ?_)) | (refine L_cond ?_; simp only [go_sem, seval]) | (refine L_region fun K E hK hE => ?_; simp only [go_sem, seval]; try (refine hK _ _ ?_; clear hK hE K E))))
  refine L_loop (fun n env s' => s' = s ∧ ∃ k : Nat, n = l.length - k ∧ k ≤ runN p l ∧ env 0 = .str l ∧ env 1 = .fn g [] ∧ env 5 = .int .i64 k) l.length ?_ ?_
  · exact ⟨rfl, 0, by simp, Nat.zero_le _, rfl, rfl, rfl⟩
  · rintro n env s' ⟨rfl, k, rfl, hk, e0, e1, e5⟩
    have hle := runN_le p l
    obtain ⟨h1, h2, h3⟩ := runN_at p l k hk
    cases hc : l[k]? with
    | none =>
      have hge : l.length ≤ k := by simpa using hc
      have hlt : ¬ ((k : Int) < (l.length : Int)) := by omega
      (repeat (first | refine L_seq ?_ | refine L_blk ?_ | refine L_skip ?_ | refine L_endblk ?_ | refine L_ret ?_ | (refine L_exit ?_; repeat (first | refine X_code ?_ | refine X_back ?_ | refine X_blk ?_ | refine X_past (by decide) ?_)) | (refine L_cond ?_; simp only [go_sem, seval, e0, e1, e5, hlt]) | (refine L_region fun K E hK hE => ?_; simp only [go_sem, seval, e0, e1, e5, hlt]; try (refine hK _ _ ?_; clear hK hE K E))))
      (refine fin_ret ?_ (Fg.refl _); simp only [go_sem, seval, res61, e0, e1, e5])
      rw [h3 hc]
    | some c =>
      have hlt' : k < l.length := (List.getElem?_eq_some_iff.1 hc).1
      have hlt : (k : Int) < (l.length : Int) := by omega
      have h0 : (0 : Int) ≤ (k : Int) := by omega
      have hw : IntKind.i64.wrap ((k : Int) + 1) = ((k + 1 : Nat) : Int) := by rw [wrap_i64 (by omega) (by omega)]; omega
      (repeat (first | refine L_seq ?_ | refine L_blk ?_ | refine L_skip ?_ | refine L_endblk ?_ | refine L_ret ?_ | (refine L_exit ?_; repeat (first | refine X_code ?_ | refine X_back ?_ | refine X_blk ?_ | refine X_past (by decide) ?_)) | (refine L_cond ?_; simp only [go_sem, seval, e0, e1, e5, hlt, h0, hc]) | (refine L_region fun K E hK hE => ?_; simp only [go_sem, seval, e0, e1, e5, hlt, h0, hc]; try (refine hK _ _ ?_; clear hK hE K E))))
      refine call_ret hcan (hg c s') ?_
      cases hp : p c with
      | true =>
        simp only [go_sem, seval, e0, e1, e5, hlt, h0, hc]
        refine hK _ _ ?_
        clear hK hE K E
        (repeat (first | refine L_seq ?_ | refine L_blk ?_ | refine L_skip ?_ | refine L_endblk ?_ | refine L_ret ?_ | (refine L_exit ?_; repeat (first | refine X_code ?_ | refine X_back ?_ | refine X_blk ?_ | refine X_past (by decide) ?_)) | (refine L_cond ?_; simp only [go_sem, seval, e0, e1, e5, hlt, h0, hc, hw]) | (refine L_region fun K E hK hE => ?_; simp only [go_sem, seval, e0, e1, e5, hlt, h0, hc, hw]; try (refine hK _ _ ?_; clear hK hE K E))))
        refine L_back ⟨l.length - (k + 1), by omega, rfl, k + 1, rfl, h1 c hc hp, ?_, ?_, ?_⟩ <;> simp only [go_sem, seval, e0, e1, e5]
      | false =>
        simp only [go_sem, seval, e0, e1, e5, hlt, h0, hc]
        refine hK _ _ ?_
        clear hK hE K E
        (repeat (first | refine L_seq ?_ | refine L_blk ?_ | refine L_skip ?_ | refine L_endblk ?_ | refine L_ret ?_ | (refine L_exit ?_; repeat (first | refine X_code ?_ | refine X_back ?_ | refine X_blk ?_ | refine X_past (by decide) ?_)) | (refine L_cond ?_; simp only [go_sem, seval, e0, e1, e5, hlt, h0, hc, hw]) | (refine L_region fun K E hK hE => ?_; simp only [go_sem, seval, e0, e1, e5, hlt, h0, hc, hw]; try (refine hK _ _ ?_; clear hK hE K E))))
        (refine fin_ret ?_ (Fg.refl _); simp only [go_sem, seval, res61, e0, e1, e5])
        rw [h2 c hc hp]
theorem rlist1 {G : Gh} {vs : Array Value} {x : VV} (h : RL G vs [x]) : ∃ v, vs = #[v] ∧ R G v x := by
  obtain ⟨l⟩ := vs
  match l, h with
  | [v], h => exact ⟨v, rfl, h.2 0 v x rfl rfl⟩
  | [], h => have := h.1; simp at this
  | _ :: _ :: _, h => have := h.1; simp at this
theorem rlist2 {G : Gh} {vs : Array Value} {x y : VV} (h : RL G vs [x, y]) : ∃ v u, vs = #[v, u] ∧ R G v x ∧ R G u y := by
  obtain ⟨l⟩ := vs
  match l, h with
  | [v, u], h => exact ⟨v, u, rfl, h.2 0 v x rfl rfl, h.2 1 u y rfl rfl⟩
  | [], h => have := h.1; simp at this
  | [_], h => have := h.1; simp at this
  | _ :: _ :: _ :: _, h => have := h.1; simp at this

theorem ext_index (l : List UInt8) (c : UInt8) (s : St) : SExt Try.prog 99 [.str l, .int .u8 c.toNat] s fun e t => e = .ret (.int .i64 (Lib.indexByte l c)) ∧ t = s := by
  intro w0 G w vs hS hvs
  obtain ⟨v, u, rfl, hv, hu⟩ := rlist2 hvs
  cases hv with
  | str a =>
    cases hu
    refine ⟨.int .i64 (Lib.indexByte a.toList c), w, G, s, _, ?_, Gh.le.refl G, hS, .int _ _, rfl, rfl⟩
    have hf := Try.func99
    have hn : (Try.f99.name == "runtime.NumGoroutine") = false := by kernel_rfl
    have hx : Extern.findNext Try.f99 = none := by kernel_rfl
    have hy : Extern.find Try.f99 = some Extern.BytealgIndexByte.indexByte := by kernel_rfl
    have hb : Try.f99.body.isNone = true := by kernel_rfl
    unfold callFunc
    simp only [Sem.run_bind, run_program, Result.andThen_ok, hf, hn, hb, hx, hy, Bool.false_eq_true, if_false, if_true, run_mark, Lib.run_indexByteString, Sem.run_pure]
    simp

theorem slIndex_S (l : List UInt8) (c : UInt8) (s : St) : SRet Try.prog 87 [.str l, .int .u8 c.toNat] s (.int .i64 (Lib.indexByte l c)) s := by
  refine S_enter Try.func87 rfl Try.ntmps87 rfl ?_
  (repeat (first | refine L_seq ?_ | refine L_blk ?_ | refine L_skip ?_ | refine L_endblk ?_ | refine L_ret ?_ | (refine L_exit ?_; repeat (first | refine X_code ?_ | refine X_back ?_ | refine X_blk ?_ | refine X_past (by decide) ?_)) | (refine L_cond ?_; simp only [go_sem, seval]) | (refine L_region fun K E hK hE => ?_; simp only [go_sem, seval]; try (refine hK _ _ ?_; clear hK hE K E))))
  refine call_ext (ext_index l c s) ?_
  simp only [go_sem, seval]
  refine hK _ _ ?_
  clear hK hE K E
  (repeat (first | refine L_seq ?_ | refine L_blk ?_ | refine L_skip ?_ | refine L_endblk ?_ | refine L_ret ?_ | (refine L_exit ?_; repeat (first | refine X_code ?_ | refine X_back ?_ | refine X_blk ?_ | refine X_past (by decide) ?_)) | (refine L_cond ?_; simp only [go_sem, seval]) | (refine L_region fun K E hK hE => ?_; simp only [go_sem, seval]; try (refine hK _ _ ?_; clear hK hE K E))))
  (refine fin_ret ?_ (Fg.refl _); simp only [go_sem, seval, res87])
theorem index_S (l : List UInt8) (c : UInt8) (s : St) : SRet Try.prog 63 [.str l, .int .u8 c.toNat] s (.int .i64 (Lib.indexByte l c)) s := by
  refine S_enter Try.func63 rfl Try.ntmps63 rfl ?_
  (repeat (first | refine L_seq ?_ | refine L_blk ?_ | refine L_skip ?_ | refine L_endblk ?_ | refine L_ret ?_ | (refine L_exit ?_; repeat (first | refine X_code ?_ | refine X_back ?_ | refine X_blk ?_ | refine X_past (by decide) ?_)) | (refine L_cond ?_; simp only [go_sem, seval]) | (refine L_region fun K E hK hE => ?_; simp only [go_sem, seval]; try (refine hK _ _ ?_; clear hK hE K E))))
  (refine call_ret can87 (slIndex_S l c s) ?_; simp only [go_sem, seval]; try (refine hK _ _ ?_; clear hK hE K E))
  (repeat (first | refine L_seq ?_ | refine L_blk ?_ | refine L_skip ?_ | refine L_endblk ?_ | refine L_ret ?_ | (refine L_exit ?_; repeat (first | refine X_code ?_ | refine X_back ?_ | refine X_blk ?_ | refine X_past (by decide) ?_)) | (refine L_cond ?_; simp only [go_sem, seval]) | (refine L_region fun K E hK hE => ?_; simp only [go_sem, seval]; try (refine hK _ _ ?_; clear hK hE K E))))
  (refine fin_ret ?_ (Fg.refl _); simp only [go_sem, seval, res63])

theorem prefix_take (p l : List UInt8) (h : p.length ≤ l.length) : decide (l.take p.length = p) = p.isPrefixOf l := by
  rw [Bool.eq_iff_iff, decide_eq_true_eq, List.isPrefixOf_iff_prefix, List.prefix_iff_eq_take]
  exact ⟨fun h => h.symm, fun h => h.symm⟩
theorem prefix_long (p l : List UInt8) (h : ¬ p.length ≤ l.length) : p.isPrefixOf l = false := by
  cases hp : p.isPrefixOf l with
  | false => rfl
  | true => exact absurd (List.isPrefixOf_iff_prefix.1 hp).length_le h
theorem slPrefix_S (l p : List UInt8) (s : St) : SRet Try.prog 97 [.str l, .str p] s (.bool (p.isPrefixOf l)) s := by
  refine S_enter Try.func97 rfl Try.ntmps97 rfl ?_
  by_cases h : (p.length : Int) ≤ (l.length : Int)
  · have h' : p.length ≤ l.length := by omega
    have h0 : (0 : Int) ≤ (p.length : Int) := by omega
    (repeat (first | refine L_seq ?_ | refine L_blk ?_ | refine L_skip ?_ | refine L_endblk ?_ | refine L_ret ?_ | (refine L_exit ?_; repeat (first | refine X_code ?_ | refine X_back ?_ | refine X_blk ?_ | refine X_past (by decide) ?_)) | (refine L_cond ?_; simp only [go_sem, seval, h, h', h0, Nat.zero_le, and_self]) | (refine L_region fun K E hK hE => ?_; simp only [go_sem, seval, h, h', h0, Nat.zero_le, and_self]; try (refine hK _ _ ?_; clear hK hE K E))))
    (refine fin_ret ?_ (Fg.refl _); simp only [go_sem, seval, res97, h])
    rw [prefix_take p l h']
  · (repeat (first | refine L_seq ?_ | refine L_blk ?_ | refine L_skip ?_ | refine L_endblk ?_ | refine L_ret ?_ | (refine L_exit ?_; repeat (first | refine X_code ?_ | refine X_back ?_ | refine X_blk ?_ | refine X_past (by decide) ?_)) | (refine L_cond ?_; simp only [go_sem, seval, h]) | (refine L_region fun K E hK hE => ?_; simp only [go_sem, seval, h]; try (refine hK _ _ ?_; clear hK hE K E))))
    (refine fin_ret ?_ (Fg.refl _); simp only [go_sem, seval, res97, h])
    rw [prefix_long p l (by omega)]
theorem prefix_S (l p : List UInt8) (s : St) : SRet Try.prog 81 [.str l, .str p] s (.bool (p.isPrefixOf l)) s := by
  refine S_enter Try.func81 rfl Try.ntmps81 rfl ?_
  (repeat (first | refine L_seq ?_ | refine L_blk ?_ | refine L_skip ?_ | refine L_endblk ?_ | refine L_ret ?_ | (refine L_exit ?_; repeat (first | refine X_code ?_ | refine X_back ?_ | refine X_blk ?_ | refine X_past (by decide) ?_)) | (refine L_cond ?_; simp only [go_sem, seval]) | (refine L_region fun K E hK hE => ?_; simp only [go_sem, seval]; try (refine hK _ _ ?_; clear hK hE K E))))
  (refine call_ret can97 (slPrefix_S l p s) ?_; simp only [go_sem, seval]; try (refine hK _ _ ?_; clear hK hE K E))
  (repeat (first | refine L_seq ?_ | refine L_blk ?_ | refine L_skip ?_ | refine L_endblk ?_ | refine L_ret ?_ | (refine L_exit ?_; repeat (first | refine X_code ?_ | refine X_back ?_ | refine X_blk ?_ | refine X_past (by decide) ?_)) | (refine L_cond ?_; simp only [go_sem, seval]) | (refine L_region fun K E hK hE => ?_; simp only [go_sem, seval]; try (refine hK _ _ ?_; clear hK hE K E))))
  (refine fin_ret ?_ (Fg.refl _); simp only [go_sem, seval, res81])

def marks : List UInt8 := [40, 41, 123, 125, 44, 46, 59, 61, 33]
def markN (l : List UInt8) : Nat :=
  if ([58, 45] : List UInt8).isPrefixOf l then 2 else if ([58, 58] : List UInt8).isPrefixOf l then 2 else if ([33, 61] : List UInt8).isPrefixOf l then 2 else
  match l with
  | c :: _ => if 0 ≤ Lib.indexByte marks c then 1 else 0
  | [] => 0

theorem mark_S (c : UInt8) (l : List UInt8) (s : St) : SRet Try.prog 90 [.str (c :: l)] s (.int .i64 (markN (c :: l))) s := by
  refine S_enter Try.func90 rfl Try.ntmps90 rfl ?_
  (repeat (first | refine L_seq ?_ | refine L_blk ?_ | refine L_skip ?_ | refine L_endblk ?_ | refine L_ret ?_ | (refine L_exit ?_; repeat (first | refine X_code ?_ | refine X_back ?_ | refine X_blk ?_ | refine X_past (by decide) ?_)) | (refine L_cond ?_; simp only [go_sem, seval, vrow, and_self]) | (refine L_region fun K E hK hE => ?_; simp only [go_sem, seval, vrow, and_self]; try (refine hK _ _ ?_; clear hK hE K E))))
  refine L_rounds 4 (KR_succ 3 ?_)
  (repeat (first | refine L_seq ?_ | refine L_blk ?_ | refine L_skip ?_ | refine L_endblk ?_ | refine L_ret ?_ | (refine L_exit ?_; repeat (first | refine X_code ?_ | refine X_back ?_ | refine X_blk ?_ | refine X_past (by decide) ?_)) | (refine L_cond ?_; simp only [go_sem, seval]) | (refine L_region fun K E hK hE => ?_; simp only [go_sem, seval]; try (refine hK _ _ ?_; clear hK hE K E))))
  (refine call_ret can81 (prefix_S _ _ _) ?_; simp only [go_sem, seval]; try (refine hK _ _ ?_; clear hK hE K E))
  cases h1 : ([58, 45] : List UInt8).isPrefixOf (c :: l) with
  | true =>
    (repeat (first | refine L_seq ?_ | refine L_blk ?_ | refine L_skip ?_ | refine L_endblk ?_ | refine L_ret ?_ | (refine L_exit ?_; repeat (first | refine X_code ?_ | refine X_back ?_ | refine X_blk ?_ | refine X_past (by decide) ?_)) | (refine L_cond ?_; simp only [go_sem, seval, h1]) | (refine L_region fun K E hK hE => ?_; simp only [go_sem, seval, h1]; try (refine hK _ _ ?_; clear hK hE K E))))
    (refine fin_ret ?_ (Fg.refl _); simp only [go_sem, seval, res90])
    simp [markN, h1]
  | false =>
    (repeat (first | refine L_seq ?_ | refine L_blk ?_ | refine L_skip ?_ | refine L_endblk ?_ | refine L_ret ?_ | (refine L_exit ?_; repeat (first | refine X_code ?_ | refine X_back ?_ | refine X_blk ?_ | refine X_past (by decide) ?_)) | (refine L_cond ?_; simp only [go_sem, seval, h1]) | (refine L_region fun K E hK hE => ?_; simp only [go_sem, seval, h1]; try (refine hK _ _ ?_; clear hK hE K E))))
    (refine call_ret can81 (prefix_S _ _ _) ?_; simp only [go_sem, seval]; try (refine hK _ _ ?_; clear hK hE K E))
    cases h2 : ([58, 58] : List UInt8).isPrefixOf (c :: l) with
    | true =>
      (repeat (first | refine L_seq ?_ | refine L_blk ?_ | refine L_skip ?_ | refine L_endblk ?_ | refine L_ret ?_ | (refine L_exit ?_; repeat (first | refine X_code ?_ | refine X_back ?_ | refine X_blk ?_ | refine X_past (by decide) ?_)) | (refine L_cond ?_; simp only [go_sem, seval, h2]) | (refine L_region fun K E hK hE => ?_; simp only [go_sem, seval, h2]; try (refine hK _ _ ?_; clear hK hE K E))))
      (refine fin_ret ?_ (Fg.refl _); simp only [go_sem, seval, res90])
      simp [markN, h1, h2]
    | false =>
      (repeat (first | refine L_seq ?_ | refine L_blk ?_ | refine L_skip ?_ | refine L_endblk ?_ | refine L_ret ?_ | (refine L_exit ?_; repeat (first | refine X_code ?_ | refine X_back ?_ | refine X_blk ?_ | refine X_past (by decide) ?_)) | (refine L_cond ?_; simp only [go_sem, seval, h2]) | (refine L_region fun K E hK hE => ?_; simp only [go_sem, seval, h2]; try (refine hK _ _ ?_; clear hK hE K E))))
      (refine call_ret can81 (prefix_S _ _ _) ?_; simp only [go_sem, seval]; try (refine hK _ _ ?_; clear hK hE K E))
      cases h3 : ([33, 61] : List UInt8).isPrefixOf (c :: l) with
      | true =>
        (repeat (first | refine L_seq ?_ | refine L_blk ?_ | refine L_skip ?_ | refine L_endblk ?_ | refine L_ret ?_ | (refine L_exit ?_; repeat (first | refine X_code ?_ | refine X_back ?_ | refine X_blk ?_ | refine X_past (by decide) ?_)) | (refine L_cond ?_; simp only [go_sem, seval, h3]) | (refine L_region fun K E hK hE => ?_; simp only [go_sem, seval, h3]; try (refine hK _ _ ?_; clear hK hE K E))))
        (refine fin_ret ?_ (Fg.refl _); simp only [go_sem, seval, res90])
        simp [markN, h1, h2, h3]
      | false =>
        (repeat (first | refine L_seq ?_ | refine L_blk ?_ | refine L_skip ?_ | refine L_endblk ?_ | refine L_ret ?_ | (refine L_exit ?_; repeat (first | refine X_code ?_ | refine X_back ?_ | refine X_blk ?_ | refine X_past (by decide) ?_)) | (refine L_cond ?_; simp only [go_sem, seval, h3]) | (refine L_region fun K E hK hE => ?_; simp only [go_sem, seval, h3]; try (refine hK _ _ ?_; clear hK hE K E))))
        (refine call_ret can63 (index_S marks c s) ?_; simp only [go_sem, seval]; try (refine hK _ _ ?_; clear hK hE K E))
        by_cases h4 : 0 ≤ Lib.indexByte marks c
        · (repeat (first | refine L_seq ?_ | refine L_blk ?_ | refine L_skip ?_ | refine L_endblk ?_ | refine L_ret ?_ | (refine L_exit ?_; repeat (first | refine X_code ?_ | refine X_back ?_ | refine X_blk ?_ | refine X_past (by decide) ?_)) | (refine L_cond ?_; simp only [go_sem, seval, h4]) | (refine L_region fun K E hK hE => ?_; simp only [go_sem, seval, h4]; try (refine hK _ _ ?_; clear hK hE K E))))
          (refine fin_ret ?_ (Fg.refl _); simp only [go_sem, seval, res90])
          simp [markN, h1, h2, h3, h4]
        · (repeat (first | refine L_seq ?_ | refine L_blk ?_ | refine L_skip ?_ | refine L_endblk ?_ | refine L_ret ?_ | (refine L_exit ?_; repeat (first | refine X_code ?_ | refine X_back ?_ | refine X_blk ?_ | refine X_past (by decide) ?_)) | (refine L_cond ?_; simp only [go_sem, seval, h4]) | (refine L_region fun K E hK hE => ?_; simp only [go_sem, seval, h4]; try (refine hK _ _ ?_; clear hK hE K E))))
          (refine fin_ret ?_ (Fg.refl _); simp only [go_sem, seval, res90])
          simp [markN, h1, h2, h3, h4]
end Go.Proofs.Ytejlknplmfmceaa
namespace Go.Proofs.Ytejlknplmfmceaa
open Go.RowKit

def oneK : List UInt8 → Nat × Nat
  | [] => (0, 0)
  | c :: l =>
    if digB c then (if 10 < runN digB (c :: l) ∨ (1 < runN digB (c :: l) ∧ c = 48) then (0, 0) else (2, runN digB (c :: l)))
    else if partB c then (if 32 < runN partB (c :: l) then (0, 0) else (1, runN partB (c :: l)))
    else (3, markN (c :: l))

theorem one_S (c : UInt8) (l : List UInt8) (hl : (c :: l).length ≤ 9223372036854775000) (s : St) :
    SRet Try.prog 65 [.str (c :: l)] s (.tup [.int .i64 (oneK (c :: l)).1, .int .i64 (oneK (c :: l)).2]) s := by
  refine S_enter Try.func65 rfl Try.ntmps65 rfl ?_
  have hle := runN_le digB (c :: l)
  have hle' := runN_le partB (c :: l)
  have e48 : ((c.toNat : Int) = 48) = (c = 48) := by
    apply propext
    constructor
    · intro h; apply UInt8.toNat_inj.1; show c.toNat = 48; omega
    · rintro rfl; rfl
  (repeat (first | refine L_seq ?_ | refine L_blk ?_ | refine L_skip ?_ | refine L_endblk ?_ | refine L_ret ?_ | (refine L_exit ?_; repeat (first | refine X_code ?_ | refine X_back ?_ | refine X_blk ?_ | refine X_past (by decide) ?_)) | (refine L_cond ?_; simp only [go_sem, seval]) | (refine L_region fun K E hK hE => ?_; simp only [go_sem, seval]; try (refine hK _ _ ?_; clear hK hE K E))))
  (refine call_ret can88 (digit_S _ _) ?_; simp only [go_sem, seval]; try (refine hK _ _ ?_; clear hK hE K E))
  cases hd : digB c with
  | true =>
    (repeat (first | refine L_seq ?_ | refine L_blk ?_ | refine L_skip ?_ | refine L_endblk ?_ | refine L_ret ?_ | (refine L_exit ?_; repeat (first | refine X_code ?_ | refine X_back ?_ | refine X_blk ?_ | refine X_past (by decide) ?_)) | (refine L_cond ?_; simp only [go_sem, seval, hd]) | (refine L_region fun K E hK hE => ?_; simp only [go_sem, seval, hd]; try (refine hK _ _ ?_; clear hK hE K E))))
    (refine call_ret can61 (run_S 88 digB can88 digit_S (c :: l) hl s) ?_; simp only [go_sem, seval, hd]; try (refine hK _ _ ?_; clear hK hE K E))
    by_cases h1 : (10 : Int) < (runN digB (c :: l) : Int)
    · (repeat (first | refine L_seq ?_ | refine L_blk ?_ | refine L_skip ?_ | refine L_endblk ?_ | refine L_ret ?_ | (refine L_exit ?_; repeat (first | refine X_code ?_ | refine X_back ?_ | refine X_blk ?_ | refine X_past (by decide) ?_)) | (refine L_cond ?_; simp only [go_sem, seval, hd, h1]) | (refine L_region fun K E hK hE => ?_; simp only [go_sem, seval, hd, h1]; try (refine hK _ _ ?_; clear hK hE K E))))
      (refine fin_ret ?_ (Fg.refl _); simp only [go_sem, seval, res65])
      have : (oneK (c :: l)) = (0, 0) := by simp only [oneK, hd, if_true]; rw [if_pos (.inl (by omega))]
      simp [this]
    · by_cases h2 : (1 : Int) < (runN digB (c :: l) : Int)
      · by_cases h3 : c = 48
        · have h4 : (c.toNat : Int) = 48 := by rw [e48]; exact h3
          (repeat (first | refine L_seq ?_ | refine L_blk ?_ | refine L_skip ?_ | refine L_endblk ?_ | refine L_ret ?_ | (refine L_exit ?_; repeat (first | refine X_code ?_ | refine X_back ?_ | refine X_blk ?_ | refine X_past (by decide) ?_)) | (refine L_cond ?_; simp only [go_sem, seval, hd, h1, h2, h4]) | (refine L_region fun K E hK hE => ?_; simp only [go_sem, seval, hd, h1, h2, h4]; try (refine hK _ _ ?_; clear hK hE K E))))
          (refine fin_ret ?_ (Fg.refl _); simp only [go_sem, seval, res65])
          have : (oneK (c :: l)) = (0, 0) := by simp only [oneK, hd, if_true]; rw [if_pos (.inr ⟨by omega, h3⟩)]
          simp [this]
        · have h4 : ¬ (c.toNat : Int) = 48 := by rw [e48]; exact h3
          (repeat (first | refine L_seq ?_ | refine L_blk ?_ | refine L_skip ?_ | refine L_endblk ?_ | refine L_ret ?_ | (refine L_exit ?_; repeat (first | refine X_code ?_ | refine X_back ?_ | refine X_blk ?_ | refine X_past (by decide) ?_)) | (refine L_cond ?_; simp only [go_sem, seval, hd, h1, h2, h4]) | (refine L_region fun K E hK hE => ?_; simp only [go_sem, seval, hd, h1, h2, h4]; try (refine hK _ _ ?_; clear hK hE K E))))
          (refine fin_ret ?_ (Fg.refl _); simp only [go_sem, seval, res65])
          have : (oneK (c :: l)) = (2, runN digB (c :: l)) := by simp only [oneK, hd, if_true]; rw [if_neg (by rintro (h | ⟨_, h⟩); omega; exact h3 h)]
          simp [this]
      · (repeat (first | refine L_seq ?_ | refine L_blk ?_ | refine L_skip ?_ | refine L_endblk ?_ | refine L_ret ?_ | (refine L_exit ?_; repeat (first | refine X_code ?_ | refine X_back ?_ | refine X_blk ?_ | refine X_past (by decide) ?_)) | (refine L_cond ?_; simp only [go_sem, seval, hd, h1, h2]) | (refine L_region fun K E hK hE => ?_; simp only [go_sem, seval, hd, h1, h2]; try (refine hK _ _ ?_; clear hK hE K E))))
        (refine fin_ret ?_ (Fg.refl _); simp only [go_sem, seval, res65])
        have : (oneK (c :: l)) = (2, runN digB (c :: l)) := by simp only [oneK, hd, if_true]; rw [if_neg (by rintro (h | ⟨h, _⟩) <;> omega)]
        simp [this]
  | false =>
    (repeat (first | refine L_seq ?_ | refine L_blk ?_ | refine L_skip ?_ | refine L_endblk ?_ | refine L_ret ?_ | (refine L_exit ?_; repeat (first | refine X_code ?_ | refine X_back ?_ | refine X_blk ?_ | refine X_past (by decide) ?_)) | (refine L_cond ?_; simp only [go_sem, seval, hd]) | (refine L_region fun K E hK hE => ?_; simp only [go_sem, seval, hd]; try (refine hK _ _ ?_; clear hK hE K E))))
    (refine call_ret can89 (part_S _ _) ?_; simp only [go_sem, seval, hd]; try (refine hK _ _ ?_; clear hK hE K E))
    cases hp : partB c with
    | true =>
      (repeat (first | refine L_seq ?_ | refine L_blk ?_ | refine L_skip ?_ | refine L_endblk ?_ | refine L_ret ?_ | (refine L_exit ?_; repeat (first | refine X_code ?_ | refine X_back ?_ | refine X_blk ?_ | refine X_past (by decide) ?_)) | (refine L_cond ?_; simp only [go_sem, seval, hd, hp]) | (refine L_region fun K E hK hE => ?_; simp only [go_sem, seval, hd, hp]; try (refine hK _ _ ?_; clear hK hE K E))))
      (refine call_ret can61 (run_S 89 partB can89 part_S (c :: l) hl s) ?_; simp only [go_sem, seval, hd]; try (refine hK _ _ ?_; clear hK hE K E))
      by_cases h1 : (32 : Int) < (runN partB (c :: l) : Int)
      · (repeat (first | refine L_seq ?_ | refine L_blk ?_ | refine L_skip ?_ | refine L_endblk ?_ | refine L_ret ?_ | (refine L_exit ?_; repeat (first | refine X_code ?_ | refine X_back ?_ | refine X_blk ?_ | refine X_past (by decide) ?_)) | (refine L_cond ?_; simp only [go_sem, seval, hd, h1]) | (refine L_region fun K E hK hE => ?_; simp only [go_sem, seval, hd, h1]; try (refine hK _ _ ?_; clear hK hE K E))))
        (refine fin_ret ?_ (Fg.refl _); simp only [go_sem, seval, res65])
        have : (oneK (c :: l)) = (0, 0) := by simp only [oneK, hd, hp, if_true, Bool.false_eq_true, if_false]; rw [if_pos (by omega)]
        simp [this]
      · (repeat (first | refine L_seq ?_ | refine L_blk ?_ | refine L_skip ?_ | refine L_endblk ?_ | refine L_ret ?_ | (refine L_exit ?_; repeat (first | refine X_code ?_ | refine X_back ?_ | refine X_blk ?_ | refine X_past (by decide) ?_)) | (refine L_cond ?_; simp only [go_sem, seval, hd, h1]) | (refine L_region fun K E hK hE => ?_; simp only [go_sem, seval, hd, h1]; try (refine hK _ _ ?_; clear hK hE K E))))
        (refine fin_ret ?_ (Fg.refl _); simp only [go_sem, seval, res65])
        have : (oneK (c :: l)) = (1, runN partB (c :: l)) := by simp only [oneK, hd, hp, if_true, Bool.false_eq_true, if_false]; rw [if_neg (by omega)]
        simp [this]
    | false =>
      (repeat (first | refine L_seq ?_ | refine L_blk ?_ | refine L_skip ?_ | refine L_endblk ?_ | refine L_ret ?_ | (refine L_exit ?_; repeat (first | refine X_code ?_ | refine X_back ?_ | refine X_blk ?_ | refine X_past (by decide) ?_)) | (refine L_cond ?_; simp only [go_sem, seval, hd, hp]) | (refine L_region fun K E hK hE => ?_; simp only [go_sem, seval, hd, hp]; try (refine hK _ _ ?_; clear hK hE K E))))
      (refine call_ret can90 (mark_S c l s) ?_; simp only [go_sem, seval, hd]; try (refine hK _ _ ?_; clear hK hE K E))
      (repeat (first | refine L_seq ?_ | refine L_blk ?_ | refine L_skip ?_ | refine L_endblk ?_ | refine L_ret ?_ | (refine L_exit ?_; repeat (first | refine X_code ?_ | refine X_back ?_ | refine X_blk ?_ | refine X_past (by decide) ?_)) | (refine L_cond ?_; simp only [go_sem, seval, hd, hp]) | (refine L_region fun K E hK hE => ?_; simp only [go_sem, seval, hd, hp]; try (refine hK _ _ ?_; clear hK hE K E))))
      (refine fin_ret ?_ (Fg.refl _); simp only [go_sem, seval, res65])
      simp [oneK, hd, hp]
/-- A sign. -/
structure Sgn where
  kind : Nat
  text : List UInt8
  at_ : Nat
def sgnC (x : Sgn) : List VV := [.int .i64 x.kind, .str x.text, .int .i64 x.at_]

def blankB (c : UInt8) : Bool := decide (0 ≤ Lib.indexByte [32, 9, 10, 13] c)
def noLine (c : UInt8) : Bool := !decide ((c.toNat : Int) = 10)

theorem blank_S (c : UInt8) (s : St) : SRet Try.prog 62 [.int .u8 c.toNat] s (.bool (blankB c)) s := by
  refine S_enter Try.func62 rfl Try.ntmps62 rfl ?_
  (repeat (first | refine L_seq ?_ | refine L_blk ?_ | refine L_skip ?_ | refine L_endblk ?_ | refine L_ret ?_ | (refine L_exit ?_; repeat (first | refine X_code ?_ | refine X_back ?_ | refine X_blk ?_ | refine X_past (by decide) ?_)) | (refine L_cond ?_; simp only [go_sem, seval]) | (refine L_region fun K E hK hE => ?_; simp only [go_sem, seval]; try (refine hK _ _ ?_; clear hK hE K E))))
  (refine call_ret can63 (index_S _ c s) ?_; simp only [go_sem, seval]; try (refine hK _ _ ?_; clear hK hE K E))
  (repeat (first | refine L_seq ?_ | refine L_blk ?_ | refine L_skip ?_ | refine L_endblk ?_ | refine L_ret ?_ | (refine L_exit ?_; repeat (first | refine X_code ?_ | refine X_back ?_ | refine X_blk ?_ | refine X_past (by decide) ?_)) | (refine L_cond ?_; simp only [go_sem, seval]) | (refine L_region fun K E hK hE => ?_; simp only [go_sem, seval]; try (refine hK _ _ ?_; clear hK hE K E))))
  (refine fin_ret ?_ (Fg.refl _); simp only [go_sem, seval, res62])
  rfl
theorem noLine_S (c : UInt8) (s : St) : SRet Try.prog 64 [.int .u8 c.toNat] s (.bool (noLine c)) s := by
  refine S_enter Try.func64 rfl Try.ntmps64 rfl ?_
  (repeat (first | refine L_seq ?_ | refine L_blk ?_ | refine L_skip ?_ | refine L_endblk ?_ | refine L_ret ?_ | (refine L_exit ?_; repeat (first | refine X_code ?_ | refine X_back ?_ | refine X_blk ?_ | refine X_past (by decide) ?_)) | (refine L_cond ?_; simp only [go_sem, seval]) | (refine L_region fun K E hK hE => ?_; simp only [go_sem, seval]; try (refine hK _ _ ?_; clear hK hE K E))))
  (refine fin_ret ?_ (Fg.refl _); simp only [go_sem, seval, res64])
  rfl

/-- The signs of a text, from a place on, behind others; or where it is none, and why. -/
def lexGo : Nat → List UInt8 → Nat → List Sgn → Except (Nat × Nat) (List Sgn)
  | 0, _, _, out => .ok out
  | f + 1, l, at_, out =>
    let b := runN blankB l
    match l.drop b with
    | [] => .ok out
    | c :: r =>
      if c.toNat = 35 then lexGo f ((c :: r).drop (runN noLine (c :: r))) (at_ + b + runN noLine (c :: r)) out
      else if (oneK (c :: r)).2 = 0 then .error (at_ + b, 100)
      else if 4096 ≤ out.length then .error (at_ + b, 2)
      else lexGo f ((c :: r).drop (oneK (c :: r)).2) (at_ + b + (oneK (c :: r)).2) (out ++ [⟨(oneK (c :: r)).1, (c :: r).take (oneK (c :: r)).2, at_ + b⟩])

def lexSigns (s : List UInt8) : Except (Nat × Nat) (List Sgn) := if 16384 < s.length then .error (0, 1) else lexGo (s.length + 1) s 0 []

def signsV : Except (Nat × Nat) (List Sgn) → VV
  | .ok l => .tup [.lst (l.map sgnC) .no, .int .i64 0, .int .i64 0]
  | .error (a, e) => .tup [.lst [] .no, .int .i64 a, .int .i64 e]

theorem oneK_le (c : UInt8) (l : List UInt8) : (oneK (c :: l)).2 ≤ (c :: l).length := by
  have h1 := runN_le digB (c :: l)
  have h2 := runN_le partB (c :: l)
  have pre : ∀ (p : List UInt8), p.length = 2 → p.isPrefixOf (c :: l) = true → 2 ≤ (c :: l).length := fun p hp h => by
    have := (List.isPrefixOf_iff_prefix.1 h).length_le
    omega
  simp only [oneK]
  split
  · split <;> simp <;> exact h1
  · split
    · split <;> simp <;> exact h2
    · show markN (c :: l) ≤ _
      unfold markN
      split
      · rename_i h; exact pre _ rfl h
      · split
        · rename_i h; exact pre _ rfl h
        · split
          · rename_i h; exact pre _ rfl h
          · show (if 0 ≤ Lib.indexByte marks c then 1 else 0) ≤ (c :: l).length
            split <;> simp

theorem Wk.tup3 {xs : List (List VV)} {o : Own} {a b : VV} : Wk (.tup [.lst xs o, a, b]) (.tup [.lst xs .no, a, b]) :=
  Wk.tup rfl fun j x y hx hy => by
    match j with
    | 0 => simp at hx hy; subst hx; subst hy; exact Wk.lst _ _
    | 1 => simp at hx hy; subst hx; subst hy; exact Wk.refl _
    | 2 => simp at hx hy; subst hx; subst hy; exact Wk.refl _
    | j + 3 => simp at hx

/-- One more, or some more. -/
theorem append_own {k : VV → St → Prop} {e : TypeId} {q : QI} {xs ys : List (List VV)} {o : Own} {s : St} {n sz m : Nat} (hn : xs.length = n) (hsz : q.sz = sz) (hys : ys.length = m) (ho : OwnOk s o n) (hb : (n + m) * q.bt ≤ 140737488355328) (hm : n + m ≤ 9223372036854775807)
    (hy : ∀ y, y ∈ ys → y.length = sz) (hz : q.zok = true)
    (h : ∀ o', OwnOk s o' (n + m) → k (.lst (xs ++ ys) o') (s.own o' e sz (n + m))) : vappend k e q xs ys o (s.own o e sz n) := by
  subst hn
  subst hsz
  subst hys
  refine ⟨hb, hm, hy, hz, ?_⟩
  cases o with
  | no => exact ho.elim
  | full =>
    have hx : xs = [] := List.eq_nil_of_length_eq_zero ho
    subst hx
    refine ⟨by simp, fun e => ?_, fun _ b hb => ?_⟩
    · subst e; exact h .full rfl
    · exact h (.at_ b) hb
  | at_ b =>
    refine ⟨St.set_same _ _ _, fun b' hb' => ?_⟩
    have e1 : (St.own s (.at_ b) e q.sz xs.length).set b .free = s := by
      show (s.set b _).set b .free = s
      rw [St.set_set]
      exact St.set_self _ _ _ ho
    rw [e1]
    by_cases hbb : b' = b
    · subst hbb; exact h (.at_ b') ho
    · rcases hb' with hb' | hb'
      · exact absurd hb' hbb
      · have : s b' = .free := by
          have h2 : (s.set b (.vec e q.sz xs.length)) b' = s b' := St.set_other _ _ hbb
          rw [← h2]; exact hb'
        exact h (.at_ b') this

theorem signs_S (l : List UInt8) (hl : l.length ≤ 9223372036854775000) (s : St) : SRet Try.prog 45 [.str l] s (signsV (lexSigns l)) s := by
  refine S_enter Try.func45 rfl Try.ntmps45 rfl ?_
  by_cases hbig : (16384 : Int) < (l.length : Int)
  · (repeat (first | refine L_seq ?_ | refine L_blk ?_ | refine L_skip ?_ | refine L_endblk ?_ | refine L_ret ?_ | (refine L_exit ?_; repeat (first | refine X_code ?_ | refine X_back ?_ | refine X_blk ?_ | refine X_past (by decide) ?_)) | (refine L_cond ?_; simp only [go_sem, seval, hbig]) | (refine L_region fun K E hK hE => ?_; simp only [go_sem, seval, hbig]; try (refine hK _ _ ?_; clear hK hE K E))))
    refine fin_retw (v := .tup [.lst [] .full, .int .i64 0, .int .i64 1]) ?_ ?_ (Fg.refl _)
    · simp only [go_sem, seval, res45]
    · rw [show lexSigns l = .error (0, 1) by unfold lexSigns; rw [if_pos (by omega)]]
      exact Wk.tup3
  · (repeat (first | refine L_seq ?_ | refine L_blk ?_ | refine L_skip ?_ | refine L_endblk ?_ | refine L_ret ?_ | (refine L_exit ?_; repeat (first | refine X_code ?_ | refine X_back ?_ | refine X_blk ?_ | refine X_past (by decide) ?_)) | (refine L_cond ?_; simp only [go_sem, seval, hbig]) | (refine L_region fun K E hK hE => ?_; simp only [go_sem, seval, hbig]; try (refine hK _ _ ?_; clear hK hE K E))))
    have hr : lexSigns l = lexGo (l.length + 1) l 0 [] := by unfold lexSigns; rw [if_neg (by omega)]
    generalize lexSigns l = r at hr
    refine L_loop (fun n env s' => ∃ (at_ : Nat) (out : List Sgn) (o : Own), at_ ≤ l.length ∧ l.length < at_ + n ∧ out.length ≤ 4096 ∧ r = lexGo n (l.drop at_) at_ out ∧ s' = s.own o 100 3 out.length ∧ OwnOk s o out.length ∧
      env 0 = .str l ∧ env 5 = .lst (out.map sgnC) o ∧ env 6 = .int .i64 at_) (l.length + 1) ?_ ?_
    · exact ⟨0, [], .full, Nat.zero_le _, by omega, Nat.zero_le _, by simpa using hr, rfl, rfl, rfl, rfl, rfl⟩
    · rintro n env s' ⟨at_, out, o, hat, hn, hout, hgo, rfl, hown, e0, e5, e6⟩
      have h0 : (0 : Int) ≤ (at_ : Int) := by omega
      have hlen : (l.drop at_).length ≤ 9223372036854775000 := by rw [List.length_drop]; omega
      have hb := runN_le blankB (l.drop at_)
      rw [List.length_drop] at hb
      obtain ⟨p, hp⟩ : ∃ p, p = at_ + runN blankB (l.drop at_) := ⟨_, rfl⟩
      have hw : IntKind.i64.wrap ((at_ : Int) + (runN blankB (l.drop at_) : Int)) = (p : Int) := by rw [wrap_i64 (by omega) (by omega)]; omega
      have hpl : p ≤ l.length := by omega
      have hp0 : (0 : Int) ≤ (p : Int) := by omega
      obtain ⟨m, rfl⟩ : ∃ m, n = m + 1 := ⟨n - 1, by omega⟩
      simp only [lexGo] at hgo
      rw [List.drop_drop, ← hp] at hgo
      (repeat (first | refine L_seq ?_ | refine L_blk ?_ | refine L_skip ?_ | refine L_endblk ?_ | refine L_ret ?_ | (refine L_exit ?_; repeat (first | refine X_code ?_ | refine X_back ?_ | refine X_blk ?_ | refine X_past (by decide) ?_)) | (refine L_cond ?_; simp only [go_sem, seval, e0, e5, e6, h0, hat, Nat.le_refl, and_self, List.take_length]) | (refine L_region fun K E hK hE => ?_; simp only [go_sem, seval, e0, e5, e6, h0, hat, Nat.le_refl, and_self, List.take_length]; try (refine hK _ _ ?_; clear hK hE K E))))
      (refine call_ret can61 (run_S 62 blankB can62 blank_S (l.drop at_) hlen _) ?_; simp only [go_sem, seval, e0, e5, e6, hw]; try (refine hK _ _ ?_; clear hK hE K E))
      cases hd : l.drop p with
      | nil =>
        have hpe : p = l.length := by
          have := congrArg List.length hd
          simp at this
          omega
        have ht : ((p : Int) = (l.length : Int)) = True := by apply propext; simp; omega
        rw [hd] at hgo
        (repeat (first | refine L_seq ?_ | refine L_blk ?_ | refine L_skip ?_ | refine L_endblk ?_ | refine L_ret ?_ | (refine L_exit ?_; repeat (first | refine X_code ?_ | refine X_back ?_ | refine X_blk ?_ | refine X_past (by decide) ?_)) | (refine L_cond ?_; simp only [go_sem, seval, e0, e5, ht]) | (refine L_region fun K E hK hE => ?_; simp only [go_sem, seval, e0, e5, ht]; try (refine hK _ _ ?_; clear hK hE K E))))
        refine fin_retw (v := .tup [.lst (out.map sgnC) o, .int .i64 0, .int .i64 0]) ?_ ?_ (Fg.own hown)
        · simp only [go_sem, seval, res45, e5]
        · rw [hgo]; exact Wk.tup3
      | cons c rr =>
        have hplt : p < l.length := by
          have := congrArg List.length hd
          simp at this
          omega
        have ht : ¬ ((p : Int) = (l.length : Int)) := by omega
        have hc : l[p]? = some c := by
          have := congrArg (·[0]?) hd
          simpa using this
        rw [hd] at hgo
        simp only at hgo
        have hlen2 : (c :: rr).length ≤ 9223372036854775000 := by rw [← hd, List.length_drop]; omega
        by_cases h35 : c.toNat = 35
        · have h35' : (c.toNat : Int) = 35 := by omega
          rw [if_pos h35] at hgo
          have hq := runN_le noLine (c :: rr)
          have hq1 : 1 ≤ runN noLine (c :: rr) := by
            rw [runN_cons, if_pos (by simp [noLine]; omega)]; omega
          have hql : (c :: rr).length = l.length - p := by rw [← hd, List.length_drop]
          have hw2 : IntKind.i64.wrap ((p : Int) + (runN noLine (c :: rr) : Int)) = ((p + runN noLine (c :: rr) : Nat) : Int) := by rw [wrap_i64 (by omega) (by omega)]; omega
          (repeat (first | refine L_seq ?_ | refine L_blk ?_ | refine L_skip ?_ | refine L_endblk ?_ | refine L_ret ?_ | (refine L_exit ?_; repeat (first | refine X_code ?_ | refine X_back ?_ | refine X_blk ?_ | refine X_past (by decide) ?_)) | (refine L_cond ?_; simp only [go_sem, seval, e0, e5, e6, hp0, hpl, ht, hc, h35', Nat.le_refl, and_self, List.take_length, hd]) | (refine L_region fun K E hK hE => ?_; simp only [go_sem, seval, e0, e5, e6, hp0, hpl, ht, hc, h35', Nat.le_refl, and_self, List.take_length, hd]; try (refine hK _ _ ?_; clear hK hE K E))))
          (refine call_ret can61 (run_S 64 noLine can64 noLine_S (c :: rr) hlen2 _) ?_; simp only [go_sem, seval, e0, e5, hw2]; try (refine hK _ _ ?_; clear hK hE K E))
          (repeat (first | refine L_seq ?_ | refine L_blk ?_ | refine L_skip ?_ | refine L_endblk ?_ | refine L_ret ?_ | (refine L_exit ?_; repeat (first | refine X_code ?_ | refine X_back ?_ | refine X_blk ?_ | refine X_past (by decide) ?_)) | (refine L_cond ?_; simp only [go_sem, seval, e0, e5]) | (refine L_region fun K E hK hE => ?_; simp only [go_sem, seval, e0, e5]; try (refine hK _ _ ?_; clear hK hE K E))))
          refine ⟨m, Nat.lt_succ_self m, p + runN noLine (c :: rr), out, o, by omega, by omega, hout, ?_, rfl, hown, ?_, ?_, ?_⟩
          · rw [hgo, ← hd, List.drop_drop]
          all_goals simp only [go_sem, seval, e0, e5]
        · have h35' : ¬ (c.toNat : Int) = 35 := by omega
          rw [if_neg h35] at hgo
          (repeat (first | refine L_seq ?_ | refine L_blk ?_ | refine L_skip ?_ | refine L_endblk ?_ | refine L_ret ?_ | (refine L_exit ?_; repeat (first | refine X_code ?_ | refine X_back ?_ | refine X_blk ?_ | refine X_past (by decide) ?_)) | (refine L_cond ?_; simp only [go_sem, seval, e0, e5, e6, hp0, hpl, ht, hc, h35', Nat.le_refl, and_self, List.take_length, hd]) | (refine L_region fun K E hK hE => ?_; simp only [go_sem, seval, e0, e5, e6, hp0, hpl, ht, hc, h35', Nat.le_refl, and_self, List.take_length, hd]; try (refine hK _ _ ?_; clear hK hE K E))))
          (refine call_ret can65 (one_S c rr hlen2 _) ?_; simp only [go_sem, seval, e0, e5]; try (refine hK _ _ ?_; clear hK hE K E))
          have hk := oneK_le c rr
          rw [show (c :: rr).length = l.length - p by rw [← hd, List.length_drop]] at hk
          generalize hone : oneK (c :: rr) = kn at hgo hk
          obtain ⟨kd, nn⟩ := kn
          simp only at hgo hk
          by_cases h0n : nn = 0
          · have h0' : (nn : Int) = 0 := by omega
            rw [if_pos h0n] at hgo
            (repeat (first | refine L_seq ?_ | refine L_blk ?_ | refine L_skip ?_ | refine L_endblk ?_ | refine L_ret ?_ | (refine L_exit ?_; repeat (first | refine X_code ?_ | refine X_back ?_ | refine X_blk ?_ | refine X_past (by decide) ?_)) | (refine L_cond ?_; simp only [go_sem, seval, e0, e5, e6, h0']) | (refine L_region fun K E hK hE => ?_; simp only [go_sem, seval, e0, e5, e6, h0']; try (refine hK _ _ ?_; clear hK hE K E))))
            refine fin_retw (v := .tup [.lst [] .full, .int .i64 p, .int .i64 100]) ?_ ?_ (Fg.own hown)
            · simp only [go_sem, seval, res45, e5, e6]
            · rw [hgo]; exact Wk.tup3
          · have h0' : ¬ (nn : Int) = 0 := by omega
            rw [if_neg h0n] at hgo
            by_cases hfull : 4096 ≤ out.length
            · have hf' : (4096 : Int) ≤ (out.length : Int) := by omega
              rw [if_pos hfull] at hgo
              (repeat (first | refine L_seq ?_ | refine L_blk ?_ | refine L_skip ?_ | refine L_endblk ?_ | refine L_ret ?_ | (refine L_exit ?_; repeat (first | refine X_code ?_ | refine X_back ?_ | refine X_blk ?_ | refine X_past (by decide) ?_)) | (refine L_cond ?_; simp only [go_sem, seval, e0, e5, e6, h0', hf', List.length_map]) | (refine L_region fun K E hK hE => ?_; simp only [go_sem, seval, e0, e5, e6, h0', hf', List.length_map]; try (refine hK _ _ ?_; clear hK hE K E))))
              refine fin_retw (v := .tup [.lst [] .full, .int .i64 p, .int .i64 2]) ?_ ?_ (Fg.own hown)
              · simp only [go_sem, seval, res45, e5, e6]
              · rw [hgo]; exact Wk.tup3
            · have hf' : ¬ (4096 : Int) ≤ (out.length : Int) := by omega
              rw [if_neg hfull] at hgo
              have hw3 : IntKind.i64.wrap ((p : Int) + (nn : Int)) = ((p + nn : Nat) : Int) := by rw [wrap_i64 (by omega) (by omega)]; omega
              have hpn : (0 : Int) ≤ ((p + nn : Nat) : Int) := by omega
              have hpn2 : p ≤ p + nn ∧ p + nn ≤ l.length := by omega
              (repeat (first | refine L_seq ?_ | refine L_blk ?_ | refine L_skip ?_ | refine L_endblk ?_ | refine L_ret ?_ | (refine L_exit ?_; repeat (first | refine X_code ?_ | refine X_back ?_ | refine X_blk ?_ | refine X_past (by decide) ?_)) | (refine L_cond ?_; simp only [go_sem, seval, e0, e5, e6, h0', hf', List.length_map, hw3, hpn, hp0, hpn2, and_self, vrow]) | (refine L_region fun K E hK hE => ?_; simp only [go_sem, seval, e0, e5, e6, h0', hf', List.length_map, hw3, hpn, hp0, hpn2, and_self, vrow]; try (refine hK _ _ ?_; clear hK hE K E))))
              refine append_own (n := out.length) (sz := 3) (m := 1) (by simp) rfl rfl hown (by simp only; omega) (by omega) (fun y hy => by simp at hy; subst hy; rfl) rfl fun o' ho' => ?_
              refine hK _ _ ?_
              clear hK hE K E
              (repeat (first | refine L_seq ?_ | refine L_blk ?_ | refine L_skip ?_ | refine L_endblk ?_ | refine L_ret ?_ | (refine L_exit ?_; repeat (first | refine X_code ?_ | refine X_back ?_ | refine X_blk ?_ | refine X_past (by decide) ?_)) | (refine L_cond ?_; simp only [go_sem, seval, e0, e5, hw3]) | (refine L_region fun K E hK hE => ?_; simp only [go_sem, seval, e0, e5, hw3]; try (refine hK _ _ ?_; clear hK hE K E))))
              refine ⟨m, Nat.lt_succ_self m, p + nn, out ++ [{ kind := kd, text := (c :: rr).take nn, at_ := p }], o', by omega, by omega, by simp; omega, ?_, by simp, by simpa using ho', ?_, ?_, ?_⟩
              · rw [hgo, ← hd, List.drop_drop]
              · simp only [go_sem, seval, e0]
              · have htk : List.drop p (List.take (p + nn) l) = (c :: rr).take nn := by
                  rw [← hd, List.drop_take]
                  congr 1
                  omega
                simp only [go_sem, seval, htk, List.map_append, sgnC]
              · simp only [go_sem, seval, e0]
end Go.Proofs.Ytejlknplmfmceaa
