/- What is proved: What package class's body hands back. Conditions: what fits a memory; What package class's right hands back. Conditions: what fits a memory; What package class's right hands back. Conditions: what fits a memory; What package class's Check and Find hand back. Conditions: what fits a memory. Conditions: those that stand in the statements. -/
import Derived.Test.YtejlknplmfmceaaZCo
set_option linter.unusedSimpArgs false
set_option linter.unusedVariables false
set_option maxRecDepth 100000
namespace Go.Proofs.Ytejlknplmfmceaa
open Go.RowKit

attribute [local go_sem] p_enil1 p_enil2 p_nilE one_nil
def argOk : Stm → Prop
  | .mk _ _ _ _ _ ar _ _ => ar.length ≤ 100000
def bdF (x : List Cls) (st : Bool) (a : Bool) (s : Stm) : Bool := a && stmR x st s
theorem bdF_all {x : List Cls} {st : Bool} : ∀ (l : List Stm) (a : Bool), l.foldl (bdF x st) a = (a && l.all (stmR x st))
  | [], a => by simp
  | s :: l, a => by simp only [List.foldl_cons, List.all_cons]; rw [bdF_all l]; simp [bdF, Bool.and_assoc]
structure BdAt (t : St) (p bm b2 b3 b5 : Nat) (x : List Cls) (m : Mth) : Prop where
  src : SrcAt t p bm x
  h2 : t b2 = .obj 47 [.ptr p 0]
  h3 : t b3 = .obj 41 (mthC m)
  h5 : t b5 = .free
theorem Cbdeach (p bm b2 b3 b5 : Nat) (x : List Cls) (m : Mth) (hx : x.length ≤ 100000) (hl : ∀ c, c ∈ x → c.mths.length ≤ 100000) (hst : ∀ i, i < x.length → startN x i ≤ 100000) :
    EachOk 31 [.ptr b3 0, .ptr b5 0, .ptr b2 0] (fun t => BdAt t p bm b2 b3 b5 x m) (fun (a : Bool) t => t.set b5 (.obj 4 [.bool a])) (bdF x m.stat) argOk (fun _ _ => True) := by
  have key : ∀ (t : St) (a : Bool) (b : Nat), (t.set b5 (.obj 4 [.bool a])) b = .free → ¬ b = b5 ∧ t b = .free := fun t a b hb => by
    by_cases e : b = b5
    · subst e; rw [St.set_same] at hb; cases hb
    · rw [St.set_other _ _ e] at hb; exact ⟨e, hb⟩
  refine ⟨fun t a b c hB hb => ?_, fun t a b c hB hb => ?_, fun t a a' b hB hb => ?_, fun _ _ _ _ _ => trivial, fun _ _ _ => trivial, fun t a s k hB hg _ => ?_⟩
  · obtain ⟨e, hb⟩ := key t a b hb
    have hf : ∀ b', t b' ≠ .free → (t.set b c) b' = t b' := fun b' h => St.set_other _ _ (nef hb h).1
    exact ⟨hB.src.fg (Fg.of_set _ hb), (hf _ (by rw [hB.h2]; simp)).trans hB.h2, (hf _ (by rw [hB.h3]; simp)).trans hB.h3, (St.set_other _ _ (fun h => e h.symm)).trans hB.h5⟩
  · obtain ⟨e, hb⟩ := key t a b hb
    exact set_comm' e
  · obtain ⟨e, hb⟩ := key t a b hb
    rw [St.set_other _ _ e]; exact hb
  · obtain ⟨k', d, sr, cn, nm, ar, o, t2⟩ := s
    exact Cbd1_S t p bm b2 b3 b5 x m hB.src hB.h2 hB.h3 hB.h5 hx hl hst a k' d sr cn nm ar o t2 hg
theorem Cbdall_S (p bm : Nat) (x : List Cls) (m : Mth) (hx : x.length ≤ 100000) (hl : ∀ c, c ∈ x → c.mths.length ≤ 100000) (hst : ∀ i, i < x.length → startN x i ≤ 100000) (hb : LOk argOk m.body)
    (B : St) (b2 b3 b5 : Nat) (hS1 : B p = .obj 70 [.lst (x.map clsC) .no, .mp bm, .lst (stL x x.length) .no]) (hS2 : B bm = .map (mpV encI (atA16 x)))
    (h2 : B b2 = .obj 47 [.ptr p 0]) (h3 : B b3 = .obj 41 (mthC m)) (h5 : B b5 = .free) :
    SRet Try.prog 17 [.lst (stsC m.body) .no, .fn 31 [.ptr b3 0, .ptr b5 0, .ptr b2 0]] (B.set b5 (.obj 4 [.bool true])) (.tup []) (B.set b5 (.obj 4 [.bool (bodyR x m)])) := by
  have h := Ceach_S 31 [.ptr b3 0, .ptr b5 0, .ptr b2 0] _ _ _ _ _ can31 (Cbdeach p bm b2 b3 b5 x m hx hl hst) (szL m.body + 1) m.body (Nat.lt_succ_self _) hb B true ⟨⟨hS1, hS2⟩, h2, h3, h5⟩ trivial
  simp only [bdF_all, Bool.true_and] at h
  exact h
set_option maxHeartbeats 4000000 in
theorem Cbody_S (t : St) (p bm : Nat) (x : List Cls) (m : Mth) (hS : SrcAt t p bm x) (hx : x.length ≤ 100000) (hl : ∀ c, c ∈ x → c.mths.length ≤ 100000) (hst : ∀ i, i < x.length → startN x i ≤ 100000) (hb : LOk argOk m.body) :
    SRet Try.prog 24 [.ptr p 0, .agg (mthC m)] t (.bool (bodyR x m)) t := by
  have w1 := Cbdall_S p bm x m hx hl hst hb
  obtain ⟨h1, h2⟩ := hS
  have hpf : t p ≠ .free := by rw [h1]; simp
  have hbf : t bm ≠ .free := by rw [h2]; simp
  generalize bodyR x m = R at w1 ⊢
  clear hl hst hb
  obtain ⟨ms, mn, mp, mb⟩ := m
  simp only [mthC, strsV, stsV] at w1 ⊢
  refine G_enter Try.func24 rfl Try.ntmps24 rfl fun Q hQ hQe => ?_
  (repeat' (first | refine Ctl ?_ | ((with_reducible refine Kof.use hK ?_); clear hK hE K E) | ((with_reducible refine Eof.use hE ?_); (try clear hK hE K E)) | ((with_reducible refine W_cond (fun h => ?_) (fun h => ?_)) <;> (try (exfalso; first | assumption | omega))) | ((first | (with_reducible first | refine G_region fun K E hK hE => ?_ | refine call_ret can17 (w1 _ _ _ _ z_sl z_sl z_sl z_sl z_sl) ?_ | refine W_if ?_ | refine W_ifS ?_ | refine W_and ?_) | ((with_reducible refine W_fresh (fun b hb => ?_)); (repeat (obtain ⟨_, hb⟩ := hb)); (try (obtain ⟨_, _⟩ := nef hb hpf; obtain ⟨_, _⟩ := nef hb hbf)))) <;> (try simp (disch := first | assumption | omega) only [go_sem, seval, *]))))
  all_goals (first | refine W_ret res24 hQ ?_ | refine W_norm res24 hQ ?_ | refine G_pan hQ ?_)
  all_goals (refine ⟨_, _, Wk.of_eq ?_, ?_, rfl, rfl⟩)
  all_goals first | rfl | (exact z_fg) | trace_state
end Go.Proofs.Ytejlknplmfmceaa
set_option maxRecDepth 100000
namespace Go.Proofs.Ytejlknplmfmceaa
open Go.RowKit

def SOk (y : Stm) : Prop := argOk y ∧ (subs y).1.length ≤ 100000 ∧ (subs y).2.length ≤ 100000
mutual
theorem okS_all : ∀ (x : Stm) (dp : Nat), okS x dp = true → totS x ≤ 1024 → ∀ y, y ∈ preS x → SOk y
  | .mk k d s c m ar o t, dp, hk, ht, y, hy => by
    simp only [okS, Bool.and_eq_true] at hk
    obtain ⟨hm, hk⟩ := hk
    have ha := (may_args hm).1
    simp only [totS] at ht
    have l1 := totL_len o
    have l2 := totL_len t
    simp only [preS, List.mem_cons, List.mem_append] at hy
    by_cases h8 : k = 8
    · subst h8
      simp only [if_true, Bool.and_eq_true] at hk ht
      rcases hy with rfl | hy | hy
      · exact ⟨show ar.length ≤ 100000 by omega, show o.length ≤ 100000 by omega, show t.length ≤ 100000 by omega⟩
      · exact okL_all o _ hk.1.2 (by omega) y hy
      · exact okL_all t _ hk.2 (by omega) y hy
    · by_cases h9 : k = 9
      · subst h9
        simp only [show ¬ (9 : Int) = 8 by decide, if_false, if_true, Bool.and_eq_true] at hk ht
        have htn : t = [] := by
          unfold mayB at hm
          simp only [show ¬ (9 : Int) = 8 by decide, if_false, if_true, Bool.and_eq_true, List.isEmpty_iff] at hm
          exact hm.2
        subst htn
        rcases hy with rfl | hy | hy
        · exact ⟨show ar.length ≤ 100000 by omega, show o.length ≤ 100000 by omega, show ([] : List Stm).length ≤ 100000 by simp⟩
        · exact okL_all o _ hk.2 (by omega) y hy
        · cases hy
      · have hon : o = [] ∧ t = [] := by
          unfold mayB at hm
          simp only [h8, h9, if_false, Bool.and_eq_true, List.isEmpty_iff] at hm
          exact ⟨hm.1.1.1, hm.1.1.2⟩
        obtain ⟨rfl, rfl⟩ := hon
        rcases hy with rfl | hy | hy
        · exact ⟨show ar.length ≤ 100000 by omega, show ([] : List Stm).length ≤ 100000 by simp, show ([] : List Stm).length ≤ 100000 by simp⟩
        · cases hy
        · cases hy
theorem okL_all : ∀ (l : List Stm) (dp : Nat), okA l dp = true → totL l ≤ 1024 → ∀ y, y ∈ preL l → SOk y
  | [], _, _, _, y, hy => by cases hy
  | x :: l, dp, hk, ht, y, hy => by
    simp only [okA, Bool.and_eq_true] at hk
    simp only [totL] at ht
    simp only [preL, List.mem_append] at hy
    rcases hy with hy | hy
    · exact okS_all x dp hk.1 (by omega) y hy
    · exact okL_all l dp hk.2 (by omega) y hy
end
/-- What a source that prints is bounded by. -/
structure Bnd (x : List Cls) : Prop where
  cls : x.length ≤ 32
  mths : ∀ c, c ∈ x → c.mths.length ≤ 32
  pars : ∀ c, c ∈ x → ∀ m, m ∈ c.mths → m.pars.length ≤ 8
  body : ∀ c, c ∈ x → ∀ m, m ∈ c.mths → LOk argOk m.body
theorem Bnd.of {x : List Cls} (h : checkB x = true) : Bnd x := by
  unfold checkB at h
  simp only [Bool.and_eq_true, decide_eq_true_eq, List.all_eq_true] at h
  obtain ⟨⟨h1, h2⟩, h3, h4⟩ := h
  refine ⟨h1, fun c hc => ?_, fun c hc m hm => ?_, fun c hc m hm => ?_⟩
  · have := h2 c hc
    unfold headC at this
    simp only [Bool.and_eq_true, decide_eq_true_eq] at this
    exact this.1.2
  · have := h2 c hc
    unfold headC at this
    simp only [Bool.and_eq_true, decide_eq_true_eq, List.all_eq_true] at this
    have h5 := this.2 m hm
    unfold headM namesB at h5
    simp only [Bool.and_eq_true, decide_eq_true_eq] at h5
    exact h5.2.1
  · have hmm := allM_mem hc hm
    have ht := totM_mem hmm
    have hl := totL_len m.body
    exact ⟨by omega, okL_all m.body 1 (h3 m hmm) (by omega)⟩
theorem startN_le {x : List Cls} (h : Bnd x) (i : Nat) (hi : i < x.length) : startN x i ≤ 100000 := by
  unfold startN
  have : ∀ l : List Cls, (∀ c, c ∈ l → c.mths.length ≤ 32) → (l.map (·.mths.length)).sum ≤ 32 * l.length := by
    intro l
    induction l with
    | nil => intro _; simp
    | cons c l ih =>
      intro hl
      have h1 := hl c (by simp)
      have h2 := ih fun c hc => hl c (by simp [hc])
      simp only [List.map_cons, List.sum_cons, List.length_cons]
      omega
  have h2 := this (x.take i) fun c hc => h.mths c (List.mem_of_mem_take hc)
  have h3 : (x.take i).length ≤ x.length := by simp; omega
  have := h.cls
  omega
end Go.Proofs.Ytejlknplmfmceaa
set_option maxRecDepth 100000
namespace Go.Proofs.Ytejlknplmfmceaa
open Go.RowKit

attribute [local go_sem] p_enil1 p_enil2 p_nilE one_nil
theorem Cread0_S (x : List Cls) (hx : SrcOk x) (h0 : rdE x = 0) (t : St) : SCalls Try.prog 20 [srcV x] t fun w u => ∃ a : Nat × Nat × St, w = .ret (.tup [.ptr a.1 0, .int .i64 0]) ∧ u = a.2.2 ∧ SrcAt a.2.2 a.1 a.2.1 x ∧ Fg a.2.2 t :=
  (Cread_S x hx t).mono fun w u h => by
    obtain ⟨p, bm, h1, h2, h3⟩ := h.2 h0
    exact ⟨(p, bm, u), h1, rfl, h2, h3⟩
theorem Cread1_S (x : List Cls) (hx : SrcOk x) (h0 : rdE x ≠ 0) (t : St) : SRet Try.prog 20 [srcV x] t (.tup [.raw (.pointer none), .int .i64 (rdE x)]) t :=
  (Cread_S x hx t).mono fun w u h => h.1 h0
theorem rightE_rd {x : List Cls} (h : rdE x ≠ 0) : rightE x = rdE x := by
  unfold rdE at h ⊢
  unfold rightE
  split
  · rfl
  · rename_i h1
    rw [if_neg h1] at h
    split
    · rfl
    · rename_i h2; rw [if_neg h2] at h; exact absurd rfl h
theorem rdE_0 {x : List Cls} (h : rdE x = 0) : checkB x = true ∧ (x.map (·.nm)).Nodup := by
  unfold rdE at h
  split at h
  · cases h
  · rename_i h1
    split at h
    · cases h
    · rename_i h2; exact ⟨by simpa using h1, by simpa using h2⟩
theorem upRun_r1 {x : List Cls} (n : List UInt8) : (upRun x (fun (a : Unit) (_ : Nat) => (a, true)) (x.length + 1) () n).2 = (upN x n).2 := upRun_all _ _
theorem Cupr_S (x : List Cls) (p bm : Nat) (hx : x.length ≤ 100000) (s : St) (h1 : s p = .obj 70 [.lst (x.map clsC) .no, .mp bm, .lst (stL x x.length) .no]) (h2 : s bm = .map (mpV encI (atA16 x))) (n : List UInt8) :
    SRet Try.prog 21 [.ptr p 0, .str n, .fn 22 []] s (.bool (upN x n).2) s := by
  have h := Cup_S x p bm 22 [] (fun _ => s) (fun (a : Unit) (_ : Nat) => (a, true)) can22 (fun _ => ⟨h1, h2⟩) (fun a i _ => Cr1_S i s) hx () n
  rw [upRun_r1] at h
  exact h
set_option maxHeartbeats 8000000 in
theorem Cright_S (x : List Cls) (hx : SrcOk x) (t : St) : SCalls Try.prog 14 [srcV x] t fun w u =>
    (rightE x ≠ 0 → w = .ret (.tup [.raw (.pointer none), .int .i64 (rightE x)]) ∧ u = t) ∧ (rightE x = 0 → ∃ p bm, w = .ret (.tup [.ptr p 0, .int .i64 0]) ∧ SrcAt u p bm x ∧ Fg u t) := by
  by_cases h0 : rdE x = 0
  · obtain ⟨hB, hN⟩ := rdE_0 h0
    have hb := Bnd.of hB
    have w0 := Cread0_S x hx h0
    have hxl := hb.cls
    have hlen : (x.map clsC).length = x.length := by simp
    have hre : rightE x = if (x.all fun c => (upN x c.nm).2) = false then 160 else if x.all (mthsR x) = false then 160 else if mainR x = false then 160 else 0 := by
      unfold rightE; rw [if_neg (by rw [hB]; simp), if_neg (by simpa using hN)]
    generalize rightE x = e at hre ⊢
    have HE := Lib.hid hre
    have HB := Lib.hid hb
    clear hre hb hB hN h0 hx
    simp only [srcV] at w0 ⊢
    refine G_enter Try.func14 rfl Try.ntmps14 rfl fun Q hQ hQe => ?_
    (repeat' (first | refine Ctl ?_ | ((with_reducible refine Kof.use hK ?_); clear hK hE K E) | ((with_reducible refine Eof.use hE ?_); (try clear hK hE K E)) | ((with_reducible refine W_cond (fun h => ?_) (fun h => ?_)) <;> (try (exfalso; first | assumption | omega))) | ((first | (with_reducible first | refine G_region fun K E hK hE => ?_ | refine W_if ?_ | refine W_ifS ?_ | refine W_and ?_) | ((with_reducible refine call_ex can20 (w0 _) (fun a h => ?_)); (obtain ⟨p, bm, u⟩ := a; dsimp only at h ⊢; obtain ⟨⟨k1, k2⟩, hFg⟩ := h; have hub := ((hFg b).resolve_left (by rw [St.set_same]; simp)).symm; rw [St.set_same] at hub)) | ((with_reducible refine W_fresh (fun b hb => ?_)); (repeat (obtain ⟨_, hb⟩ := hb))) | ((with_reducible refine W_gd (fun h => ?_) (fun h => ?_)) <;> (try (exfalso; first | assumption | omega)))) <;> (try simp (disch := first | assumption | omega) only [go_sem, seval, hlen, *]))))
    have hFt : Fg u t := hFg.trans (Fg.of_set _ hb)
    have hpf : u p ≠ .free := by rw [k1]; simp
    have hbf : u bm ≠ .free := by rw [k2]; simp
    have hif : u b ≠ .free := by rw [hub]; simp
    generalize b = bi at *
    refine G_loop (fun m env s' => ∃ (i : Nat), i ≤ x.length ∧ m + i = x.length ∧ Hid (∀ a c, a < i → x[a]? = some c → (upN x c.nm).2 = true) ∧ u = s' ∧ env 1 = .ptr bi 0 ∧ env 4 = .ptr p 0 ∧ env 25 = .lst (x.map clsC) .no ∧ env 26 = .int .i64 x.length ∧ env 27 = .int .i64 i) x.length ?_ ?_
    · exact ⟨_, Fg.refl _, 0, by omega, by omega, Lib.hid (fun a c h => absurd h (Nat.not_lt_zero _)), rfl, z_sl, z_sl, z_sl, z_sl, z_sl⟩
    rintro m env s' ⟨i, hi, hm, HI, rfl, e1, e4, e25, e26, e27⟩
    by_cases hlt : i < x.length
    · obtain ⟨c, hc⟩ := uget hlt
      have hsx := clsC_at hc
      have hcm := List.mem_of_getElem? hc
      have w1 := fun s h1 h2 => Cupr_S x p bm (by omega) s h1 h2 c.nm
      cases hup : (upN x c.nm).2 with
      | false =>
        rw [hup] at w1
        have hE := HE.out
        rw [if_pos (by rw [List.all_eq_false]; exact ⟨c, hcm, by rw [hup]; simp⟩)] at hE
        subst hE
        clear HI hup hcm hc w0
        obtain ⟨cn, cp, cm⟩ := c
        simp only at w1
        (repeat' (first | refine Ctl ?_ | ((with_reducible refine Kof.use hK ?_); clear hK hE K E) | ((with_reducible refine Eof.use hE ?_); (try clear hK hE K E)) | ((with_reducible refine W_cond (fun h => ?_) (fun h => ?_)) <;> (try (exfalso; first | assumption | omega))) | ((first | (with_reducible first | refine G_region fun K E hK hE => ?_ | refine call_ret can21 (w1 _ z_sl z_sl) ?_ | refine W_if ?_ | refine W_ifS ?_ | refine W_and ?_) | ((with_reducible refine W_fresh (fun b hb => ?_)); (repeat (obtain ⟨_, hb⟩ := hb)); (try (obtain ⟨_, _⟩ := nef hb hpf; obtain ⟨_, _⟩ := nef hb hbf; obtain ⟨_, _⟩ := nef hb hif))) | ((with_reducible refine W_gd (fun h => ?_) (fun h => ?_)) <;> (try (exfalso; first | assumption | omega)))) <;> (try simp (disch := first | assumption | omega) only [go_sem, seval, hlen, hsx, clsC, *]))))
        all_goals (first | refine W_ret res14 hQ ?_ | refine W_norm res14 hQ ?_ | refine G_pan hQ ?_)
        all_goals exact ⟨_, _, Wk.refl _, Fg.setA hFt (hFt.free hb), fun _ => ⟨rfl, rfl⟩, fun h => absurd h (by decide)⟩
      | true =>
        rw [hup] at w1
        have HI2 : Hid (∀ a c, a < i + 1 → x[a]? = some c → (upN x c.nm).2 = true) := Lib.hid fun a c' ha hg => by
          by_cases e : a = i
          · subst e; rw [hc] at hg; injection hg with hg; subst hg; exact hup
          · exact HI.out a c' (by omega) hg
        clear HI hup hcm hc w0
        obtain ⟨cn, cp, cm⟩ := c
        simp only at w1
        (repeat' (first | refine Ctl ?_ | ((with_reducible refine Kof.use hK ?_); clear hK hE K E) | ((with_reducible refine Eof.use hE ?_); (try clear hK hE K E)) | ((with_reducible refine W_cond (fun h => ?_) (fun h => ?_)) <;> (try (exfalso; first | assumption | omega))) | ((first | (with_reducible first | refine G_region fun K E hK hE => ?_ | refine call_ret can21 (w1 _ z_sl z_sl) ?_ | refine W_if ?_ | refine W_ifS ?_ | refine W_and ?_) | ((with_reducible refine W_fresh (fun b hb => ?_)); (repeat (obtain ⟨_, hb⟩ := hb)); (try (obtain ⟨_, _⟩ := nef hb hpf; obtain ⟨_, _⟩ := nef hb hbf; obtain ⟨_, _⟩ := nef hb hif))) | ((with_reducible refine W_gd (fun h => ?_) (fun h => ?_)) <;> (try (exfalso; first | assumption | omega)))) <;> (try simp (disch := first | assumption | omega) only [go_sem, seval, hlen, hsx, clsC, *]))))
        all_goals exact ⟨u, Fg.of_set _ hb, m - 1, by omega, i + 1, by omega, by omega, HI2, rfl, z_sl, z_sl, z_sl, z_sl, z_sl⟩
    · have hE := HE.out
      have hI := HI.out
      rw [if_neg (by
        have : (x.all fun c => (upN x c.nm).2) = true := List.all_eq_true.2 fun c hc => by
          obtain ⟨a, ha, hg⟩ := List.getElem_of_mem hc
          exact hI a c (by omega) (by rw [List.getElem?_eq_getElem ha, hg])
        rw [this]; simp)] at hE
      have HE := Lib.hid hE
      clear hE hI HI w0
      (repeat' (first | refine Ctl ?_ | ((with_reducible refine Kof.use hK ?_); clear hK hE K E) | ((with_reducible refine Eof.use hE ?_); (try clear hK hE K E)) | ((with_reducible refine W_cond (fun h => ?_) (fun h => ?_)) <;> (try (exfalso; first | assumption | omega))) | ((first | (with_reducible first | refine G_region fun K E hK hE => ?_ | refine W_if ?_ | refine W_ifS ?_ | refine W_and ?_) | ((with_reducible refine W_fresh (fun b hb => ?_)); (repeat (obtain ⟨_, hb⟩ := hb))) | ((with_reducible refine W_gd (fun h => ?_) (fun h => ?_)) <;> (try (exfalso; first | assumption | omega)))) <;> (try simp (disch := first | assumption | omega) only [go_sem, seval, hlen, *]))))
      clear hm hi hlt i m e25 e26 e27
      refine G_loop (fun m env s' => ∃ (i : Nat), i ≤ x.length ∧ m + i = x.length ∧ Hid (∀ a c, a < i → x[a]? = some c → mthsR x c = true) ∧ u = s' ∧ env 1 = .ptr bi 0 ∧ env 4 = .ptr p 0 ∧ env 38 = .lst (x.map clsC) .no ∧ env 39 = .int .i64 x.length ∧ env 40 = .int .i64 i) x.length ?_ ?_
      · exact ⟨_, Fg.refl _, 0, by omega, by omega, Lib.hid (fun a c h => absurd h (Nat.not_lt_zero _)), rfl, z_sl, z_sl, z_sl, z_sl, z_sl⟩
      rintro m env s' ⟨i, hi, hm, HI, rfl, e1, e4, e38, e39, e40⟩
      by_cases hlt : i < x.length
      · obtain ⟨c, hc⟩ := uget hlt
        have hsx := clsC_at hc
        have hcm := List.mem_of_getElem? hc
        have hml : (c.mths.map mthC).length = c.mths.length := by simp
        have hcl := HB.out.mths c hcm
        have W1 := Lib.hid (fun s h1 h2 (j : Nat) mt hj => Chead_S s p bm i j x c mt ⟨h1, h2⟩ hc hj (by omega) (fun c hc => by have := HB.out.mths c hc; omega) (by have := HB.out.pars c hcm mt (List.mem_of_getElem? hj); omega))
        have W2 := Lib.hid (fun s h1 h2 (j : Nat) mt (hj : c.mths[j]? = some mt) => Cbody_S s p bm x mt ⟨h1, h2⟩ (by omega) (fun c hc => by have := HB.out.mths c hc; omega) (startN_le HB.out) (HB.out.body c hcm mt (List.mem_of_getElem? hj)))
        obtain ⟨cn, cp, cm⟩ := c
        simp only at hml hcl
        (repeat' (first | refine Ctl ?_ | ((with_reducible refine Kof.use hK ?_); clear hK hE K E) | ((with_reducible refine Eof.use hE ?_); (try clear hK hE K E)) | ((with_reducible refine W_cond (fun h => ?_) (fun h => ?_)) <;> (try (exfalso; first | assumption | omega))) | ((first | (with_reducible first | refine G_region fun K E hK hE => ?_ | refine W_if ?_ | refine W_ifS ?_ | refine W_and ?_) | ((with_reducible refine W_fresh (fun b hb => ?_)); (repeat (obtain ⟨_, hb⟩ := hb)); (try (obtain ⟨_, _⟩ := nef hb hpf; obtain ⟨_, _⟩ := nef hb hbf; obtain ⟨_, _⟩ := nef hb hif))) | ((with_reducible refine W_gd (fun h => ?_) (fun h => ?_)) <;> (try (exfalso; first | assumption | omega)))) <;> (try simp (disch := first | assumption | omega) only [go_sem, seval, hlen, hsx, clsC, hml, *]))))
        refine G_loop (fun m2 env s' => ∃ (j : Nat), j ≤ cm.length ∧ m2 + j = cm.length ∧ Hid (∀ a mt, a < j → cm[a]? = some mt → (hdOk x ⟨cn, cp, cm⟩ a mt && bodyR x mt) = true) ∧ u = s' ∧ env 1 = .ptr bi 0 ∧ env 4 = .ptr p 0 ∧ env 8 = .int .i64 i ∧ env 38 = .lst (x.map clsC) .no ∧ env 39 = .int .i64 x.length ∧ env 40 = .int .i64 i
            ∧ env 46 = .lst (cm.map mthC) .no ∧ env 47 = .int .i64 cm.length ∧ env 48 = .int .i64 j) cm.length ?_ ?_
        · exact ⟨u, Fg.of_set _ (by assumption), 0, by omega, by omega, Lib.hid (fun a c h => absurd h (Nat.not_lt_zero _)), rfl, z_sl, z_sl, z_sl, z_sl, z_sl, z_sl, z_sl, z_sl, z_sl⟩
        rintro m2 env s' ⟨j, hj, hm2, HJ, rfl, e1, e4, e8, e38, e39, e40, e46, e47, e48⟩
        by_cases hjt : j < cm.length
        · obtain ⟨mt, hmt⟩ := uget hjt
          have hsm := mthC_at16 hmt
          have w1 := fun s h1 h2 => W1.out s h1 h2 j mt hmt
          have w2 := fun s h1 h2 => W2.out s h1 h2 j mt hmt
          cases hok : (hdOk x ⟨cn, cp, cm⟩ j mt && bodyR x mt) with
          | false =>
            have hE := HE.out
            rw [if_pos (by
              rw [List.all_eq_false]
              refine ⟨_, hcm, ?_⟩
              have : mthsR x ⟨cn, cp, cm⟩ = false := by
                unfold mthsR
                rw [List.all_eq_false]
                exact ⟨j, List.mem_range.2 hjt, by simp only [hmt]; rw [hok]; simp⟩
              rw [this]; simp)] at hE
            subst hE
            clear HI HJ hc hcm W1 W2 hmt HE HB
            cases hd : hdOk x ⟨cn, cp, cm⟩ j mt with
            | false =>
              rw [hd] at w1
              clear hd hok w2
              obtain ⟨ms, mn, mp, mb⟩ := mt
              (repeat' (first | refine Ctl ?_ | ((with_reducible refine Kof.use hK ?_); clear hK hE K E) | ((with_reducible refine Eof.use hE ?_); (try clear hK hE K E)) | ((with_reducible refine W_cond (fun h => ?_) (fun h => ?_)) <;> (try (exfalso; first | assumption | omega))) | ((first | (with_reducible first | refine G_region fun K E hK hE => ?_ | refine call_ret can23 (w1 _ z_sl z_sl) ?_ | refine W_if ?_ | refine W_ifS ?_ | refine W_and ?_) | ((with_reducible refine W_fresh (fun b hb => ?_)); (repeat (obtain ⟨_, hb⟩ := hb)); (try (obtain ⟨_, _⟩ := nef hb hpf; obtain ⟨_, _⟩ := nef hb hbf; obtain ⟨_, _⟩ := nef hb hif))) | ((with_reducible refine W_gd (fun h => ?_) (fun h => ?_)) <;> (try (exfalso; first | assumption | omega)))) <;> (try simp (disch := first | assumption | omega) only [go_sem, seval, hml, hsm, mthC, strsV, stsV, *]))))
              all_goals (first | refine W_ret res14 hQ ?_ | refine W_norm res14 hQ ?_ | refine G_pan hQ ?_)
              all_goals exact ⟨_, _, Wk.refl _, Fg.setA hFt (hFt.free hb), fun _ => ⟨rfl, rfl⟩, fun h => absurd h (by decide)⟩
            | true =>
              rw [hd, Bool.true_and] at hok
              rw [hd] at w1
              rw [hok] at w2
              clear hd hok
              obtain ⟨ms, mn, mp, mb⟩ := mt
              simp only [mthC, strsV, stsV] at w2
              (repeat' (first | refine Ctl ?_ | ((with_reducible refine Kof.use hK ?_); clear hK hE K E) | ((with_reducible refine Eof.use hE ?_); (try clear hK hE K E)) | ((with_reducible refine W_cond (fun h => ?_) (fun h => ?_)) <;> (try (exfalso; first | assumption | omega))) | ((first | (with_reducible first | refine G_region fun K E hK hE => ?_ | refine call_ret can23 (w1 _ z_sl z_sl) ?_ | refine call_ret can24 (w2 _ z_sl z_sl) ?_ | refine W_if ?_ | refine W_ifS ?_ | refine W_and ?_) | ((with_reducible refine W_fresh (fun b hb => ?_)); (repeat (obtain ⟨_, hb⟩ := hb)); (try (obtain ⟨_, _⟩ := nef hb hpf; obtain ⟨_, _⟩ := nef hb hbf; obtain ⟨_, _⟩ := nef hb hif))) | ((with_reducible refine W_gd (fun h => ?_) (fun h => ?_)) <;> (try (exfalso; first | assumption | omega)))) <;> (try simp (disch := first | assumption | omega) only [go_sem, seval, hml, hsm, mthC, strsV, stsV, *]))))
              all_goals (first | refine W_ret res14 hQ ?_ | refine W_norm res14 hQ ?_ | refine G_pan hQ ?_)
              all_goals exact ⟨_, _, Wk.refl _, Fg.setA hFt (hFt.free hb), fun _ => ⟨rfl, rfl⟩, fun h => absurd h (by decide)⟩
          | true =>
            have hok2 := hok
            rw [Bool.and_eq_true] at hok2
            rw [hok2.1] at w1
            rw [hok2.2] at w2
            have HJ2 : Hid (∀ a mt, a < j + 1 → cm[a]? = some mt → (hdOk x ⟨cn, cp, cm⟩ a mt && bodyR x mt) = true) := Lib.hid fun a mt' ha hg => by
              by_cases e : a = j
              · subst e; rw [hmt] at hg; injection hg with hg; subst hg; exact hok
              · exact HJ.out a mt' (by omega) hg
            have HC := Lib.hid hc
            have HCM := Lib.hid hcm
            clear HJ hok hok2 hmt hc hcm
            obtain ⟨ms, mn, mp, mb⟩ := mt
            simp only [mthC, strsV, stsV] at w2
            (repeat' (first | refine Ctl ?_ | ((with_reducible refine Kof.use hK ?_); clear hK hE K E) | ((with_reducible refine Eof.use hE ?_); (try clear hK hE K E)) | ((with_reducible refine W_cond (fun h => ?_) (fun h => ?_)) <;> (try (exfalso; first | assumption | omega))) | ((first | (with_reducible first | refine G_region fun K E hK hE => ?_ | refine call_ret can23 (w1 _ z_sl z_sl) ?_ | refine call_ret can24 (w2 _ z_sl z_sl) ?_ | refine W_if ?_ | refine W_ifS ?_ | refine W_and ?_) | ((with_reducible refine W_fresh (fun b hb => ?_)); (repeat (obtain ⟨_, hb⟩ := hb)); (try (obtain ⟨_, _⟩ := nef hb hpf; obtain ⟨_, _⟩ := nef hb hbf; obtain ⟨_, _⟩ := nef hb hif))) | ((with_reducible refine W_gd (fun h => ?_) (fun h => ?_)) <;> (try (exfalso; first | assumption | omega)))) <;> (try simp (disch := first | assumption | omega) only [go_sem, seval, hml, hsm, mthC, strsV, stsV, *]))))
            all_goals exact ⟨u, Fg.of_set _ hb, m2 - 1, by omega, j + 1, by omega, by omega, HJ2, rfl, z_sl, z_sl, z_sl, z_sl, z_sl, z_sl, z_sl, z_sl, z_sl⟩
        · have HI2 : Hid (∀ a c, a < i + 1 → x[a]? = some c → mthsR x c = true) := Lib.hid fun a c' ha hg => by
            by_cases e : a = i
            · subst e; rw [hc] at hg; injection hg with hg; subst hg
              unfold mthsR
              rw [List.all_eq_true]
              intro a2 ha2
              cases hg2 : cm[a2]? with
              | none => rfl
              | some mt => exact HJ.out a2 mt (by have := (List.getElem?_eq_some_iff.1 hg2).1; omega) hg2
            · exact HI.out a c' (by omega) hg
          clear HI HJ W1 W2 hc hcm
          (repeat' (first | refine Ctl ?_ | ((with_reducible refine Kof.use hK ?_); clear hK hE K E) | ((with_reducible refine Eof.use hE ?_); (try clear hK hE K E)) | ((with_reducible refine W_cond (fun h => ?_) (fun h => ?_)) <;> (try (exfalso; first | assumption | omega))) | ((first | (with_reducible first | refine G_region fun K E hK hE => ?_ | refine W_if ?_ | refine W_ifS ?_ | refine W_and ?_) | ((with_reducible refine W_fresh (fun b hb => ?_)); (repeat (obtain ⟨_, hb⟩ := hb))) | ((with_reducible refine W_gd (fun h => ?_) (fun h => ?_)) <;> (try (exfalso; first | assumption | omega)))) <;> (try simp (disch := first | assumption | omega) only [go_sem, seval, hml, *]))))
          all_goals exact ⟨u, Fg.refl _, m - 1, by omega, i + 1, by omega, by omega, HI2, rfl, z_sl, z_sl, z_sl, z_sl, z_sl⟩
      · have hE := HE.out
        have hI := HI.out
        rw [if_neg (by
          have : x.all (mthsR x) = true := List.all_eq_true.2 fun c hc => by
            obtain ⟨a, ha, hg⟩ := List.getElem_of_mem hc
            exact hI a c (by omega) (by rw [List.getElem?_eq_getElem ha, hg])
          rw [this]; simp)] at hE
        have HE := Lib.hid hE
        clear hE hI HI
        have hlk := atA16_lk (x := x) [77, 97, 105, 110]
        have hE := HE.out
        clear HE
        unfold mainR at hE
        cases hat : atC x [77, 97, 105, 110] with
        | none =>
          rw [hat] at hlk hE
          simp only [Option.map_none] at hlk
          simp only [if_true] at hE
          subst hE
          clear hat HB
          (repeat' (first | refine Ctl ?_ | ((with_reducible refine Kof.use hK ?_); clear hK hE K E) | ((with_reducible refine Eof.use hE ?_); (try clear hK hE K E)) | ((with_reducible refine W_cond (fun h => ?_) (fun h => ?_)) <;> (try (exfalso; first | assumption | omega))) | ((first | (with_reducible first | refine G_region fun K E hK hE => ?_ | refine W_if ?_ | refine W_ifS ?_ | refine W_and ?_) | ((with_reducible refine W_fresh (fun b hb => ?_)); (repeat (obtain ⟨_, hb⟩ := hb))) | ((with_reducible refine W_gd (fun h => ?_) (fun h => ?_)) <;> (try (exfalso; first | assumption | omega)))) <;> (try simp (disch := first | assumption | omega) only [go_sem, seval, hlen, hlk, Option.getD_some, Option.getD_none, Option.isSome_some, Option.isSome_none, *]))))
          all_goals (first | refine W_ret res14 hQ ?_ | refine W_norm res14 hQ ?_ | refine G_pan hQ ?_)
          all_goals exact ⟨_, _, Wk.refl _, hFt, fun _ => ⟨rfl, rfl⟩, fun h => absurd h (by decide)⟩
        | some k =>
          obtain ⟨c, hc, _⟩ := atC_get hat
          have w1 := fun s h1 h2 => Cown_S s p bm k x c [109, 97, 105, 110] ⟨h1, h2⟩ hc (by have := HB.out.mths c (List.mem_of_getElem? hc); omega)
          rw [hat] at hlk hE
          simp only [Option.map_some] at hlk
          simp only [hc] at hE
          simp only [ownV_M] at w1
          clear hat hc HB
          cases ho : ownM c [109, 97, 105, 110] with
          | none =>
            rw [ho] at w1 hE
            simp only [if_true] at w1 hE
            subst hE
            clear ho
            (repeat' (first | refine Ctl ?_ | ((with_reducible refine Kof.use hK ?_); clear hK hE K E) | ((with_reducible refine Eof.use hE ?_); (try clear hK hE K E)) | ((with_reducible refine W_cond (fun h => ?_) (fun h => ?_)) <;> (try (exfalso; first | assumption | omega))) | ((first | (with_reducible first | refine G_region fun K E hK hE => ?_ | refine call_ret can25 (w1 _ z_sl z_sl) ?_ | refine W_if ?_ | refine W_ifS ?_ | refine W_and ?_) | ((with_reducible refine W_fresh (fun b hb => ?_)); (repeat (obtain ⟨_, hb⟩ := hb))) | ((with_reducible refine W_gd (fun h => ?_) (fun h => ?_)) <;> (try (exfalso; first | assumption | omega)))) <;> (try simp (disch := first | assumption | omega) only [go_sem, seval, hlen, hlk, Option.getD_some, Option.getD_none, Option.isSome_some, Option.isSome_none, *]))))
            all_goals (first | refine W_ret res14 hQ ?_ | refine W_norm res14 hQ ?_ | refine G_pan hQ ?_)
            all_goals exact ⟨_, _, Wk.refl _, hFt, fun _ => ⟨rfl, rfl⟩, fun h => absurd h (by decide)⟩
          | some mt =>
            rw [ho] at w1 hE
            simp only at w1 hE
            clear ho
            have hpl : (mt.pars.map strC).length = mt.pars.length := by simp
            obtain ⟨ms, mn, mp, mb⟩ := mt
            simp only [mthC, strsV, stsV] at w1 hE hpl
            cases ms
            · simp only [Bool.false_and, if_true] at hE
              subst hE
              (repeat' (first | refine Ctl ?_ | ((with_reducible refine Kof.use hK ?_); clear hK hE K E) | ((with_reducible refine Eof.use hE ?_); (try clear hK hE K E)) | ((with_reducible refine W_cond (fun h => ?_) (fun h => ?_)) <;> (try (exfalso; first | assumption | omega))) | ((first | (with_reducible first | refine G_region fun K E hK hE => ?_ | refine call_ret can25 (w1 _ z_sl z_sl) ?_ | refine W_if ?_ | refine W_ifS ?_ | refine W_and ?_) | ((with_reducible refine W_fresh (fun b hb => ?_)); (repeat (obtain ⟨_, hb⟩ := hb))) | ((with_reducible refine W_gd (fun h => ?_) (fun h => ?_)) <;> (try (exfalso; first | assumption | omega)))) <;> (try simp (disch := first | assumption | omega) only [go_sem, seval, hlen, hpl, hlk, Option.getD_some, Option.getD_none, Option.isSome_some, Option.isSome_none, *]))))
              all_goals (first | refine W_ret res14 hQ ?_ | refine W_norm res14 hQ ?_ | refine G_pan hQ ?_)
              all_goals exact ⟨_, _, Wk.refl _, hFt, fun _ => ⟨rfl, rfl⟩, fun h => absurd h (by decide)⟩
            · have HE := Lib.hid hE
              clear hE
              (repeat' (first | refine Ctl ?_ | ((with_reducible refine Kof.use hK ?_); clear hK hE K E) | ((with_reducible refine Eof.use hE ?_); (try clear hK hE K E)) | ((with_reducible refine W_cond (fun h => ?_) (fun h => ?_)) <;> (try (exfalso; first | assumption | omega))) | ((first | (with_reducible first | refine G_region fun K E hK hE => ?_ | refine call_ret can25 (w1 _ z_sl z_sl) ?_ | refine W_if ?_ | refine W_ifS ?_ | refine W_and ?_) | ((with_reducible refine W_fresh (fun b hb => ?_)); (repeat (obtain ⟨_, hb⟩ := hb))) | ((with_reducible refine W_gd (fun h => ?_) (fun h => ?_)) <;> (try (exfalso; first | assumption | omega)))) <;> (try simp (disch := first | assumption | omega) only [go_sem, seval, hlen, hpl, hlk, Option.getD_some, Option.getD_none, Option.isSome_some, Option.isSome_none, *]))))
              · have hE := HE.out
                rw [if_pos (by rw [Bool.true_and, decide_eq_false_iff_not]; omega)] at hE
                subst hE
                all_goals (first | refine W_ret res14 hQ ?_ | refine W_norm res14 hQ ?_ | refine G_pan hQ ?_)
                all_goals exact ⟨_, _, Wk.refl _, hFt, fun _ => ⟨rfl, rfl⟩, fun h => absurd h (by decide)⟩
              · have hE := HE.out
                rw [if_neg (by rw [Bool.true_and, decide_eq_false_iff_not]; omega)] at hE
                subst hE
                all_goals (first | refine W_ret res14 hQ ?_ | refine W_norm res14 hQ ?_ | refine G_pan hQ ?_)
                all_goals exact ⟨_, _, Wk.refl _, Fg.refl _, fun h => absurd rfl h, fun _ => ⟨p, bm, rfl, ⟨k1, k2⟩, hFt⟩⟩
  · have w0 := Cread1_S x hx h0
    have hre := rightE_rd h0
    have hn : rightE x ≠ 0 := by rw [hre]; exact h0
    have hni : (rdE x = 0) = False := eq_false h0
    rw [hre] at hn ⊢
    generalize rdE x = e at w0 hni hn ⊢
    clear hre h0
    simp only [srcV] at w0 ⊢
    refine G_enter Try.func14 rfl Try.ntmps14 rfl fun Q hQ hQe => ?_
    (repeat' (first | refine Ctl ?_ | ((with_reducible refine Kof.use hK ?_); clear hK hE K E) | ((with_reducible refine Eof.use hE ?_); (try clear hK hE K E)) | ((with_reducible refine W_cond (fun h => ?_) (fun h => ?_)) <;> (try (exfalso; first | assumption | omega))) | ((first | (with_reducible first | refine G_region fun K E hK hE => ?_ | refine call_ret can20 (w0 _) ?_ | refine W_if ?_ | refine W_ifS ?_ | refine W_and ?_) | ((with_reducible refine W_fresh (fun b hb => ?_)); (repeat (obtain ⟨_, hb⟩ := hb))) | ((with_reducible refine W_gd (fun h => ?_) (fun h => ?_)) <;> (try (exfalso; first | assumption | omega)))) <;> (try simp (disch := first | assumption | omega) only [go_sem, seval, *]))))
    all_goals (first | refine W_ret res14 hQ ?_ | refine W_norm res14 hQ ?_ | refine G_pan hQ ?_)
    all_goals exact ⟨_, _, Wk.refl _, (z_fg : Fg _ t), fun _ => ⟨rfl, rfl⟩, fun h => absurd h hn⟩
end Go.Proofs.Ytejlknplmfmceaa
set_option maxRecDepth 100000
namespace Go.Proofs.Ytejlknplmfmceaa
open Go.RowKit

attribute [local go_sem] p_enil1 p_enil2 p_nilE one_nil
theorem Cright0_S (x : List Cls) (hx : SrcOk x) (h0 : rightE x = 0) (t : St) : SCalls Try.prog 14 [srcV x] t fun w u => ∃ a : Nat × Nat × St, w = .ret (.tup [.ptr a.1 0, .int .i64 0]) ∧ u = a.2.2 ∧ SrcAt a.2.2 a.1 a.2.1 x ∧ Fg a.2.2 t :=
  (Cright_S x hx t).mono fun w u h => by
    obtain ⟨p, bm, h1, h2, h3⟩ := h.2 h0
    exact ⟨(p, bm, u), h1, rfl, h2, h3⟩
theorem Cright1_S (x : List Cls) (hx : SrcOk x) (h0 : rightE x ≠ 0) (t : St) : SRet Try.prog 14 [srcV x] t (.tup [.raw (.pointer none), .int .i64 (rightE x)]) t :=
  (Cright_S x hx t).mono fun w u h => h.1 h0
set_option maxHeartbeats 4000000 in
theorem CCheck_S (x : List Cls) (hx : SrcOk x) (t : St) : SRet Try.prog 8 [srcV x] t (.int .i64 (rightE x)) t := by
  by_cases h0 : rightE x = 0
  · have w0 := Cright0_S x hx h0
    rw [h0]
    simp only [srcV] at w0 ⊢
    clear h0 hx
    refine G_enter Try.func8 rfl Try.ntmps8 rfl fun Q hQ hQe => ?_
    (repeat' (first | refine Ctl ?_ | ((with_reducible refine Kof.use hK ?_); clear hK hE K E) | ((with_reducible refine Eof.use hE ?_); (try clear hK hE K E)) | ((with_reducible refine W_cond (fun h => ?_) (fun h => ?_)) <;> (try (exfalso; first | assumption | omega))) | ((first | (with_reducible first | refine G_region fun K E hK hE => ?_ | refine W_if ?_ | refine W_ifS ?_ | refine W_and ?_) | ((with_reducible refine call_ex can14 (w0 _) (fun a h => ?_)); (obtain ⟨p, bm, u⟩ := a; dsimp only at h ⊢; obtain ⟨⟨k1, k2⟩, hFg⟩ := h)) | ((with_reducible refine W_fresh (fun b hb => ?_)); (repeat (obtain ⟨_, hb⟩ := hb)))) <;> (try simp (disch := first | assumption | omega) only [go_sem, seval, *]))))
    all_goals (first | refine W_ret res8 hQ ?_ | refine W_norm res8 hQ ?_ | refine G_pan hQ ?_)
    all_goals (refine ⟨_, _, Wk.of_eq ?_, ?_, rfl, rfl⟩)
    · rfl
    · exact hFg.trans (Fg.of_set _ hb)
  · have w0 := Cright1_S x hx h0
    generalize rightE x = e at w0 ⊢
    simp only [srcV] at w0 ⊢
    clear h0 hx
    refine G_enter Try.func8 rfl Try.ntmps8 rfl fun Q hQ hQe => ?_
    (repeat' (first | refine Ctl ?_ | ((with_reducible refine Kof.use hK ?_); clear hK hE K E) | ((with_reducible refine Eof.use hE ?_); (try clear hK hE K E)) | ((with_reducible refine W_cond (fun h => ?_) (fun h => ?_)) <;> (try (exfalso; first | assumption | omega))) | ((first | (with_reducible first | refine G_region fun K E hK hE => ?_ | refine call_ret can14 (w0 _) ?_ | refine W_if ?_ | refine W_ifS ?_ | refine W_and ?_) | ((with_reducible refine W_fresh (fun b hb => ?_)); (repeat (obtain ⟨_, hb⟩ := hb)))) <;> (try simp (disch := first | assumption | omega) only [go_sem, seval, *]))))
    all_goals (first | refine W_ret res8 hQ ?_ | refine W_norm res8 hQ ?_ | refine G_pan hQ ?_)
    all_goals (refine ⟨_, _, Wk.of_eq ?_, ?_, rfl, rfl⟩)
    all_goals first | rfl | (exact z_fg)
/-- What Find answers. -/
def findA (x : List Cls) (cls n : List UInt8) (st : Bool) : Int × Int := if rightE x = 0 then (match lookN x cls n st with | none => (0, 3) | some r => ((r.1 : Int), 0)) else (0, rightE x)
set_option maxHeartbeats 4000000 in
theorem CFind_S (x : List Cls) (hx : SrcOk x) (cls n : List UInt8) (st : Bool) (t : St) : SRet Try.prog 11 [srcV x, .str cls, .str n, .bool st] t (.tup [.int .i64 (findA x cls n st).1, .int .i64 (findA x cls n st).2]) t := by
  unfold findA
  by_cases h0 : rightE x = 0
  · have w0 := Cright0_S x hx h0
    rw [if_pos h0]
    have hb : Bnd x := Bnd.of (rdE_0 (by
      by_cases hr : rdE x = 0
      · exact hr
      · exact absurd ((rightE_rd hr).symm.trans h0) hr)).1
    have w1 := fun s p bm h1 h2 => Clook_S s p bm x cls n st ⟨h1, h2⟩ (by have := hb.cls; omega) (fun c hc => by have := hb.mths c hc; omega) (startN_le hb)
    simp only [srcV] at w0 ⊢
    clear h0 hx hb
    cases hL : lookN x cls n st with
    | none =>
      simp only [hL, lkN, lkP] at w1 ⊢
      clear hL
      refine G_enter Try.func11 rfl Try.ntmps11 rfl fun Q hQ hQe => ?_
      (repeat' (first | refine Ctl ?_ | ((with_reducible refine Kof.use hK ?_); clear hK hE K E) | ((with_reducible refine Eof.use hE ?_); (try clear hK hE K E)) | ((with_reducible refine W_cond (fun h => ?_) (fun h => ?_)) <;> (try (exfalso; first | assumption | omega))) | ((first | (with_reducible first | refine G_region fun K E hK hE => ?_ | refine call_ret can19 (w1 _ _ _ z_sl z_sl) ?_ | refine W_if ?_ | refine W_ifS ?_ | refine W_and ?_) | ((with_reducible refine call_ex can14 (w0 _) (fun a h => ?_)); (obtain ⟨p, bm, u⟩ := a; dsimp only at h ⊢; obtain ⟨⟨k1, k2⟩, hFg⟩ := h)) | ((with_reducible refine W_fresh (fun b hb => ?_)); (repeat (obtain ⟨_, hb⟩ := hb)))) <;> (try simp (disch := first | assumption | omega) only [go_sem, seval, *]))))
      all_goals (first | refine W_ret res11 hQ ?_ | refine W_norm res11 hQ ?_ | refine G_pan hQ ?_)
      all_goals (refine ⟨_, _, Wk.of_eq ?_, ?_, rfl, rfl⟩)
      · rfl
      · exact hFg.trans (Fg.of_set _ hb)
    | some r =>
      simp only [hL, lkN, lkP] at w1 ⊢
      clear hL
      refine G_enter Try.func11 rfl Try.ntmps11 rfl fun Q hQ hQe => ?_
      (repeat' (first | refine Ctl ?_ | ((with_reducible refine Kof.use hK ?_); clear hK hE K E) | ((with_reducible refine Eof.use hE ?_); (try clear hK hE K E)) | ((with_reducible refine W_cond (fun h => ?_) (fun h => ?_)) <;> (try (exfalso; first | assumption | omega))) | ((first | (with_reducible first | refine G_region fun K E hK hE => ?_ | refine call_ret can19 (w1 _ _ _ z_sl z_sl) ?_ | refine W_if ?_ | refine W_ifS ?_ | refine W_and ?_) | ((with_reducible refine call_ex can14 (w0 _) (fun a h => ?_)); (obtain ⟨p, bm, u⟩ := a; dsimp only at h ⊢; obtain ⟨⟨k1, k2⟩, hFg⟩ := h)) | ((with_reducible refine W_fresh (fun b hb => ?_)); (repeat (obtain ⟨_, hb⟩ := hb)))) <;> (try simp (disch := first | assumption | omega) only [go_sem, seval, *]))))
      all_goals (first | refine W_ret res11 hQ ?_ | refine W_norm res11 hQ ?_ | refine G_pan hQ ?_)
      all_goals (refine ⟨_, _, Wk.of_eq ?_, ?_, rfl, rfl⟩)
      · rfl
      · exact hFg.trans (Fg.of_set _ hb)
  · have w0 := Cright1_S x hx h0
    rw [if_neg h0]
    have hni : (rightE x = 0) = False := eq_false h0
    generalize rightE x = e at w0 hni ⊢
    simp only [srcV] at w0 ⊢
    clear h0 hx
    refine G_enter Try.func11 rfl Try.ntmps11 rfl fun Q hQ hQe => ?_
    (repeat' (first | refine Ctl ?_ | ((with_reducible refine Kof.use hK ?_); clear hK hE K E) | ((with_reducible refine Eof.use hE ?_); (try clear hK hE K E)) | ((with_reducible refine W_cond (fun h => ?_) (fun h => ?_)) <;> (try (exfalso; first | assumption | omega))) | ((first | (with_reducible first | refine G_region fun K E hK hE => ?_ | refine call_ret can14 (w0 _) ?_ | refine W_if ?_ | refine W_ifS ?_ | refine W_and ?_) | ((with_reducible refine W_fresh (fun b hb => ?_)); (repeat (obtain ⟨_, hb⟩ := hb)))) <;> (try simp (disch := first | assumption | omega) only [go_sem, seval, *]))))
    all_goals (first | refine W_ret res11 hQ ?_ | refine W_norm res11 hQ ?_ | refine G_pan hQ ?_)
    all_goals (refine ⟨_, _, Wk.of_eq ?_, ?_, rfl, rfl⟩)
    all_goals first | rfl | (exact z_fg)
end Go.Proofs.Ytejlknplmfmceaa
