/- What is proved: What package class's head hands back. Conditions: what fits a memory; What package class's head hands back. Conditions: what fits a memory; What package class's each hands back. Conditions: what fits a memory. Conditions: those that stand in the statements. -/
import Derived.Test.YtejlknplmfmceaaZChj
set_option linter.unusedSimpArgs false
set_option linter.unusedVariables false
set_option maxRecDepth 100000
namespace Go.Proofs.Ytejlknplmfmceaa
open Go.RowKit

attribute [local go_sem] p_enil1 p_enil2 p_nilE one_nil
def fitF (x : List Cls) (m : Mth) (a : Bool) (k : Nat) : Bool × Bool := (a && fitB x m k, true)
theorem upRun_fit {x : List Cls} {m : Mth} : ∀ (f : Nat) (a : Bool) (n : List UInt8), (upRun x (fitF x m) f a n).1 = (a && (chainN x f n).1.all (fitB x m))
  | 0, a, _ => by simp [upRun, chainN]
  | f + 1, a, n => by
    simp only [upRun, chainN]
    by_cases h0 : n = []
    · rw [if_pos h0, if_pos h0]; simp
    · rw [if_neg h0, if_neg h0]
      cases ha : atC x n with
      | none => simp
      | some k => simp only [fitF, if_true, List.all_cons]; rw [upRun_fit f]; simp [Bool.and_assoc]
set_option maxHeartbeats 4000000 in
theorem Chd1_S (B : St) (p bm b3 b8 b13 : Nat) (x : List Cls) (m : Mth) (hS : SrcAt B p bm x) (h3 : B b3 = .obj 47 [.ptr p 0]) (h8 : B b8 = .obj 41 (mthC m)) (h13 : B b13 = .free)
    (hx : x.length ≤ 100000) (hl : ∀ c, c ∈ x → c.mths.length ≤ 100000) (a : Bool) (k : Nat) (hk : k < x.length) :
    SRet Try.prog 30 [.int .i64 k, .ptr b3 0, .ptr b8 0, .ptr b13 0] (B.set b13 (.obj 4 [.bool a])) (.bool (fitF x m a k).2) (B.set b13 (.obj 4 [.bool (fitF x m a k).1])) := by
  obtain ⟨c, hc⟩ := uget hk
  have w1 := Cown_S (B.set b13 (.obj 4 [.bool a])) p bm k x c m.nm (hS.fg (Fg.of_set _ h13)) hc (by have := hl c (List.mem_of_getElem? hc); omega)
  have n3 : ¬ b3 = b13 := (nef h13 (by rw [h3]; simp)).1
  have n8 : ¬ b8 = b13 := (nef h13 (by rw [h8]; simp)).1
  have hml : (m.pars.map strC).length = m.pars.length := by simp
  rw [ownV_M] at w1
  unfold fitF fitB
  simp only [hc]
  clear hS hl hc
  cases ho : ownM c m.nm with
  | none =>
    rw [ho] at w1
    simp only [Bool.and_true] at w1 ⊢
    clear ho
    obtain ⟨ms, mn, mp, mb⟩ := m
    simp only [mthC, strsV, stsV] at h8 w1
    refine G_enter Try.func30 rfl Try.ntmps30 rfl fun Q hQ hQe => ?_
    (repeat' (first | refine Ctl ?_ | ((with_reducible refine Kof.use hK ?_); clear hK hE K E) | ((with_reducible refine Eof.use hE ?_); (try clear hK hE K E)) | ((with_reducible refine Kof.use hKh ?_); clear hKh Kh) | ((with_reducible refine Kof.use hKb (P_next ?_)); clear hKb Kb) | (with_reducible refine G_plan 3 [([0, 1, 2, 3, 4, 5, 6, 7, 8, 9, 10, 11, 12, 13, 14, 15, 16, 17, 18, 19, 20], 21, [[]])] [] hQe fun K E hK hE => ?_) | ((with_reducible refine W_cond (fun h => ?_) (fun h => ?_)) <;> (try (exfalso; first | assumption | omega))) | ((first | (with_reducible first | refine G_region fun K E hK hE => ?_ | refine call_ret can25 (w1) ?_ | refine W_if ?_ | refine W_ifS ?_ | refine P_heads fun Kh hKh => ?_ | refine P_fin fun Kh hKh => ?_ | refine P_each fun Kb hKb => ?_ | refine W_and ?_) | ((with_reducible refine W_gd (fun h => ?_) (fun h => ?_)) <;> (try (exfalso; first | assumption | omega)))) <;> (try simp (disch := first | assumption | omega) only [go_sem, seval, *]))))
    all_goals (first | refine W_ret res30 hQ ?_ | refine W_norm res30 hQ ?_ | refine G_pan hQ ?_)
    all_goals (refine ⟨_, _, Wk.of_eq ?_, ?_, rfl, rfl⟩)
    all_goals first | rfl | (exact z_fg) | trace_state
  | some y =>
    rw [ho] at w1
    simp only at w1 ⊢
    clear ho
    have hyl : (y.pars.map strC).length = y.pars.length := by simp
    obtain ⟨ms, mn, mp, mb⟩ := m
    obtain ⟨ys, yn, yp, yb⟩ := y
    simp only [mthC, strsV, stsV] at h8 w1 hml hyl ⊢
    cases a <;> cases ms <;> cases ys
    all_goals
      refine G_enter Try.func30 rfl Try.ntmps30 rfl fun Q hQ hQe => ?_
      (repeat' (first | refine Ctl ?_ | ((with_reducible refine Kof.use hK ?_); clear hK hE K E) | ((with_reducible refine Eof.use hE ?_); (try clear hK hE K E)) | ((with_reducible refine Kof.use hKh ?_); clear hKh Kh) | ((with_reducible refine Kof.use hKb (P_next ?_)); clear hKb Kb) | (with_reducible refine G_plan 3 [([0, 1, 2, 3, 4, 5, 6, 7, 8, 9, 10, 11, 12, 13, 14, 15, 16, 17, 18, 19, 20], 21, [[]])] [] hQe fun K E hK hE => ?_) | ((with_reducible refine W_cond (fun h => ?_) (fun h => ?_)) <;> (try (exfalso; first | assumption | omega))) | ((first | (with_reducible first | refine G_region fun K E hK hE => ?_ | refine call_ret can25 (w1) ?_ | refine W_if ?_ | refine W_ifS ?_ | refine P_heads fun Kh hKh => ?_ | refine P_fin fun Kh hKh => ?_ | refine P_each fun Kb hKb => ?_ | refine W_and ?_) | ((with_reducible refine W_gd (fun h => ?_) (fun h => ?_)) <;> (try (exfalso; first | assumption | omega)))) <;> (try simp (disch := first | assumption | omega) only [go_sem, seval, hml, hyl, beq_self_eq_true, if_true, *]))))
    all_goals (first | refine W_ret res30 hQ ?_ | refine W_norm res30 hQ ?_ | refine G_pan hQ ?_)
    all_goals (refine ⟨_, _, Wk.of_eq ?_, ?_, rfl, rfl⟩)
    all_goals first | rfl | (exact z_fg) | trace_state
end Go.Proofs.Ytejlknplmfmceaa
set_option maxRecDepth 100000
namespace Go.Proofs.Ytejlknplmfmceaa
open Go.RowKit

attribute [local go_sem] p_enil1 p_enil2 p_nilE one_nil
theorem Chdup_S (p bm : Nat) (x : List Cls) (m : Mth) (n : List UInt8) (hx : x.length ≤ 100000) (hl : ∀ c, c ∈ x → c.mths.length ≤ 100000) (B : St) (b3 b8 b13 : Nat)
    (hS1 : B p = .obj 70 [.lst (x.map clsC) .no, .mp bm, .lst (stL x x.length) .no]) (hS2 : B bm = .map (mpV encI (atA16 x))) (h3 : B b3 = .obj 47 [.ptr p 0]) (h8 : B b8 = .obj 41 (mthC m)) (h13 : B b13 = .free) :
    SRet Try.prog 21 [.ptr p 0, .str n, .fn 30 [.ptr b3 0, .ptr b8 0, .ptr b13 0]] (B.set b13 (.obj 4 [.bool true]))
      (.bool (upRun x (fitF x m) (x.length + 1) true n).2) (B.set b13 (.obj 4 [.bool ((upN x n).1.all (fitB x m))])) := by
  have hS : SrcAt B p bm x := ⟨hS1, hS2⟩
  have h := Cup_S x p bm 30 [.ptr b3 0, .ptr b8 0, .ptr b13 0] (fun a => B.set b13 (.obj 4 [.bool a])) (fitF x m) can30 (fun a => hS.fg (Fg.of_set _ h13))
    (fun a i hi => Chd1_S B p bm b3 b8 b13 x m hS h3 h8 h13 hx hl a i hi) hx true n
  simp only [upRun_fit, Bool.true_and] at h
  exact h
theorem parsB_no {ps : List (List UInt8)} {i : Nat} {q : List UInt8} (h : ps[i]? = some q) (hb : q = selfT ∨ ¬ ixT q ps = some i) : parsB ps = false := by
  unfold parsB
  rw [List.all_eq_false]
  refine ⟨i, List.mem_range.2 (List.getElem?_eq_some_iff.1 h).1, ?_⟩
  rw [h]
  rcases hb with hb | hb <;> simp [hb]
theorem parsB_yes {ps : List (List UInt8)} (h : ∀ i q, ps[i]? = some q → ¬ q = selfT ∧ ixT q ps = some i) : parsB ps = true := by
  unfold parsB
  rw [List.all_eq_true]
  intro i _
  cases hp : ps[i]? with
  | none => rfl
  | some q => have := h i q hp; simp [this.1, this.2]
set_option maxHeartbeats 8000000 in
theorem Chead_S (t : St) (p bm k j : Nat) (x : List Cls) (c : Cls) (m : Mth) (hS : SrcAt t p bm x) (hk : x[k]? = some c) (hj : c.mths[j]? = some m) (hx : x.length ≤ 100000) (hl : ∀ c, c ∈ x → c.mths.length ≤ 100000) (hmp : m.pars.length ≤ 100000) :
    SRet Try.prog 23 [.ptr p 0, .int .i64 k, .int .i64 j] t (.bool (hdOk x c j m)) t := by
  have w0 := fun s h1 h2 => Cown_S s p bm k x c m.nm ⟨h1, h2⟩ hk (by have := hl c (List.mem_of_getElem? hk); omega)
  have w2 := Chdup_S p bm x m c.par hx hl
  obtain ⟨j1, hj1⟩ : ∃ j1, ownI c m.nm = some j1 := by
    cases hh : ownI c m.nm with
    | some a => exact ⟨a, rfl⟩
    | none => exact absurd (List.mem_map.2 ⟨m, List.mem_of_getElem? hj, rfl⟩) (ixT_none.1 hh)
  obtain ⟨m1, hm1, _⟩ := ownI_get hj1
  obtain ⟨h1, h2⟩ := hS
  have hpf : t p ≠ .free := by rw [h1]; simp
  have hbf : t bm ≠ .free := by rw [h2]; simp
  have hlen : (x.map clsC).length = x.length := by simp
  have hsx := clsC_at hk
  have hmm := mthC_at16 hj
  have hm4 : (mthC m).length = 4 := rfl
  have hml : (c.mths.map mthC).length = c.mths.length := by simp
  have hpl : (m.pars.map strC).length = m.pars.length := by simp
  have hjl := (List.getElem?_eq_some_iff.1 hj).1
  have hkl := (List.getElem?_eq_some_iff.1 hk).1
  have hcl := hl c (List.mem_of_getElem? hk)
  unfold ownV at w0
  simp only [hj1, hm1] at w0
  generalize (upRun x (fitF x m) (x.length + 1) true c.par).2 = ub at w2
  have hF1 : ¬ j1 = j → hdOk x c j m = false := fun h => by unfold hdOk; rw [hj1]; simp [h]
  have hF2 : j1 = j → hdOk x c j m = (parsB m.pars && (upN x c.par).1.all (fitB x m)) := fun h => by unfold hdOk; rw [hj1]; simp [h]
  generalize (upN x c.par).1.all (fitB x m) = fa at w2 hF2
  generalize hdOk x c j m = R at hF1 hF2 ⊢
  have HF1 := Lib.hid hF1
  have HF2 := Lib.hid hF2
  generalize mthC m1 = mc1 at w0
  clear hF1 hF2 hj1 hm1 hk hj hl
  obtain ⟨cn, cp, cm⟩ := c
  obtain ⟨ms, mn, mp, mb⟩ := m
  simp only [mthC, strsV, stsV] at w0 w2 hmm hm4 hml hpl hjl hmp HF2 hcl
  refine G_enter Try.func23 rfl Try.ntmps23 rfl fun Q hQ hQe => ?_
  (repeat' (first | refine Ctl ?_ | ((with_reducible refine Kof.use hK ?_); clear hK hE K E) | ((with_reducible refine Eof.use hE ?_); (try clear hK hE K E)) | ((with_reducible refine W_cond (fun h => ?_) (fun h => ?_)) <;> (try (exfalso; first | assumption | omega))) | ((first | (with_reducible first | refine G_region fun K E hK hE => ?_ | refine call_ret can25 (w0 _ z_sl z_sl) ?_ | refine W_if ?_ | refine W_ifS ?_ | refine W_and ?_) | ((with_reducible refine W_fresh (fun b hb => ?_)); (repeat (obtain ⟨_, hb⟩ := hb)); (try (obtain ⟨_, _⟩ := nef hb hpf; obtain ⟨_, _⟩ := nef hb hbf))) | ((with_reducible refine W_gd (fun h => ?_) (fun h => ?_)) <;> (try (exfalso; first | assumption | omega)))) <;> (try simp (disch := first | assumption | omega) only [go_sem, seval, hlen, hsx, clsC, hmm, hml, hm4, hpl, *]))))
  · obtain rfl := HF1.out h
    all_goals (first | refine W_ret res23 hQ ?_ | refine W_norm res23 hQ ?_ | refine G_pan hQ ?_)
    all_goals (refine ⟨_, _, Wk.of_eq ?_, ?_, rfl, rfl⟩)
    all_goals first | rfl | (exact z_fg)
  have hR0 := HF2.out (of_eq_true h)
  clear HF1 HF2 w0 hmm hm4 hml hsx hlen h
  refine L_loop (fun m env s' => ∃ (i b3 b7 b8 : Nat), env 3 = .ptr b3 0 ∧ env 7 = .ptr b7 0 ∧ env 8 = .ptr b8 0 ∧ i ≤ mp.length ∧ m + i = mp.length ∧ (∀ a q, a < i → mp[a]? = some q → ¬ q = selfT ∧ ixT q mp = some a)
      ∧ s' p = .obj 70 [.lst (x.map clsC) .no, .mp bm, .lst (stL x x.length) .no] ∧ s' bm = .map (mpV encI (atA16 x)) ∧ s' b3 = .obj 47 [.ptr p 0]
      ∧ s' b7 = .obj 38 [.str cn, .str cp, .lst (cm.map mthC) .no] ∧ s' b8 = .obj 41 [.bool ms, .str mn, .lst (mp.map strC) .no, .lst (stsC mb) .no] ∧ Fg s' t
      ∧ env 39 = .lst (mp.map strC) .no ∧ env 40 = .int .i64 mp.length ∧ env 41 = .int .i64 i) mp.length
    ⟨0, _, _, _, rfl, rfl, rfl, by omega, by omega, fun a q h => absurd h (Nat.not_lt_zero _), z_sl, z_sl, z_sl, z_sl, z_sl, z_fg, z_sl, z_sl, z_sl⟩ ?_
  rintro m env s' ⟨i, b3, b7, b8, e3, e7, e8, hi, hm, hall, k1, k2, k3, k7, k8, hFg, e39, e40, e41⟩
  have hpf : s' p ≠ .free := by rw [k1]; simp
  have hbf : s' bm ≠ .free := by rw [k2]; simp
  have h3f : s' b3 ≠ .free := by rw [k3]; simp
  have h7f : s' b7 ≠ .free := by rw [k7]; simp
  have h8f : s' b8 ≠ .free := by rw [k8]; simp
  clear h1 h2
  by_cases hlt : i < mp.length
  · obtain ⟨q, hq⟩ := uget hlt
    have hqx : (mp.map strC)[i]? = some [.str q] := by simp [strC, hq]
    obtain ⟨r, hr⟩ : ∃ r, ixT q mp = some r := by
      cases hh : ixT q mp with
      | some a => exact ⟨a, rfl⟩
      | none => exact absurd (List.mem_of_getElem? hq) (ixT_none.1 hh)
    have w3 := ixS_S mp .no q (by omega) s'
    have hz : ixZ q mp = r := by unfold ixZ; rw [hr]
    rw [hz] at w3
    clear w2 hz
    by_cases hqs : q = selfT
    · have hR := parsB_no hq (.inl hqs)
      rw [hR, Bool.false_and] at hR0
      subst hR0
      clear hall hR hq hr
      subst hqs
      unfold selfT at *
      (repeat' (first | refine Ctl ?_ | ((with_reducible refine Kof.use hK ?_); clear hK hE K E) | ((with_reducible refine Eof.use hE ?_); (try clear hK hE K E)) | ((with_reducible refine W_cond (fun h => ?_) (fun h => ?_)) <;> (try (exfalso; first | assumption | omega))) | ((first | (with_reducible first | refine G_region fun K E hK hE => ?_ | refine call_ret can29 (w3) ?_ | refine W_if ?_ | refine W_ifS ?_ | refine W_and ?_) | ((with_reducible refine W_fresh (fun b hb => ?_)); (repeat (obtain ⟨_, hb⟩ := hb))) | ((with_reducible refine W_gd (fun h => ?_) (fun h => ?_)) <;> (try (exfalso; first | assumption | omega)))) <;> (try simp (disch := first | assumption | omega) only [go_sem, seval, hqx, hpl, *]))))
      all_goals (first | refine W_ret res23 hQ ?_ | refine W_norm res23 hQ ?_ | refine G_pan hQ ?_)
      all_goals exact ⟨_, _, Wk.refl _, hFg, rfl, rfl⟩
    · have hqf : (q = selfT) = False := eq_false hqs
      by_cases hri : r = i
      · subst hri
        have hall2 : ∀ a q, a < r + 1 → mp[a]? = some q → ¬ q = selfT ∧ ixT q mp = some a := fun a q' ha hg => by
          by_cases e : a = r
          · subst e; rw [hq] at hg; injection hg with hg; subst hg; exact ⟨hqs, hr⟩
          · exact hall a q' (by omega) hg
        have HR0 := Lib.hid hR0
        clear hall hq hr hqs hR0
        unfold selfT at hqf
        (repeat' (first | refine Ctl ?_ | ((with_reducible refine Kof.use hK ?_); clear hK hE K E) | ((with_reducible refine Eof.use hE ?_); (try clear hK hE K E)) | ((with_reducible refine W_cond (fun h => ?_) (fun h => ?_)) <;> (try (exfalso; first | assumption | omega))) | ((first | (with_reducible first | refine G_region fun K E hK hE => ?_ | refine call_ret can29 (w3) ?_ | refine W_if ?_ | refine W_ifS ?_ | refine W_and ?_) | ((with_reducible refine W_fresh (fun b hb => ?_)); (repeat (obtain ⟨_, hb⟩ := hb))) | ((with_reducible refine W_gd (fun h => ?_) (fun h => ?_)) <;> (try (exfalso; first | assumption | omega)))) <;> (try simp (disch := first | assumption | omega) only [go_sem, seval, hqx, hpl, *]))))
        all_goals exact ⟨m - 1, by omega, r + 1, b3, b7, b8, z_sl, z_sl, z_sl, by omega, by omega, hall2, k1, k2, k3, k7, k8, hFg, z_sl, z_sl, z_sl⟩
      · have hR := parsB_no hq (.inr (by rw [hr]; simp; exact hri))
        have hrif : ((r : Int) = (i : Int)) = False := eq_false (by omega)
        rw [hR, Bool.false_and] at hR0
        subst hR0
        clear hall hR hq hr hqs
        unfold selfT at hqf
        (repeat' (first | refine Ctl ?_ | ((with_reducible refine Kof.use hK ?_); clear hK hE K E) | ((with_reducible refine Eof.use hE ?_); (try clear hK hE K E)) | ((with_reducible refine W_cond (fun h => ?_) (fun h => ?_)) <;> (try (exfalso; first | assumption | omega))) | ((first | (with_reducible first | refine G_region fun K E hK hE => ?_ | refine call_ret can29 (w3) ?_ | refine W_if ?_ | refine W_ifS ?_ | refine W_and ?_) | ((with_reducible refine W_fresh (fun b hb => ?_)); (repeat (obtain ⟨_, hb⟩ := hb))) | ((with_reducible refine W_gd (fun h => ?_) (fun h => ?_)) <;> (try (exfalso; first | assumption | omega)))) <;> (try simp (disch := first | assumption | omega) only [go_sem, seval, hqx, hpl, *]))))
        all_goals (first | refine W_ret res23 hQ ?_ | refine W_norm res23 hQ ?_ | refine G_pan hQ ?_)
        all_goals exact ⟨_, _, Wk.refl _, hFg, rfl, rfl⟩
  · have hR : parsB mp = true := parsB_yes fun a q hg => hall a q (by have := (List.getElem?_eq_some_iff.1 hg).1; omega) hg
    rw [hR, Bool.true_and] at hR0
    subst hR0
    clear hall hR
    (repeat' (first | refine Ctl ?_ | ((with_reducible refine Kof.use hK ?_); clear hK hE K E) | ((with_reducible refine Eof.use hE ?_); (try clear hK hE K E)) | ((with_reducible refine W_cond (fun h => ?_) (fun h => ?_)) <;> (try (exfalso; first | assumption | omega))) | ((first | (with_reducible first | refine G_region fun K E hK hE => ?_ | refine call_ret can21 (w2 _ _ _ _ z_sl z_sl z_sl z_sl z_sl) ?_ | refine W_if ?_ | refine W_ifS ?_ | refine W_and ?_) | ((with_reducible refine W_fresh (fun b hb => ?_)); (repeat (obtain ⟨_, hb⟩ := hb)); (try (obtain ⟨_, _⟩ := nef hb hpf; obtain ⟨_, _⟩ := nef hb hbf; obtain ⟨_, _⟩ := nef hb h3f; obtain ⟨_, _⟩ := nef hb h7f; obtain ⟨_, _⟩ := nef hb h8f))) | ((with_reducible refine W_gd (fun h => ?_) (fun h => ?_)) <;> (try (exfalso; first | assumption | omega)))) <;> (try simp (disch := first | assumption | omega) only [go_sem, seval, hpl, *]))))
    all_goals (first | refine W_ret res23 hQ ?_ | refine W_norm res23 hQ ?_ | refine G_pan hQ ?_)
    all_goals exact ⟨_, _, Wk.refl _, Fg.setA hFg (hFg.free hb), rfl, rfl⟩
end Go.Proofs.Ytejlknplmfmceaa
set_option maxRecDepth 100000
namespace Go.Proofs.Ytejlknplmfmceaa
open Go.RowKit

/-- What a function that is told of statements does to a memory. -/
structure EachOk {A : Type} (g : FuncId) (caps : List VV) (Base : St → Prop) (S : A → St → St) (f : A → Stm → A) (good : Stm → Prop) (I : Nat → A → Prop) : Prop where
  ext : ∀ t a b c, Base t → S a t b = .free → Base (t.set b c)
  com : ∀ t a b c, Base t → S a t b = .free → S a (t.set b c) = (S a t).set b c
  fr : ∀ t a a' b, Base t → S a t b = .free → S a' t b = .free
  dec : ∀ a x k, good x → I (k + 1) a → I k (f a x)
  low : ∀ a k, I (k + 1) a → I k a
  run : ∀ t a x k, Base t → good x → I (k + 1) a → SRet Try.prog g (.agg (stC x) :: caps) (S a t) (.tup []) (S (f a x) t)
mutual
def szS : Stm → Nat
  | .mk _ _ _ _ _ _ o t => 1 + szL o + szL t
def szL : List Stm → Nat
  | [] => 0
  | x :: l => szS x + szL l
end
def subs : Stm → List Stm × List Stm
  | .mk _ _ _ _ _ _ o t => (o, t)
theorem szL_at {x : Stm} : ∀ {l : List Stm}, x ∈ l → szS x ≤ szL l
  | [], h => by cases h
  | y :: l, h => by
    simp only [szL]
    rcases List.mem_cons.1 h with e | e
    · subst e; omega
    · have := szL_at e; omega
/-- All that is told is good and fits. -/
structure LOk (good : Stm → Prop) (l : List Stm) : Prop where
  len : l.length ≤ 100000
  all : ∀ x, x ∈ preL l → good x ∧ (subs x).1.length ≤ 100000 ∧ (subs x).2.length ≤ 100000
theorem preL_drop {l : List Stm} {i : Nat} {x : Stm} (h : l[i]? = some x) : preL (l.drop i) = preS x ++ preL (l.drop (i + 1)) := by
  have hlt := (List.getElem?_eq_some_iff.1 h).1
  have hx : l[i] = x := by rw [List.getElem?_eq_getElem hlt] at h; injection h
  rw [List.drop_eq_getElem_cons hlt, hx]
  rfl
theorem preS_mem {x : Stm} : ∀ {l : List Stm}, x ∈ l → ∀ y, y ∈ preS x → y ∈ preL l
  | [], h, _, _ => by cases h
  | z :: l, h, y, hy => by
    simp only [preL, List.mem_append]
    rcases List.mem_cons.1 h with e | e
    · subst e; exact .inl hy
    · exact .inr (preS_mem e y hy)
section
variable {A : Type} {g : FuncId} {caps : List VV} {Base : St → Prop} {S : A → St → St} {f : A → Stm → A} {good : Stm → Prop} {I : Nat → A → Prop}
theorem EachOk.lows (h : EachOk g caps Base S f good I) {a : A} {k : Nat} : ∀ (j : Nat), I (k + j) a → I k a
  | 0, hi => hi
  | j + 1, hi => h.lows j (h.low a (k + j) hi)
theorem EachOk.decs (h : EachOk g caps Base S f good I) {k : Nat} : ∀ (l : List Stm) (a : A), (∀ x, x ∈ l → good x) → I (k + l.length) a → I k (l.foldl f a)
  | [], a, _, hi => hi
  | x :: l, a, hg, hi => h.decs l (f a x) (fun y hy => hg y (by simp [hy])) (h.dec a x (k + l.length) (hg x (by simp)) hi)
end
set_option maxHeartbeats 4000000 in
theorem Ceach_S {A : Type} (g : FuncId) (caps : List VV) (Base : St → Prop) (S : A → St → St) (f : A → Stm → A) (good : Stm → Prop) (I : Nat → A → Prop) (canG : Callable Try.prog g) (hE : EachOk g caps Base S f good I) :
    ∀ (n : Nat) (l : List Stm), szL l < n → LOk good l → ∀ (t : St) (a : A), Base t → I (preL l).length a → SRet Try.prog 17 [.lst (stsC l) .no, .fn g caps] (S a t) (.tup []) (S ((preL l).foldl f a) t) := by
  intro n
  induction n with
  | zero => intro l hl; omega
  | succ n ih =>
    intro l hl hok t a hB hI
    have hlen : (stsC l).length = l.length := stsC_len l
    have hll := hok.len
    generalize hR : S ((preL l).foldl f a) t = R
    have HR := Lib.hid hR
    clear hR
    generalize hs0 : S a t = s0
    have HS0 := Lib.hid hs0
    clear hs0
    refine G_enter Try.func17 rfl Try.ntmps17 rfl fun Q hQ hQe => ?_
    (repeat' (first | refine Ctl ?_ | ((with_reducible refine Kof.use hK ?_); clear hK hE K E) | ((with_reducible refine Eof.use hE ?_); (try clear hK hE K E)) | ((with_reducible refine W_cond (fun h => ?_) (fun h => ?_)) <;> (try (exfalso; first | assumption | omega))) | ((first | (with_reducible first | refine G_region fun K E hK hE => ?_ | refine W_if ?_ | refine W_ifS ?_ | refine W_and ?_) | ((with_reducible refine W_fresh (fun b hb => ?_)); (repeat (obtain ⟨_, hb⟩ := hb)))) <;> (try simp (disch := first | assumption | omega) only [go_sem, seval, hlen, *]))))
    refine G_loop (fun m env s' => ∃ (i : Nat) (a : A), i ≤ l.length ∧ m + i = l.length ∧ I (preL (l.drop i)).length a ∧ Hid (S a t = s') ∧ Hid (S ((preL (l.drop i)).foldl f a) t = R) ∧ env 1 = .fn g caps ∧ env 6 = .lst (stsC l) .no ∧ env 7 = .int .i64 l.length ∧ env 8 = .int .i64 i) l.length ?_ ?_
    · exact ⟨_, Fg.refl _, 0, a, by omega, by omega, hI, HS0, HR, z_sl, z_sl, z_sl, z_sl⟩
    clear HR HS0
    clear hI
    rintro m env s' ⟨i, a, hi, hm, hI, HS, HR, e1, e6, e7, e8⟩
    by_cases hlt : i < l.length
    · obtain ⟨x, hx⟩ := uget hlt
      have hsx := stsC_at hx
      have hxm := List.mem_of_getElem? hx
      have hsz := szL_at hxm
      have hr := HR.out
      rw [preL_drop hx, List.foldl_append] at hr
      rw [preL_drop hx, List.length_append] at hI
      have hok2 := fun y hy => hok.all y (preS_mem hxm y hy)
      have hs := HS.out
      obtain ⟨k, d, sr, cn, nm, ar, o, t2⟩ := x
      simp only [preS, List.foldl_cons, List.foldl_append] at hr
      simp only [szS] at hsz
      simp only [preS, List.length_cons, List.length_append] at hI
      have hx0 := hok2 _ (by simp only [preS]; exact List.mem_cons_self)
      have hlo : LOk good o := ⟨hx0.2.1, fun y hy => hok2 y (by simp only [preS, List.mem_cons, List.mem_append]; exact .inr (.inl hy))⟩
      have hlt2 : LOk good t2 := ⟨hx0.2.2, fun y hy => hok2 y (by simp only [preS, List.mem_cons, List.mem_append]; exact .inr (.inr hy))⟩
      have w1 : ∀ b, s' b = .free → SRet Try.prog g (.agg (stC (.mk k d sr cn nm ar o t2)) :: caps) (s'.set b (.obj 58 (stC (.mk k d sr cn nm ar o t2)))) (.tup []) ((S (f a (.mk k d sr cn nm ar o t2)) t).set b (.obj 58 (stC (.mk k d sr cn nm ar o t2)))) := fun b hb => by
        rw [← hs] at hb ⊢
        rw [← hE.com t _ b _ hB hb, ← hE.com t (f a _) b _ hB (hE.fr t _ _ b hB hb)]
        exact hE.run _ a _ _ (hE.ext t a b _ hB hb) hx0.1 (show I ((preL o).length + (preL t2).length + (preL (l.drop (i + 1))).length + 1) a by rw [show (preL o).length + (preL t2).length + (preL (l.drop (i + 1))).length + 1 = (preL o).length + (preL t2).length + 1 + (preL (l.drop (i + 1))).length by omega]; exact hI)
      have hI1 : I ((preL o).length + (preL t2).length + (preL (l.drop (i + 1))).length) (f a (.mk k d sr cn nm ar o t2)) := hE.dec a _ _ hx0.1 (by rw [show (preL o).length + (preL t2).length + (preL (l.drop (i + 1))).length + 1 = (preL o).length + (preL t2).length + 1 + (preL (l.drop (i + 1))).length by omega]; exact hI)
      generalize hA1 : f a (.mk k d sr cn nm ar o t2) = a1 at w1 hr hI1
      have wn : ∀ (q : List Stm) (c : A), szL q < n → LOk good q → I (preL q).length c → ∀ b z, s' b = .free → SRet Try.prog 17 [.lst (stsC q) .no, .fn g caps] ((S c t).set b z) (.tup []) ((S ((preL q).foldl f c) t).set b z) := fun q c hq hqo hqi b z hb => by
        rw [← hs] at hb
        rw [← hE.com t _ b _ hB (hE.fr t _ _ b hB hb), ← hE.com t _ b _ hB (hE.fr t _ _ b hB hb)]
        exact ih q hq hqo _ _ (hE.ext t a b _ hB hb) hqi
      have w2 := wn o a1 (by omega) hlo (hE.lows ((preL t2).length + (preL (l.drop (i + 1))).length) (by rw [← Nat.add_assoc]; exact hI1))
      have hI2 : I ((preL t2).length + (preL (l.drop (i + 1))).length) ((preL o).foldl f a1) := hE.decs (preL o) a1 (fun y hy => (hlo.all y hy).1) (by rw [show (preL t2).length + (preL (l.drop (i + 1))).length + (preL o).length = (preL o).length + (preL t2).length + (preL (l.drop (i + 1))).length by omega]; exact hI1)
      generalize hA2 : (preL o).foldl f a1 = a2 at w2 hr hI2
      have w3 := wn t2 a2 (by omega) hlt2 (hE.lows (preL (l.drop (i + 1))).length hI2)
      have hI3 : I (preL (l.drop (i + 1))).length ((preL t2).foldl f a2) := hE.decs (preL t2) a2 (fun y hy => (hlt2.all y hy).1) (by rw [Nat.add_comm]; exact hI2)
      generalize hA3 : (preL t2).foldl f a2 = a3 at w3 hr hI3
      have f3 : ∀ b, s' b = .free → S a3 t b = .free := fun b hb => by rw [← hs] at hb; exact hE.fr t _ _ b hB hb
      generalize hS1 : S a1 t = s1 at w1 w2
      generalize hS2 : S a2 t = s2 at w2 w3
      generalize hS3 : S a3 t = s3 at w3 f3
      have HS3 := Lib.hid hS3
      have HR3 := Lib.hid hr
      simp only [stC, strsV] at w1 hsx
      clear hI hI1 hI2 HR HS hok hok2 hr hs hx0 hlo hlt2 wn hA1 hA2 hA3 hS1 hS2 hS3 hx hxm hsz
      (repeat' (first | refine Ctl ?_ | ((with_reducible refine Kof.use hK ?_); clear hK hE K E) | ((with_reducible refine Eof.use hE ?_); (try clear hK hE K E)) | ((with_reducible refine W_cond (fun h => ?_) (fun h => ?_)) <;> (try (exfalso; first | assumption | omega))) | ((first | (with_reducible first | refine G_region fun K E hK hE => ?_ | refine call_ret canG (w1 _ (by assumption)) ?_ | refine call_ret can17 (w2 _ _ (by assumption)) ?_ | refine call_ret can17 (w3 _ _ (by assumption)) ?_ | refine W_if ?_ | refine W_ifS ?_ | refine W_and ?_) | ((with_reducible refine W_fresh (fun b hb => ?_)); (repeat (obtain ⟨_, hb⟩ := hb)))) <;> (try simp (disch := first | assumption | omega) only [go_sem, seval, hlen, hsx, *]))))
      exact ⟨s3, Fg.of_set _ (f3 _ hb), m - 1, by omega, i + 1, a3, by omega, by omega, hI3, HS3, HR3, z_sl, z_sl, z_sl, z_sl⟩
    · have hr := HR.out
      rw [List.drop_of_length_le (by omega)] at hr
      obtain rfl : s' = R := HS.out.symm.trans hr
      clear hr HR HS
      (repeat' (first | refine Ctl ?_ | ((with_reducible refine Kof.use hK ?_); clear hK hE K E) | ((with_reducible refine Eof.use hE ?_); (try clear hK hE K E)) | ((with_reducible refine W_cond (fun h => ?_) (fun h => ?_)) <;> (try (exfalso; first | assumption | omega))) | ((first | (with_reducible first | refine G_region fun K E hK hE => ?_ | refine W_if ?_ | refine W_ifS ?_ | refine W_and ?_) | ((with_reducible refine W_fresh (fun b hb => ?_)); (repeat (obtain ⟨_, hb⟩ := hb)))) <;> (try simp (disch := first | assumption | omega) only [go_sem, seval, hlen, *]))))
      all_goals (first | refine W_ret res17 hQ ?_ | refine W_norm res17 hQ ?_ | refine G_pan hQ ?_)
      all_goals (refine ⟨_, _, Wk.of_eq ?_, ?_, rfl, rfl⟩)
      all_goals first | rfl | (exact z_fg)
end Go.Proofs.Ytejlknplmfmceaa
